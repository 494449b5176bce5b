/-
  Texts of the claims on chapter 2: Ye10. No condition: lemmas and contracts.
-/
import Derived.Test.YtlmhkeoblgodiaaYe2
import Derived.Test.YtlmhkeoblgodiaaYe9
import Derived.Test.YtlmhkeoblgodiaaYe1
set_option linter.all false
section
/-
  Chapter 2: systems whose links are turned round: plain.
-/
namespace Go.Proofs.Ytlmhkeoblgodiaa
open Go Go.Sy Go.Chn
set_option linter.unusedVariables false
set_option linter.unusedSimpArgs false
def tn (l : Lk) : Lk := (l.2.1, l.1, l.2.2)
theorem tn_tn (l : Lk) : tn (tn l) = l := rfl
theorem sum_rev : ∀ (ls : List Lk), sumL (ls.map tn).reverse = sumL ls
  | [] => rfl
  | l :: ls => by
    rw [List.map_cons, List.reverse_cons, sumL_append, sum_rev ls]
    simp only [sumL]
    show sumL ls + (l.2.2 + 0) = l.2.2 + sumL ls
    omega
theorem ch_rev : ∀ {ls : List Lk} {u v : Int}, Ch u ls v → Ch v (ls.map tn).reverse u
  | [], u, v, h => h.symm
  | l :: ls, u, v, h => by
    rw [List.map_cons, List.reverse_cons]
    have := ch_rev h.2
    exact this.append ⟨rfl, h.1⟩
theorem sub_rev {ls U : List Lk} (h : Sub ls U) : Sub (ls.map tn).reverse (U.map tn) := fun x hx => by
  rw [List.mem_reverse] at hx
  obtain ⟨l, hl, rfl⟩ := List.mem_map.1 hx
  exact List.mem_map_of_mem (h l hl)
theorem map_tn (U : List Lk) : (U.map tn).map tn = U := by
  rw [List.map_map]
  have : (tn ∘ tn) = id := funext fun l => tn_tn l
  rw [this, List.map_id]
theorem noneg_rev {U : List Lk} (h : NoNeg U) : NoNeg (U.map tn) := fun u ls h1 h2 => by
  have h3 := sub_rev h2
  rw [map_tn] at h3
  have := h u _ (ch_rev h1) h3
  rwa [sum_rev] at this
theorem isD_rev {U : List Lk} {u v d : Int} (h : IsD U u v d) : IsD (U.map tn) v u d := by
  refine ⟨fun hf => ?_, fun ls h1 h2 => ?_, fun ls h1 h2 => ?_, h.fr⟩
  · obtain ⟨c, c1, c2, c3⟩ := h.is hf
    exact ⟨_, ch_rev c1, sub_rev c2, by rw [sum_rev]; exact c3⟩
  · have h3 := sub_rev h2
    rw [map_tn] at h3
    have := h.le _ (ch_rev h1) h3
    rwa [sum_rev] at this
  · have h3 := sub_rev h2
    rw [map_tn] at h3
    exact h.no _ (ch_rev h1) h3
section
variable {N : Int} {L : List Lk}
theorem rev_con (ha : AskL N.toNat L) (hb : AskL N.toNat (L.map tn)) : conB N (L.map tn) = conB N L := by
  have h1 : NoNeg L ↔ NoNeg (L.map tn) := ⟨noneg_rev, fun h => by have := noneg_rev h; rwa [map_tn] at this⟩
  have := (con_iff ha).trans (h1.trans (con_iff hb).symm)
  cases hx : conB N L <;> cases hy : conB N (L.map tn) <;> simp_all
theorem rev_d (ha : AskL N.toNat L) (hb : AskL N.toNat (L.map tn)) (hn : NoNeg L) {a b : Int} (h1 : inN N.toNat a) (h2 : inN N.toNat b) : dB N (L.map tn) b a = dB N L a b :=
  (bd_isD hb (noneg_rev hn) h2 h1).1.uniq (isD_rev (bd_isD ha hn h1 h2).1)
end
end Go.Proofs.Ytlmhkeoblgodiaa
end

section
/-
  Chapter 2: the length of the first closed chain below 0, of the same links in another order, and of links turned round.
-/
namespace Go.Proofs.Ytlmhkeoblgodiaa
open Go Go.Sy Go.Chn
set_option linter.unusedVariables false
set_option linter.unusedSimpArgs false
section
variable {N : Int} {L M : List Lk}
theorem cls_min (ha : AskL N.toNat L) (hf : conB N L = false) : (∀ ls u, Ch u ls u → Sub ls L → sumL ls < 0 → (clF N.toNat L).length ≤ ls.length) ∧ ∃ ls u, Ch u ls u ∧ Sub ls L ∧ sumL ls < 0 ∧ ls.length = (clF N.toNat L).length := by
  have hn : ¬ NoNeg L := fun h => by rw [(con_iff ha).2 h] at hf; cases hf
  obtain ⟨k, l, h1, h2⟩ := clash_some ha.ok hn
  obtain ⟨J, j1, j2, j3, j4, j5⟩ := h2.chain ha.ok
  have e : clF N.toNat L = J := by unfold clF; rw [h1]; exact j1.symm
  rw [e]
  exact ⟨fun ls u k1 k2 k3 => by rw [j2]; exact h2.least ha.ok k1 k2 k3, atL L J, l.1, j4, atL_sub j3, j5, by simp [atL]⟩
theorem cls_same (ha : AskL N.toNat L) (hb : AskL N.toNat M) (h : ∀ x, x ∈ L ↔ x ∈ M) (hf : conB N L = false) : (clF N.toNat L).length = (clF N.toNat M).length := by
  have hg : conB N M = false := by rw [← same_con ha hb h]; exact hf
  obtain ⟨a1, ls, u, a2, a3, a4, a5⟩ := cls_min ha hf
  obtain ⟨b1, rs, v, b2, b3, b4, b5⟩ := cls_min hb hg
  have := b1 ls u a2 (fun x hx => (h x).1 (a3 x hx)) a4
  have := a1 rs v b2 (fun x hx => (h x).2 (b3 x hx)) b4
  omega
theorem cls_rev (ha : AskL N.toNat L) (hb : AskL N.toNat (L.map tn)) (hf : conB N L = false) : (clF N.toNat L).length = (clF N.toNat (L.map tn)).length := by
  have hg : conB N (L.map tn) = false := by rw [rev_con ha hb]; exact hf
  obtain ⟨a1, ls, u, a2, a3, a4, a5⟩ := cls_min ha hf
  obtain ⟨b1, rs, v, b2, b3, b4, b5⟩ := cls_min hb hg
  have h1 := b1 _ u (ch_rev a2) (sub_rev a3) (by rw [sum_rev]; exact a4)
  have h2 := a1 _ v (ch_rev b2) (by have := sub_rev b3; rwa [map_tn] at this) (by rw [sum_rev]; exact b4)
  simp only [List.length_reverse, List.length_map] at h1 h2
  omega
end
end Go.Proofs.Ytlmhkeoblgodiaa
end

section
/-
  Chapter 2: the links in another order: turned by some places.
-/
namespace Go.Proofs.Ytlmhkeoblgodiaa
open Go Go.Sy Go.Chn
set_option linter.unusedVariables false
set_option linter.unusedSimpArgs false
theorem ckL_any {N : Int} : ∀ {i : Nat} {L : List Lk}, (ckL N i L).1 = if L.any (badL N) = true then 1 else 0
  | _, [] => rfl
  | i, l :: L => by
    rw [ckL, List.any_cons]
    by_cases h : badL N l = true
    · rw [if_pos h, h]; rfl
    · have h' : badL N l = false := by simpa using h
      rw [if_neg h, h', Bool.false_or, ckL_any]
theorem check_same {N : Int} {L M : List Lk} (hl : L.length = M.length) (h : ∀ x, x ∈ L ↔ x ∈ M) : (checkF N L).1 = (checkF N M).1 := by
  have e : L.any (badL N) = M.any (badL N) := by
    rw [Bool.eq_iff_iff, List.any_eq_true, List.any_eq_true]
    exact ⟨fun ⟨x, h1, h2⟩ => ⟨x, (h x).1 h1, h2⟩, fun ⟨x, h1, h2⟩ => ⟨x, (h x).2 h1, h2⟩⟩
  unfold checkF
  rw [hl]
  split
  · rfl
  · split
    · rfl
    · rw [ckL_any, ckL_any, e]
/-- The links, turned by t places; the first i of them. -/
def rotL (L : List Lk) (t i : Nat) : List Lk := (List.range i).map fun k => lk L ((k + t) % L.length)
theorem rot_len {L : List Lk} {t i : Nat} : (rotL L t i).length = i := by simp [rotL]
theorem rot_zero {L : List Lk} {t : Nat} : [] = rotL L t 0 := rfl
theorem rot_succ {L : List Lk} {t i : Nat} : rotL L t i ++ [lk L ((i + t) % L.length)] = rotL L t (i + 1) := by simp [rotL, List.range_succ]
theorem rot_mem {L : List Lk} {t : Nat} (h : L.length ≠ 0) (x : Lk) : x ∈ L ↔ x ∈ rotL L t L.length := by
  constructor
  · intro hx
    obtain ⟨j, hj, rfl⟩ := List.getElem_of_mem hx
    refine List.mem_map.2 ⟨(j + (L.length - t % L.length)) % L.length, List.mem_range.2 (Nat.mod_lt _ (by omega)), ?_⟩
    have e : ((j + (L.length - t % L.length)) % L.length + t) % L.length = j := by
      have h1 := Nat.mod_lt t (show 0 < L.length by omega)
      rw [Nat.mod_add_mod]
      have h2 := Nat.div_add_mod t L.length
      have : j + (L.length - t % L.length) + t = j + L.length * (t / L.length + 1) := by
        rw [Nat.mul_add, Nat.mul_one]; omega
      rw [this, Nat.add_mul_mod_self_left, Nat.mod_eq_of_lt hj]
    rw [e]; simp [lk, List.getD, hj]
  · intro hx
    obtain ⟨k, _, rfl⟩ := List.mem_map.1 hx
    have : (k + t) % L.length < L.length := Nat.mod_lt _ (by omega)
    simp [lk, List.getD, this]
section
variable {N : Int} {L M : List Lk}
theorem ask_same (hl : L.length = M.length) (h : ∀ x, x ∈ L ↔ x ∈ M) : askF N L [] = askF N M [] := by
  have e := check_same (N := N) hl h
  unfold askF
  rw [← e]
  by_cases h0 : (checkF N L).1 = 0
  · rw [same_con (ask_of h0) (ask_of (by rw [← e]; exact h0)) h]
  · rw [if_pos h0, if_pos h0]
theorem tg_same (hl : L.length = M.length) (h : ∀ x, x ∈ L ↔ x ∈ M) : tgF N L = tgF N M := by
  have e := ask_same (N := N) hl h
  unfold tgF
  rw [← e]
  split
  · rfl
  · rename_i h0
    have h0 : askF N L [] = 0 := by simpa using h0
    obtain ⟨c1, _, c3⟩ := ask_iff.1 h0
    have e1 := check_same (N := N) hl h
    have ha := ask_of c1
    have hb := ask_of (N := N) (L := M) (by rw [← e1]; exact c1)
    have : tgL N L N.toNat = tgL N M N.toNat := sq_ext (tg_sq ha) (tg_sq hb) fun a b h1 h2 => by
      rw [tg_tb h1, tg_tb h1]
      exact same_d ha hb h ((con_iff ha).1 c3) h1 h2
    rw [this]
theorem cls_eq0 (h0 : (checkF N L).1 = 0) : clsF N L = if conB N L = true then ([], 5) else (clF N.toNat L, 0) := by unfold clsF; rw [if_neg (not_not_intro h0)]
theorem cls_eq1 (h0 : ¬ (checkF N L).1 = 0) : clsF N L = ([], (checkF N L).1) := by unfold clsF; rw [if_pos h0]
theorem cls_len (hl : L.length = M.length) (h : ∀ x, x ∈ L ↔ x ∈ M) : (clsF N L).2 = (clsF N M).2 ∧ (clsF N L).1.length = (clsF N M).1.length := by
  have e := check_same (N := N) hl h
  by_cases h0 : (checkF N L).1 = 0
  · have h0' : (checkF N M).1 = 0 := by rw [← e]; exact h0
    rw [cls_eq0 h0, cls_eq0 h0']
    have ha := ask_of h0
    have hb := ask_of h0'
    rw [← same_con ha hb h]
    by_cases hc : conB N L = true
    · rw [if_pos hc, if_pos hc]; exact ⟨rfl, rfl⟩
    · rw [if_neg hc, if_neg hc]
      exact ⟨rfl, cls_same ha hb h (by simpa using hc)⟩
  · rw [cls_eq1 h0, cls_eq1 (by rw [← e]; exact h0), e]; exact ⟨rfl, rfl⟩
end
end Go.Proofs.Ytlmhkeoblgodiaa
end
