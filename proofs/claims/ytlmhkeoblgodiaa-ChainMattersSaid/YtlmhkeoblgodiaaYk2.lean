/-
  Texts of the claims on chapter 2: Yk2. No condition: lemmas and contracts.
-/
import Derived.Test.YtlmhkeoblgodiaaYk1
import Derived.Test.YtlmhkeoblgodiaaMn
set_option linter.all false
section
/-
  Chapter 2: chains as lists of indices; the chain that proves a bound, and the first closed chain below 0.
-/
namespace Go.Proofs.Ytlmhkeoblgodiaa
open Go Go.Sy Go.Chn
set_option linter.unusedVariables false
set_option linter.unusedSimpArgs false
theorem idxB_iff {n : Nat} : ∀ {I : List Int}, idxB n I = true ↔ ∀ i ∈ I, 0 ≤ i ∧ i < n
  | [] => ⟨fun _ _ h => (by cases h), fun _ => rfl⟩
  | i :: I => by
    rw [idxB, Bool.and_eq_true, Bool.and_eq_true, decide_eq_true_eq, decide_eq_true_eq, idxB_iff (I := I)]
    constructor
    · rintro ⟨⟨h1, h2⟩, h3⟩ x hx
      rcases List.mem_cons.1 hx with rfl | hx
      · exact ⟨h1, h2⟩
      · exact h3 x hx
    · intro h
      exact ⟨⟨(h i (by simp)).1, (h i (by simp)).2⟩, fun x hx => h x (by simp [hx])⟩
/-- What walking along a list of indices tells. -/
theorem sumR_ch {L : List Lk} {b : Int} : ∀ {I : List Int} {a s : Int}, (∀ i ∈ I, 0 ≤ i ∧ i < L.length) → ((sumR L a s I).2.2 = true ∧ (sumR L a s I).2.1 = b ↔ Ch a (atL L I) b) ∧ ((sumR L a s I).2.2 = true → (sumR L a s I).1 = s + sumL (atL L I))
  | [], a, s, _ => ⟨⟨fun h => h.2, fun h => ⟨rfl, h⟩⟩, fun _ => by simp [sumR, atL, sumL]⟩
  | i :: I, a, s, h => by
    have hi := h i (by simp)
    have e : atL L (i :: I) = lk L i.toNat :: atL L I := rfl
    rw [sumR, e]
    by_cases hc : (lk L i.toNat).1 = a
    · rw [if_pos ⟨hi.1, hi.2, hc⟩]
      have ih := sumR_ch (L := L) (b := b) (I := I) (a := (lk L i.toNat).2.1) (s := s + (lk L i.toNat).2.2) fun x hx => h x (by simp [hx])
      refine ⟨ih.1.trans ⟨fun k => ⟨hc, k⟩, fun k => k.2⟩, fun k => ?_⟩
      rw [ih.2 k, sumL]; omega
    · rw [if_neg fun k => hc k.2.2]
      exact ⟨⟨fun k => (by cases k.1), fun k => absurd k.1 hc⟩, fun k => (by cases k)⟩
section
variable {N : Int} {L : List Lk} {a b : Int} {I : List Int}
/-- What an accepted chain is. -/
theorem ckc_iff {n : Int} : ckcF N L a b I = (n, 0) ↔ (checkF N L).1 = 0 ∧ inN N.toNat a ∧ inN N.toNat b ∧ I.length ≤ 80 ∧ (∀ i ∈ I, 0 ≤ i ∧ i < L.length) ∧ Ch a (atL L I) b ∧ sumL (atL L I) = n := by
  unfold ckcF
  by_cases h0 : (checkF N L).1 = 0
  · rw [if_neg (by simp [h0])]
    by_cases h1 : nodeB N a = true
    · by_cases h2 : nodeB N b = true
      · rw [if_neg (by simp [h1, h2])]
        unfold idxE
        by_cases h3 : I.length > 80
        · rw [if_pos h3, if_pos (by decide)]
          constructor
          · intro h; cases h
          · intro h; omega
        · rw [if_neg h3]
          by_cases h4 : idxB L.length I = true
          · rw [if_pos h4, if_neg (by decide)]
            have h5 := idxB_iff.1 h4
            obtain ⟨k1, k2⟩ := sumR_ch (L := L) (b := b) (a := a) (s := 0) h5
            by_cases h6 : (sumR L a 0 I).2.2 = true ∧ (sumR L a 0 I).2.1 = b
            · rw [if_neg (by simp [h6.1, h6.2])]
              have e := k2 h6.1
              rw [e]
              constructor
              · intro h
                have := congrArg Prod.fst h
                exact ⟨h0, nodeB_iff.1 h1, nodeB_iff.1 h2, by omega, h5, k1.1 h6, by simpa using this⟩
              · intro h
                rw [h.2.2.2.2.2.2]; simp
            · rw [if_pos (by
                cases hb : (sumR L a 0 I).2.2
                · exact .inl rfl
                · exact .inr fun e => h6 ⟨hb, e⟩)]
              constructor
              · intro h; cases h
              · intro h; exact absurd (k1.2 h.2.2.2.2.2.1) h6
          · rw [if_neg h4, if_pos (by decide)]
            constructor
            · intro h; cases h
            · intro h; exact absurd (idxB_iff.2 h.2.2.2.2.1) h4
      · rw [if_pos (.inr (by simpa using h2))]
        constructor
        · intro h; cases h
        · intro h; exact absurd (nodeB_iff.2 h.2.2.1) h2
    · rw [if_pos (.inl (by simpa using h1))]
      constructor
      · intro h; cases h
      · intro h; exact absurd (nodeB_iff.2 h.2.1) h1
  · rw [if_pos h0]
    constructor
    · intro h; exact absurd (congrArg Prod.snd h) h0
    · intro h; exact absurd h.1 h0
/-- The first number of links with which a bound is reached. -/
def hitK (N : Nat) (L : List Lk) (a b d : Int) : Nat → Nat → Option Nat
  | 0, _ => none
  | f + 1, k => if gi (exF N L b k) a = d then some k else hitK N L a b d f (k + 1)
theorem hitK_some {M : Nat} {d : Int} : ∀ {f k j : Nat}, hitK M L a b d f k = some j → k ≤ j ∧ j < k + f ∧ gi (exF M L b j) a = d ∧ ∀ i, k ≤ i → i < j → gi (exF M L b i) a ≠ d
  | 0, _, _, h => by cases h
  | f + 1, k, j, h => by
    rw [hitK] at h
    split at h
    · rename_i e
      obtain rfl := Option.some.inj h
      exact ⟨Nat.le_refl _, by omega, e, fun i h1 h2 => by omega⟩
    · rename_i e
      obtain ⟨h1, h2, h3, h4⟩ := hitK_some h
      refine ⟨by omega, by omega, h3, fun i k1 k2 => ?_⟩
      rcases Nat.lt_or_ge k i with h | h
      · exact h4 i h k2
      · obtain rfl : i = k := by omega
        exact e
theorem hitK_ex {M : Nat} {d : Int} : ∀ {f k j : Nat}, k ≤ j → j < k + f → gi (exF M L b j) a = d → ∃ i, hitK M L a b d f k = some i
  | 0, k, j, h1, h2, _ => by omega
  | f + 1, k, j, h1, h2, h3 => by
    rw [hitK]
    split
    · exact ⟨_, rfl⟩
    · rename_i e
      refine hitK_ex (j := j) ?_ (by omega) h3
      rcases Nat.lt_or_ge k j with h | h
      · exact h
      · obtain rfl : j = k := by omega
        exact absurd h3 e
def kB (N : Int) (L : List Lk) (a b : Int) : Nat := (hitK N.toNat L a b (dB N L a b) (N.toNat + 1) 0).getD 0
def chnL (N : Int) (L : List Lk) (a b : Int) : List Int := folF L (exF N.toNat L b) (fun s => s == dB N L a b) (kB N L a b) a 0
def chnF (N : Int) (L : List Lk) (a b : Int) : List Int × Int := if (bndF N L a b).2 ≠ 0 then ([], (bndF N L a b).2) else (chnL N L a b, 0)
theorem kB_ok (ha : AskL N.toNat L) (hn : NoNeg L) (h1 : inN N.toNat a) (h2 : inN N.toNat b) (hd : dB N L a b ≠ Fr) : hitK N.toNat L a b (dB N L a b) (N.toNat + 1) 0 = some (kB N L a b) ∧ kB N L a b < N.toNat ∧ gi (exF N.toNat L b (kB N L a b)) a = dB N L a b ∧ ∀ i, i < kB N L a b → gi (exF N.toNat L b i) a ≠ dB N L a b := by
  obtain ⟨k, k1, k2⟩ := chain_k ha.ok hn h1 h2 (bd_isD ha hn h1 h2).1 hd
  obtain ⟨i, hi⟩ := hitK_ex (f := N.toNat + 1) (k := 0) (j := k) (Nat.zero_le _) (by omega) k2
  have e : kB N L a b = i := by unfold kB; rw [hi]; rfl
  obtain ⟨_, m2, m3, m4⟩ := hitK_some hi
  rw [e]
  refine ⟨hi, ?_, m3, fun j hj => m4 j (Nat.zero_le _) hj⟩
  rcases Nat.lt_or_ge k i with h | h
  · exact absurd k2 (m4 k (Nat.zero_le _) h)
  · omega
theorem chn_ok (ha : AskL N.toNat L) (hn : NoNeg L) (h1 : inN N.toNat a) (h2 : inN N.toNat b) (hd : dB N L a b ≠ Fr) : (chnL N L a b).length = kB N L a b ∧ (∀ i ∈ chnL N L a b, 0 ≤ i ∧ i < L.length) ∧ Ch a (atL L (chnL N L a b)) b ∧ sumL (atL L (chnL N L a b)) = dB N L a b := by
  obtain ⟨_, k1, k2, _⟩ := kB_ok ha hn h1 h2 hd
  have hn' := ha.n
  obtain ⟨c1, c2, c3, c4⟩ := fol_chain ha.ok h2 (T := exF N.toNat L b) (good := fun s => s == dB N L a b) (k := kB N L a b) (a := a) (s := 0) (by omega) (fun j _ => rfl) h1 (by rw [k2]; exact hd) (by simp [k2])
  exact ⟨c1, c2, c3, by simpa [chnL] using c4⟩
theorem chn_ckc (hc : (checkF N L).1 = 0) (hn : NoNeg L) (h1 : inN N.toNat a) (h2 : inN N.toNat b) (hd : dB N L a b ≠ Fr) : ckcF N L a b (chnL N L a b) = (dB N L a b, 0) := by
  have ha := ask_of hc
  obtain ⟨c1, c2, c3, c4⟩ := chn_ok ha hn h1 h2 hd
  obtain ⟨_, k1, _⟩ := kB_ok ha hn h1 h2 hd
  have hn' := ha.n
  exact ckc_iff.2 ⟨hc, h1, h2, by omega, c2, c3, c4⟩
/-- No chain proves the bound with fewer links. -/
theorem chn_least (ha : AskL N.toNat L) (hn : NoNeg L) (h1 : inN N.toNat a) (h2 : inN N.toNat b) (hd : dB N L a b ≠ Fr) (hI : ckcF N L a b I = (dB N L a b, 0)) : (chnL N L a b).length ≤ I.length := by
  obtain ⟨_, _, _, i4, i5, i6, i7⟩ := ckc_iff.1 hI
  obtain ⟨c1, _⟩ := chn_ok ha hn h1 h2 hd
  obtain ⟨_, k1, _, k3⟩ := kB_ok ha hn h1 h2 hd
  have hn' := ha.n
  rw [c1]
  rcases Nat.lt_or_ge I.length (kB N L a b) with h | h
  · exfalso
    have hl : (atL L I).length = I.length := by simp [atL]
    obtain ⟨x1, x2⟩ := exF_le ha.ok h1 h2 i6 (atL_sub i5) (by omega)
    have hx := exF_ex ha.ok h2 (k := I.length) (by omega) a h1
    rw [hl] at x1 x2
    obtain ⟨ls, q1, q2, q3, q4⟩ := hx.is x2
    have := (bd_isD ha hn h1 h2).1.le ls q2 q3
    exact k3 I.length h (by omega)
  · exact h
theorem ckc_le (ha : AskL N.toNat L) (hn : NoNeg L) {n : Int} (hI : ckcF N L a b I = (n, 0)) : dB N L a b ≤ n ∧ dB N L a b ≠ Fr := by
  obtain ⟨_, i2, i3, i4, i5, i6, i7⟩ := ckc_iff.1 hI
  have h := (bd_isD ha hn i2 i3).1
  have := h.le _ i6 (atL_sub i5)
  exact ⟨by omega, h.no _ i6 (atL_sub i5)⟩
end
end Go.Proofs.Ytlmhkeoblgodiaa
end

section
/-
  Chapter 2: closed chains below 0: what CheckClash accepts, and the first of them.
-/
namespace Go.Proofs.Ytlmhkeoblgodiaa
open Go Go.Sy Go.Chn
set_option linter.unusedVariables false
set_option linter.unusedSimpArgs false
section
variable {N : Int} {L : List Lk} {I : List Int}
theorem cc_iff : ccF N L I = 0 ↔ (checkF N L).1 = 0 ∧ I.length ≤ 80 ∧ (∀ i ∈ I, 0 ≤ i ∧ i < L.length) ∧ I ≠ [] ∧ Ch (lk L (gi I 0).toNat).1 (atL L I) (lk L (gi I 0).toNat).1 ∧ sumL (atL L I) < 0 := by
  unfold ccF
  by_cases h0 : (checkF N L).1 = 0
  · rw [if_neg (by simp [h0])]
    unfold idxE
    by_cases h3 : I.length > 80
    · rw [if_pos h3, if_pos (by decide)]
      constructor
      · intro h; cases h
      · intro h; omega
    · rw [if_neg h3]
      by_cases h4 : idxB L.length I = true
      · rw [if_pos h4, if_neg (by decide)]
        have h5 := idxB_iff.1 h4
        obtain ⟨k1, k2⟩ := sumR_ch (L := L) (b := (lk L (gi I 0).toNat).1) (a := (lk L (gi I 0).toNat).1) (s := 0) h5
        unfold closB
        by_cases h6 : I = []
        · subst h6
          constructor
          · intro h
            rw [if_neg (by simp)] at h
            cases h
          · intro h; exact absurd rfl h.2.2.2.1
        · have h7 : (I.length != 0) = true := by simpa using h6
          rw [h7, h4]
          simp only [Bool.true_and]
          constructor
          · intro h
            split at h
            · rename_i hb
              simp only [Bool.and_eq_true, decide_eq_true_eq, beq_iff_eq] at hb
              have e := k2 hb.1.1
              exact ⟨h0, by omega, h5, h6, k1.1 hb.1, by omega⟩
            · cases h
          · rintro ⟨_, _, _, _, h8, h9⟩
            obtain ⟨b1, b2⟩ := k1.2 h8
            have e := k2 b1
            rw [if_pos]
            simp only [Bool.and_eq_true, decide_eq_true_eq, beq_iff_eq]
            exact ⟨⟨b1, b2⟩, by omega⟩
      · rw [if_neg h4, if_pos (by decide)]
        constructor
        · intro h; cases h
        · intro h; exact absurd (idxB_iff.2 h.2.2.1) h4
  · rw [if_pos h0]
    constructor
    · intro h; exact absurd h h0
    · intro h; exact absurd h.1 h0
theorem cc_neg (hn : NoNeg L) : ccF N L I ≠ 0 := fun h => by
  obtain ⟨_, _, h3, _, h5, h6⟩ := cc_iff.1 h
  have := hn _ _ h5 (atL_sub h3)
  omega
def clsF (N : Int) (L : List Lk) : List Int × Int := if (checkF N L).1 ≠ 0 then ([], (checkF N L).1) else if conB N L = true then ([], 5) else (clF N.toNat L, 0)
theorem cls_ok (hc : (checkF N L).1 = 0) (hf : conB N L = false) : (clF N.toNat L).length ≤ N.toNat ∧ clF N.toNat L ≠ [] ∧ (∀ i ∈ clF N.toNat L, 0 ≤ i ∧ i < L.length) ∧ ccF N L (clF N.toNat L) = 0 ∧ ∀ I, ccF N L I = 0 → (clF N.toNat L).length ≤ I.length := by
  have ha := ask_of hc
  have hn : ¬ NoNeg L := fun h => by rw [(con_iff ha).2 h] at hf; cases hf
  obtain ⟨k, l, h1, h2⟩ := clash_some ha.ok hn
  obtain ⟨J, j1, j2, j3, j4, j5⟩ := h2.chain ha.ok
  have e : clF N.toNat L = J := by unfold clF; rw [h1]; exact j1.symm
  have hk := h2.lt
  have hn' := ha.n
  have hne : J ≠ [] := fun e => by rw [e] at j2; cases j2
  rw [e]
  refine ⟨by omega, hne, j3, cc_iff.2 ⟨hc, by omega, j3, hne, ?_, j5⟩, fun I hI => ?_⟩
  · cases J with
    | nil => exact absurd rfl hne
    | cons i J =>
      have e2 : (lk L (gi (i :: J) 0).toNat).1 = l.1 := j4.1
      rw [e2]; exact j4
  · obtain ⟨_, _, h3, _, h5, h6⟩ := cc_iff.1 hI
    have := h2.least ha.ok h5 (atL_sub h3) h6
    rw [j2]
    simpa [atL] using this
end
end Go.Proofs.Ytlmhkeoblgodiaa
end

section
/-
  Chapter 2: systems whose links are turned round: plain.
-/
namespace Go.Proofs.Ytlmhkeoblgodiaa
open Go Go.Sy Go.Chn
set_option linter.unusedVariables false
set_option linter.unusedSimpArgs false
def tn (l : Lk) : Lk := (l.2.1, l.1, l.2.2)
theorem tn_tn (l : Lk) : tn (tn l) = l := rfl
theorem sum_rev : ∀ (ls : List Lk), sumL (ls.map tn).reverse = sumL ls
  | [] => rfl
  | l :: ls => by
    rw [List.map_cons, List.reverse_cons, sumL_append, sum_rev ls]
    simp only [sumL]
    show sumL ls + (l.2.2 + 0) = l.2.2 + sumL ls
    omega
theorem ch_rev : ∀ {ls : List Lk} {u v : Int}, Ch u ls v → Ch v (ls.map tn).reverse u
  | [], u, v, h => h.symm
  | l :: ls, u, v, h => by
    rw [List.map_cons, List.reverse_cons]
    have := ch_rev h.2
    exact this.append ⟨rfl, h.1⟩
theorem sub_rev {ls U : List Lk} (h : Sub ls U) : Sub (ls.map tn).reverse (U.map tn) := fun x hx => by
  rw [List.mem_reverse] at hx
  obtain ⟨l, hl, rfl⟩ := List.mem_map.1 hx
  exact List.mem_map_of_mem (h l hl)
theorem map_tn (U : List Lk) : (U.map tn).map tn = U := by
  rw [List.map_map]
  have : (tn ∘ tn) = id := funext fun l => tn_tn l
  rw [this, List.map_id]
theorem noneg_rev {U : List Lk} (h : NoNeg U) : NoNeg (U.map tn) := fun u ls h1 h2 => by
  have h3 := sub_rev h2
  rw [map_tn] at h3
  have := h u _ (ch_rev h1) h3
  rwa [sum_rev] at this
theorem isD_rev {U : List Lk} {u v d : Int} (h : IsD U u v d) : IsD (U.map tn) v u d := by
  refine ⟨fun hf => ?_, fun ls h1 h2 => ?_, fun ls h1 h2 => ?_, h.fr⟩
  · obtain ⟨c, c1, c2, c3⟩ := h.is hf
    exact ⟨_, ch_rev c1, sub_rev c2, by rw [sum_rev]; exact c3⟩
  · have h3 := sub_rev h2
    rw [map_tn] at h3
    have := h.le _ (ch_rev h1) h3
    rwa [sum_rev] at this
  · have h3 := sub_rev h2
    rw [map_tn] at h3
    exact h.no _ (ch_rev h1) h3
section
variable {N : Int} {L : List Lk}
theorem rev_con (ha : AskL N.toNat L) (hb : AskL N.toNat (L.map tn)) : conB N (L.map tn) = conB N L := by
  have h1 : NoNeg L ↔ NoNeg (L.map tn) := ⟨noneg_rev, fun h => by have := noneg_rev h; rwa [map_tn] at this⟩
  have := (con_iff ha).trans (h1.trans (con_iff hb).symm)
  cases hx : conB N L <;> cases hy : conB N (L.map tn) <;> simp_all
theorem rev_d (ha : AskL N.toNat L) (hb : AskL N.toNat (L.map tn)) (hn : NoNeg L) {a b : Int} (h1 : inN N.toNat a) (h2 : inN N.toNat b) : dB N (L.map tn) b a = dB N L a b :=
  (bd_isD hb (noneg_rev hn) h2 h1).1.uniq (isD_rev (bd_isD ha hn h1 h2).1)
end
end Go.Proofs.Ytlmhkeoblgodiaa
end

section
/-
  Chapter 2: the length of the first closed chain below 0, of the same links in another order, and of links turned round.
-/
namespace Go.Proofs.Ytlmhkeoblgodiaa
open Go Go.Sy Go.Chn
set_option linter.unusedVariables false
set_option linter.unusedSimpArgs false
section
variable {N : Int} {L M : List Lk}
theorem cls_min (ha : AskL N.toNat L) (hf : conB N L = false) : (∀ ls u, Ch u ls u → Sub ls L → sumL ls < 0 → (clF N.toNat L).length ≤ ls.length) ∧ ∃ ls u, Ch u ls u ∧ Sub ls L ∧ sumL ls < 0 ∧ ls.length = (clF N.toNat L).length := by
  have hn : ¬ NoNeg L := fun h => by rw [(con_iff ha).2 h] at hf; cases hf
  obtain ⟨k, l, h1, h2⟩ := clash_some ha.ok hn
  obtain ⟨J, j1, j2, j3, j4, j5⟩ := h2.chain ha.ok
  have e : clF N.toNat L = J := by unfold clF; rw [h1]; exact j1.symm
  rw [e]
  exact ⟨fun ls u k1 k2 k3 => by rw [j2]; exact h2.least ha.ok k1 k2 k3, atL L J, l.1, j4, atL_sub j3, j5, by simp [atL]⟩
theorem cls_same (ha : AskL N.toNat L) (hb : AskL N.toNat M) (h : ∀ x, x ∈ L ↔ x ∈ M) (hf : conB N L = false) : (clF N.toNat L).length = (clF N.toNat M).length := by
  have hg : conB N M = false := by rw [← same_con ha hb h]; exact hf
  obtain ⟨a1, ls, u, a2, a3, a4, a5⟩ := cls_min ha hf
  obtain ⟨b1, rs, v, b2, b3, b4, b5⟩ := cls_min hb hg
  have := b1 ls u a2 (fun x hx => (h x).1 (a3 x hx)) a4
  have := a1 rs v b2 (fun x hx => (h x).2 (b3 x hx)) b4
  omega
theorem cls_rev (ha : AskL N.toNat L) (hb : AskL N.toNat (L.map tn)) (hf : conB N L = false) : (clF N.toNat L).length = (clF N.toNat (L.map tn)).length := by
  have hg : conB N (L.map tn) = false := by rw [rev_con ha hb]; exact hf
  obtain ⟨a1, ls, u, a2, a3, a4, a5⟩ := cls_min ha hf
  obtain ⟨b1, rs, v, b2, b3, b4, b5⟩ := cls_min hb hg
  have h1 := b1 _ u (ch_rev a2) (sub_rev a3) (by rw [sum_rev]; exact a4)
  have h2 := a1 _ v (ch_rev b2) (by have := sub_rev b3; rwa [map_tn] at this) (by rw [sum_rev]; exact b4)
  simp only [List.length_reverse, List.length_map] at h1 h2
  omega
end
end Go.Proofs.Ytlmhkeoblgodiaa
end

section
/-
  Chapter 2: lists and tables compared; the table in which nothing is known. Printed by gen37.py.
-/
namespace Go.Proofs.Ytlmhkeoblgodiaa
open Go Go.Sy Go.Chn
set_option maxRecDepth 100000
set_option maxHeartbeats 1000000
set_option linter.unusedVariables false
set_option linter.unusedSimpArgs false
variable {Γ : Glob}
def fTT (D : List (List Int) → List (List Int) → List Duty) (F : List (List Int) → List (List Int) → Tm) : Ctr := .fn fun args rg => match args with
  | [.a x0, .a x1] => (match arrOf 32 kT rg x0, arrOf 32 kT rg x1 with | some (q0, L0), some (q1, L1) => some (q0 ++ (q1 ++ (D L0 L1)), F L0 L1) | _, _ => none)
  | _ => none
theorem fTT_ok {f : FuncId} {b : Body} {E : Env} {d : Nat} (hP : ProgOk Try.prog Γ E) (hb : BodyOk Try.prog f b) {D : List (List Int) → List (List Int) → List Duty} {F : List (List Int) → List (List Int) → Tm} (hp : ∀ (L0 : List (List Int)) (L1 : List (List Int)), (F L0 L1).plain = true)
    (H : ∀ (L0 : List (List Int)) (L1 : List (List Int)), obl (D L0 L1) → evTop E d b [.a (.sl 0 [] 0 L0.length), .a (.sl 1 [] 0 L1.length)] [.arr 32 kT L0 false false, .arr 32 kT L1 false false] (fun x _ => eqT x (F L0 L1))) : Ctr.Ok Try.prog Γ f (fTT D F) := Ctr.fn_ok (d := d) hP hb (by
  intro args rg q t hF hq
  split at hF
  next x0 x1 =>
    split at hF
    next q0 L0 q1 L1 hx0 hx1 =>
      obtain ⟨rfl, rfl⟩ := Prod.mk.inj (Option.some.inj hF); clear hF
      rw [obl_append, obl_append] at hq
      obtain ⟨hq0, hq1, hD⟩ := hq
      obtain ⟨e0, he0⟩ := pas_arr (by simp [kT]) hx0 hq0
      obtain ⟨e1, he1⟩ := pas_arr (by simp [kT]) hx1 hq1
      obtain ⟨p0, r0⟩ := he0 [e0, e1] 0 2 rfl (by omega)
      obtain ⟨p1, r1⟩ := he1 [e0, e1] 1 2 rfl (by omega)
      refine ⟨hp _ _, [e0, e1], [.a (.sl 0 [] 0 L0.length), .a (.sl 1 [] 0 L1.length)], [.arr 32 kT L0 false false, .arr 32 kT L1 false false], ⟨⟨p0, p1, trivial⟩, fun r g hg => ?_⟩, H _ _ hD⟩
      match r, hg with
      | 0, hg => obtain rfl := Option.some.inj hg; exact r0
      | 1, hg => obtain rfl := Option.some.inj hg; exact r1
    next => cases hF
  next => cases hF)

theorem si_end {L K : List Int} {i : Nat} (h : L.length ≤ i) (h2 : L.length = K.length) : decide (L.drop i = K.drop i) = true := by
  rw [List.drop_eq_nil_of_le h, List.drop_eq_nil_of_le (by omega)]; rfl
theorem si_no {L K : List Int} {i : Nat} (h : i < L.length) (h2 : L.length = K.length) (hb : (gi L i != gi K i) = true) : decide (L.drop i = K.drop i) = false := by
  rw [drop_gi h, drop_gi (c := K) (by omega)]
  exact decide_eq_false fun e => by rw [(List.cons.inj e).1] at hb; simp at hb
theorem si_go {L K : List Int} {i : Nat} (h : i < L.length) (h2 : L.length = K.length) (hb : (gi L i != gi K i) = false) : decide (L.drop i = K.drop i) = decide (L.drop (i + 1) = K.drop (i + 1)) := by
  rw [drop_gi h, drop_gi (c := K) (by omega), ok_ne hb]
  exact decide_eq_decide.2 ⟨fun e => (List.cons.inj e).2, fun e => by rw [e]⟩
theorem si_len {α : Type} [DecidableEq α] {L K : List α} (h : ((L.length : Int) != (K.length : Int)) = true) : decide (L = K) = false := decide_eq_false fun e => by rw [e] at h; simp at h
def c27 : Ctr := fII (fun I _ => [(Duty.of (I.length ≤ 1000000))]) (fun I J => bl (decide (I = J)))
theorem c27_ok : Ctr.Ok Try.prog Γ 27 c27 := fII_ok (d := 0) (prog_ok CsOk.nil BsOk.nil false 0) (body_of Try.func27 rfl rfl) (fun _ _ => rfl) (by
  intro L K ⟨hL, _⟩
  simp only [Duty.of_p] at hL
  have g1 := @si_len Int _ L K
  have g2 : decide (L = K) = decide (L.drop 0 = K.drop 0) := rfl
  generalize decide (L = K) = res at *
  repeat' ((conv => whnf); (first | apply And.intro | intro _))
  all_goals try (conv => whnf)
  all_goals try exact LexB.mk (by kernel_rfl)
  all_goals subst_vars
  all_goals try simp only [getL, getI, castLk, castIk] at *
  all_goals try first
    | exact ⟨rfl⟩
    | exact (g1 (by assumption)).symm
    | exact g1 (by assumption)
  have hl : ((L.length : Int) != (K.length : Int)) = false := by assumption
  have hl2 := ok_ne hl
  clear g1
  refine ⟨Nat, fun i => i ≤ L.length ∧ decide (L.drop 0 = K.drop 0) = decide (L.drop i = K.drop i), fun i => ⟨slotsT 26 [0, 1, 5] [.a (.sl 0 [] 0 L.length), .a (.sl 1 [] 0 K.length), .a (vI i)], [], [.arr 3 kI L false false, .arr 3 kI K false false]⟩, fun i => L.length - i, 0, [], ⟨Nat.zero_le _, rfl⟩, ?_, ?_⟩
  · repeat' ((conv => whnf); (first | apply And.intro | intro _))
    all_goals first | rfl | trivial | exact Nat.le_of_ble_eq_true rfl | exact ⟨rfl, rfl, rfl⟩ | exact ⟨rfl, rfl, rfl, rfl⟩ | exact ⟨rfl, rfl⟩
  rintro i ⟨hi, hv⟩
  repeat' ((conv => whnf); (first | apply And.intro | intro _))
  all_goals try (conv => whnf)
  all_goals try exact LexB.mk (by kernel_rfl)
  all_goals try exact ⟨Nat.le_of_ble_eq_true rfl⟩
  all_goals try exact ⟨rfl⟩
  all_goals try (refine Ob.mk ?_; (try simp only [Duty.of_p, inRQ]); subst_vars; (try simp only [getL, getI, getB, castL_rfl] at *); (try dsimp only [kL, kI, Tup, CK.ty] at *); (try simp only [getL, getI, getB, gi_nn, castL_rfl, Nat.zero_add, Nat.add_zero, Nat.sub_zero, Int.toNat_natCast, List.length_set, List.length_replicate, List.length_cons, List.length_nil, decide_eq_true_eq, decide_eq_false_iff_not, cap40, inR] at *); (all_goals first | omega | (split <;> omega)))
  all_goals try subst_vars
  all_goals try simp only [getL, getI, Nat.zero_add, Int.toNat_natCast] at *
  all_goals try first
    | exact hv.trans (si_no (lt_of_dec (by assumption)) (by omega) (by assumption))
    | exact hv.trans (si_end (ge_of_dec (by assumption)) (by omega))
    | exact (hv.trans (si_no (lt_of_dec (by assumption)) (by omega) (by assumption))).symm
    | exact (hv.trans (si_end (ge_of_dec (by assumption)) (by omega))).symm
  all_goals have hi1 : i < L.length := lt_of_dec (by assumption)
  all_goals try (refine Ob.mk ?_; show -9223372036854775808 ≤ (i : Int) + 1 ∧ (i : Int) + 1 ≤ 9223372036854775807; omega)
  refine ⟨i + 1, [], ⟨by omega, hv.trans (si_go hi1 (by omega) (by assumption))⟩, ?_, by omega⟩
  repeat' ((conv => whnf); (first | apply And.intro | intro _))
  all_goals first | rfl | trivial | exact Nat.le_of_ble_eq_true rfl | exact ⟨rfl, rfl, rfl⟩ | exact ⟨rfl, rfl, rfl, rfl⟩ | exact ⟨rfl, rfl⟩)
theorem drop_gr {L : List (List Int)} {i : Nat} (h : i < L.length) : L.drop i = L.getD i [] :: L.drop (i + 1) := by
  rw [List.drop_eq_getElem_cons h]; simp [List.getD, h]
theorem st_end {L K : List (List Int)} {i : Nat} (h : L.length ≤ i) (h2 : L.length = K.length) : decide (L.drop i = K.drop i) = true := by
  rw [List.drop_eq_nil_of_le h, List.drop_eq_nil_of_le (by omega)]; rfl
theorem st_no {L K : List (List Int)} {i : Nat} (h : i < L.length) (h2 : L.length = K.length) (hb : (!decide (L.getD i [] = K.getD i [])) = true) : decide (L.drop i = K.drop i) = false := by
  rw [drop_gr h, drop_gr (L := K) (by omega)]
  exact decide_eq_false fun e => by rw [(List.cons.inj e).1] at hb; simp at hb
theorem st_go {L K : List (List Int)} {i : Nat} (h : i < L.length) (h2 : L.length = K.length) (hb : (!decide (L.getD i [] = K.getD i [])) = false) : decide (L.drop i = K.drop i) = decide (L.drop (i + 1) = K.drop (i + 1)) := by
  rw [drop_gr h, drop_gr (L := K) (by omega)]
  have : L.getD i [] = K.getD i [] := by simpa using hb
  rw [this]
  exact decide_eq_decide.2 ⟨fun e => (List.cons.inj e).2, fun e => by rw [e]⟩
theorem st_no0 {L K : List (List Int)} {i : Nat} (h : i < L.length) (h2 : L.length = K.length) (hb : (!decide (L.getD (0 + i) [] = K.getD (0 + i) [])) = true) : decide (L.drop i = K.drop i) = false := st_no h h2 (by rwa [Nat.zero_add] at hb)
theorem st_go0 {L K : List (List Int)} {i : Nat} (h : i < L.length) (h2 : L.length = K.length) (hb : (!decide (L.getD (0 + i) [] = K.getD (0 + i) [])) = false) : decide (L.drop i = K.drop i) = decide (L.drop (i + 1) = K.drop (i + 1)) := st_go h h2 (by rwa [Nat.zero_add] at hb)
def L46 : List (Nat × Ctr) := [(27, c27)]
theorem L46_ok : CsOk Try.prog Γ L46 := CsOk.nil.cons (body_of Try.func27 rfl rfl).fn c27_ok
def rowsM (T : List (List Int)) : Prop := ∀ r ∈ T, r.length ≤ 1000000
instance (T : List (List Int)) : Decidable (rowsM T) := inferInstanceAs (Decidable (∀ r ∈ T, r.length ≤ 1000000))
theorem rowsM.at {T : List (List Int)} (h : rowsM T) (i : Nat) : (T.getD i []).length ≤ 1000000 := by
  rcases Nat.lt_or_ge i T.length with hi | hi
  · have : T.getD i [] ∈ T := by simp [List.getD, hi]
    exact h _ this
  · simp [List.getD, hi]
def c46 : Ctr := fTT (fun T _ => [(Duty.of (T.length ≤ 1000000)), (Duty.of (rowsM T))]) (fun T U => bl (decide (T = U)))
theorem c46_ok : Ctr.Ok Try.prog Γ 46 c46 := fTT_ok (d := 0) (prog_ok L46_ok BsOk.nil false 0) (body_of Try.func46 rfl rfl) (fun _ _ => rfl) (by
  intro L K ⟨hL, hr, _⟩
  simp only [Duty.of_p] at hL hr
  have g1 := @si_len (List Int) _ L K
  have g2 : decide (L = K) = decide (L.drop 0 = K.drop 0) := rfl
  generalize decide (L = K) = res at *
  repeat' ((conv => whnf); (first | apply And.intro | intro _))
  all_goals try (conv => whnf)
  all_goals try exact LexB.mk (by kernel_rfl)
  all_goals subst_vars
  all_goals try simp only [getL, getI, castLk, castIk] at *
  all_goals try first
    | exact ⟨rfl⟩
    | exact (g1 (by assumption)).symm
    | exact g1 (by assumption)
  have hl : ((L.length : Int) != (K.length : Int)) = false := by assumption
  have hl2 := ok_ne hl
  clear g1
  refine ⟨Nat, fun i => i ≤ L.length ∧ decide (L.drop 0 = K.drop 0) = decide (L.drop i = K.drop i), fun i => ⟨slotsT 27 [0, 1, 5] [.a (.sl 0 [] 0 L.length), .a (.sl 1 [] 0 K.length), .a (vI i)], [], [.arr 32 kT L false false, .arr 32 kT K false false]⟩, fun i => L.length - i, 0, [], ⟨Nat.zero_le _, rfl⟩, ?_, ?_⟩
  · repeat' ((conv => whnf); (first | apply And.intro | intro _))
    all_goals first | rfl | trivial | exact Nat.le_of_ble_eq_true rfl | exact ⟨rfl, rfl, rfl⟩ | exact ⟨rfl, rfl, rfl, rfl⟩ | exact ⟨rfl, rfl⟩
  rintro i ⟨hi, hv⟩
  have hra := hr.at i
  repeat' ((conv => whnf); (first | apply And.intro | intro _))
  all_goals try (conv => whnf)
  all_goals try exact LexB.mk (by kernel_rfl)
  all_goals try exact ⟨Nat.le_of_ble_eq_true rfl⟩
  all_goals try exact ⟨rfl⟩
  all_goals try (refine Ob.mk ?_; (try simp only [Duty.of_p, inRQ]); subst_vars; (try simp only [getL, getI, getB, castL_rfl] at *); (try dsimp only [kL, kI, Tup, CK.ty] at *); (try simp only [getL, getI, getB, gi_nn, castL_rfl, Nat.zero_add, Nat.add_zero, Nat.sub_zero, Int.toNat_natCast, List.length_set, List.length_replicate, List.length_cons, List.length_nil, decide_eq_true_eq, decide_eq_false_iff_not, cap40, inR] at *); (all_goals first | omega | (split <;> omega)))
  all_goals try subst_vars
  all_goals try simp only [getL, getI, Nat.zero_add, Int.toNat_natCast] at *
  all_goals try first
    | exact ⟨lt_of_dec (by assumption)⟩
    | exact ⟨show i < K.length by have h := lt_of_dec (i := i) (n := L.length) (by assumption); omega⟩
    | exact ⟨hra⟩
    | exact hv.trans (st_no0 (lt_of_dec (by assumption)) (by omega) (by assumption))
    | exact hv.trans (st_end (ge_of_dec (by assumption)) (by omega))
    | exact (hv.trans (st_no0 (lt_of_dec (by assumption)) (by omega) (by assumption))).symm
    | exact (hv.trans (st_end (ge_of_dec (by assumption)) (by omega))).symm
  all_goals have hi1 : i < L.length := lt_of_dec (by assumption)
  all_goals try (refine Ob.mk ?_; show -9223372036854775808 ≤ (i : Int) + 1 ∧ (i : Int) + 1 ≤ 9223372036854775807; omega)
  refine ⟨i + 1, [], ⟨by omega, hv.trans (st_go0 hi1 (by omega) (by assumption))⟩, ?_, by omega⟩
  repeat' ((conv => whnf); (first | apply And.intro | intro _))
  all_goals first | rfl | trivial | exact Nat.le_of_ble_eq_true rfl | exact ⟨rfl, rfl, rfl⟩ | exact ⟨rfl, rfl, rfl, rfl⟩ | exact ⟨rfl, rfl⟩)
def c69 : Ctr := .new fun args _ K => match args with
  | [.a (.v (.int .i64 n))] => oblige false [(Duty.of (n = n.toNat)), (Duty.of (n.toNat ≤ 60))] (K ⟨[.arr 32 kT (filL n.toNat n.toNat) true true], .a (.sl 0 [] 0 n.toNat)⟩)
  | _ => False
theorem w69 {N : Nat} (hN : N ≤ 60) {K : Res → Prop} (hK : K ⟨[.arr 32 kT (filL N N) true true], .a (.sl 0 [] 0 N)⟩) : evTop (tabs.env [] [] false 0) 0 (bo Try.f69) [.a (vI N)] [] (resW K) := by
  repeat' ((conv => whnf); (first | apply And.intro | intro _))
  all_goals try (conv => whnf)
  all_goals try exact LexB.mk (by kernel_rfl)
  all_goals subst_vars
  refine ⟨Nat, fun i => i ≤ N, fun i => ⟨slotsT 33 [0, 3, 4] [.a (vI N), .a (.sl 0 [] 0 i), .a (vI i)], [], [.arr 32 kT (filL N i) true true]⟩, fun i => N - i, 0, [1000], Nat.zero_le _, ?_, ?_⟩
  · have e0 : [] = filL N 0 := filL_zero
    repeat' ((conv => whnf); (first | apply And.intro | intro _))
    all_goals first | rfl | trivial | exact Nat.le_of_ble_eq_true rfl | exact ⟨rfl, rfl, rfl⟩ | exact ⟨rfl, rfl, rfl, rfl⟩ | exact ⟨rfl, rfl⟩ | exact e0 | exact e0.symm | exact ⟨rfl, rfl, e0⟩
  rintro i hi
  have hfl := filL_len (N := N) (k := i)
  repeat' ((conv => whnf); (first | apply And.intro | intro _))
  all_goals try (conv => whnf)
  all_goals try first
    | exact LexB.mk (by kernel_rfl)
    | exact LexG.mk (by kernel_rfl)
    | exact Forced.mk (by kernel_rfl)
  all_goals try exact ⟨Nat.le_of_ble_eq_true rfl⟩
  all_goals try exact ⟨rfl⟩
  all_goals try (refine Ob.mk ?_; (try simp only [Duty.of_p, inRQ]); subst_vars; (try simp only [getL, getI, getB, castL_rfl] at *); (try dsimp only [kL, kI, Tup, CK.ty] at *); (try simp only [getL, getI, getB, gi_nn, castL_rfl, Nat.zero_add, Nat.add_zero, Nat.sub_zero, Int.toNat_natCast, List.length_set, List.length_replicate, List.length_cons, List.length_nil, decide_eq_true_eq, decide_eq_false_iff_not, cap40, inR] at *); (all_goals first | omega | (split <;> omega)))
  all_goals subst_vars
  all_goals try simp only [getL, getI, castLk, castIk, Nat.zero_add, Int.toNat_natCast] at *
  all_goals try
    (have e : i = N := by have := of_decide_eq_false ‹decide ((i : Int) < (N : Int)) = false›; omega
     subst e
     exact kl1 (i := 0) hK rfl rfl)
  all_goals have hi1 : i < N := by have := of_decide_eq_true ‹decide ((i : Int) < (N : Int)) = true›; omega
  all_goals try exact ⟨show (i + 1) * 1 ≤ 1099511627776 by omega⟩
  refine ⟨Nat, fun j => j ≤ N, fun j => ⟨slotsT 33 [0, 3, 4, 5, 6] [.a (vI N), .a (.sl 0 [] 0 i), .a (vI i), .a (.sl 1 [] 0 N), .a (vI j)], [], [.arr 32 kT (filL N i) true true, .arr 3 kI (filR N i j) true true]⟩, fun j => N - j, 0, [], Nat.zero_le _, ?_, ?_⟩
  · have e0 : List.replicate N (0 : Int) = filR N i 0 := filR_zero
    repeat' ((conv => whnf); (first | apply And.intro | intro _))
    all_goals first | rfl | trivial | exact Nat.le_of_ble_eq_true rfl | exact ⟨rfl, rfl, rfl⟩ | exact ⟨rfl, rfl, rfl, rfl⟩ | exact ⟨rfl, rfl⟩ | exact e0 | exact e0.symm | exact ⟨rfl, rfl, e0⟩
  rintro j hj
  have hrl := filR_len (N := N) (u := i) (i := j) hj
  repeat' ((conv => whnf); (first | apply And.intro | intro _))
  all_goals try (conv => whnf)
  all_goals try first
    | exact LexB.mk (by kernel_rfl)
    | exact LexG.mk (by kernel_rfl)
    | exact Forced.mk (by kernel_rfl)
  all_goals try exact ⟨Nat.le_of_ble_eq_true rfl⟩
  all_goals try exact ⟨rfl⟩
  all_goals try (refine Ob.mk ?_; (try simp only [Duty.of_p, inRQ]); subst_vars; (try simp only [getL, getI, getB, castL_rfl] at *); (try dsimp only [kL, kI, Tup, CK.ty] at *); (try simp only [getL, getI, getB, gi_nn, castL_rfl, Nat.zero_add, Nat.add_zero, Nat.sub_zero, Int.toNat_natCast, List.length_set, List.length_replicate, List.length_cons, List.length_nil, decide_eq_true_eq, decide_eq_false_iff_not, cap40, inR] at *); (all_goals first | omega | (split <;> omega)))
  all_goals subst_vars
  all_goals try simp only [getL, getI, castLk, castIk, Nat.zero_add, Int.toNat_natCast] at *
  all_goals try first
    | exact ⟨hrl.symm⟩
    | exact ⟨hfl.symm⟩
    | exact ⟨show (i + 1) * 1 ≤ 1099511627776 by omega⟩
  · have hj1 : j < N := by have := of_decide_eq_true ‹decide ((j : Int) < (N : Int)) = true›; omega
    have hij : i = j := by have := eq_of_beq ‹((i : Int) == (j : Int)) = true›; omega
    have e1 : ((filR N i j).set j 1152921504606846976).set j 0 = filR N i (j + 1) := filR_set2 hj1 hij
    refine ⟨j + 1, [], hj1, ?_, by show N - (j + 1) < N - j; omega⟩
    repeat' ((conv => whnf); (first | apply And.intro | intro _))
    all_goals first | rfl | trivial | exact Nat.le_of_ble_eq_true rfl | exact ⟨rfl, rfl, rfl⟩ | exact ⟨rfl, rfl, rfl, rfl⟩ | exact ⟨rfl, rfl⟩ | exact e1 | exact ⟨rfl, rfl, e1⟩
  · have hj1 : j < N := by have := of_decide_eq_true ‹decide ((j : Int) < (N : Int)) = true›; omega
    have hij : ¬ i = j := fun e => by subst e; have h := ‹((i : Int) == (i : Int)) = false›; simp at h
    have e1 : (filR N i j).set j 1152921504606846976 = filR N i (j + 1) := filR_set1 hj1 hij
    refine ⟨j + 1, [], hj1, ?_, by show N - (j + 1) < N - j; omega⟩
    repeat' ((conv => whnf); (first | apply And.intro | intro _))
    all_goals first | rfl | trivial | exact Nat.le_of_ble_eq_true rfl | exact ⟨rfl, rfl, rfl⟩ | exact ⟨rfl, rfl, rfl, rfl⟩ | exact ⟨rfl, rfl⟩ | exact e1 | exact ⟨rfl, rfl, e1⟩
  · have hjN : j = N := by have := of_decide_eq_false ‹decide ((j : Int) < (N : Int)) = false›; omega
    subst hjN
    have e1 : List.drop 0 (filL j i) ++ [filR j i j] = filL j (i + 1) := filL_succ
    refine ⟨i + 1, [0], hi1, ?_, by show j - (i + 1) < j - i; omega⟩
    repeat' ((conv => whnf); (first | apply And.intro | intro _))
    all_goals first | rfl | trivial | exact Nat.le_of_ble_eq_true rfl | exact ⟨rfl, rfl, rfl⟩ | exact ⟨rfl, rfl, rfl, rfl⟩ | exact ⟨rfl, rfl⟩ | exact e1 | exact ⟨rfl, rfl, e1⟩
theorem c69_ok : Ctr.Ok Try.prog Γ 69 c69 := Ctr.new_okW (d := 0) (prog_ok CsOk.nil BsOk.nil false 0) (b := bo Try.f69) (body_bo Try.func69 rfl rfl) (by
  intro args rg K hC
  split at hC
  next n =>
    rw [oblige_iff] at hC
    obtain ⟨⟨h1, h2, _⟩, hK⟩ := hC
    simp only [Duty.of_p] at h1 h2
    obtain ⟨N, hn⟩ : ∃ N : Nat, n = N := ⟨_, h1⟩
    subst hn
    simp only [Int.toNat_natCast] at h2 hK
    exact ⟨[], [.a (vI N)], [], ⟨⟨rfl, trivial⟩, fun r g hg => by simp at hg⟩, resW K, w69 h2 hK, fun x st h => h⟩
  next => exact hC.elim)
end Go.Proofs.Ytlmhkeoblgodiaa
end

section
/-
  Chapter 2: the specification's table of bounds. Printed by gen38.py.
-/
namespace Go.Proofs.Ytlmhkeoblgodiaa
open Go Go.Sy Go.Chn
set_option maxRecDepth 100000
set_option maxHeartbeats 2000000
set_option linter.unusedVariables false
set_option linter.unusedSimpArgs false
variable {Γ : Glob}
/-- The specification's table; none if the system is not consistent. -/
def rtF (N : Int) (L : List Lk) : List (List Int) × Bool := if conB N L = true then (tgL N L N.toNat, true) else ([], false)
theorem rt1 {N : Int} {L : List Lk} (h : conB N L = true) : rtF N L = (tgL N L N.toNat, true) := by unfold rtF; rw [if_pos h]
theorem rt0 {N : Int} {L : List Lk} (h : conB N L = false) : rtF N L = ([], false) := by unfold rtF; rw [if_neg (by simp [h])]
theorem tg_sq {N : Int} {L : List Lk} (ha : AskL N.toNat L) : Sq N.toNat (tgL N L N.toNat) := ⟨tg_len, fun a h => by
  have h1 := h.1; have h2 := h.2
  show ((tgL N L N.toNat).getD a.toNat []).length = _
  rw [tg_get (by omega)]
  exact bd_len ha ⟨by omega, by omega⟩⟩
theorem tg_tb {N : Int} {L : List Lk} {a b : Int} (h : inN N.toNat a) : tb (tgL N L N.toNat) a b = dB N L a b := by
  have h1 := h.1; have h2 := h.2
  show gi ((tgL N L N.toNat).getD a.toNat []) b = _
  rw [tg_get (by omega), show ((a.toNat : Nat) : Int) = a by omega]; rfl
/-- All stages are done. -/
theorem ft_fin {N : Int} {L : List Lk} {D : List (List Int)} (ha : AskL N.toNat L) (h : Ftb N.toNat L N.toNat D) : rtF N L = (D, true) := by
  obtain ⟨hn, hd⟩ := h.st.fin ha.ok h.dg
  rw [rt1 ((con_iff ha).2 hn)]
  refine congrArg (fun x => (x, true)) (sq_ext (tg_sq ha) h.sq fun a b h1 h2 => ?_)
  rw [tg_tb h1]
  exact (bd_isD ha hn h1 h2).1.uniq (hd a b h1 h2)
theorem ft_clash {N : Int} {L : List Lk} {k : Nat} {D : List (List Int)} (ha : AskL N.toNat L) (h : Stg N.toNat L k (tb D)) {a : Int} (h1 : inN N.toNat a) (hlt : tb D a a < 0) : rtF N L = ([], false) := by
  refine rt0 ?_
  cases hb : conB N L with
  | false => rfl
  | true => exact absurd ((con_iff ha).1 hb) (h.clash h1 hlt)

theorem klB {te : TypeId} {tg : List CK} {K : Res → Prop} {xs : List (Tup tg)} {n : Nat} {x : Tm} {st : St} {i : Nat} (hK : K ⟨[.arr te tg xs true true], .tup [.a (.sl 0 [] 0 n), .a (.v (.bool true))]⟩) (hx : x = .tup [.a (.sl i [] 0 n), .a .tt]) (hi : st.rg.getD i .dead = .arr te tg xs true true) : resW K x st := by
  subst hx
  refine .base ⟨_, [i], hK, ⟨hi, rfl, by simp, trivial⟩, rfl, ?_⟩
  exact ⟨⟨rfl, rfl, rfl, rfl⟩, rfl, trivial⟩
theorem klBE {te : TypeId} {tg : List CK} (htg : tg ≠ []) {K : Res → Prop} {x : Tm} {st : St} (hK : K ⟨[.arr te tg [] true true], .tup [.a (.sl 0 [] 0 0), .a (.v (.bool false))]⟩) (hx : x.mapA (At.vd st.rg.length) = .tup [.a (.sl st.rg.length [] 0 0), .a .ff]) : resW K x st := by
  refine .void te tg htg ?_
  rw [hx]
  refine .base ⟨_, [st.rg.length], hK, ⟨?_, rfl, by simp, trivial⟩, rfl, ?_⟩
  · simp [St.push, List.getD]
  · exact ⟨⟨rfl, rfl, rfl, rfl⟩, rfl, trivial⟩
theorem lk_set {D : List (List Int)} {l : Lk} : D.set l.1.toNat ((D.getD l.1.toNat []).set l.2.1.toNat (if l.2.2 < gi (D.getD l.1.toNat []) ((l.2.1.toNat : Nat) : Int) then l.2.2 else gi (D.getD l.1.toNat []) ((l.2.1.toNat : Nat) : Int))) =
    set2 D l.1 l.2.1 (if l.2.2 < tb D l.1 l.2.1 then l.2.2 else tb D l.1 l.2.1) := rfl
theorem ne_of_beq_false {a b : Int} (h : (a == b) = false) : ¬ a = b := fun e => by subst e; simp at h
def L26 : List (Nat × Ctr) := [(69, c69)]
theorem L26_ok : CsOk Try.prog Γ L26 := CsOk.nil.cons (body_of Try.func69 rfl rfl).fn c69_ok
theorem getT (D : List (List Int)) (i : Nat) : @Eq (List Int) (Ar.get ⟨32, [.sl 3 [.int .i64]], D⟩ i) (D.getD i []) := rfl
theorem gr_get {D : List (List Int)} {a : Int} : D.getD a.toNat [] = gr D a := rfl
attribute [local irreducible] gi lk T0 newT rtF
def c26 : Ctr := newS (fun N L => [(Duty.of (N = N.toNat)), askD N.toNat L]) (fun N L => ⟨[.arr 32 kT (rtF N L).1 true true], .tup [.a (.sl 0 [] 0 (rtF N L).1.length), .a (.v (.bool (rtF N L).2))]⟩)
theorem c26_ok : Ctr.Ok Try.prog Γ 26 c26 := newS_ok (d := 0) (prog_ok L26_ok BsOk.nil false 0) (body_of Try.func26 rfl rfl) (by
  intro N L K ⟨hN, ha, _⟩ hK
  replace ha : AskL N.toNat L := ha
  simp only [Duty.of_p] at hN
  have hn := ha.n
  have hl := ha.l
  repeat' ((conv => whnf); (first | apply And.intro | intro _))
  all_goals try (conv => whnf)
  all_goals try exact LexB.mk (by kernel_rfl)
  all_goals subst_vars
  all_goals try simp only [getL, getI, castLk, castIk] at *
  all_goals try first
    | exact ⟨rfl⟩
    | exact ⟨trivial⟩
    | exact ⟨hN⟩
    | exact ⟨show N.toNat ≤ 60 by omega⟩
  refine ⟨Nat × List (List Int), fun Y => Y.1 ≤ L.length ∧ Lkd N.toNat (L.take Y.1) Y.2, fun Y => ⟨slotsT 124 [1, 4, 5] [.a (.p 1 [] 0 0), .a (.sl 2 [] 0 N.toNat), .a (vI Y.1)], [], [.arr 44 kL L false false, .box true [vI N, .sl 0 [] 0 L.length], .arr 32 kT Y.2 true true]⟩, fun Y => L.length - Y.1, (0, filL N.toNat N.toNat), [], ⟨Nat.zero_le _, by rw [List.take_zero]; exact Lkd.zero⟩, ?_, ?_⟩
  · repeat' ((conv => whnf); (first | apply And.intro | intro _))
    all_goals first | rfl | trivial | exact Nat.le_of_ble_eq_true rfl | exact ⟨rfl, rfl, rfl⟩ | exact ⟨rfl, rfl, rfl, rfl⟩ | exact ⟨rfl, rfl⟩
  rintro ⟨i, D⟩ ⟨hi, hD⟩
  replace hi : i ≤ L.length := hi
  replace hD : Lkd N.toNat (L.take i) D := hD
  have hsq := hD.sq
  have hmm : i < L.length → inN N.toNat (lk L i).1 ∧ inN N.toNat (lk L i).2.1 ∧ lk L i ∈ L := fun h => by
    have hm : lk L i ∈ L := by simp [lk, List.getD, h]
    exact ⟨(ha.ok.nd _ hm).1, (ha.ok.nd _ hm).2, hm⟩
  repeat' ((conv => whnf); (first | apply And.intro | intro _))
  all_goals try (conv => whnf)
  all_goals try first
    | exact LexB.mk (by kernel_rfl)
    | exact LexG.mk (by kernel_rfl)
    | exact Forced.mk (by kernel_rfl)
  all_goals subst_vars
  all_goals try dsimp only [kT, kL, kI, Tup, CK.ty] at *
  all_goals try simp only [getL, getT, getI, castLk, castIk, Nat.zero_add, Int.toNat_natCast] at *
  all_goals try exact ⟨Nat.le_of_ble_eq_true rfl⟩
  all_goals try exact ⟨rfl⟩
  all_goals try (refine Ob.mk ?_; (try simp only [Duty.of_p, inRQ]); subst_vars; (try simp only [getL, getI, getB, castL_rfl] at *); (try dsimp only [kL, kI, Tup, CK.ty] at *); (try simp only [getL, getI, getB, gi_nn, castL_rfl, Nat.zero_add, Nat.add_zero, Nat.sub_zero, Int.toNat_natCast, List.length_set, List.length_replicate, List.length_cons, List.length_nil, decide_eq_true_eq, decide_eq_false_iff_not, cap40, inR] at *); (all_goals first | omega | (split <;> omega)))
  all_goals try simp only [getL, getI, castLk, castIk, Nat.zero_add, Int.toNat_natCast] at *
  all_goals try
    (have hi1 : i < L.length := by have := of_decide_eq_true ‹decide ((i : Int) < (L.length : Int)) = true›; omega
     obtain ⟨m1, m2, m3⟩ := hmm hi1
     have hr1 : (D.getD (lk L i).1.toNat []).length = N.toNat := hsq.row _ m1
     have q1 := m1.1
     have q2 := m1.2
     have q3 := m2.1
     have q4 := m2.2
     have q5 := hsq.len
     first
       | exact ⟨m1⟩
       | exact ⟨show (lk L i).1.toNat < D.length by omega⟩
       | exact ⟨show 0 ≤ (lk L i).2.1 ∧ (lk L i).2.1 < (((D.getD (lk L i).1.toNat []).length : Nat) : Int) by omega⟩
       | exact ⟨show (lk L i).2.1.toNat < (D.getD (lk L i).1.toNat []).length by omega⟩)
  · have hi1 : i < L.length := by have := of_decide_eq_true ‹decide ((i : Int) < (L.length : Int)) = true›; omega
    obtain ⟨m1, m2, m3⟩ := hmm hi1
    have e1 := @lk_set D (lk L i)
    refine ⟨(i + 1, set2 D (lk L i).1 (lk L i).2.1 (if (lk L i).2.2 < tb D (lk L i).1 (lk L i).2.1 then (lk L i).2.2 else tb D (lk L i).1 (lk L i).2.1)), [0, 1, 2], ⟨hi1, by rw [take_lk hi1]; exact hD.step m1 m2⟩, ?_, by show L.length - (i + 1) < L.length - i; omega⟩
    repeat' ((conv => whnf); (first | apply And.intro | intro _))
    all_goals first | rfl | trivial | exact Nat.le_of_ble_eq_true rfl | exact ⟨rfl, rfl, rfl⟩ | exact ⟨rfl, rfl, rfl, rfl⟩ | exact ⟨rfl, rfl⟩ | exact e1 | exact ⟨rfl, rfl, e1⟩
  have hDD : Lkd N.toNat L D := by
    have := of_decide_eq_false ‹decide ((i : Int) < (L.length : Int)) = false›
    rwa [List.take_of_length_le (by omega)] at hD
  have F0 := hDD.all ha.ok
  clear hD hsq hmm hDD
  refine ⟨Nat × List (List Int), fun Y => Y.1 ≤ N.toNat ∧ Ftb N.toNat L Y.1 Y.2, fun Y => ⟨slotsT 124 [1, 4, 7] [.a (.p 1 [] 0 0), .a (.sl 2 [] 0 N.toNat), .a (vI Y.1)], [], [.arr 44 kL L false false, .box true [vI N, .sl 0 [] 0 L.length], .arr 32 kT Y.2 true true]⟩, fun Y => N.toNat - Y.1, (0, D), [], ⟨Nat.zero_le _, F0⟩, ?_, ?_⟩
  · repeat' ((conv => whnf); (first | apply And.intro | intro _))
    all_goals first | rfl | trivial | exact Nat.le_of_ble_eq_true rfl | exact ⟨rfl, rfl, rfl⟩ | exact ⟨rfl, rfl, rfl, rfl⟩ | exact ⟨rfl, rfl⟩
  clear F0
  rintro ⟨k, D1⟩ ⟨hk, hF⟩
  replace hk : k ≤ N.toNat := hk
  replace hF : Ftb N.toNat L k D1 := hF
  repeat' ((conv => whnf); (first | apply And.intro | intro _))
  all_goals try (conv => whnf)
  all_goals try first
    | exact LexB.mk (by kernel_rfl)
    | exact LexG.mk (by kernel_rfl)
    | exact Forced.mk (by kernel_rfl)
  all_goals subst_vars
  all_goals try dsimp only [kT, kL, kI, Tup, CK.ty] at *
  all_goals try simp only [getL, getT, getI, castLk, castIk, Nat.zero_add, Int.toNat_natCast] at *
  all_goals try exact ⟨Nat.le_of_ble_eq_true rfl⟩
  all_goals try exact ⟨rfl⟩
  all_goals try (refine Ob.mk ?_; (try simp only [Duty.of_p, inRQ]); subst_vars; (try simp only [getL, getI, getB, castL_rfl] at *); (try dsimp only [kL, kI, Tup, CK.ty] at *); (try simp only [getL, getI, getB, gi_nn, castL_rfl, Nat.zero_add, Nat.add_zero, Nat.sub_zero, Int.toNat_natCast, List.length_set, List.length_replicate, List.length_cons, List.length_nil, decide_eq_true_eq, decide_eq_false_iff_not, cap40, inR] at *); (all_goals first | omega | (split <;> omega)))
  all_goals try simp only [getL, getI, castLk, castIk, Nat.zero_add, Int.toNat_natCast] at *
  all_goals try
    (have e : k = N.toNat := by have := of_decide_eq_false ‹decide ((k : Int) < N) = false›; omega
     rw [ft_fin ha (e ▸ hF)] at hK
     have e2 := hF.sq.len
     simp only [e2] at hK
     exact klB (i := 2) hK rfl rfl)
  have hk1 : k < N.toNat := by have := of_decide_eq_true ‹decide ((k : Int) < N) = true›; omega
  have hkN : inN N.toNat (k : Int) := ⟨by omega, by omega⟩
  have hd : 0 ≤ tb D1 k k := hF.dg k hkN
  refine ⟨Nat × List (List Int), fun Y => Y.1 ≤ N.toNat ∧ Mid N.toNat (tb D1) k Y.1 0 Y.2, fun Y => ⟨slotsT 124 [1, 4, 7, 8] [.a (.p 1 [] 0 0), .a (.sl 2 [] 0 N.toNat), .a (vI k), .a (vI Y.1)], [], [.arr 44 kL L false false, .box true [vI N, .sl 0 [] 0 L.length], .arr 32 kT Y.2 true true]⟩, fun Y => N.toNat - Y.1, (0, D1), [], ⟨Nat.zero_le _, Mid.zero hF.sq⟩, ?_, ?_⟩
  · repeat' ((conv => whnf); (first | apply And.intro | intro _))
    all_goals first | rfl | trivial | exact Nat.le_of_ble_eq_true rfl | exact ⟨rfl, rfl, rfl⟩ | exact ⟨rfl, rfl, rfl, rfl⟩ | exact ⟨rfl, rfl⟩
  rintro ⟨u, D2⟩ ⟨hu, hM⟩
  replace hu : u ≤ N.toNat := hu
  replace hM : Mid N.toNat (tb D1) k u 0 D2 := hM
  have hs2 := hM.sq.len
  repeat' ((conv => whnf); (first | apply And.intro | intro _))
  all_goals try (conv => whnf)
  all_goals try first
    | exact LexB.mk (by kernel_rfl)
    | exact LexG.mk (by kernel_rfl)
    | exact Forced.mk (by kernel_rfl)
  all_goals subst_vars
  all_goals try dsimp only [kT, kL, kI, Tup, CK.ty] at *
  all_goals try simp only [getL, getT, getI, castLk, castIk, Nat.zero_add, Int.toNat_natCast] at *
  all_goals try exact ⟨Nat.le_of_ble_eq_true rfl⟩
  all_goals try exact ⟨rfl⟩
  all_goals try (refine Ob.mk ?_; (try simp only [Duty.of_p, inRQ]); subst_vars; (try simp only [getL, getI, getB, castL_rfl] at *); (try dsimp only [kL, kI, Tup, CK.ty] at *); (try simp only [getL, getI, getB, gi_nn, castL_rfl, Nat.zero_add, Nat.add_zero, Nat.sub_zero, Int.toNat_natCast, List.length_set, List.length_replicate, List.length_cons, List.length_nil, decide_eq_true_eq, decide_eq_false_iff_not, cap40, inR] at *); (all_goals first | omega | (split <;> omega)))
  all_goals try simp only [getL, getI, castLk, castIk, Nat.zero_add, Int.toNat_natCast] at *
  all_goals try
    (have hu1 : u < N.toNat := by have := of_decide_eq_true ‹decide ((u : Int) < N) = true›; omega
     have hr : (D2.getD u []).length = N.toNat := hM.sq.row u ⟨by omega, by omega⟩
     first
       | exact ⟨show 0 ≤ (u : Int) ∧ (u : Int) < ((N.toNat : Nat) : Int) by omega⟩
       | exact ⟨show u < D2.length by omega⟩
       | exact ⟨show 0 ≤ (k : Int) ∧ (k : Int) < (((D2.getD u []).length : Nat) : Int) by omega⟩
       | exact ⟨show k < (D2.getD u []).length by omega⟩)
  · -- continue
    have hu1 : u < N.toNat := by have := of_decide_eq_true ‹decide ((u : Int) < N) = true›; omega
    have hc : tb D2 u k = Fr := eq_of_beq ‹(gi (D2.getD u []) (k : Int) == 1152921504606846976) = true›
    refine ⟨(u + 1, D2), [], ⟨hu1, (hM.over hd hk1 hu1 hc (Nat.zero_le N.toNat)).next⟩, ?_, by show N.toNat - (u + 1) < N.toNat - u; omega⟩
    repeat' ((conv => whnf); (first | apply And.intro | intro _))
    all_goals first | rfl | trivial | exact Nat.le_of_ble_eq_true rfl | exact ⟨rfl, rfl, rfl⟩ | exact ⟨rfl, rfl, rfl, rfl⟩ | exact ⟨rfl, rfl⟩
  · -- the row
    have hu1 : u < N.toNat := by have := of_decide_eq_true ‹decide ((u : Int) < N) = true›; omega
    have huN : inN N.toNat (u : Int) := ⟨by omega, by omega⟩
    have hc : ¬ tb D2 u k = Fr := ne_of_beq_false ‹(gi (D2.getD u []) (k : Int) == 1152921504606846976) = false›
    rw [hM.col hd hk1 hu1] at hc
    have hcb := hF.bound ha.ok huN hkN hc
    refine ⟨Nat × List (List Int), fun Y => Y.1 ≤ N.toNat ∧ Mid N.toNat (tb D1) k u Y.1 Y.2, fun Y => ⟨slotsT 124 [1, 4, 7, 8, 9] [.a (.p 1 [] 0 0), .a (.sl 2 [] 0 N.toNat), .a (vI k), .a (vI u), .a (vI Y.1)], [], [.arr 44 kL L false false, .box true [vI N, .sl 0 [] 0 L.length], .arr 32 kT Y.2 true true]⟩, fun Y => N.toNat - Y.1, (0, D2), [], ⟨Nat.zero_le _, hM⟩, ?_, ?_⟩
    · repeat' ((conv => whnf); (first | apply And.intro | intro _))
      all_goals first | rfl | trivial | exact Nat.le_of_ble_eq_true rfl | exact ⟨rfl, rfl, rfl⟩ | exact ⟨rfl, rfl, rfl, rfl⟩ | exact ⟨rfl, rfl⟩
    rintro ⟨v, D3⟩ ⟨hv, hM3⟩
    replace hv : v ≤ N.toNat := hv
    replace hM3 : Mid N.toNat (tb D1) k u v D3 := hM3
    have hs3 := hM3.sq.len
    have hru : (D3.getD u []).length = N.toNat := hM3.sq.row u huN
    have hrk : (D3.getD k []).length = N.toNat := hM3.sq.row k hkN
    have hcu : gi (D3.getD u []) (k : Int) = tb D1 u k := hM3.col hd hk1 hu1
    repeat' ((conv => whnf); (first | apply And.intro | intro _))
    all_goals try (conv => whnf)
    all_goals try first
      | exact LexB.mk (by kernel_rfl)
      | exact LexG.mk (by kernel_rfl)
      | exact Forced.mk (by kernel_rfl)
    all_goals subst_vars
    all_goals try dsimp only [kT, kL, kI, Tup, CK.ty] at *
    all_goals try simp only [getL, getT, getI, castLk, castIk, Nat.zero_add, Int.toNat_natCast] at *
    all_goals try exact ⟨Nat.le_of_ble_eq_true rfl⟩
    all_goals try exact ⟨rfl⟩
    all_goals try (refine Ob.mk ?_; (try simp only [Duty.of_p, inRQ]); subst_vars; (try simp only [getL, getI, getB, castL_rfl] at *); (try dsimp only [kL, kI, Tup, CK.ty] at *); (try simp only [getL, getI, getB, gi_nn, castL_rfl, Nat.zero_add, Nat.add_zero, Nat.sub_zero, Int.toNat_natCast, List.length_set, List.length_replicate, List.length_cons, List.length_nil, decide_eq_true_eq, decide_eq_false_iff_not, cap40, inR] at *); (all_goals first | omega | (split <;> omega)))
    all_goals try simp only [getL, getI, castLk, castIk, Nat.zero_add, Int.toNat_natCast] at *
    all_goals try
      (have hv1 : v < N.toNat := by have := of_decide_eq_true ‹decide ((v : Int) < N) = true›; omega
       first
         | exact ⟨show 0 ≤ (u : Int) ∧ (u : Int) < ((N.toNat : Nat) : Int) by omega⟩
         | exact ⟨show 0 ≤ (k : Int) ∧ (k : Int) < ((N.toNat : Nat) : Int) by omega⟩
         | exact ⟨show u < D3.length by omega⟩
         | exact ⟨show k < D3.length by omega⟩
         | exact ⟨show 0 ≤ (k : Int) ∧ (k : Int) < (((D3.getD u []).length : Nat) : Int) by omega⟩
         | exact ⟨show 0 ≤ (v : Int) ∧ (v : Int) < (((D3.getD u []).length : Nat) : Int) by omega⟩
         | exact ⟨show 0 ≤ (v : Int) ∧ (v : Int) < (((D3.getD k []).length : Nat) : Int) by omega⟩
         | exact ⟨show k < (D3.getD u []).length by omega⟩
         | exact ⟨show v < (D3.getD u []).length by omega⟩
         | exact ⟨show v < (D3.getD k []).length by omega⟩)
    · have hv1 : v < N.toNat := by have := of_decide_eq_true ‹decide ((v : Int) < N) = true›; omega
      have hvN : inN N.toNat (v : Int) := ⟨by omega, by omega⟩
      have h2 : ¬ gi (D3.getD k []) (v : Int) = 1152921504606846976 := ne_of_bne ‹(gi (D3.getD k []) (v : Int) != 1152921504606846976) = true›
      have hrow : gi (D3.getD k []) (v : Int) = tb D1 k v := hM3.row hd hk1 hvN
      have hrb := hF.bound ha.ok hkN hvN (by rw [← hrow]; exact h2)
      refine Ob.mk ?_
      simp only [inRQ, Duty.of_p, inR]
      omega
    · have hv1 : v < N.toNat := by have := of_decide_eq_true ‹decide ((v : Int) < N) = true›; omega
      have h2 : ¬ gi (D3.getD k []) (v : Int) = 1152921504606846976 := ne_of_bne ‹(gi (D3.getD k []) (v : Int) != 1152921504606846976) = true›
      have h1 : tb D3 u k ≠ Fr := by rw [show tb D3 u k = tb D1 u k from hcu]; exact hc
      have e1 : D3.set u ((D3.getD u []).set v (if gi (D3.getD u []) (k : Int) + gi (D3.getD k []) (v : Int) < gi (D3.getD u []) (v : Int) then gi (D3.getD u []) (k : Int) + gi (D3.getD k []) (v : Int) else gi (D3.getD u []) (v : Int))) =
          set2 D3 u v (if tb D3 u k + tb D3 k v < tb D3 u v then tb D3 u k + tb D3 k v else tb D3 u v) := rfl
      refine ⟨(v + 1, set2 D3 u v (if tb D3 u k + tb D3 k v < tb D3 u v then tb D3 u k + tb D3 k v else tb D3 u v)), [], ⟨hv1, hM3.put hd hk1 hu1 hv1 h1 h2⟩, ?_, by show N.toNat - (v + 1) < N.toNat - v; omega⟩
      repeat' ((conv => whnf); (first | apply And.intro | intro _))
      all_goals first | rfl | trivial | exact Nat.le_of_ble_eq_true rfl | exact ⟨rfl, rfl, rfl⟩ | exact ⟨rfl, rfl, rfl, rfl⟩ | exact ⟨rfl, rfl⟩ | exact e1 | exact ⟨rfl, rfl, e1⟩
    · have hv1 : v < N.toNat := by have := of_decide_eq_true ‹decide ((v : Int) < N) = true›; omega
      have h2 : tb D3 k v = Fr := eq_of_bne ‹(gi (D3.getD k []) (v : Int) != 1152921504606846976) = false›
      refine ⟨(v + 1, D3), [], ⟨hv1, hM3.skip hd hk1 hv1 h2⟩, ?_, by show N.toNat - (v + 1) < N.toNat - v; omega⟩
      repeat' ((conv => whnf); (first | apply And.intro | intro _))
      all_goals first | rfl | trivial | exact Nat.le_of_ble_eq_true rfl | exact ⟨rfl, rfl, rfl⟩ | exact ⟨rfl, rfl, rfl, rfl⟩ | exact ⟨rfl, rfl⟩
    · have hv1 : v = N.toNat := by have := of_decide_eq_false ‹decide ((v : Int) < N) = false›; omega
      subst hv1
      refine ⟨(u + 1, D3), [], ⟨hu1, hM3.next⟩, ?_, by show N.toNat - (u + 1) < N.toNat - u; omega⟩
      repeat' ((conv => whnf); (first | apply And.intro | intro _))
      all_goals first | rfl | trivial | exact Nat.le_of_ble_eq_true rfl | exact ⟨rfl, rfl, rfl⟩ | exact ⟨rfl, rfl, rfl, rfl⟩ | exact ⟨rfl, rfl⟩
  · -- behind the rows
    have hu1 : u = N.toNat := by have := of_decide_eq_false ‹decide ((u : Int) < N) = false›; omega
    subst hu1
    obtain ⟨hsq, hst⟩ := hF.next ha.ok hk1 hM
    refine ⟨Nat, fun i => i ≤ N.toNat ∧ ∀ a : Nat, a < i → 0 ≤ tb D2 a a, fun i => ⟨slotsT 124 [1, 4, 7, 10] [.a (.p 1 [] 0 0), .a (.sl 2 [] 0 N.toNat), .a (vI k), .a (vI i)], [], [.arr 44 kL L false false, .box true [vI N, .sl 0 [] 0 L.length], .arr 32 kT D2 true true]⟩, fun i => N.toNat - i, 0, [], ⟨Nat.zero_le _, fun a h => by omega⟩, ?_, ?_⟩
    · repeat' ((conv => whnf); (first | apply And.intro | intro _))
      all_goals first | rfl | trivial | exact Nat.le_of_ble_eq_true rfl | exact ⟨rfl, rfl, rfl⟩ | exact ⟨rfl, rfl, rfl, rfl⟩ | exact ⟨rfl, rfl⟩
    rintro i ⟨hi, hdg⟩
    repeat' ((conv => whnf); (first | apply And.intro | intro _))
    all_goals try (conv => whnf)
    all_goals try first
      | exact LexB.mk (by kernel_rfl)
      | exact LexG.mk (by kernel_rfl)
      | exact Forced.mk (by kernel_rfl)
    all_goals subst_vars
    all_goals try dsimp only [kT, kL, kI, Tup, CK.ty] at *
    all_goals try simp only [getL, getT, getI, castLk, castIk, Nat.zero_add, Int.toNat_natCast] at *
    all_goals try exact ⟨Nat.le_of_ble_eq_true rfl⟩
    all_goals try exact ⟨rfl⟩
    all_goals try (refine Ob.mk ?_; (try simp only [Duty.of_p, inRQ]); subst_vars; (try simp only [getL, getI, getB, castL_rfl] at *); (try dsimp only [kL, kI, Tup, CK.ty] at *); (try simp only [getL, getI, getB, gi_nn, castL_rfl, Nat.zero_add, Nat.add_zero, Nat.sub_zero, Int.toNat_natCast, List.length_set, List.length_replicate, List.length_cons, List.length_nil, decide_eq_true_eq, decide_eq_false_iff_not, cap40, inR] at *); (all_goals first | omega | (split <;> omega)))
    all_goals try simp only [getL, getI, castLk, castIk, Nat.zero_add, Int.toNat_natCast] at *
    all_goals try
      (have hi1 : i < N.toNat := by have := of_decide_eq_true ‹decide ((i : Int) < N) = true›; omega
       have hr : (D2.getD i []).length = N.toNat := hsq.row i ⟨by omega, by omega⟩
       first
         | exact ⟨show 0 ≤ (i : Int) ∧ (i : Int) < ((N.toNat : Nat) : Int) by omega⟩
         | exact ⟨show i < D2.length by omega⟩
         | exact ⟨show 0 ≤ (i : Int) ∧ (i : Int) < (((D2.getD i []).length : Nat) : Int) by omega⟩
         | exact ⟨show i < (D2.getD i []).length by omega⟩)
    · have hi1 : i < N.toNat := by have := of_decide_eq_true ‹decide ((i : Int) < N) = true›; omega
      have hlt : tb D2 i i < 0 := of_decide_eq_true ‹decide (gi (D2.getD i []) (i : Int) < 0) = true›
      rw [ft_clash ha hst ⟨by omega, by omega⟩ hlt] at hK
      exact klBE (by simp [kT]) hK rfl
    · have hi1 : i < N.toNat := by have := of_decide_eq_true ‹decide ((i : Int) < N) = true›; omega
      have hge : ¬ tb D2 i i < 0 := of_decide_eq_false ‹decide (gi (D2.getD i []) (i : Int) < 0) = false›
      refine ⟨i + 1, [], ⟨hi1, fun a h => ?_⟩, ?_, by show N.toNat - (i + 1) < N.toNat - i; omega⟩
      · rcases Nat.lt_or_ge a i with h1 | h1
        · exact hdg a h1
        · obtain rfl : a = i := by omega
          omega
      repeat' ((conv => whnf); (first | apply And.intro | intro _))
      all_goals first | rfl | trivial | exact Nat.le_of_ble_eq_true rfl | exact ⟨rfl, rfl, rfl⟩ | exact ⟨rfl, rfl, rfl, rfl⟩ | exact ⟨rfl, rfl⟩
    · have hi1 : i = N.toNat := by have := of_decide_eq_false ‹decide ((i : Int) < N) = false›; omega
      subst hi1
      refine ⟨(k + 1, D2), [], ⟨hk1, hsq, hst, fun a ha2 => ?_⟩, ?_, by show N.toNat - (k + 1) < N.toNat - k; omega⟩
      · have h0 := ha2.1
        have h1 := ha2.2
        have := hdg a.toNat (by omega)
        rwa [show ((a.toNat : Nat) : Int) = a by omega] at this
      repeat' ((conv => whnf); (first | apply And.intro | intro _))
      all_goals first | rfl | trivial | exact Nat.le_of_ble_eq_true rfl | exact ⟨rfl, rfl, rfl⟩ | exact ⟨rfl, rfl, rfl, rfl⟩ | exact ⟨rfl, rfl⟩)
end Go.Proofs.Ytlmhkeoblgodiaa
end

section
/-
  Chapter 2: the links in another order: turned by some places.
-/
namespace Go.Proofs.Ytlmhkeoblgodiaa
open Go Go.Sy Go.Chn
set_option linter.unusedVariables false
set_option linter.unusedSimpArgs false
theorem ckL_any {N : Int} : ∀ {i : Nat} {L : List Lk}, (ckL N i L).1 = if L.any (badL N) = true then 1 else 0
  | _, [] => rfl
  | i, l :: L => by
    rw [ckL, List.any_cons]
    by_cases h : badL N l = true
    · rw [if_pos h, h]; rfl
    · have h' : badL N l = false := by simpa using h
      rw [if_neg h, h', Bool.false_or, ckL_any]
theorem check_same {N : Int} {L M : List Lk} (hl : L.length = M.length) (h : ∀ x, x ∈ L ↔ x ∈ M) : (checkF N L).1 = (checkF N M).1 := by
  have e : L.any (badL N) = M.any (badL N) := by
    rw [Bool.eq_iff_iff, List.any_eq_true, List.any_eq_true]
    exact ⟨fun ⟨x, h1, h2⟩ => ⟨x, (h x).1 h1, h2⟩, fun ⟨x, h1, h2⟩ => ⟨x, (h x).2 h1, h2⟩⟩
  unfold checkF
  rw [hl]
  split
  · rfl
  · split
    · rfl
    · rw [ckL_any, ckL_any, e]
/-- The links, turned by t places; the first i of them. -/
def rotL (L : List Lk) (t i : Nat) : List Lk := (List.range i).map fun k => lk L ((k + t) % L.length)
theorem rot_len {L : List Lk} {t i : Nat} : (rotL L t i).length = i := by simp [rotL]
theorem rot_zero {L : List Lk} {t : Nat} : [] = rotL L t 0 := rfl
theorem rot_succ {L : List Lk} {t i : Nat} : rotL L t i ++ [lk L ((i + t) % L.length)] = rotL L t (i + 1) := by simp [rotL, List.range_succ]
theorem rot_mem {L : List Lk} {t : Nat} (h : L.length ≠ 0) (x : Lk) : x ∈ L ↔ x ∈ rotL L t L.length := by
  constructor
  · intro hx
    obtain ⟨j, hj, rfl⟩ := List.getElem_of_mem hx
    refine List.mem_map.2 ⟨(j + (L.length - t % L.length)) % L.length, List.mem_range.2 (Nat.mod_lt _ (by omega)), ?_⟩
    have e : ((j + (L.length - t % L.length)) % L.length + t) % L.length = j := by
      have h1 := Nat.mod_lt t (show 0 < L.length by omega)
      rw [Nat.mod_add_mod]
      have h2 := Nat.div_add_mod t L.length
      have : j + (L.length - t % L.length) + t = j + L.length * (t / L.length + 1) := by
        rw [Nat.mul_add, Nat.mul_one]; omega
      rw [this, Nat.add_mul_mod_self_left, Nat.mod_eq_of_lt hj]
    rw [e]; simp [lk, List.getD, hj]
  · intro hx
    obtain ⟨k, _, rfl⟩ := List.mem_map.1 hx
    have : (k + t) % L.length < L.length := Nat.mod_lt _ (by omega)
    simp [lk, List.getD, this]
section
variable {N : Int} {L M : List Lk}
theorem ask_same (hl : L.length = M.length) (h : ∀ x, x ∈ L ↔ x ∈ M) : askF N L [] = askF N M [] := by
  have e := check_same (N := N) hl h
  unfold askF
  rw [← e]
  by_cases h0 : (checkF N L).1 = 0
  · rw [same_con (ask_of h0) (ask_of (by rw [← e]; exact h0)) h]
  · rw [if_pos h0, if_pos h0]
theorem tg_same (hl : L.length = M.length) (h : ∀ x, x ∈ L ↔ x ∈ M) : tgF N L = tgF N M := by
  have e := ask_same (N := N) hl h
  unfold tgF
  rw [← e]
  split
  · rfl
  · rename_i h0
    have h0 : askF N L [] = 0 := by simpa using h0
    obtain ⟨c1, _, c3⟩ := ask_iff.1 h0
    have e1 := check_same (N := N) hl h
    have ha := ask_of c1
    have hb := ask_of (N := N) (L := M) (by rw [← e1]; exact c1)
    have : tgL N L N.toNat = tgL N M N.toNat := sq_ext (tg_sq ha) (tg_sq hb) fun a b h1 h2 => by
      rw [tg_tb h1, tg_tb h1]
      exact same_d ha hb h ((con_iff ha).1 c3) h1 h2
    rw [this]
theorem cls_eq0 (h0 : (checkF N L).1 = 0) : clsF N L = if conB N L = true then ([], 5) else (clF N.toNat L, 0) := by unfold clsF; rw [if_neg (not_not_intro h0)]
theorem cls_eq1 (h0 : ¬ (checkF N L).1 = 0) : clsF N L = ([], (checkF N L).1) := by unfold clsF; rw [if_pos h0]
theorem cls_len (hl : L.length = M.length) (h : ∀ x, x ∈ L ↔ x ∈ M) : (clsF N L).2 = (clsF N M).2 ∧ (clsF N L).1.length = (clsF N M).1.length := by
  have e := check_same (N := N) hl h
  by_cases h0 : (checkF N L).1 = 0
  · have h0' : (checkF N M).1 = 0 := by rw [← e]; exact h0
    rw [cls_eq0 h0, cls_eq0 h0']
    have ha := ask_of h0
    have hb := ask_of h0'
    rw [← same_con ha hb h]
    by_cases hc : conB N L = true
    · rw [if_pos hc, if_pos hc]; exact ⟨rfl, rfl⟩
    · rw [if_neg hc, if_neg hc]
      exact ⟨rfl, cls_same ha hb h (by simpa using hc)⟩
  · rw [cls_eq1 h0, cls_eq1 (by rw [← e]; exact h0), e]; exact ⟨rfl, rfl⟩
end
end Go.Proofs.Ytlmhkeoblgodiaa
end

section
/-
  Chapter 2: the plain law of ChainTurned: all links turned round.
-/
namespace Go.Proofs.Ytlmhkeoblgodiaa
open Go Go.Sy Go.Chn
set_option linter.unusedVariables false
set_option linter.unusedSimpArgs false
theorem tn_inj {a b : Lk} (h : tn a = tn b) : a = b := by
  have := congrArg tn h
  rwa [tn_tn, tn_tn] at this
section
variable {N : Int} {L : List Lk}
theorem lk_tn {k : Nat} (h : k < L.length) : lk (L.map tn) k = tn (lk L k) := by simp [lk, List.getD, h]
theorem used_tn (es : List (Int × Bool)) : ∀ (i : Nat) (L : List Lk), usedF es i (L.map tn) = (usedF es i L).map tn
  | _, [] => rfl
  | i, l :: L => by
    rw [List.map_cons, usedF, usedF, used_tn es (i + 1) L]
    split <;> rfl
theorem bad_tn (l : Lk) : badL N (tn l) = badL N l := by
  show (!nodeB N l.2.1 || !nodeB N l.1 || l.2.1 == l.1 || decide (l.2.2 < -4503599627370496) || decide (l.2.2 > 4503599627370496)) = (!nodeB N l.1 || !nodeB N l.2.1 || l.1 == l.2.1 || decide (l.2.2 < -4503599627370496) || decide (l.2.2 > 4503599627370496))
  rw [Bool.or_comm (!nodeB N l.2.1), show (l.2.1 == l.1) = (l.1 == l.2.1) from by rw [Bool.eq_iff_iff, beq_iff_eq, beq_iff_eq]; exact eq_comm]
theorem check_tn : (checkF N (L.map tn)).1 = (checkF N L).1 := by
  have e : (L.map tn).any (badL N) = L.any (badL N) := by
    rw [List.any_map]
    congr 1
    exact funext fun l => bad_tn l
  unfold checkF
  rw [List.length_map]
  split
  · rfl
  · split
    · rfl
    · rw [ckL_any, ckL_any, e]
theorem nd_comm {a b : Int} : ndB N [a, b] = ndB N [b, a] := by rw [nd_two, nd_two, Bool.and_comm]
theorem ask_tn {a b : Int} : askF N (L.map tn) [a, b] = askF N L [b, a] := by
  unfold askF
  rw [check_tn, nd_comm]
  by_cases h : (checkF N L).1 = 0
  · rw [rev_con (ask_of h) (ask_of (by rw [check_tn]; exact h))]
  · rw [if_pos h, if_pos h]
theorem ask_tn0 : askF N (L.map tn) [] = askF N L [] := by
  unfold askF
  rw [check_tn]
  by_cases h : (checkF N L).1 = 0
  · rw [rev_con (ask_of h) (ask_of (by rw [check_tn]; exact h))]
  · rw [if_pos h, if_pos h]
theorem bnd_tn {a b : Int} : bndF N (L.map tn) b a = bndF N L a b := by
  unfold bndF
  rw [ask_tn]
  by_cases h : askF N L [a, b] = 0
  · obtain ⟨ha, hn, h1, h2, _, hc⟩ := ask_2 h
    rw [rev_d ha (ask_of (by rw [check_tn]; exact hc)) hn h1 h2]
  · rw [if_pos h, if_pos h]
/-- The list of bounds to the node 0, turned, is the list of bounds from it. -/
theorem to_tn (h : askF N L [] = 0) : toL N (L.map tn) N.toNat = boundsF N.toNat L [] 0 := by
  obtain ⟨c1, _, c3⟩ := ask_iff.1 h
  have ha := ask_of c1
  have hb : AskL N.toNat (L.map tn) := ask_of (by rw [check_tn]; exact c1)
  have hn := (con_iff ha).1 c3
  have h60 := ha.n
  have h0 : inN N.toNat 0 := ⟨by omega, by omega⟩
  have l1 := to_len (N := N) (L := L.map tn) (i := N.toNat) (Nat.le_refl _)
  have l2 := bd_len ha h0
  refine List.ext_getElem (by omega) fun i k1 k2 => ?_
  have e1 : gi (toL N (L.map tn) N.toNat) (i : Int) = (toL N (L.map tn) N.toNat)[i] := by simp [gi, List.getD, k1]
  have e2 : gi (boundsF N.toNat L [] 0) (i : Int) = (boundsF N.toNat L [] 0)[i] := by simp [gi, List.getD, k2]
  rw [← e1, ← e2, to_get (by omega), rev_d ha hb hn h0 ⟨by omega, by omega⟩]
  rfl
theorem gl_tn : (leF N (L.map tn)).2 = (grF N L).2 ∧ (leF N (L.map tn)).1.length = (grF N L).1.length ∧ (grF N L).1.length ≤ 60 ∧ ∀ i : Nat, i < (grF N L).1.length → gi (grF N L).1 i = 0 - gi (leF N (L.map tn)).1 i ∧ -1152921504606846976 ≤ gi (leF N (L.map tn)).1 i ∧ gi (leF N (L.map tn)).1 i ≤ 1152921504606846976 := by
  by_cases h : askF N L [] = 0
  · have h' : askF N (L.map tn) [] = 0 := by rw [ask_tn0]; exact h
    have q : (askF N L [] != 0) = false := by rw [h]; rfl
    have q' : (askF N (L.map tn) [] != 0) = false := by rw [h']; rfl
    obtain ⟨c1, _, c3⟩ := ask_iff.1 h
    have ha := ask_of c1
    have hn := (con_iff ha).1 c3
    have h60 := ha.n
    have h0 : inN N.toNat 0 := ⟨by omega, by omega⟩
    have l2 := bd_len ha h0
    cases hg : hasB (boundsF N.toNat L [] 0) 1152921504606846976
    · rw [gr2 q hg, le2 q' (by rw [to_tn h]; exact hg), to_tn h]
      refine ⟨rfl, by show (ngL _ _).length = _; rw [ng_len], by show (boundsF N.toNat L [] 0).length ≤ 60; omega, fun i hi => ?_⟩
      replace hi : i < (boundsF N.toNat L [] 0).length := hi
      show gi (boundsF N.toNat L [] 0) (i : Int) = 0 - gi (ngL (boundsF N.toNat L [] 0) N.toNat) (i : Int) ∧ _
      have e : gi (ngL (boundsF N.toNat L [] 0) N.toNat) (i : Int) = - gi (boundsF N.toNat L [] 0) (i : Int) := by
        have := ng_all (X := boundsF N.toNat L [] 0) (v := (i : Int)) (by omega) (by omega)
        rwa [l2] at this
      have hv : inN N.toNat (i : Int) := ⟨by omega, by omega⟩
      have hne : dB N L 0 i ≠ Fr := has_none (n := 1152921504606846976) hg (gi (boundsF N.toNat L [] 0) i) (gi_mem hv.1 (by omega))
      have := d_low ha hn hv (bd_isD ha hn h0 hv).1 hne
      have e2 : gi (boundsF N.toNat L [] 0) (i : Int) = dB N L 0 i := rfl
      show _ ∧ (-1152921504606846976 ≤ gi (ngL (boundsF N.toNat L [] 0) N.toNat) (i : Int) ∧ gi (ngL (boundsF N.toNat L [] 0) N.toNat) (i : Int) ≤ 1152921504606846976)
      rw [e, e2]
      omega
    · rw [gr1 q hg, le1 q' (by rw [to_tn h]; exact hg)]
      exact ⟨rfl, rfl, Nat.zero_le _, fun i hi => absurd hi (Nat.not_lt_zero i)⟩
  · have q : (askF N L [] != 0) = true := by simpa using h
    have q' : (askF N (L.map tn) [] != 0) = true := by rw [ask_tn0]; exact q
    rw [gr0 q, le0 q', ask_tn0]
    exact ⟨rfl, rfl, Nat.zero_le _, fun i hi => absurd hi (Nat.not_lt_zero i)⟩
theorem cls_tn : (clsF N (L.map tn)).2 = (clsF N L).2 ∧ (clsF N (L.map tn)).1.length = (clsF N L).1.length ∧ (clsF N L).1.length ≤ 60 := by
  by_cases h : (checkF N L).1 = 0
  · have h' : (checkF N (L.map tn)).1 = 0 := by rw [check_tn]; exact h
    have ha := ask_of h
    have hb := ask_of h'
    have h60 := ha.n
    rw [cls_eq0 h, cls_eq0 h', rev_con ha hb]
    by_cases hc : conB N L = true
    · rw [if_pos hc, if_pos hc]; exact ⟨rfl, rfl, Nat.zero_le _⟩
    · rw [if_neg hc, if_neg hc]
      have hf : conB N L = false := by simpa using hc
      exact ⟨rfl, (cls_rev ha hb hf).symm, by have := (cls_ok h hf).1; show (clF N.toNat L).length ≤ 60; omega⟩
  · rw [cls_eq1 h, cls_eq1 (by rw [check_tn]; exact h), check_tn]; exact ⟨rfl, rfl, Nat.zero_le _⟩
theorem hit_tn {k i : Nat} (hk : k < L.length) (hi : i < L.length) : hitP (L.map tn) [] k i ↔ hitP L [] k i := by
  unfold hitP
  rw [lk_tn hk, lk_tn hi]
  show ((lk L i).1 = (lk L k).1 ∧ _ ∧ i ≠ k ∧ (lk L i).2.1 = (lk L k).2.1 ∧ (lk L i).2.2 ≤ (lk L k).2.2) ↔ _
  constructor
  · rintro ⟨a, b, c, d, e⟩; exact ⟨d, b, c, a, e⟩
  · rintro ⟨a, b, c, d, e⟩; exact ⟨d, b, c, a, e⟩
theorem idle_tn (ha : AskL N.toNat L) (hb : AskL N.toNat (L.map tn)) (hn : NoNeg L) {k : Nat} (hk : k < L.length) : idleF N.toNat (L.map tn) [] k = idleF N.toNat L [] k := by
  unfold idleF
  rw [List.length_map]
  have e1 : ((List.range L.length).any fun i => decide (hitP (L.map tn) [] k i)) = (List.range L.length).any fun i => decide (hitP L [] k i) := by
    rw [Bool.eq_iff_iff, List.any_eq_true, List.any_eq_true]
    constructor
    · rintro ⟨i, h1, h2⟩
      exact ⟨i, h1, decide_eq_true ((hit_tn hk (List.mem_range.1 h1)).1 (of_decide_eq_true h2))⟩
    · rintro ⟨i, h1, h2⟩
      exact ⟨i, h1, decide_eq_true ((hit_tn hk (List.mem_range.1 h1)).2 (of_decide_eq_true h2))⟩
  have hm := ha.ok.nd _ (lk_mem' hk)
  have e2 : gi (boundsF N.toNat (L.map tn) (lessF [] k) (lk L k).2.1) (lk L k).1 = gi (boundsF N.toNat L (lessF [] k) (lk L k).1) (lk L k).2.1 := by
    have d1 := isD_rev (less_isD ha hn (lessF [] k) hm.1 hm.2)
    rw [← used_tn] at d1
    exact (less_isD hb (noneg_rev hn) (lessF [] k) hm.2 hm.1).uniq d1
  rw [e1, lk_tn hk]
  show (_ || decide (gi (boundsF N.toNat (L.map tn) (lessF [] k) (lk L k).2.1) (lk L k).1 ≤ (lk L k).2.2)) = _
  rw [e2]
theorem id_tn : idF N (L.map tn) = idF N L := by
  by_cases h : askF N L [] = 0
  · have h' : askF N (L.map tn) [] = 0 := by rw [ask_tn0]; exact h
    obtain ⟨c1, _, c3⟩ := ask_iff.1 h
    have ha := ask_of c1
    have hb : AskL N.toNat (L.map tn) := ask_of (by rw [check_tn]; exact c1)
    have hn := (con_iff ha).1 c3
    rw [id1 (L := L) (by rw [h]; rfl), id1 (L := L.map tn) (by rw [h']; rfl), List.length_map]
    unfold idL
    rw [List.filter_congr fun k hk => idle_tn ha hb hn (List.mem_range.1 hk)]
  · rw [id0 (L := L) (by simpa using h), id0 (L := L.map tn) (by rw [ask_tn0]; simpa using h), ask_tn0]
end
end Go.Proofs.Ytlmhkeoblgodiaa
end

section
/-
  Chapter 2: the plain law of ChainReduced.
-/
namespace Go.Proofs.Ytlmhkeoblgodiaa
open Go Go.Sy Go.Chn
set_option maxRecDepth 100000
set_option linter.unusedVariables false
set_option linter.unusedSimpArgs false
variable {Γ : Glob}
/-! ### Maps all of whose values are true -/
def allT (es : List (Int × Bool)) : Prop := ∀ p ∈ es, p.2 = true
theorem any_mgb (i : Int) : ∀ {es : List (Int × Bool)}, allT es → es.any (fun p => p.1 == i) = mgb es i
  | [], _ => rfl
  | (k, v) :: es, h => by
    have hv : v = true := h (k, v) (by simp)
    rw [List.any_cons, any_mgb i fun p hp => h p (by simp [hp]), mgb, hv]
    cases k == i <;> rfl
theorem mget_mgb2 (i : Int) : ∀ (es : List (Int × Bool)), mget es i false = mgb es i
  | [] => rfl
  | (k, v) :: es => by
    rw [mget, mgb, mget_mgb2 i es]
    cases k == i <;> rfl
theorem mset_allT (n : Int) : ∀ {es : List (Int × Bool)}, allT es → allT (mset es n true)
  | [], _ => fun p hp => by
    rw [mset] at hp
    rw [List.mem_singleton.1 hp]
  | (k, w) :: es, h => fun p hp => by
    have hw : w = true := h (k, w) (by simp)
    have ih := mset_allT n (es := es) fun p hp => h p (by simp [hp])
    rw [mset] at hp
    cases hk : k == n
    · rw [hk] at hp
      rcases List.mem_cons.1 hp with rfl | hp
      · exact hw
      · exact ih p hp
    · rw [hk] at hp
      rcases List.mem_cons.1 hp with rfl | hp
      · rfl
      · exact h p (by simp [hp])
theorem less_T {es : List (Int × Bool)} (h : allT es) (k i : Nat) : mgb (lessF es k) i = (decide (i = k) || mgb es i) := by rw [less_mgb, any_mgb _ h]
theorem used_mem {es : List (Int × Bool)} {x : Lk} : ∀ {i : Nat} {L : List Lk}, x ∈ usedF es i L ↔ ∃ j, j < L.length ∧ mgb es ((i + j : Nat) : Int) = false ∧ lk L j = x
  | _, [] => by simp [usedF]
  | i, l :: L => by
    have ih := used_mem (es := es) (x := x) (i := i + 1) (L := L)
    have hs : (∃ j, j < (l :: L).length ∧ mgb es ((i + j : Nat) : Int) = false ∧ lk (l :: L) j = x) ↔ (mgb es (i : Int) = false ∧ l = x) ∨ ∃ j, j < L.length ∧ mgb es ((i + 1 + j : Nat) : Int) = false ∧ lk L j = x := by
      constructor
      · rintro ⟨j, h1, h2, h3⟩
        cases j with
        | zero => exact .inl ⟨by simpa using h2, h3⟩
        | succ j => exact .inr ⟨j, by simpa using h1, by rw [show i + 1 + j = i + (j + 1) by omega]; exact h2, h3⟩
      · rintro (⟨h1, h2⟩ | ⟨j, h1, h2, h3⟩)
        · exact ⟨0, by simp, by simpa using h1, h2⟩
        · exact ⟨j + 1, by simpa using h1, by rw [show i + (j + 1) = i + 1 + j by omega]; exact h2, h3⟩
    rw [hs, usedF]
    split
    · rename_i hm
      rw [ih]
      constructor
      · exact .inr
      · rintro (⟨h1, _⟩ | h)
        · rw [hm] at h1; cases h1
        · exact h
    · rename_i hm
      rw [List.mem_cons, ih]
      have hm' : mgb es (i : Int) = false := by simpa using hm
      constructor
      · rintro (h | h)
        · exact .inl ⟨hm', h.symm⟩
        · exact .inr h
      · rintro (⟨_, h⟩ | h)
        · exact .inl h.symm
        · exact .inr h
theorem used_mem0 {es : List (Int × Bool)} {x : Lk} {L : List Lk} : x ∈ usedF es 0 L ↔ ∃ j, j < L.length ∧ mgb es (j : Int) = false ∧ lk L j = x := by
  rw [used_mem]
  constructor <;> (rintro ⟨j, h1, h2, h3⟩; exact ⟨j, h1, by simpa using h2, h3⟩)
/-! ### A link that others stand for -/
theorem replace_ch {U V : List Lk} {l : Lk} (hl : ∃ c, Ch l.1 c l.2.1 ∧ Sub c V ∧ sumL c ≤ l.2.2) (hx : ∀ x ∈ U, x ∈ V ∨ x = l) : ∀ {ls : List Lk} {u v : Int}, Ch u ls v → Sub ls U → ∃ c, Ch u c v ∧ Sub c V ∧ sumL c ≤ sumL ls
  | [], u, v, h, _ => ⟨[], h, Sub.nil, Int.le_refl _⟩
  | x :: r, u, v, h, hs => by
    obtain ⟨c, c1, c2, c3⟩ := replace_ch hl hx h.2 hs.tail
    have e := h.1
    rcases hx x (hs x (by simp)) with hV | rfl
    · exact ⟨x :: c, ⟨e, c1⟩, Sub.cons hV c2, by simp only [sumL]; omega⟩
    · obtain ⟨d, d1, d2, d3⟩ := hl
      rw [e] at d1
      exact ⟨d ++ c, d1.append c1, Sub.app d2 c2, by rw [sumL_append]; simp only [sumL]; omega⟩
theorem isD_drop {U V : List Lk} {l : Lk} (hl : ∃ c, Ch l.1 c l.2.1 ∧ Sub c V ∧ sumL c ≤ l.2.2) (hx : ∀ x ∈ U, x ∈ V ∨ x = l) (hs : Sub V U) {u v d : Int} (h : IsD U u v d) : IsD V u v d := by
  refine ⟨fun hd => ?_, fun ls h1 h2 => h.le ls h1 fun x hx' => hs x (h2 x hx'), fun ls h1 h2 => h.no ls h1 fun x hx' => hs x (h2 x hx'), h.fr⟩
  obtain ⟨ls, h1, h2, h3⟩ := h.is hd
  obtain ⟨c, c1, c2, c3⟩ := replace_ch hl hx h1 h2
  have := h.le c c1 fun x hx' => hs x (c2 x hx')
  exact ⟨c, c1, c2, by omega⟩
section
variable {N : Int} {L : List Lk}
/-- What holds when n links were looked at. -/
structure RdI (N : Int) (L : List Lk) (n : Nat) : Prop where
  t : allT (rdS N L n).1
  low : ∀ j : Nat, j < L.length - n → mgb (rdS N L n).1 (j : Int) = false
  out : (rdS N L n).2.reverse = ((List.range' (L.length - n) n).filter fun (j : Nat) => !mgb (rdS N L n).1 (j : Int)).map fun (j : Nat) => (j : Int)
  ds : ∀ u v d, IsD L u v d → IsD (usedF (rdS N L n).1 0 L) u v d
theorem rdI_zero : RdI N L 0 := ⟨fun p hp => by simp [rdS] at hp, fun j _ => rfl, by simp [rdS], fun u v d h => by simpa [rdS, usedF_nil] using h⟩
theorem idle_some (ha : AskL N.toNat L) (hn : NoNeg L) {es : List (Int × Bool)} (ht : allT es) {i : Nat} (hi : i < L.length) (hidle : idleF N.toNat L es i = true) : ∃ c, Ch (lk L i).1 c (lk L i).2.1 ∧ Sub c (usedF (lessF es i) 0 L) ∧ sumL c ≤ (lk L i).2.2 := by
  have hm := ha.ok.nd _ (lk_mem' hi)
  unfold idleF at hidle
  rcases Bool.or_eq_true _ _ ▸ hidle with h | h
  · obtain ⟨j, hj, hh⟩ := List.any_eq_true.1 h
    have hj := List.mem_range.1 hj
    obtain ⟨h1, h2, h3, h4, h5⟩ := of_decide_eq_true hh
    rw [mget_mgb2] at h2
    refine ⟨[lk L j], ⟨h4, h1⟩, fun x hx => ?_, by simp only [sumL]; omega⟩
    rw [List.mem_singleton.1 hx]
    exact used_mem0.2 ⟨j, hj, by rw [less_T ht, h2, decide_eq_false h3]; rfl, rfl⟩
  · have hle := of_decide_eq_true h
    have d := less_isD ha hn (lessF es i) hm.1 hm.2
    have hms := ha.ok.ms _ (lk_mem' hi)
    obtain ⟨c, c1, c2, c3⟩ := d.is (by unfold Fr; omega)
    exact ⟨c, c1, c2, by omega⟩
theorem rdI_step (ha : AskL N.toNat L) (hn : NoNeg L) {n : Nat} (hnl : n < L.length) (h : RdI N L n) : RdI N L (n + 1) := by
  have ei : Int.toNat ((L.length : Int) - 1 - (n : Int)) = L.length - 1 - n := by omega
  have ec : (L.length : Int) - 1 - (n : Int) = ((L.length - 1 - n : Nat) : Int) := by omega
  have hi : L.length - 1 - n < L.length := by omega
  have hlo := h.low (L.length - 1 - n) (by omega)
  have hr : List.range' (L.length - (n + 1)) (n + 1) = (L.length - 1 - n) :: List.range' (L.length - n) n := by
    rw [List.range'_succ, show L.length - (n + 1) = L.length - 1 - n by omega, show L.length - 1 - n + 1 = L.length - n by omega]
  cases k : idleF N.toNat L (rdS N L n).1 (Int.toNat ((L.length : Int) - 1 - (n : Int)))
  · have e := rdS_kept k
    refine ⟨by rw [e]; exact h.t, fun j hj => by rw [e]; exact h.low j (by omega), ?_, by rw [e]; exact h.ds⟩
    rw [e, hr, List.filter_cons, ec]
    show ((rdS N L n).2 ++ [((L.length - 1 - n : Nat) : Int)]).reverse = _
    rw [List.reverse_append, h.out]
    simp only [hlo, Bool.not_false, if_true]
    rfl
  · have e := rdS_idle k
    have hidle : idleF N.toNat L (rdS N L n).1 (L.length - 1 - n) = true := by rw [← ei]; exact k
    have hmg : ∀ j : Nat, mgb (mset (rdS N L n).1 ((L.length - 1 - n : Nat) : Int) true) (j : Int) = (decide (j = L.length - 1 - n) || mgb (rdS N L n).1 (j : Int)) := fun j => by
      rw [mset_mgb]
      congr 1
      rw [Bool.eq_iff_iff, beq_iff_eq, decide_eq_true_eq]; omega
    rw [ec] at e
    refine ⟨by rw [e]; exact mset_allT _ h.t, fun j hj => by rw [e]; show mgb (mset _ _ true) _ = false; rw [hmg, h.low j (by omega), decide_eq_false (by omega)]; rfl, ?_, fun u v d hd => ?_⟩
    · rw [e, hr, List.filter_cons]
      show (rdS N L n).2.reverse = _
      rw [h.out]
      have e1 : (!mgb (mset (rdS N L n).1 ((L.length - 1 - n : Nat) : Int) true) ((L.length - 1 - n : Nat) : Int)) = false := by rw [hmg, decide_eq_true rfl]; rfl
      rw [e1]
      simp only [Bool.false_eq_true, if_false]
      congr 1
      refine List.filter_congr fun j hj => ?_
      have := List.mem_range'_1.1 hj
      rw [hmg, decide_eq_false (by omega), Bool.false_or]
    · rw [e]
      show IsD (usedF (mset (rdS N L n).1 ((L.length - 1 - n : Nat) : Int) true) 0 L) u v d
      have eU : usedF (mset (rdS N L n).1 ((L.length - 1 - n : Nat) : Int) true) 0 L = usedF (lessF (rdS N L n).1 (L.length - 1 - n)) 0 L := used_congr (fun j => by rw [hmg, less_T h.t]) 0 L
      rw [eU]
      refine isD_drop (idle_some ha hn h.t hi hidle) (fun x hx => ?_) (fun x hx => ?_) (h.ds u v d hd)
      · obtain ⟨j, h1, h2, h3⟩ := used_mem0.1 hx
        by_cases hj : j = L.length - 1 - n
        · exact .inr (by rw [← h3, hj])
        · exact .inl (used_mem0.2 ⟨j, h1, by rw [less_T h.t, h2, decide_eq_false hj]; rfl, h3⟩)
      · obtain ⟨j, h1, h2, h3⟩ := used_mem0.1 hx
        rw [less_T h.t, Bool.or_eq_false_iff] at h2
        exact used_mem0.2 ⟨j, h1, h2.2, h3⟩
theorem rdI_all (ha : AskL N.toNat L) (hn : NoNeg L) : ∀ {n : Nat}, n ≤ L.length → RdI N L n
  | 0, _ => rdI_zero
  | n + 1, h => rdI_step ha hn (by omega) (rdI_all ha hn (by omega))
/-- What was left out stays out. -/
theorem rd_mono {n m : Nat} (hm : n ≤ m) {j : Int} (h : mgb (rdS N L m).1 j = false) : mgb (rdS N L n).1 j = false := by
  induction m with
  | zero => obtain rfl : n = 0 := by omega
            exact h
  | succ m ih =>
    rcases Nat.lt_or_ge m n with hh | hh
    · obtain rfl : n = m + 1 := by omega
      exact h
    · refine ih hh ?_
      cases k : idleF N.toNat L (rdS N L m).1 (Int.toNat ((L.length : Int) - 1 - (m : Int)))
      · rw [rdS_kept k] at h; exact h
      · rw [rdS_idle k] at h
        replace h : mgb (mset (rdS N L m).1 _ true) j = false := h
        rw [mset_mgb, Bool.or_eq_false_iff] at h
        exact h.2
/-- What is kept was not idle when it was looked at. -/
theorem rd_kept {i : Nat} (hi : i < L.length) (h : mgb (rdS N L L.length).1 (i : Int) = false) : idleF N.toNat L (rdS N L (L.length - 1 - i)).1 i = false := by
  have hs := rd_mono (show L.length - 1 - i + 1 ≤ L.length by omega) h
  have ei : Int.toNat ((L.length : Int) - 1 - ((L.length - 1 - i : Nat) : Int)) = i := by omega
  cases k : idleF N.toNat L (rdS N L (L.length - 1 - i)).1 i
  · rfl
  · exfalso
    rw [rdS_idle (by rw [ei]; exact k)] at hs
    replace hs : mgb (mset (rdS N L (L.length - 1 - i)).1 _ true) (i : Int) = false := hs
    rw [mset_mgb, Bool.or_eq_false_iff] at hs
    have := hs.1
    rw [beq_eq_false_iff_ne] at this
    exact this (by omega)
def rdM (N : Int) (L : List Lk) : List Lk := usedF (rdS N L L.length).1 0 L
/-- The indices of what is kept. -/
def rdX (N : Int) (L : List Lk) : List Nat := (List.range L.length).filter fun (j : Nat) => !mgb (rdS N L L.length).1 (j : Int)
theorem used_ix (es : List (Int × Bool)) : ∀ (i : Nat) (L : List Lk), usedF es i L = ((List.range L.length).filter fun j => !mgb es ((i + j : Nat) : Int)).map (lk L)
  | _, [] => rfl
  | i, l :: L => by
    rw [List.length_cons, List.range_succ_eq_map, List.filter_cons, usedF, used_ix es (i + 1) L]
    have e : ((List.range L.length).map Nat.succ).filter (fun j => !mgb es ((i + j : Nat) : Int)) = ((List.range L.length).filter fun j => !mgb es ((i + 1 + j : Nat) : Int)).map Nat.succ := by
      rw [List.filter_map]
      congr 1
      refine List.filter_congr fun j _ => ?_
      show (!mgb es ((i + (j + 1) : Nat) : Int)) = _
      rw [show i + (j + 1) = i + 1 + j by omega]
    rw [e, Nat.add_zero]
    have e2 : ∀ (I : List Nat), (I.map Nat.succ).map (lk (l :: L)) = I.map (lk L) := fun I => by
      rw [List.map_map]; exact List.map_congr_left fun j _ => rfl
    cases hm : mgb es (i : Int)
    · rw [if_neg (by simp), if_pos (by simp), List.map_cons, e2]; rfl
    · rw [if_pos rfl, if_neg (by simp), e2]
theorem rdM_ix : rdM N L = (rdX N L).map (lk L) := by
  unfold rdM rdX
  rw [used_ix]
  congr 1
  refine List.filter_congr fun j _ => ?_
  rw [Nat.zero_add]
theorem rdM_len : (rdM N L).length = (rdX N L).length := by rw [rdM_ix, List.length_map]
theorem rdM_lk {k : Nat} (h : k < (rdX N L).length) : lk (rdM N L) k = lk L ((rdX N L)[k]) := by
  have h2 : k < (rdM N L).length := by rw [rdM_len]; exact h
  have : lk (rdM N L) k = (rdM N L)[k] := by simp [lk, List.getD, h2]
  rw [this]
  simp only [rdM_ix, List.getElem_map]
theorem rdX_get {k : Nat} (h : k < (rdX N L).length) : (rdX N L)[k] < L.length ∧ mgb (rdS N L L.length).1 ((rdX N L)[k] : Int) = false := by
  have := List.mem_filter.1 (List.getElem_mem h)
  exact ⟨List.mem_range.1 this.1, by simpa using this.2⟩
theorem rdX_nodup : (rdX N L).Nodup := List.Nodup.sublist List.filter_sublist List.nodup_range
theorem rdM_sub : Sub (rdM N L) L := fun x hx => usedF_sub _ 0 L x hx
theorem rdM_check (hc : (checkF N L).1 = 0) : (checkF N (rdM N L)).1 = 0 := by
  obtain ⟨hn, hl, _⟩ := checkF_ok hc
  have hg := good_of hc
  have e : (rdM N L).any (badL N) = false := by
    rw [List.any_eq_false]
    intro x hx
    rw [hg x (rdM_sub x hx)]; simp
  have hlen : (rdM N L).length ≤ L.length := by
    rw [rdM_len]; unfold rdX; exact Nat.le_trans (List.length_filter_le _ _) (by simp)
  unfold checkF
  rw [if_neg (by omega), if_neg (by omega), ckL_any, e]
  rfl
/-- No link of what is kept is idle. -/
theorem rd_idle (ha : AskL N.toNat L) (hn : NoNeg L) (hb : AskL N.toNat (rdM N L)) {k : Nat} (hk : k < (rdM N L).length) : idleF N.toNat (rdM N L) [] k = false := by
  have hk' : k < (rdX N L).length := by rw [← rdM_len]; exact hk
  obtain ⟨i1, i2⟩ := rdX_get hk'
  have hkept := rd_kept i1 i2
  have hI := rdI_all (N := N) ha hn (show L.length - 1 - (rdX N L)[k] ≤ L.length by omega)
  have el := rdM_lk hk'
  have hm := ha.ok.nd _ (lk_mem' i1)
  unfold idleF at hkept
  rw [Bool.or_eq_false_iff] at hkept
  obtain ⟨no1, no2⟩ := hkept
  have nd := rdX_nodup (N := N) (L := L)
  have inj : ∀ {a b : Nat} (h1 : a < (rdX N L).length) (h2 : b < (rdX N L).length), (rdX N L)[a] = (rdX N L)[b] → a = b := fun {a b} h1 h2 e => by
    rcases Nat.lt_trichotomy a b with h | h | h
    · exact absurd e (List.pairwise_iff_getElem.1 nd a b h1 h2 h)
    · exact h
    · exact absurd e.symm (List.pairwise_iff_getElem.1 nd b a h2 h1 h)
  unfold idleF
  rw [Bool.or_eq_false_iff]
  constructor
  · rw [List.any_eq_false]
    intro j hj
    have hj := List.mem_range.1 hj
    have hj' : j < (rdX N L).length := by rw [← rdM_len]; exact hj
    obtain ⟨j1, j2⟩ := rdX_get hj'
    intro hh
    obtain ⟨h1, _, h3, h4, h5⟩ := of_decide_eq_true hh
    rw [rdM_lk hj', el] at h1 h4 h5
    have := List.any_eq_false.1 no1 ((rdX N L)[j]) (List.mem_range.2 j1)
    exact this (decide_eq_true ⟨h1, by rw [mget_mgb2]; exact rd_mono (by omega) j2, fun e => h3 (inj hj' hk' e), h4, h5⟩)
  · rw [el]
    have d1 := less_isD ha hn (lessF (rdS N L (L.length - 1 - (rdX N L)[k])).1 (rdX N L)[k]) hm.1 hm.2
    have d2 := less_isD hb (noneg_sub hn rdM_sub) (lessF [] k) hm.1 hm.2
    have hlt := of_decide_eq_false no2
    refine decide_eq_false fun hle => hlt ?_
    have hms := ha.ok.ms _ (lk_mem' i1)
    obtain ⟨c, c1, c2, c3⟩ := d2.is (by unfold Fr; omega)
    have := d1.le c c1 fun x hx => by
      obtain ⟨p, p1, p2, p3⟩ := used_mem0.1 (c2 x hx)
      have p1' : p < (rdX N L).length := by rw [← rdM_len]; exact p1
      obtain ⟨q1, q2⟩ := rdX_get p1'
      rw [less_T (fun p hp => by cases hp), Bool.or_eq_false_iff] at p2
      refine used_mem0.2 ⟨(rdX N L)[p], q1, ?_, by rw [← rdM_lk p1', p3]⟩
      rw [less_T hI.t, rd_mono (by omega) q2, decide_eq_false fun e => of_decide_eq_false p2.1 (inj p1' hk' e)]
      rfl
    omega
theorem rd_con (ha : AskL N.toNat L) (hn : NoNeg L) (hb : AskL N.toNat (rdM N L)) : conB N (rdM N L) = true := (con_iff hb).2 (noneg_sub hn rdM_sub)
theorem rd_d (ha : AskL N.toNat L) (hn : NoNeg L) (hb : AskL N.toNat (rdM N L)) {a b : Int} (h1 : inN N.toNat a) (h2 : inN N.toNat b) : dB N (rdM N L) a b = dB N L a b :=
  (bd_isD hb (noneg_sub hn rdM_sub) h1 h2).1.uniq ((rdI_all ha hn (Nat.le_refl _)).ds a b _ (bd_isD ha hn h1 h2).1)
theorem rd_tg (h : askF N L [] = 0) : tgF N (rdM N L) = tgF N L ∧ askF N (rdM N L) [] = 0 := by
  obtain ⟨c1, _, c3⟩ := ask_iff.1 h
  have ha := ask_of c1
  have hc' := rdM_check c1
  have hb := ask_of hc'
  have hn := (con_iff ha).1 c3
  have h' : askF N (rdM N L) [] = 0 := ask_iff.2 ⟨hc', rfl, rd_con ha hn hb⟩
  refine ⟨?_, h'⟩
  rw [tgF1 (by rw [h']; rfl), tgF1 (by rw [h]; rfl)]
  have : tgL N (rdM N L) N.toNat = tgL N L N.toNat := sq_ext (tg_sq hb) (tg_sq ha) fun a b h1 h2 => by
    rw [tg_tb h1, tg_tb h1]; exact rd_d ha hn hb h1 h2
  rw [this]
theorem rd_id (h : askF N L [] = 0) : idF N (rdM N L) = ([], 0) := by
  obtain ⟨c1, _, c3⟩ := ask_iff.1 h
  have ha := ask_of c1
  have hb := ask_of (rdM_check c1)
  have hn := (con_iff ha).1 c3
  rw [id1 (by rw [(rd_tg h).2]; rfl)]
  have : idL N (rdM N L) (rdM N L).length = [] := by
    unfold idL
    rw [List.filter_eq_nil_iff.2 fun k hk => by rw [rd_idle ha hn hb (List.mem_range.1 hk)]; simp]
    rfl
  rw [this]
/-! ### What the law leaves out -/
theorem rd_out (h : askF N L [] = 0) : (rdF N L).1 = (rdX N L).map (fun (j : Nat) => (j : Int)) := by
  obtain ⟨c1, _, c3⟩ := ask_iff.1 h
  have ha := ask_of c1
  have hn := (con_iff ha).1 c3
  rw [rd1 (by rw [h]; rfl)]
  show (rdS N L L.length).2.reverse = _
  rw [(rdI_all ha hn (Nat.le_refl _)).out, Nat.sub_self]
  unfold rdX
  rw [List.range_eq_range']
theorem hasB_iff {n : Int} : ∀ {I : List Int}, hasB I n = true ↔ n ∈ I
  | [] => by simp [hasB]
  | x :: I => by
    rw [hasB, List.mem_cons]
    by_cases e : x = n
    · rw [if_pos e]; simp [e]
    · rw [if_neg e, hasB_iff]
      constructor
      · exact .inr
      · rintro (h | h)
        · exact absurd h.symm e
        · exact h
def goL (X : List Int) (i : Nat) : List Int := ((List.range i).filter fun (j : Nat) => !hasB X (j : Int)).map fun (j : Nat) => (j : Int)
theorem go_zero {X : List Int} : [] = goL X 0 := rfl
theorem go_has {X : List Int} {i : Nat} (h : hasB X (i : Int) = true) : goL X i = goL X (i + 1) := by unfold goL; rw [List.range_succ, List.filter_append]; simp [h]
theorem go_put {X : List Int} {i : Nat} (h : hasB X (i : Int) = false) : goL X i ++ [(i : Int)] = goL X (i + 1) := by unfold goL; rw [List.range_succ, List.filter_append]; simp [h]
theorem go_len {X : List Int} {i : Nat} : (goL X i).length ≤ i := by unfold goL; rw [List.length_map]; exact Nat.le_trans (List.length_filter_le _ _) (by simp)
theorem keep_used {I : List Int} {es : List (Int × Bool)} : ∀ {L : List Lk} {k : Nat}, (∀ j, k ≤ j → j < k + L.length → hasB I (j : Int) = mgb es (j : Int)) → keepL I k L = usedF es k L
  | [], _, _ => rfl
  | l :: L, k, h => by
    rw [keepL, usedF, h k (Nat.le_refl _) (by simp), keep_used fun j h1 h2 => h j (by omega) (by simp; omega)]
theorem rd_keep (h : askF N L [] = 0) : keepL (goL (rdF N L).1 L.length) 0 L = rdM N L := by
  refine keep_used fun j _ hj => ?_
  rw [Nat.zero_add] at hj
  rw [Bool.eq_iff_iff, hasB_iff]
  unfold goL
  rw [rd_out h, List.mem_map]
  have hx : hasB ((rdX N L).map fun (j : Nat) => (j : Int)) (j : Int) = true ↔ mgb (rdS N L L.length).1 (j : Int) = false := by
    rw [hasB_iff, List.mem_map]
    constructor
    · rintro ⟨a, h1, h2⟩
      obtain rfl : a = j := by omega
      have := List.mem_filter.1 h1
      simpa using this.2
    · intro h2
      exact ⟨j, List.mem_filter.2 ⟨List.mem_range.2 hj, by simpa using h2⟩, rfl⟩
  constructor
  · rintro ⟨a, h1, h2⟩
    obtain rfl : a = j := by omega
    have h3 := (List.mem_filter.1 h1).2
    cases hb : mgb (rdS N L L.length).1 (a : Int)
    · rw [hx.2 hb] at h3; cases h3
    · rfl
  · intro h2
    refine ⟨j, List.mem_filter.2 ⟨List.mem_range.2 hj, ?_⟩, rfl⟩
    cases hb : hasB ((rdX N L).map fun (j : Nat) => (j : Int)) (j : Int)
    · rfl
    · rw [hx.1 hb] at h2; cases h2
end

def lightB (N : Int) (L : List Lk) : Bool := decide (L.length ≤ 45) && decide (N ≤ 14)
def c29 : Ctr := fS (fun _ _ => []) (fun N L => bl (lightB N L))
theorem c29_ok : Ctr.Ok Try.prog Γ 29 c29 := fS_ok (d := 0) (prog_ok CsOk.nil BsOk.nil false 0) (body_of Try.func29 rfl rfl) (fun _ _ => rfl) (by
  intro N L _
  unfold lightB
  repeat' ((conv => whnf); (first | apply And.intro | intro _))
  all_goals try (conv => whnf)
  all_goals subst_vars
  all_goals simp only [decide_eq_true_eq, decide_eq_false_iff_not] at *
  · rw [decide_eq_true (show L.length ≤ 45 by omega)]; rfl
  · rw [decide_eq_false (show ¬ L.length ≤ 45 by omega)]; rfl)
theorem light_len {N : Int} {L : List Lk} (h : (!lightB N L) = false) : L.length ≤ 45 := by
  unfold lightB at h
  simp only [Bool.not_eq_false', Bool.and_eq_true, decide_eq_true_eq] at h
  exact h.1
end Go.Proofs.Ytlmhkeoblgodiaa
end

section
/-
  Chapter 2: the plain law of ChainMatters.
-/
namespace Go.Proofs.Ytlmhkeoblgodiaa
open Go Go.Sy Go.Chn
set_option linter.unusedVariables false
set_option linter.unusedSimpArgs false
/-- Is a system consistent without a link? By the program, and by the specification. -/
def usB (N : Int) (L : List Lk) (i : Nat) : Bool := (relaxF N.toNat L [((i : Int), true)] (List.replicate N.toNat 0)).1
def suL (N : Int) (L : List Lk) (i : Nat) : List Int := ((List.range i).filter fun k => usB N L k).map fun (k : Nat) => (k : Int)
def suF (N : Int) (L : List Lk) : List Int × Int := if (conF N L).2 ≠ 0 ∨ (conF N L).1 = true then ([], (conF N L).2) else (suL N L L.length, 0)
def rsL (N : Int) (L : List Lk) (i : Nat) : List Int := ((List.range i).filter fun (k : Nat) => conB N (keepL [(k : Int)] 0 L)).map fun (k : Nat) => (k : Int)
def rsF (N : Int) (L : List Lk) : List Int := if conB N L = true then [] else rsL N L L.length
/-- Are the bounds the same without some links? -/
def smB (N : Int) (L : List Lk) (I : List Int) : Bool := decide ((rtF N L).1 = (rtF N (keepL I 0 L)).1)
def riL (N : Int) (L : List Lk) (i : Nat) : List Int := ((List.range i).filter fun (k : Nat) => smB N L [(k : Int)]).map fun (k : Nat) => (k : Int)
/-- What the specification leaves out when n links were looked at from the last one on. -/
def rgS (N : Int) (L : List Lk) : Nat → List Int
  | 0 => []
  | n + 1 => if smB N L (((L.length : Int) - 1 - (n : Int)) :: rgS N L n) = true then ((L.length : Int) - 1 - (n : Int)) :: rgS N L n else rgS N L n
section
variable {N : Int} {L : List Lk} {i n : Nat} {I : List Int} {es : List (Int × Bool)}
theorem su_zero : [] = suL N L 0 := rfl
theorem su_skip (h : usB N L i = false) : suL N L i = suL N L (i + 1) := by unfold suL; rw [List.range_succ, List.filter_append]; simp [h]
theorem su_put (h : usB N L i = true) : suL N L i ++ [(i : Int)] = suL N L (i + 1) := by unfold suL; rw [List.range_succ, List.filter_append]; simp [h]
theorem su_len : (suL N L i).length ≤ i := by unfold suL; rw [List.length_map]; exact Nat.le_trans (List.length_filter_le _ _) (by simp)
theorem su0 (h : ((conF N L).2 != 0) = true) : suF N L = ([], (conF N L).2) := by unfold suF; rw [if_pos (.inl (by simpa using h))]
theorem su1 (h : (conF N L).1 = true) : suF N L = ([], (conF N L).2) := by unfold suF; rw [if_pos (.inr h)]
theorem su2 (h : ((conF N L).2 != 0) = false) (h1 : (conF N L).1 = false) : suF N L = (suL N L L.length, 0) := by
  unfold suF
  rw [if_neg]
  rintro (c | c)
  · rw [bne_eq_false_iff_eq] at h; exact c h
  · rw [h1] at c; cases c
theorem rs_zero : [] = rsL N L 0 := rfl
theorem rs_skip (h : conB N (keepL [(i : Int)] 0 L) = false) : rsL N L i = rsL N L (i + 1) := by unfold rsL; rw [List.range_succ, List.filter_append]; simp [h]
theorem rs_put (h : conB N (keepL [(i : Int)] 0 L) = true) : rsL N L i ++ [(i : Int)] = rsL N L (i + 1) := by unfold rsL; rw [List.range_succ, List.filter_append]; simp [h]
theorem rs_len : (rsL N L i).length ≤ i := by unfold rsL; rw [List.length_map]; exact Nat.le_trans (List.length_filter_le _ _) (by simp)
theorem ri_zero : [] = riL N L 0 := rfl
theorem ri_skip (h : smB N L [(i : Int)] = false) : riL N L i = riL N L (i + 1) := by unfold riL; rw [List.range_succ, List.filter_append]; simp [h]
theorem ri_put (h : smB N L [(i : Int)] = true) : riL N L i ++ [(i : Int)] = riL N L (i + 1) := by unfold riL; rw [List.range_succ, List.filter_append]; simp [h]
theorem ri_len : (riL N L i).length ≤ i := by unfold riL; rw [List.length_map]; exact Nat.le_trans (List.length_filter_le _ _) (by simp)
theorem rgS_put (h : smB N L (((L.length : Int) - 1 - (n : Int)) :: rgS N L n) = true) : rgS N L (n + 1) = ((L.length : Int) - 1 - (n : Int)) :: rgS N L n := by rw [rgS, if_pos h]
theorem rgS_skip (h : smB N L (((L.length : Int) - 1 - (n : Int)) :: rgS N L n) = false) : rgS N L (n + 1) = rgS N L n := by rw [rgS, if_neg (by rw [h]; simp)]
theorem rgS_len : ∀ {n : Nat}, (rgS N L n).length ≤ n
  | 0 => Nat.le_refl _
  | n + 1 => by
    have ih := rgS_len (n := n)
    rw [rgS]; split
    · simp; omega
    · omega
/-! ### A system without some links -/
theorem keep_mem {x : Lk} : ∀ {L : List Lk} {k : Nat}, x ∈ keepL I k L → x ∈ L
  | [], _, h => by simp [keepL] at h
  | l :: L, k, h => by
    rw [keepL] at h
    split at h
    · exact List.mem_cons_of_mem _ (keep_mem h)
    · rcases List.mem_cons.1 h with rfl | h
      · simp
      · exact List.mem_cons_of_mem _ (keep_mem h)
theorem keep_ask (ha : AskL N.toNat L) : AskL N.toNat (keepL I 0 L) :=
  ⟨ha.n, Nat.le_trans keep_len ha.l, ha.ok.sub fun x hx => keep_mem hx⟩
/-! ### Suspects -/
theorem us_con (ha : AskL N.toNat L) : usB N L i = conB N (keepL [(i : Int)] 0 L) := by
  have hk : keepL [(i : Int)] 0 L = usedF [((i : Int), true)] 0 L := keep_used fun j _ _ => by
    simp only [hasB, mgb]
    by_cases e : (i : Int) = (j : Int)
    · rw [if_pos e, e, beq_self_eq_true]
    · rw [if_neg e, beq_false_of_ne e]
  have ha' := keep_ask (I := [(i : Int)]) ha
  have hf := relax_found (es := [((i : Int), true)]) ha.ok (zero_beg N.toNat)
  rw [Bool.eq_iff_iff, con_iff ha', hk]
  unfold usB
  constructor
  · intro h
    exact Post.noNeg (fun v hv => gi_rep N.toNat 0 hv) (hf.yes h).1 fun l hl => ha.ok.nd l (usedF_sub _ 0 L l hl)
  · intro h
    cases hb : (relaxF N.toNat L [((i : Int), true)] (List.replicate N.toNat 0)).1 with
    | true => rfl
    | false => exact (hf.no hb h).elim
theorem su_rs (ha : AskL N.toNat L) : suL N L i = rsL N L i := by
  unfold suL rsL
  rw [List.filter_congr fun j _ => us_con ha]
theorem suF_rsF (hc : (checkF N L).1 = 0) : suF N L = (rsF N L, 0) := by
  have ha := ask_of hc
  have hf := conF1 (N := N) (L := L) (by rw [hc]; rfl)
  unfold rsF
  cases k : conB N L
  · rw [su2 (by rw [hf]; rfl) (by rw [hf]; exact k), su_rs ha]; simp
  · rw [su1 (by rw [hf]; exact k), hf]; simp
/-! ### Idle links -/
theorem isD_used (ha : AskL N.toNat L) (hn : NoNeg L) (es : List (Int × Bool)) {u v : Int} (hu : inN N.toNat u) (hv : inN N.toNat v) : IsD (usedF es 0 L) u v (gi (boundsF N.toNat L es u) v) := less_isD ha hn es hu hv
theorem used_ask (ha : AskL N.toNat L) : AskL N.toNat (usedF es 0 L) := by
  refine ⟨ha.n, Nat.le_trans ?_ ha.l, ha.ok.sub fun x hx => usedF_sub es 0 L x hx⟩
  rw [used_ix, List.length_map]
  exact Nat.le_trans (List.length_filter_le _ _) (by simp)
theorem tg_smB {M M' : List Lk} (ha : AskL N.toNat M) (ha' : AskL N.toNat M') (hn : NoNeg M) (hn' : NoNeg M') : tgL N M N.toNat = tgL N M' N.toNat ↔ ∀ u v, inN N.toNat u → inN N.toNat v → ∀ d, IsD M u v d → IsD M' u v d := by
  constructor
  · intro h u v hu hv d hd
    have e : dB N M u v = dB N M' u v := by rw [← tg_tb hu, ← tg_tb hu, h]
    rw [hd.uniq (bd_isD ha hn hu hv).1, e]
    exact (bd_isD ha' hn' hu hv).1
  · intro h
    refine sq_ext (tg_sq ha) (tg_sq ha') fun a b h1 h2 => ?_
    rw [tg_tb h1, tg_tb h1]
    exact (h a b h1 h2 _ (bd_isD ha hn h1 h2).1).uniq (bd_isD ha' hn' h1 h2).1
/-- A link is idle, besides others, exactly if the bounds stay the same without it. -/
theorem idle_same (ha : AskL N.toNat L) (hn : NoNeg L) (ht : allT es) (hi : i < L.length) (hm : mgb es (i : Int) = false) : idleF N.toNat L es i = decide (tgL N (usedF es 0 L) N.toNat = tgL N (usedF (lessF es i) 0 L) N.toNat) := by
  have hU : Sub (usedF (lessF es i) 0 L) (usedF es 0 L) := fun x hx => by
    obtain ⟨j, h1, h2, h3⟩ := used_mem0.1 hx
    rw [less_T ht, Bool.or_eq_false_iff] at h2
    exact used_mem0.2 ⟨j, h1, h2.2, h3⟩
  have n1 : NoNeg (usedF es 0 L) := noneg_sub hn fun x hx => usedF_sub es 0 L x hx
  have n2 : NoNeg (usedF (lessF es i) 0 L) := noneg_sub n1 hU
  have hmd := ha.ok.nd _ (lk_mem' hi)
  have hms := ha.ok.ms _ (lk_mem' hi)
  rw [Bool.eq_iff_iff, decide_eq_true_eq, tg_smB (used_ask ha) (used_ask ha) n1 n2]
  constructor
  · intro h u v hu hv d hd
    refine isD_drop (idle_some ha hn ht hi h) (fun x hx => ?_) hU hd
    obtain ⟨j, h1, h2, h3⟩ := used_mem0.1 hx
    by_cases hj : j = i
    · exact .inr (by rw [← h3, hj])
    · exact .inl (used_mem0.2 ⟨j, h1, by rw [less_T ht, h2, decide_eq_false hj]; rfl, h3⟩)
  · intro h
    have d1 := (bd_isD (used_ask (es := es) ha) n1 hmd.1 hmd.2).1
    have d2 := h _ _ hmd.1 hmd.2 _ d1
    have d3 := less_isD ha hn (lessF es i) hmd.1 hmd.2
    have e := d3.uniq d2
    have hin : lk L i ∈ usedF es 0 L := used_mem0.2 ⟨i, hi, hm, rfl⟩
    have hle := d1.le [lk L i] ⟨rfl, rfl⟩ fun x hx => by rw [List.mem_singleton.1 hx]; exact hin
    simp only [sumL] at hle
    unfold idleF
    rw [Bool.or_eq_true]
    refine .inr (decide_eq_true ?_)
    rw [e]
    omega
theorem smB_con {M : List Lk} (hM : M = keepL I 0 L) (ha : AskL N.toNat L) (hc : conB N L = true) : smB N L I = decide (tgL N L N.toNat = tgL N M N.toNat) := by
  have ha' := keep_ask (I := I) ha
  have hn := (con_iff ha).1 hc
  have hc' : conB N (keepL I 0 L) = true := (con_iff ha').2 (noneg_sub hn fun x hx => keep_mem hx)
  unfold smB
  rw [rt1 hc, rt1 hc', hM]
theorem idle_ri (ha : AskL N.toNat L) (hc : conB N L = true) (hi : i < L.length) : idleF N.toNat L [] i = smB N L [(i : Int)] := by
  have hn := (con_iff ha).1 hc
  have hT : allT [] := fun p hp => by cases hp
  rw [idle_same ha hn hT hi rfl, smB_con (M := usedF (lessF [] i) 0 L) ?_ ha hc, usedF_nil]
  refine (keep_used fun j _ _ => ?_).symm
  rw [less_T hT, hasB, hasB]
  by_cases e : (i : Int) = (j : Int)
  · rw [if_pos e, decide_eq_true (by omega)]; rfl
  · rw [if_neg e, decide_eq_false (by omega)]; rfl
theorem id_ri (ha : AskL N.toNat L) (hc : conB N L = true) : idL N L L.length = riL N L L.length := by
  unfold idL riL
  rw [List.filter_congr fun j hj => idle_ri ha hc (List.mem_range.1 hj)]
/-! ### Reduce -/
theorem rg_step (ha : AskL N.toNat L) (hc : conB N L = true) : ∀ {n : Nat}, n ≤ L.length → (∀ j : Nat, hasB (rgS N L n) (j : Int) = mgb (rdS N L n).1 (j : Int)) ∧ tgL N L N.toNat = tgL N (usedF (rdS N L n).1 0 L) N.toNat
  | 0, _ => ⟨fun j => rfl, by rw [show (rdS N L 0).1 = [] from rfl, usedF_nil]⟩
  | n + 1, h => by
    obtain ⟨h1, h2⟩ := rg_step ha hc (n := n) (by omega)
    have hn := (con_iff ha).1 hc
    have hI := rdI_all (N := N) ha hn (show n ≤ L.length by omega)
    have ei : Int.toNat ((L.length : Int) - 1 - (n : Int)) = L.length - 1 - n := by omega
    have ec : (L.length : Int) - 1 - (n : Int) = ((L.length - 1 - n : Nat) : Int) := by omega
    have hi : L.length - 1 - n < L.length := by omega
    have hlo := hI.low (L.length - 1 - n) (by omega)
    have hk : keepL (((L.length - 1 - n : Nat) : Int) :: rgS N L n) 0 L = usedF (lessF (rdS N L n).1 (L.length - 1 - n)) 0 L := keep_used fun j _ _ => by
      rw [less_T hI.t, hasB, h1]
      by_cases e : ((L.length - 1 - n : Nat) : Int) = (j : Int)
      · rw [if_pos e, decide_eq_true (by omega)]; rfl
      · rw [if_neg e, decide_eq_false (by omega)]; rfl
    have hs := idle_same ha hn hI.t hi hlo
    rw [← h2, ← smB_con hk.symm ha hc] at hs
    have hmg : ∀ j : Nat, mgb (mset (rdS N L n).1 ((L.length - 1 - n : Nat) : Int) true) (j : Int) = (decide (j = L.length - 1 - n) || mgb (rdS N L n).1 (j : Int)) := fun j => by
      rw [mset_mgb]
      congr 1
      rw [Bool.eq_iff_iff, beq_iff_eq, decide_eq_true_eq]; omega
    cases k : smB N L (((L.length - 1 - n : Nat) : Int) :: rgS N L n)
    · rw [k] at hs
      rw [rdS_kept (by rw [ei]; exact hs), rgS_skip (by rw [ec]; exact k)]
      exact ⟨h1, h2⟩
    · rw [k] at hs
      rw [rdS_idle (by rw [ei]; exact hs), rgS_put (by rw [ec]; exact k), ec]
      refine ⟨fun j => ?_, ?_⟩
      · show hasB (_ :: _) _ = mgb (mset _ _ true) _
        rw [hmg, hasB, h1]
        by_cases e : ((L.length - 1 - n : Nat) : Int) = (j : Int)
        · rw [if_pos e, decide_eq_true (by omega)]; rfl
        · rw [if_neg e, decide_eq_false (by omega)]; rfl
      · rw [smB_con hk.symm ha hc] at k
        show _ = tgL N (usedF (mset (rdS N L n).1 ((L.length - 1 - n : Nat) : Int) true) 0 L) N.toNat
        have eU : usedF (mset (rdS N L n).1 ((L.length - 1 - n : Nat) : Int) true) 0 L = usedF (lessF (rdS N L n).1 (L.length - 1 - n)) 0 L := used_congr (fun j => by rw [hmg, less_T hI.t]) 0 L
        rw [eU]
        exact of_decide_eq_true k
def rgF (N : Int) (L : List Lk) : List Int := goL (rgS N L L.length) L.length
theorem rd_rg (h : askF N L [] = 0) : (rdF N L).1 = rgF N L := by
  obtain ⟨c1, _, c3⟩ := ask_iff.1 h
  have ha := ask_of c1
  rw [rd_out h]
  unfold rgF goL rdX
  have e : ∀ j ∈ List.range L.length, (!mgb (rdS N L L.length).1 (j : Int)) = (!hasB (rgS N L L.length) (j : Int)) := fun j hj => by rw [(rg_step ha c3 (Nat.le_refl _)).1 j]
  rw [List.filter_congr e]
end
end Go.Proofs.Ytlmhkeoblgodiaa
end

section
/-
  Chapter 2: Suspects; the specification's Suspects and Idle. Printed by gen79.py.
-/
namespace Go.Proofs.Ytlmhkeoblgodiaa
open Go Go.Sy Go.Chn
set_option maxRecDepth 100000
set_option maxHeartbeats 4000000
set_option linter.unusedVariables false
set_option linter.unusedSimpArgs false
variable {Γ : Glob}
def L31 : List (Nat × Ctr) := [(24, c24), (65, c65)]
theorem L31_ok : CsOk Try.prog Γ L31 := ((CsOk.nil.cons (body_of Try.func65 rfl rfl).fn c65_ok).cons (body_of Try.func24 rfl rfl).fn c24_ok)
theorem klX {te : TypeId} {tg : List CK} (htg : tg ≠ []) {K : Res → Prop} {x : Tm} {st : St} (hK : K ⟨[.arr te tg [] true true], .a (.sl 0 [] 0 0)⟩) (hx : x.mapA (At.vd st.rg.length) = .a (.sl st.rg.length [] 0 0)) : resW K x st := by
  refine .void te tg htg ?_
  rw [hx]
  refine .base ⟨_, [st.rg.length], hK, ⟨?_, rfl, by simp, trivial⟩, rfl, ?_⟩
  · simp [St.push, List.getD]
  · exact ⟨rfl, rfl, rfl, rfl⟩
theorem conF_t {N : Int} {L : List Lk} (h : ((conF N L).2 != 0) = false) : (checkF N L).1 = 0 := by
  by_cases h2 : (checkF N L).1 = 0
  · exact h2
  · rw [conF0 (by simpa using h2)] at h
    simp only [bne_eq_false_iff_eq] at h
    exact absurd h h2
theorem rt_len {N : Int} {L : List Lk} (ha : AskL N.toNat L) : (rtF N L).1.length ≤ 60 := by
  unfold rtF; split
  · show (tgL N L N.toNat).length ≤ 60; rw [tg_len]; exact ha.n.2
  · exact Nat.zero_le _
theorem rt_rows {N : Int} {L : List Lk} (ha : AskL N.toNat L) : rowsM (rtF N L).1 := by
  unfold rtF; split
  · intro r hr
    obtain ⟨u, hu, rfl⟩ := List.mem_map.1 hr
    rw [bd_len ha ⟨by omega, by have := List.mem_range.1 hu; omega⟩]
    have := ha.n; omega
  · exact fun r hr => by cases hr
attribute [local irreducible] gi lk checkF conF conB relaxF usB suL suF solF
def c31 : Ctr := newS (fun _ L => [(Duty.of (L.length ≤ 1000000))]) (fun N L => ⟨[.arr 3 kI (suF N L).1 true true], .tup [.a (.sl 0 [] 0 (suF N L).1.length), .a (vI (suF N L).2)]⟩)
theorem c31_ok : Ctr.Ok Try.prog Γ 31 c31 := newS_ok (d := 0) (prog_ok L31_ok BsOk.nil false 0) (body_of Try.func31 rfl rfl) (by
  intro N L K ⟨hL, _⟩ hK
  simp only [Duty.of_p] at hL
  by_cases hq : ((conF N L).2 != 0) = true
  · repeat' ((conv => whnf); (first | apply And.intro | (intro h9; first | (have h8 : (_ : Bool) = false := h9; exfalso; clear h8; revert h9; subst_vars; intro h9; exact ft_no (h9.symm.trans (by assumption))) | (have h8 : (_ : Bool) = true := h9; exfalso; clear h8; revert h9; subst_vars; intro h9; exact tf_no (h9.symm.trans (by assumption))) | skip)))
    all_goals try (conv => whnf)
    all_goals try first
      | exact LexB.mk (by kernel_rfl)
      | exact LexG.mk (by kernel_rfl)
      | exact LexT.mk (by kernel_rfl)
      | exact Forced.mk (by kernel_rfl)
      | exact LexP.mk (by kernel_rfl)
      | exact ForcedP.mk (by kernel_rfl)
      | exact ⟨Nat.le_of_ble_eq_true rfl⟩
      | exact ⟨rfl⟩
      | exact ⟨trivial⟩
    all_goals subst_vars
    all_goals try first
      | rfl
      | contradiction
      | (refine Ob.mk ?_; simp only [inRQ, inR, Duty.of_p]; omega)
    all_goals try first
      | exact ⟨show L.length ≤ 1000000 by omega⟩
      | exact ⟨show L.length ≤ 1099511627776 by omega⟩
    all_goals (exact klE (te := 3) (tg := kI) (by simp [kI]) (by rw [su0 hq] at hK; exact hK) rfl)
  replace hq : ((conF N L).2 != 0) = false := by simpa using hq
  have c1 := conF_t hq
  have ha := ask_of c1
  have hN := toNat_of c1
  by_cases hb : (conF N L).1 = true
  · repeat' ((conv => whnf); (first | apply And.intro | (intro h9; first | (have h8 : (_ : Bool) = false := h9; exfalso; clear h8; revert h9; subst_vars; intro h9; exact ft_no (h9.symm.trans (by assumption))) | (have h8 : (_ : Bool) = true := h9; exfalso; clear h8; revert h9; subst_vars; intro h9; exact tf_no (h9.symm.trans (by assumption))) | skip)))
    all_goals try (conv => whnf)
    all_goals try first
      | exact LexB.mk (by kernel_rfl)
      | exact LexG.mk (by kernel_rfl)
      | exact LexT.mk (by kernel_rfl)
      | exact Forced.mk (by kernel_rfl)
      | exact LexP.mk (by kernel_rfl)
      | exact ForcedP.mk (by kernel_rfl)
      | exact ⟨Nat.le_of_ble_eq_true rfl⟩
      | exact ⟨rfl⟩
      | exact ⟨trivial⟩
    all_goals subst_vars
    all_goals try first
      | rfl
      | contradiction
      | (refine Ob.mk ?_; simp only [inRQ, inR, Duty.of_p]; omega)
    all_goals try first
      | exact ⟨show L.length ≤ 1000000 by omega⟩
      | exact ⟨show L.length ≤ 1099511627776 by omega⟩
    all_goals (exact klE (te := 3) (tg := kI) (by simp [kI]) (by rw [su1 hb] at hK; exact hK) rfl)
  replace hb : (conF N L).1 = false := by simpa using hb
  rw [su2 hq hb] at hK
  repeat' ((conv => whnf); (first | apply And.intro | (intro h9; first | (have h8 : (_ : Bool) = false := h9; exfalso; clear h8; revert h9; subst_vars; intro h9; exact ft_no (h9.symm.trans (by assumption))) | (have h8 : (_ : Bool) = true := h9; exfalso; clear h8; revert h9; subst_vars; intro h9; exact tf_no (h9.symm.trans (by assumption))) | skip)))
  all_goals try (conv => whnf)
  all_goals try first
    | exact LexB.mk (by kernel_rfl)
    | exact LexG.mk (by kernel_rfl)
    | exact LexT.mk (by kernel_rfl)
    | exact Forced.mk (by kernel_rfl)
    | exact LexP.mk (by kernel_rfl)
    | exact ForcedP.mk (by kernel_rfl)
    | exact ⟨Nat.le_of_ble_eq_true rfl⟩
    | exact ⟨rfl⟩
    | exact ⟨trivial⟩
  all_goals subst_vars
  all_goals try first
    | rfl
    | contradiction
    | (refine Ob.mk ?_; simp only [inRQ, inR, Duty.of_p]; omega)
  all_goals try first
    | exact ⟨show L.length ≤ 1000000 by omega⟩
    | exact ⟨show L.length ≤ 1099511627776 by omega⟩
  refine ⟨Nat, fun i => i ≤ L.length, fun i => ⟨slotsT 42 [1, 6, 23, 24] [.a (.p 1 [] 0 0), .a (.sl 2 [] 0 (suL N L i).length), .a (vI L.length), .a (vI i)], [], [.arr 44 kL L false false, .box true [vI N, .sl 0 [] 0 L.length], .arr 3 kI (suL N L i) true true]⟩, fun i => L.length - i, 0, [0, 1, 1000], Nat.zero_le _, ?_, ?_⟩
  · have e0 : [] = suL N L 0 := by unfold suL; rfl
    have e1 : (suL N L 0).length = 0 := by rw [← e0]; rfl
    subst_vars
    repeat' ((conv => whnf); (first | apply And.intro | intro _))
    all_goals first | rfl | trivial | exact Nat.le_of_ble_eq_true rfl | exact ⟨rfl, rfl, rfl⟩ | exact ⟨rfl, rfl, rfl, rfl⟩ | exact ⟨rfl, rfl⟩ | exact e0 | exact e0.symm | exact e1 | exact e1.symm | exact ⟨rfl, rfl, e0⟩
  rintro i hi
  have il := su_len (N := N) (L := L) (i := i)
  have hll := ha.l
  by_cases hi1 : i < L.length
  · have p0 : decide ((i : Int) < (L.length : Int)) = true := decide_eq_true (by omega)
    cases k : usB N L i
    · have e1 := su_skip k
      unfold usB at k
      repeat' ((conv => whnf); (first | apply And.intro | (intro h9; first | (have h8 : (_ : Bool) = false := h9; exfalso; clear h8; revert h9; subst_vars; intro h9; exact ft_no (h9.symm.trans (by assumption))) | (have h8 : (_ : Bool) = true := h9; exfalso; clear h8; revert h9; subst_vars; intro h9; exact tf_no (h9.symm.trans (by assumption))) | skip)))
      all_goals try (conv => whnf)
      all_goals try first
        | exact LexB.mk (by kernel_rfl)
        | exact LexG.mk (by kernel_rfl)
        | exact LexT.mk (by kernel_rfl)
        | exact Forced.mk (by kernel_rfl)
        | exact LexP.mk (by kernel_rfl)
        | exact ForcedP.mk (by kernel_rfl)
        | exact ⟨Nat.le_of_ble_eq_true rfl⟩
        | exact ⟨rfl⟩
        | exact ⟨trivial⟩
      all_goals subst_vars
      all_goals try first
        | rfl
        | contradiction
        | (refine Ob.mk ?_; simp only [inRQ, inR, Duty.of_p]; omega)
      all_goals try first
        | exact ⟨show L.length ≤ 1000000 by omega⟩
        | exact ⟨show L.length ≤ 1099511627776 by omega⟩
      all_goals try first
        | trivial
        | exact hN
        | exact ha
        | exact ⟨hN⟩
        | exact ⟨ha⟩
        | exact ⟨show (i : Int) < (L.length : Int) by omega⟩
        | exact ⟨Nat.zero_add _⟩
        | exact ⟨show ((suL N L i).length + 1) * 1 ≤ 1099511627776 by omega⟩
      all_goals
        refine ⟨i + 1, [0, 1, 2], hi1, ?_, by show L.length - (i + 1) < L.length - i; omega⟩
        subst_vars
        repeat' ((conv => whnf); (first | apply And.intro | intro _))
        all_goals first | rfl | trivial | exact Nat.le_of_ble_eq_true rfl | exact ⟨rfl, rfl, rfl⟩ | exact ⟨rfl, rfl, rfl, rfl⟩ | exact ⟨rfl, rfl⟩ | exact e1 | exact congrArg List.length e1 | (subst_vars; rfl) | exact ⟨rfl, rfl, e1⟩
    · have e1 := su_put k
      have e2 : (suL N L i).length + 1 = (suL N L (i + 1)).length := by rw [← e1]; simp
      unfold usB at k
      repeat' ((conv => whnf); (first | apply And.intro | (intro h9; first | (have h8 : (_ : Bool) = false := h9; exfalso; clear h8; revert h9; subst_vars; intro h9; exact ft_no (h9.symm.trans (by assumption))) | (have h8 : (_ : Bool) = true := h9; exfalso; clear h8; revert h9; subst_vars; intro h9; exact tf_no (h9.symm.trans (by assumption))) | skip)))
      all_goals try (conv => whnf)
      all_goals try first
        | exact LexB.mk (by kernel_rfl)
        | exact LexG.mk (by kernel_rfl)
        | exact LexT.mk (by kernel_rfl)
        | exact Forced.mk (by kernel_rfl)
        | exact LexP.mk (by kernel_rfl)
        | exact ForcedP.mk (by kernel_rfl)
        | exact ⟨Nat.le_of_ble_eq_true rfl⟩
        | exact ⟨rfl⟩
        | exact ⟨trivial⟩
      all_goals subst_vars
      all_goals try first
        | rfl
        | contradiction
        | (refine Ob.mk ?_; simp only [inRQ, inR, Duty.of_p]; omega)
      all_goals try first
        | exact ⟨show L.length ≤ 1000000 by omega⟩
        | exact ⟨show L.length ≤ 1099511627776 by omega⟩
      all_goals try first
        | trivial
        | exact hN
        | exact ha
        | exact ⟨hN⟩
        | exact ⟨ha⟩
        | exact ⟨show (i : Int) < (L.length : Int) by omega⟩
        | exact ⟨Nat.zero_add _⟩
        | exact ⟨show ((suL N L i).length + 1) * 1 ≤ 1099511627776 by omega⟩
      all_goals
        refine ⟨i + 1, [0, 1, 2], hi1, ?_, by show L.length - (i + 1) < L.length - i; omega⟩
        subst_vars
        repeat' ((conv => whnf); (first | apply And.intro | intro _))
        all_goals first | rfl | trivial | exact Nat.le_of_ble_eq_true rfl | exact ⟨rfl, rfl, rfl⟩ | exact ⟨rfl, rfl, rfl, rfl⟩ | exact ⟨rfl, rfl⟩ | exact e1 | exact e2 | (subst_vars; rfl) | exact ⟨rfl, rfl, e1⟩
  have p0 : decide ((i : Int) < (L.length : Int)) = false := decide_eq_false (by omega)
  obtain rfl : i = L.length := by omega
  repeat' ((conv => whnf); (first | apply And.intro | (intro h9; first | (have h8 : (_ : Bool) = false := h9; exfalso; clear h8; revert h9; subst_vars; intro h9; exact ft_no (h9.symm.trans (by assumption))) | (have h8 : (_ : Bool) = true := h9; exfalso; clear h8; revert h9; subst_vars; intro h9; exact tf_no (h9.symm.trans (by assumption))) | skip)))
  all_goals try (conv => whnf)
  all_goals try first
    | exact LexB.mk (by kernel_rfl)
    | exact LexG.mk (by kernel_rfl)
    | exact LexT.mk (by kernel_rfl)
    | exact Forced.mk (by kernel_rfl)
    | exact LexP.mk (by kernel_rfl)
    | exact ForcedP.mk (by kernel_rfl)
    | exact ⟨Nat.le_of_ble_eq_true rfl⟩
    | exact ⟨rfl⟩
    | exact ⟨trivial⟩
  all_goals subst_vars
  all_goals try first
    | rfl
    | contradiction
    | (refine Ob.mk ?_; simp only [inRQ, inR, Duty.of_p]; omega)
  all_goals try first
    | exact ⟨show L.length ≤ 1000000 by omega⟩
    | exact ⟨show L.length ≤ 1099511627776 by omega⟩
  all_goals exact klC (i := 2) hK rfl rfl)
end Go.Proofs.Ytlmhkeoblgodiaa
end

section
/-
  Chapter 2: the specification's Suspects and Idle. Printed by gen80.py.
-/
namespace Go.Proofs.Ytlmhkeoblgodiaa
open Go Go.Sy Go.Chn
set_option maxRecDepth 100000
set_option maxHeartbeats 4000000
set_option linter.unusedVariables false
set_option linter.unusedSimpArgs false
variable {Γ : Glob}
def L35 : List (Nat × Ctr) := [(26, c26), (50, c50)]
theorem L35_ok : CsOk Try.prog Γ L35 := ((CsOk.nil.cons (body_of Try.func50 rfl rfl).fn c50_ok).cons (body_of Try.func26 rfl rfl).fn c26_ok)
def L36 : List (Nat × Ctr) := [(26, c26), (50, c50), (46, c46)]
theorem L36_ok : CsOk Try.prog Γ L36 := (((CsOk.nil.cons (body_of Try.func46 rfl rfl).fn c46_ok).cons (body_of Try.func50 rfl rfl).fn c50_ok).cons (body_of Try.func26 rfl rfl).fn c26_ok)
theorem rt_2 {N : Int} {L : List Lk} : (rtF N L).2 = conB N L := by
  unfold rtF
  cases conB N L <;> rfl
attribute [local irreducible] gi lk checkF conF conB relaxF rtF rsL rsF riL keepL smB
def c35 : Ctr := newS (fun N L => [(Duty.of (N = N.toNat)), askD N.toNat L]) (fun N L => ⟨[.arr 3 kI (rsF N L) true true], .a (.sl 0 [] 0 (rsF N L).length)⟩)
theorem c35_ok : Ctr.Ok Try.prog Γ 35 c35 := newS_ok (d := 0) (prog_ok L35_ok BsOk.nil false 0) (body_of Try.func35 rfl rfl) (by
  rintro N L K ⟨hN, ha, _⟩ hK
  simp only [Duty.of_p] at hN
  replace ha : AskL N.toNat L := ha
  have hll := ha.l
  cases hb : (rtF N L).2
  case true =>
    have e : rsF N L = [] := by unfold rsF; rw [if_pos (rt_2.symm.trans hb)]
    repeat' ((conv => whnf); (first | apply And.intro | (intro h9; first | (have h8 : (_ : Bool) = false := h9; exfalso; clear h8; revert h9; subst_vars; intro h9; exact ft_no (h9.symm.trans (by assumption))) | (have h8 : (_ : Bool) = true := h9; exfalso; clear h8; revert h9; subst_vars; intro h9; exact tf_no (h9.symm.trans (by assumption))) | skip)))
    all_goals try (conv => whnf)
    all_goals try first
      | exact LexB.mk (by kernel_rfl)
      | exact LexG.mk (by kernel_rfl)
      | exact LexT.mk (by kernel_rfl)
      | exact Forced.mk (by kernel_rfl)
      | exact LexP.mk (by kernel_rfl)
      | exact ForcedP.mk (by kernel_rfl)
      | exact ⟨Nat.le_of_ble_eq_true rfl⟩
      | exact ⟨rfl⟩
      | exact ⟨trivial⟩
    all_goals try first
      | rfl
      | contradiction
      | (refine Ob.mk ?_; simp only [inRQ, inR, Duty.of_p]; omega)
    all_goals try first
      | exact ⟨show L.length ≤ 1000000 by omega⟩
      | exact ⟨show L.length ≤ 1099511627776 by omega⟩
      | exact ⟨hN⟩
      | exact ⟨ha⟩
    all_goals (exact klX (te := 3) (tg := kI) (by simp [kI]) (by rw [e] at hK; exact hK) rfl)
  have e : rsF N L = rsL N L L.length := by unfold rsF; rw [if_neg (by rw [← rt_2, hb]; simp)]
  rw [e] at hK
  repeat' ((conv => whnf); (first | apply And.intro | (intro h9; first | (have h8 : (_ : Bool) = false := h9; exfalso; clear h8; revert h9; subst_vars; intro h9; exact ft_no (h9.symm.trans (by assumption))) | (have h8 : (_ : Bool) = true := h9; exfalso; clear h8; revert h9; subst_vars; intro h9; exact tf_no (h9.symm.trans (by assumption))) | skip)))
  all_goals try (conv => whnf)
  all_goals try first
    | exact LexB.mk (by kernel_rfl)
    | exact LexG.mk (by kernel_rfl)
    | exact LexT.mk (by kernel_rfl)
    | exact Forced.mk (by kernel_rfl)
    | exact LexP.mk (by kernel_rfl)
    | exact ForcedP.mk (by kernel_rfl)
    | exact ⟨Nat.le_of_ble_eq_true rfl⟩
    | exact ⟨rfl⟩
    | exact ⟨trivial⟩
  all_goals try first
    | rfl
    | contradiction
    | (refine Ob.mk ?_; simp only [inRQ, inR, Duty.of_p]; omega)
  all_goals try first
    | exact ⟨show L.length ≤ 1000000 by omega⟩
    | exact ⟨show L.length ≤ 1099511627776 by omega⟩
    | exact ⟨hN⟩
    | exact ⟨ha⟩
  refine ⟨Nat, fun i => i ≤ L.length, fun i => ⟨slotsT 36 [1, 3, 6] [.a (.p 1 [] 0 0), .a (.sl 2 [] 0 (rsL N L i).length), .a (vI i)], [], [.arr 44 kL L false false, .box true [vI N, .sl 0 [] 0 L.length], .arr 3 kI (rsL N L i) true true]⟩, fun i => L.length - i, 0, [0, 1, 1000], Nat.zero_le _, ?_, ?_⟩
  · have e0 : [] = rsL N L 0 := by unfold rsL; rfl
    have e1 : (rsL N L 0).length = 0 := by rw [← e0]; rfl
    clear hN
    subst_vars
    repeat' ((conv => whnf); (first | apply And.intro | intro _))
    all_goals first | rfl | trivial | exact Nat.le_of_ble_eq_true rfl | exact ⟨rfl, rfl, rfl⟩ | exact ⟨rfl, rfl, rfl, rfl⟩ | exact ⟨rfl, rfl⟩ | exact e0 | exact e0.symm | exact e1 | exact e1.symm | exact ⟨rfl, rfl, e0⟩
  rintro i hi
  have il := rs_len (N := N) (L := L) (i := i)
  have ha' := keep_ask (I := [(i : Int)]) ha
  by_cases hi1 : i < L.length
  · have p0 : decide ((i : Int) < (L.length : Int)) = true := decide_eq_true (by omega)
    cases k : (rtF N (keepL [(i : Int)] 0 L)).2
    · have e1 := rs_skip (rt_2.symm.trans k)
      repeat' ((conv => whnf); (first | apply And.intro | (intro h9; first | (have h8 : (_ : Bool) = false := h9; exfalso; clear h8; revert h9; subst_vars; intro h9; exact ft_no (h9.symm.trans (by assumption))) | (have h8 : (_ : Bool) = true := h9; exfalso; clear h8; revert h9; subst_vars; intro h9; exact tf_no (h9.symm.trans (by assumption))) | skip)))
      all_goals try (conv => whnf)
      all_goals try first
        | exact LexB.mk (by kernel_rfl)
        | exact LexG.mk (by kernel_rfl)
        | exact LexT.mk (by kernel_rfl)
        | exact Forced.mk (by kernel_rfl)
        | exact LexP.mk (by kernel_rfl)
        | exact ForcedP.mk (by kernel_rfl)
        | exact ⟨Nat.le_of_ble_eq_true rfl⟩
        | exact ⟨rfl⟩
        | exact ⟨trivial⟩
      all_goals try first
        | rfl
        | contradiction
        | (refine Ob.mk ?_; simp only [inRQ, inR, Duty.of_p]; omega)
      all_goals try first
        | exact ⟨show L.length ≤ 1000000 by omega⟩
        | exact ⟨show L.length ≤ 1099511627776 by omega⟩
        | exact ⟨hN⟩
        | exact ⟨ha⟩
      all_goals try first
        | exact ⟨ha'⟩
        | exact ⟨rr⟩
        | exact ⟨show (rtF N L).1.length ≤ 1000000 by omega⟩
        | exact ⟨show (i : Int) < (L.length : Int) by omega⟩
        | exact ⟨Nat.zero_add _⟩
        | exact ⟨show ((rsL N L i).length + 1) * 1 ≤ 1099511627776 by omega⟩
        | exact ⟨show ((riL N L i).length + 1) * 1 ≤ 1099511627776 by omega⟩
      all_goals
        refine ⟨i + 1, [0, 1, 2], hi1, ?_, by show L.length - (i + 1) < L.length - i; omega⟩
        clear hN
        subst_vars
        repeat' ((conv => whnf); (first | apply And.intro | intro _))
        all_goals first | rfl | trivial | exact Nat.le_of_ble_eq_true rfl | exact ⟨rfl, rfl, rfl⟩ | exact ⟨rfl, rfl, rfl, rfl⟩ | exact ⟨rfl, rfl⟩ | exact e1 | exact congrArg List.length e1 | (subst_vars; rfl) | exact ⟨rfl, rfl, e1⟩
    · have e1 := rs_put (rt_2.symm.trans k)
      have e2 : (rsL N L i).length + 1 = (rsL N L (i + 1)).length := by rw [← e1]; simp
      repeat' ((conv => whnf); (first | apply And.intro | (intro h9; first | (have h8 : (_ : Bool) = false := h9; exfalso; clear h8; revert h9; subst_vars; intro h9; exact ft_no (h9.symm.trans (by assumption))) | (have h8 : (_ : Bool) = true := h9; exfalso; clear h8; revert h9; subst_vars; intro h9; exact tf_no (h9.symm.trans (by assumption))) | skip)))
      all_goals try (conv => whnf)
      all_goals try first
        | exact LexB.mk (by kernel_rfl)
        | exact LexG.mk (by kernel_rfl)
        | exact LexT.mk (by kernel_rfl)
        | exact Forced.mk (by kernel_rfl)
        | exact LexP.mk (by kernel_rfl)
        | exact ForcedP.mk (by kernel_rfl)
        | exact ⟨Nat.le_of_ble_eq_true rfl⟩
        | exact ⟨rfl⟩
        | exact ⟨trivial⟩
      all_goals try first
        | rfl
        | contradiction
        | (refine Ob.mk ?_; simp only [inRQ, inR, Duty.of_p]; omega)
      all_goals try first
        | exact ⟨show L.length ≤ 1000000 by omega⟩
        | exact ⟨show L.length ≤ 1099511627776 by omega⟩
        | exact ⟨hN⟩
        | exact ⟨ha⟩
      all_goals try first
        | exact ⟨ha'⟩
        | exact ⟨rr⟩
        | exact ⟨show (rtF N L).1.length ≤ 1000000 by omega⟩
        | exact ⟨show (i : Int) < (L.length : Int) by omega⟩
        | exact ⟨Nat.zero_add _⟩
        | exact ⟨show ((rsL N L i).length + 1) * 1 ≤ 1099511627776 by omega⟩
        | exact ⟨show ((riL N L i).length + 1) * 1 ≤ 1099511627776 by omega⟩
      all_goals
        refine ⟨i + 1, [0, 1, 2], hi1, ?_, by show L.length - (i + 1) < L.length - i; omega⟩
        clear hN
        subst_vars
        repeat' ((conv => whnf); (first | apply And.intro | intro _))
        all_goals first | rfl | trivial | exact Nat.le_of_ble_eq_true rfl | exact ⟨rfl, rfl, rfl⟩ | exact ⟨rfl, rfl, rfl, rfl⟩ | exact ⟨rfl, rfl⟩ | exact e1 | exact e2 | (subst_vars; rfl) | exact ⟨rfl, rfl, e1⟩
  have p0 : decide ((i : Int) < (L.length : Int)) = false := decide_eq_false (by omega)
  obtain rfl : i = L.length := by omega
  repeat' ((conv => whnf); (first | apply And.intro | (intro h9; first | (have h8 : (_ : Bool) = false := h9; exfalso; clear h8; revert h9; subst_vars; intro h9; exact ft_no (h9.symm.trans (by assumption))) | (have h8 : (_ : Bool) = true := h9; exfalso; clear h8; revert h9; subst_vars; intro h9; exact tf_no (h9.symm.trans (by assumption))) | skip)))
  all_goals try (conv => whnf)
  all_goals try first
    | exact LexB.mk (by kernel_rfl)
    | exact LexG.mk (by kernel_rfl)
    | exact LexT.mk (by kernel_rfl)
    | exact Forced.mk (by kernel_rfl)
    | exact LexP.mk (by kernel_rfl)
    | exact ForcedP.mk (by kernel_rfl)
    | exact ⟨Nat.le_of_ble_eq_true rfl⟩
    | exact ⟨rfl⟩
    | exact ⟨trivial⟩
  all_goals try first
    | rfl
    | contradiction
    | (refine Ob.mk ?_; simp only [inRQ, inR, Duty.of_p]; omega)
  all_goals try first
    | exact ⟨show L.length ≤ 1000000 by omega⟩
    | exact ⟨show L.length ≤ 1099511627776 by omega⟩
    | exact ⟨hN⟩
    | exact ⟨ha⟩
  all_goals exact kl1 (i := 2) hK rfl rfl)
def c36 : Ctr := newS (fun N L => [(Duty.of (N = N.toNat)), askD N.toNat L]) (fun N L => ⟨[.arr 3 kI (riL N L L.length) true true], .a (.sl 0 [] 0 (riL N L L.length).length)⟩)
theorem c36_ok : Ctr.Ok Try.prog Γ 36 c36 := newS_ok (d := 0) (prog_ok L36_ok BsOk.nil false 0) (body_of Try.func36 rfl rfl) (by
  rintro N L K ⟨hN, ha, _⟩ hK
  simp only [Duty.of_p] at hN
  replace ha : AskL N.toNat L := ha
  have hll := ha.l
  repeat' ((conv => whnf); (first | apply And.intro | (intro h9; first | (have h8 : (_ : Bool) = false := h9; exfalso; clear h8; revert h9; subst_vars; intro h9; exact ft_no (h9.symm.trans (by assumption))) | (have h8 : (_ : Bool) = true := h9; exfalso; clear h8; revert h9; subst_vars; intro h9; exact tf_no (h9.symm.trans (by assumption))) | skip)))
  all_goals try (conv => whnf)
  all_goals try first
    | exact LexB.mk (by kernel_rfl)
    | exact LexG.mk (by kernel_rfl)
    | exact LexT.mk (by kernel_rfl)
    | exact Forced.mk (by kernel_rfl)
    | exact LexP.mk (by kernel_rfl)
    | exact ForcedP.mk (by kernel_rfl)
    | exact ⟨Nat.le_of_ble_eq_true rfl⟩
    | exact ⟨rfl⟩
    | exact ⟨trivial⟩
  all_goals try first
    | rfl
    | contradiction
    | (refine Ob.mk ?_; simp only [inRQ, inR, Duty.of_p]; omega)
  all_goals try first
    | exact ⟨show L.length ≤ 1000000 by omega⟩
    | exact ⟨show L.length ≤ 1099511627776 by omega⟩
    | exact ⟨hN⟩
    | exact ⟨ha⟩
  refine ⟨Nat, fun i => i ≤ L.length, fun i => ⟨slotsT 37 [1, 3, 5, 6] [.a (.p 1 [] 0 0), .a (.sl 2 [] 0 (rtF N L).1.length), .a (.sl 3 [] 0 (riL N L i).length), .a (vI i)], [], [.arr 44 kL L false false, .box true [vI N, .sl 0 [] 0 L.length], .arr 32 kT (rtF N L).1 true true, .arr 3 kI (riL N L i) true true]⟩, fun i => L.length - i, 0, [0, 1, 2, 1000], Nat.zero_le _, ?_, ?_⟩
  · have e0 : [] = riL N L 0 := by unfold riL; rfl
    have e1 : (riL N L 0).length = 0 := by rw [← e0]; rfl
    clear hN
    subst_vars
    repeat' ((conv => whnf); (first | apply And.intro | intro _))
    all_goals first | rfl | trivial | exact Nat.le_of_ble_eq_true rfl | exact ⟨rfl, rfl, rfl⟩ | exact ⟨rfl, rfl, rfl, rfl⟩ | exact ⟨rfl, rfl⟩ | exact e0 | exact e0.symm | exact e1 | exact e1.symm | exact ⟨rfl, rfl, e0⟩
  rintro i hi
  have il := ri_len (N := N) (L := L) (i := i)
  have ha' := keep_ask (I := [(i : Int)]) ha
  have rl := rt_len ha
  have rr := rt_rows ha
  by_cases hi1 : i < L.length
  · have p0 : decide ((i : Int) < (L.length : Int)) = true := decide_eq_true (by omega)
    cases k : smB N L [(i : Int)]
    · have e1 := ri_skip k
      unfold smB at k
      repeat' ((conv => whnf); (first | apply And.intro | (intro h9; first | (have h8 : (_ : Bool) = false := h9; exfalso; clear h8; revert h9; subst_vars; intro h9; exact ft_no (h9.symm.trans (by assumption))) | (have h8 : (_ : Bool) = true := h9; exfalso; clear h8; revert h9; subst_vars; intro h9; exact tf_no (h9.symm.trans (by assumption))) | skip)))
      all_goals try (conv => whnf)
      all_goals try first
        | exact LexB.mk (by kernel_rfl)
        | exact LexG.mk (by kernel_rfl)
        | exact LexT.mk (by kernel_rfl)
        | exact Forced.mk (by kernel_rfl)
        | exact LexP.mk (by kernel_rfl)
        | exact ForcedP.mk (by kernel_rfl)
        | exact ⟨Nat.le_of_ble_eq_true rfl⟩
        | exact ⟨rfl⟩
        | exact ⟨trivial⟩
      all_goals try first
        | rfl
        | contradiction
        | (refine Ob.mk ?_; simp only [inRQ, inR, Duty.of_p]; omega)
      all_goals try first
        | exact ⟨show L.length ≤ 1000000 by omega⟩
        | exact ⟨show L.length ≤ 1099511627776 by omega⟩
        | exact ⟨hN⟩
        | exact ⟨ha⟩
      all_goals try first
        | exact ⟨ha'⟩
        | exact ⟨rr⟩
        | exact ⟨show (rtF N L).1.length ≤ 1000000 by omega⟩
        | exact ⟨show (i : Int) < (L.length : Int) by omega⟩
        | exact ⟨Nat.zero_add _⟩
        | exact ⟨show ((rsL N L i).length + 1) * 1 ≤ 1099511627776 by omega⟩
        | exact ⟨show ((riL N L i).length + 1) * 1 ≤ 1099511627776 by omega⟩
      all_goals
        refine ⟨i + 1, [0, 1, 2, 3], hi1, ?_, by show L.length - (i + 1) < L.length - i; omega⟩
        clear hN
        subst_vars
        repeat' ((conv => whnf); (first | apply And.intro | intro _))
        all_goals first | rfl | trivial | exact Nat.le_of_ble_eq_true rfl | exact ⟨rfl, rfl, rfl⟩ | exact ⟨rfl, rfl, rfl, rfl⟩ | exact ⟨rfl, rfl⟩ | exact e1 | exact congrArg List.length e1 | (subst_vars; rfl) | exact ⟨rfl, rfl, e1⟩
    · have e1 := ri_put k
      have e2 : (riL N L i).length + 1 = (riL N L (i + 1)).length := by rw [← e1]; simp
      unfold smB at k
      repeat' ((conv => whnf); (first | apply And.intro | (intro h9; first | (have h8 : (_ : Bool) = false := h9; exfalso; clear h8; revert h9; subst_vars; intro h9; exact ft_no (h9.symm.trans (by assumption))) | (have h8 : (_ : Bool) = true := h9; exfalso; clear h8; revert h9; subst_vars; intro h9; exact tf_no (h9.symm.trans (by assumption))) | skip)))
      all_goals try (conv => whnf)
      all_goals try first
        | exact LexB.mk (by kernel_rfl)
        | exact LexG.mk (by kernel_rfl)
        | exact LexT.mk (by kernel_rfl)
        | exact Forced.mk (by kernel_rfl)
        | exact LexP.mk (by kernel_rfl)
        | exact ForcedP.mk (by kernel_rfl)
        | exact ⟨Nat.le_of_ble_eq_true rfl⟩
        | exact ⟨rfl⟩
        | exact ⟨trivial⟩
      all_goals try first
        | rfl
        | contradiction
        | (refine Ob.mk ?_; simp only [inRQ, inR, Duty.of_p]; omega)
      all_goals try first
        | exact ⟨show L.length ≤ 1000000 by omega⟩
        | exact ⟨show L.length ≤ 1099511627776 by omega⟩
        | exact ⟨hN⟩
        | exact ⟨ha⟩
      all_goals try first
        | exact ⟨ha'⟩
        | exact ⟨rr⟩
        | exact ⟨show (rtF N L).1.length ≤ 1000000 by omega⟩
        | exact ⟨show (i : Int) < (L.length : Int) by omega⟩
        | exact ⟨Nat.zero_add _⟩
        | exact ⟨show ((rsL N L i).length + 1) * 1 ≤ 1099511627776 by omega⟩
        | exact ⟨show ((riL N L i).length + 1) * 1 ≤ 1099511627776 by omega⟩
      all_goals
        refine ⟨i + 1, [0, 1, 2, 3], hi1, ?_, by show L.length - (i + 1) < L.length - i; omega⟩
        clear hN
        subst_vars
        repeat' ((conv => whnf); (first | apply And.intro | intro _))
        all_goals first | rfl | trivial | exact Nat.le_of_ble_eq_true rfl | exact ⟨rfl, rfl, rfl⟩ | exact ⟨rfl, rfl, rfl, rfl⟩ | exact ⟨rfl, rfl⟩ | exact e1 | exact e2 | (subst_vars; rfl) | exact ⟨rfl, rfl, e1⟩
  have p0 : decide ((i : Int) < (L.length : Int)) = false := decide_eq_false (by omega)
  obtain rfl : i = L.length := by omega
  repeat' ((conv => whnf); (first | apply And.intro | (intro h9; first | (have h8 : (_ : Bool) = false := h9; exfalso; clear h8; revert h9; subst_vars; intro h9; exact ft_no (h9.symm.trans (by assumption))) | (have h8 : (_ : Bool) = true := h9; exfalso; clear h8; revert h9; subst_vars; intro h9; exact tf_no (h9.symm.trans (by assumption))) | skip)))
  all_goals try (conv => whnf)
  all_goals try first
    | exact LexB.mk (by kernel_rfl)
    | exact LexG.mk (by kernel_rfl)
    | exact LexT.mk (by kernel_rfl)
    | exact Forced.mk (by kernel_rfl)
    | exact LexP.mk (by kernel_rfl)
    | exact ForcedP.mk (by kernel_rfl)
    | exact ⟨Nat.le_of_ble_eq_true rfl⟩
    | exact ⟨rfl⟩
    | exact ⟨trivial⟩
  all_goals try first
    | rfl
    | contradiction
    | (refine Ob.mk ?_; simp only [inRQ, inR, Duty.of_p]; omega)
  all_goals try first
    | exact ⟨show L.length ≤ 1000000 by omega⟩
    | exact ⟨show L.length ≤ 1099511627776 by omega⟩
    | exact ⟨hN⟩
    | exact ⟨ha⟩
  all_goals exact kl1 (i := 3) hK rfl rfl)
end Go.Proofs.Ytlmhkeoblgodiaa
end
