/-
  Texts of the claims on chapter 2: Ye19. No condition: lemmas and contracts.
-/
import Derived.Test.YtlmhkeoblgodiaaYe9
import Derived.Test.YtlmhkeoblgodiaaYe5
import Derived.Test.YtlmhkeoblgodiaaYe10
set_option linter.all false
section
/-
  Chapter 2: the plain law of ChainShifts: all values shifted.
-/
namespace Go.Proofs.Ytlmhkeoblgodiaa
open Go Go.Sy Go.Chn
set_option linter.unusedVariables false
set_option linter.unusedSimpArgs false
/-- A link between shifted values. -/
def sh (f : Int → Int) (l : Lk) : Lk := (l.1, l.2.1, l.2.2 + f l.2.1 - f l.1)
theorem sh_inv (f : Int → Int) (l : Lk) : sh (fun v => - f v) (sh f l) = l := by
  obtain ⟨a, b, c⟩ := l
  show ((a, b, c + f b - f a + - f b - - f a) : Lk) = (a, b, c)
  rw [show c + f b - f a + - f b - - f a = c by omega]
theorem map_inv (f : Int → Int) (U : List Lk) : (U.map (sh f)).map (sh fun v => - f v) = U := by
  rw [List.map_map]
  conv => rhs; rw [← List.map_id U]
  exact List.map_congr_left fun l _ => sh_inv f l
theorem ch_sh (f : Int → Int) : ∀ {ls : List Lk} {u v : Int}, Ch u ls v → Ch u (ls.map (sh f)) v
  | [], _, _, h => h
  | l :: ls, u, v, h => ⟨h.1, ch_sh f h.2⟩
theorem sum_sh (f : Int → Int) : ∀ {ls : List Lk} {u v : Int}, Ch u ls v → sumL (ls.map (sh f)) = sumL ls + f v - f u
  | [], u, v, h => by have h : u = v := h; subst h; simp [sumL]
  | l :: ls, u, v, h => by
    have e := sum_sh f h.2
    have h1 := h.1
    rw [List.map_cons, sumL, sumL, e]
    show l.2.2 + f l.2.1 - f l.1 + _ = _
    rw [h1]; omega
theorem sub_sh (f : Int → Int) {ls U : List Lk} (h : Sub ls U) : Sub (ls.map (sh f)) (U.map (sh f)) := fun x hx => by
  obtain ⟨l, hl, rfl⟩ := List.mem_map.1 hx
  exact List.mem_map.2 ⟨l, h l hl, rfl⟩
theorem back_sh (f : Int → Int) {ls U : List Lk} {u v : Int} (hc : Ch u ls v) (hs : Sub ls (U.map (sh f))) : ∃ ms, Ch u ms v ∧ Sub ms U ∧ ms.length = ls.length ∧ sumL ms = sumL ls - f v + f u := by
  refine ⟨ls.map (sh fun v => - f v), ch_sh _ hc, ?_, by simp, ?_⟩
  · have := sub_sh (fun v => - f v) hs
    rwa [map_inv] at this
  · rw [sum_sh _ hc]; omega
theorem noneg_sh (f : Int → Int) {U : List Lk} : NoNeg U ↔ NoNeg (U.map (sh f)) := by
  constructor
  · intro h u ls h1 h2
    obtain ⟨ms, m1, m2, _, m3⟩ := back_sh f h1 h2
    have := h u ms m1 m2
    omega
  · intro h u ls h1 h2
    have := h u _ (ch_sh f h1) (sub_sh f h2)
    rw [sum_sh f h1] at this
    omega
section
variable {N : Nat} {U : List Lk} {f : Int → Int}
/-- Shifts are small. -/
def Sml (N : Nat) (f : Int → Int) : Prop := ∀ v, inN N v → -1099511627776 ≤ f v ∧ f v ≤ 1099511627776
def shD (f : Int → Int) (u v d : Int) : Int := if d = Fr then Fr else d + f v - f u
theorem isEx_sh (hf : Sml N f) (hU : Lks N U) {k : Nat} (hk : k ≤ 60) {u v d : Int} (hu : inN N u) (hv : inN N v) (h : IsEx U k u v d) : IsEx (U.map (sh f)) k u v (shD f u v d) := by
  have s1 := hf u hu
  have s2 := hf v hv
  unfold shD
  by_cases hd : d = Fr
  · rw [if_pos hd]
    have no : ∀ ls, ls.length = k → Ch u ls v → Sub ls (U.map (sh f)) → False := fun ls h1 h2 h3 => by
      obtain ⟨ms, m1, m2, m3, _⟩ := back_sh f h2 h3
      exact h.none hU hk (m3.trans h1) m1 m2 hd
    exact ⟨fun h => absurd rfl h, fun ls h1 h2 h3 => (no ls h1 h2 h3).elim, Int.le_refl _⟩
  · rw [if_neg hd]
    have hb := h.bound hU hd
    refine ⟨fun _ => ?_, fun ls h1 h2 h3 => ?_, by unfold Fr; omega⟩
    · obtain ⟨ls, h1, h2, h3, h4⟩ := h.is hd
      exact ⟨ls.map (sh f), by simpa using h1, ch_sh f h2, sub_sh f h3, by rw [sum_sh f h2, h4]⟩
    · obtain ⟨ms, m1, m2, m3, m4⟩ := back_sh f h2 h3
      have := h.le ms (m3.trans h1) m1 m2
      omega
theorem exF_sh (hf : Sml N f) (hU : Lks N U) (hU' : Lks N (U.map (sh f))) {to n : Int} (ht : inN N to) (hn : inN N n) {k : Nat} (hk : k ≤ 60) : gi (exF N (U.map (sh f)) to k) n = shD f n to (gi (exF N U to k) n) :=
  (exF_ex hU' ht hk n hn).uniq hU' hk (isEx_sh hf hU hk hn ht (exF_ex hU ht hk n hn))
theorem shD_fr (hf : Sml N f) {u v d : Int} (hu : inN N u) (hv : inN N v) (hb : d ≠ Fr → d ≤ 288230376151711744) : shD f u v d = Fr ↔ d = Fr := by
  have s1 := hf u hu
  have s2 := hf v hv
  unfold shD
  by_cases hd : d = Fr
  · rw [if_pos hd]; simp [hd]
  · rw [if_neg hd]
    have := hb hd
    constructor
    · intro h; unfold Fr at h; omega
    · intro h; exact absurd h hd
theorem ex_small (hU : Lks N U) {to n : Int} (ht : inN N to) (hn : inN N n) {k : Nat} (hk : k ≤ 60) : gi (exF N U to k) n ≠ Fr → gi (exF N U to k) n ≤ 288230376151711744 := fun h => by
  have := (exF_ex hU ht hk n hn).bound hU h
  omega
theorem hitC_sh (hf : Sml N f) (hU : Lks N U) (hU' : Lks N (U.map (sh f))) {k : Nat} (hk : k ≤ 60) {l : Lk} (hl : l ∈ U) : hitC N (U.map (sh f)) k (sh f l) = hitC N U k l := by
  have hn := hU.nd l hl
  unfold hitC
  show (!(gi (exF N (U.map (sh f)) l.1 k) l.2.1 == Fr) && decide (l.2.2 + f l.2.1 - f l.1 + gi (exF N (U.map (sh f)) l.1 k) l.2.1 < 0)) = _
  rw [exF_sh hf hU hU' hn.1 hn.2 hk]
  by_cases hd : gi (exF N U l.1 k) l.2.1 = Fr
  · unfold shD; rw [if_pos hd, hd]; rfl
  · have h2 : shD f l.2.1 l.1 (gi (exF N U l.1 k) l.2.1) ≠ Fr := fun h => hd ((shD_fr hf hn.2 hn.1 (ex_small hU hn.1 hn.2 hk)).1 h)
    rw [beq_eq_false_iff_ne.2 hd, beq_eq_false_iff_ne.2 h2]
    unfold shD; rw [if_neg hd]
    congr 1
    rw [Bool.eq_iff_iff, decide_eq_true_eq, decide_eq_true_eq]; omega
theorem find_map (p q : Lk → Bool) (g : Lk → Lk) : ∀ {V : List Lk}, (∀ l ∈ V, p (g l) = q l) → (V.map g).find? p = (V.find? q).map g
  | [], _ => rfl
  | l :: V, h => by
    rw [List.map_cons, List.find?_cons, List.find?_cons, h l (by simp)]
    cases q l
    · exact find_map p q g fun x hx => h x (by simp [hx])
    · rfl
theorem srF_sh (hf : Sml N f) (hU : Lks N U) (hU' : Lks N (U.map (sh f))) : ∀ {fu k : Nat}, fu + k ≤ 61 → srF N (U.map (sh f)) fu k = (srF N U fu k).map fun p => (p.1, sh f p.2)
  | 0, _, _ => rfl
  | fu + 1, k, h => by
    rw [srF, srF, find_map _ (hitC N U k) (sh f) fun l hl => hitC_sh hf hU hU' (by omega) hl]
    cases U.find? (hitC N U k) with
    | none => exact srF_sh hf hU hU' (by omega)
    | some l => rfl
theorem findF_sh {row row' : List Int} {a s s' : Int} {good good' : Int → Bool} : ∀ {V : List Lk} {i : Nat}, (∀ l ∈ V, hitF row' a s' good' (sh f l) = hitF row a s good l) → findF row' a s' good' i (V.map (sh f)) = (findF row a s good i V).map fun p => (p.1, sh f p.2)
  | [], _, _ => rfl
  | l :: V, i, h => by
    rw [List.map_cons, findF, findF, h l (by simp), findF_sh fun x hx => h x (by simp [hx])]
    split <;> rfl
/-- What is followed stays the same. -/
theorem folF_sh (hf : Sml N f) (hU : Lks N U) (hU' : Lks N (U.map (sh f))) {to a0 : Int} (ht : inN N to) {good good' : Int → Bool} (hg : ∀ x, good' (x + f to - f a0) = good x) : ∀ {k : Nat} {a s : Int}, k ≤ 60 →
    folF (U.map (sh f)) (exF N (U.map (sh f)) to) good' k a (s + f a - f a0) = folF U (exF N U to) good k a s
  | 0, _, _, _ => rfl
  | k + 1, a, s, hk => by
    have key : ∀ l ∈ U, hitF (exF N (U.map (sh f)) to k) a (s + f a - f a0) good' (sh f l) = hitF (exF N U to k) a s good l := fun l hl => by
      have hn := hU.nd l hl
      unfold hitF
      show ((l.1 == a) && (!(gi (exF N (U.map (sh f)) to k) l.2.1 == Fr)) && good' (s + f a - f a0 + (l.2.2 + f l.2.1 - f l.1) + gi (exF N (U.map (sh f)) to k) l.2.1)) = _
      rw [exF_sh hf hU hU' ht hn.2 (by omega)]
      by_cases h1 : l.1 = a
      · by_cases hd : gi (exF N U to k) l.2.1 = Fr
        · unfold shD; rw [if_pos hd, hd]; simp
        · have h2 : shD f l.2.1 to (gi (exF N U to k) l.2.1) ≠ Fr := fun h => hd ((shD_fr hf hn.2 ht (ex_small hU ht hn.2 (by omega))).1 h)
          rw [beq_eq_false_iff_ne.2 hd, beq_eq_false_iff_ne.2 h2]
          unfold shD; rw [if_neg hd, ← hg, h1]
          rw [show s + f a - f a0 + (l.2.2 + f l.2.1 - f a) + (gi (exF N U to k) l.2.1 + f to - f l.2.1) = s + l.2.2 + gi (exF N U to k) l.2.1 + f to - f a0 by omega]
      · rw [beq_eq_false_iff_ne.2 h1]; rfl
    rw [folF, folF, findF_sh key]
    cases hfd : findF (exF N U to k) a s good 0 U with
    | none => exact folF_sh hf hU hU' ht hg (by omega)
    | some p =>
      obtain ⟨i, l⟩ := p
      obtain ⟨_, _, _, hh⟩ := find_some hfd
      have h1 : l.1 = a := by
        unfold hitF at hh
        simp only [Bool.and_eq_true, beq_iff_eq] at hh
        exact hh.1.1
      show ((i : Int) :: folF (U.map (sh f)) (exF N (U.map (sh f)) to) good' k l.2.1 (s + f a - f a0 + (l.2.2 + f l.2.1 - f l.1))) = (i : Int) :: folF U (exF N U to) good k l.2.1 (s + l.2.2)
      rw [show s + f a - f a0 + (l.2.2 + f l.2.1 - f l.1) = s + l.2.2 + f l.2.1 - f a0 by rw [h1]; omega]
      rw [folF_sh hf hU hU' ht hg (by omega)]
theorem clF_sh (hf : Sml N f) (hU : Lks N U) (hU' : Lks N (U.map (sh f))) : clF N (U.map (sh f)) = clF N U := by
  unfold clF
  have h60 := hU.n
  rw [srF_sh hf hU hU' (by omega)]
  cases hs : srF N U N 0 with
  | none => rfl
  | some p =>
    obtain ⟨k, l⟩ := p
    obtain ⟨h1, h2, h3, _⟩ := sr_some hs
    have hl : l ∈ U := List.mem_of_find?_eq_some h3
    have := folF_sh hf hU hU' (to := l.1) (a0 := l.1) (hU.nd l hl).1 (good := fun s => decide (s < 0)) (good' := fun s => decide (s < 0)) (fun x => by rw [show x + f l.1 - f l.1 = x by omega]) (k := k + 1) (a := l.1) (s := 0) (by omega)
    rw [show (0 : Int) + f l.1 - f l.1 = 0 by omega] at this
    exact this
end
section
variable {N : Int} {L : List Lk} {f : Int → Int}
theorem con_sh (ha : AskL N.toNat L) (hb : AskL N.toNat (L.map (sh f))) : conB N (L.map (sh f)) = conB N L := by
  have := (con_iff hb).trans ((noneg_sh f).symm.trans (con_iff ha).symm)
  cases hx : conB N L <;> cases hy : conB N (L.map (sh f)) <;> simp_all
theorem cls_sh (hf : Sml N.toNat f) (hc : (checkF N L).1 = 0) (hc' : (checkF N (L.map (sh f))).1 = 0) : clsF N (L.map (sh f)) = clsF N L := by
  rw [show clsF N L = if conB N L = true then ([], 5) else (clF N.toNat L, 0) from by unfold clsF; rw [if_neg (not_not_intro hc)], show clsF N (L.map (sh f)) = if conB N (L.map (sh f)) = true then ([], 5) else (clF N.toNat (L.map (sh f)), 0) from by unfold clsF; rw [if_neg (not_not_intro hc')]]
  rw [con_sh (ask_of hc) (ask_of hc'), clF_sh hf (ask_of hc).ok (ask_of hc').ok]
theorem dB_sh (hf : Sml N.toNat f) (ha : AskL N.toNat L) (hb : AskL N.toNat (L.map (sh f))) (hn : NoNeg L) {a b : Int} (h1 : inN N.toNat a) (h2 : inN N.toNat b) : dB N (L.map (sh f)) a b = shD f a b (dB N L a b) := by
  have d := (bd_isD ha hn h1 h2).1
  have s1 := hf a h1
  have s2 := hf b h2
  refine (bd_isD hb ((noneg_sh f).1 hn) h1 h2).1.uniq ?_
  unfold shD
  by_cases hd : dB N L a b = Fr
  · rw [if_pos hd]
    have no : ∀ ls, Ch a ls b → Sub ls (L.map (sh f)) → False := fun ls h1 h2 => by
      obtain ⟨ms, m1, m2, _⟩ := back_sh f h1 h2
      exact d.no ms m1 m2 hd
    exact ⟨fun h => absurd rfl h, fun ls h1 h2 => (no ls h1 h2).elim, fun ls h1 h2 => (no ls h1 h2).elim, Int.le_refl _⟩
  · rw [if_neg hd]
    have hb := d_low ha hn h2 d hd
    refine ⟨fun _ => ?_, fun ls h1 h2 => ?_, fun ls h1 h2 => by unfold Fr; omega, by unfold Fr; omega⟩
    · obtain ⟨ls, h1, h2, h3⟩ := d.is hd
      exact ⟨ls.map (sh f), ch_sh f h1, sub_sh f h2, by rw [sum_sh f h1, h3]⟩
    · obtain ⟨ms, m1, m2, _, m4⟩ := back_sh f h1 h2
      have := d.le ms m1 m2
      omega
theorem ask_sh (hc : (checkF N L).1 = 0) (hc' : (checkF N (L.map (sh f))).1 = 0) {I : List Int} : askF N (L.map (sh f)) I = askF N L I := by
  unfold askF
  rw [hc, hc', con_sh (ask_of hc) (ask_of hc')]
theorem bnd_sh (hf : Sml N.toNat f) (hc : (checkF N L).1 = 0) (hc' : (checkF N (L.map (sh f))).1 = 0) {a b : Int} : (bndF N (L.map (sh f)) a b).2 = (bndF N L a b).2 ∧ ((bndF N L a b).2 = 0 → (bndF N (L.map (sh f)) a b).1 = (bndF N L a b).1 + f b - f a) := by
  by_cases h : askF N L [a, b] = 0
  · have h' : askF N (L.map (sh f)) [a, b] = 0 := by rw [ask_sh hc hc']; exact h
    obtain ⟨ha, hn, h1, h2, _, _⟩ := ask_2 h
    have e := dB_sh hf ha (ask_of hc') hn h1 h2
    have fr := shD_fr hf h1 h2 (d := dB N L a b) (fun hd => by have := d_low ha hn h2 (bd_isD ha hn h1 h2).1 hd; omega)
    cases k : (dB N L a b == 1152921504606846976)
    · have hd : dB N L a b ≠ Fr := by unfold Fr; simpa using k
      have k' : (dB N (L.map (sh f)) a b == 1152921504606846976) = false := by rw [e]; rw [beq_eq_false_iff_ne]; exact fun hh => hd (fr.1 hh)
      rw [bnd2 (by rw [h]; rfl) k, bnd2 (by rw [h']; rfl) k', e]
      unfold shD; rw [if_neg hd]
      exact ⟨rfl, fun _ => rfl⟩
    · have hd : dB N L a b = Fr := by unfold Fr; simpa using k
      have k' : (dB N (L.map (sh f)) a b == 1152921504606846976) = true := by rw [e, fr.2 hd]; rfl
      rw [bnd1 (by rw [h]; rfl) k, bnd1 (by rw [h']; rfl) k']
      exact ⟨rfl, fun h => (by cases h)⟩
  · have h' : askF N (L.map (sh f)) [a, b] = askF N L [a, b] := ask_sh hc hc'
    rw [bnd0 (L := L) (by simpa using h), bnd0 (L := L.map (sh f)) (by rw [h']; simpa using h), h']
    exact ⟨rfl, fun h2 => absurd h2 h⟩
theorem hitK_sh (hf : Sml N.toNat f) (hU : Lks N.toNat L) (hU' : Lks N.toNat (L.map (sh f))) {a b d : Int} (h1 : inN N.toNat a) (h2 : inN N.toNat b) (hd : d ≠ Fr) (hdl : d ≤ 288230376151711744) : ∀ {fu k : Nat}, fu + k ≤ 61 → hitK N.toNat (L.map (sh f)) a b (d + f b - f a) fu k = hitK N.toNat L a b d fu k
  | 0, _, _ => rfl
  | fu + 1, k, h => by
    have s1 := hf a h1
    have s2 := hf b h2
    rw [hitK, hitK, exF_sh hf hU hU' h2 h1 (by omega), hitK_sh hf hU hU' h1 h2 hd hdl (by omega)]
    have key : shD f a b (gi (exF N.toNat L b k) a) = d + f b - f a ↔ gi (exF N.toNat L b k) a = d := by
      unfold shD
      by_cases he : gi (exF N.toNat L b k) a = Fr
      · rw [if_pos he, he]
        constructor
        · intro h; unfold Fr at h; omega
        · intro h; exact absurd h.symm hd
      · rw [if_neg he]; constructor <;> intro h <;> omega
    by_cases hk : gi (exF N.toNat L b k) a = d
    · rw [if_pos hk, if_pos (key.2 hk)]
    · rw [if_neg hk, if_neg fun h => hk (key.1 h)]
theorem chn_sh (hf : Sml N.toNat f) (hc : (checkF N L).1 = 0) (hc' : (checkF N (L.map (sh f))).1 = 0) {a b : Int} : chnF N (L.map (sh f)) a b = chnF N L a b := by
  obtain ⟨e2, e1⟩ := bnd_sh hf hc hc' (a := a) (b := b)
  by_cases h : ((bndF N L a b).2 != 0) = true
  · rw [ch0 h, ch0 (by rw [e2]; exact h), e2]
  · have h : ((bndF N L a b).2 != 0) = false := by simpa using h
    rw [ch1 h, ch1 (by rw [e2]; exact h)]
    obtain ⟨q1, q2, q3⟩ := bnd_0 (by simpa using h)
    obtain ⟨ha, hn, h1, h2, _, _⟩ := ask_2 q1
    have hb := ask_of hc'
    have h60 := ha.n
    have dl := d_low ha hn h2 (bd_isD ha hn h1 h2).1 q2
    have e : dB N (L.map (sh f)) a b = dB N L a b + f b - f a := by rw [dB_sh hf ha hb hn h1 h2]; unfold shD; rw [if_neg q2]
    have ek : kB N (L.map (sh f)) a b = kB N L a b := by
      unfold kB
      rw [e, hitK_sh hf ha.ok hb.ok h1 h2 q2 (by omega) (by omega)]
    have kk := (kB_ok ha hn h1 h2 q2).2.1
    unfold chnL
    rw [ek, e]
    have := folF_sh hf ha.ok hb.ok (to := b) (a0 := a) h2 (good := fun s => s == dB N L a b) (good' := fun s => s == dB N L a b + f b - f a) (fun x => by rw [Bool.eq_iff_iff, beq_iff_eq, beq_iff_eq]; omega) (k := kB N L a b) (a := a) (s := 0) (by omega)
    rw [show (0 : Int) + f a - f a = 0 by omega] at this
    rw [this]
end
end Go.Proofs.Ytlmhkeoblgodiaa
end

section
/-
  Chapter 2: the lists of the law ChainShifts.
-/
namespace Go.Proofs.Ytlmhkeoblgodiaa
open Go Go.Sy Go.Chn
set_option linter.unusedVariables false
set_option linter.unusedSimpArgs false
/-- The shifts of the first i nodes. -/
def mvL (B : List Int) (N i : Nat) : List Int := 0 :: ((B.take i).drop 1 ++ List.replicate (N - i) 0)
section
variable {B X : List Int} {N i : Nat}
theorem mv_len (h1 : 1 ≤ i) (h2 : i ≤ N) (h3 : N ≤ B.length) : (mvL B N i).length = N := by simp [mvL]; omega
theorem mv_one (h : 1 ≤ N) (h3 : N ≤ B.length) : List.replicate N (0 : Int) = mvL B N 1 := by
  obtain ⟨n, rfl⟩ : ∃ n, N = n + 1 := ⟨N - 1, by omega⟩
  have : (B.take 1).drop 1 = [] := List.drop_eq_nil_of_le (by simp; omega)
  rw [mvL, this, List.replicate_succ]; simp
theorem mv_set (h1 : 1 ≤ i) (h2 : i < N) (h3 : N ≤ B.length) : (mvL B N i).set i (gi B (i : Int)) = mvL B N (i + 1) := by
  obtain ⟨j, rfl⟩ : ∃ j, i = j + 1 := ⟨i - 1, by omega⟩
  unfold mvL
  have hl : ((B.take (j + 1)).drop 1).length = j := by simp; omega
  rw [List.set_cons_succ, List.set_append_right _ _ (by omega), hl, Nat.sub_self, show N - (j + 1) = (N - (j + 1 + 1)) + 1 by omega, List.replicate_succ, List.set_cons_zero]
  have e : gi B ((j + 1 : Nat) : Int) = B[j + 1]'(by omega) := by
    have : j + 1 < B.length := by omega
    simp [gi, List.getD, this]
  have et : B.take (j + 1 + 1) = B.take (j + 1) ++ [B[j + 1]'(by omega)] := by rw [List.take_add_one, List.getElem?_eq_getElem (by omega)]; rfl
  rw [et, e, List.drop_append_of_le_length (by simp; omega), List.append_assoc]; rfl
theorem mv_get {v : Int} (h3 : N ≤ B.length) (hv : inN N v) : gi (mvL B N N) v = if v = 0 then 0 else gi B v := by
  have k1 := hv.1
  have k2 := hv.2
  obtain ⟨n, rfl⟩ : ∃ n : Nat, v = n := ⟨v.toNat, by omega⟩
  by_cases h : (n : Int) = 0
  · rw [if_pos h, h]; rfl
  · rw [if_neg h]
    obtain ⟨j, rfl⟩ : ∃ j, n = j + 1 := ⟨n - 1, by omega⟩
    simp only [gi, mvL, Nat.sub_self, List.replicate_zero, List.append_nil, Int.toNat_natCast, List.getD_cons_succ]
    simp only [List.getD, List.getElem?_drop, List.getElem?_take]
    rw [if_pos (by omega), Nat.add_comm 1 j]
/-- The links between shifted values, of the first i links. -/
def shL (f : Int → Int) (L : List Lk) (i : Nat) : List Lk := (L.take i).map (sh f)
theorem shL_zero {f : Int → Int} {L : List Lk} : [] = shL f L 0 := rfl
theorem shL_len {f : Int → Int} {L : List Lk} (h : i ≤ L.length) : (shL f L i).length = i := by simp [shL]; omega
theorem shL_succ {f : Int → Int} {L : List Lk} (h : i < L.length) : shL f L i ++ [sh f (lk L i)] = shL f L (i + 1) := by unfold shL; rw [take_lk h, List.map_append]; rfl
theorem shL_all {f : Int → Int} {L : List Lk} : shL f L L.length = L.map (sh f) := by unfold shL; rw [List.take_length]
/-- The shifted values of the first i nodes. -/
def ysL (f : Int → Int) (X : List Int) (i : Nat) : List Int := (List.range i).map fun (v : Nat) => gi X (v : Int) + f (v : Int)
theorem ys_zero {f : Int → Int} : [] = ysL f X 0 := rfl
theorem ys_len {f : Int → Int} : (ysL f X i).length = i := by simp [ysL]
theorem ys_succ {f : Int → Int} : ysL f X i ++ [gi X (i : Int) + f (i : Int)] = ysL f X (i + 1) := by simp [ysL, List.range_succ]
theorem ys_get {f : Int → Int} {v : Int} (hv : inN N v) : gi (ysL f X N) v = gi X v + f v := by
  have k1 := hv.1
  have k2 := hv.2
  obtain ⟨n, rfl⟩ : ∃ n : Nat, v = n := ⟨v.toNat, by omega⟩
  have h : n < N := by omega
  simp [gi, ysL, List.getD, h]
end
section
variable {N : Int} {L : List Lk} {f : Int → Int}
theorem check_sh (hc : (checkF N L).1 = 0) (hf : Sml N.toNat f) (hm : ∀ l ∈ L, -1099511627776 ≤ l.2.2 ∧ l.2.2 ≤ 1099511627776) : (checkF N (L.map (sh f))).1 = 0 := by
  have ha := ask_of hc
  obtain ⟨hn, hl, _⟩ := checkF_ok hc
  have hg := good_of hc
  have e : (L.map (sh f)).any (badL N) = false := by
    rw [List.any_eq_false]
    intro x hx
    obtain ⟨l, h1, rfl⟩ := List.mem_map.1 hx
    have hb := hg l h1
    have hn := ha.ok.nd l h1
    have s1 := hf l.1 hn.1
    have s2 := hf l.2.1 hn.2
    have := hm l h1
    show ¬ (!nodeB N l.1 || !nodeB N l.2.1 || l.1 == l.2.1 || decide (l.2.2 + f l.2.1 - f l.1 < -4503599627370496) || decide (l.2.2 + f l.2.1 - f l.1 > 4503599627370496)) = true
    simp only [badL, Bool.or_eq_false_iff] at hb
    rw [hb.1.1.1.1, hb.1.1.1.2, hb.1.1.2, decide_eq_false (by omega), decide_eq_false (by omega)]
    simp
  unfold checkF
  rw [if_neg (by omega), List.length_map, if_neg (by omega), ckL_any, e]
  rfl
theorem fit_sh (hc : (checkF N L).1 = 0) (hc' : (checkF N (L.map (sh f))).1 = 0) (hf : Sml N.toNat f) (f0 : f 0 = 0) {X : List Int} (hX : (X.length : Int) = N) (hx : ∀ v, inN N.toNat v → -1125899906842624 ≤ gi X v ∧ gi X v ≤ 1125899906842624) :
    ((fitF N L X).2 = 0 ∧ (fitF N (L.map (sh f)) (ysL f X N.toNat)).2 = 0) ∧ (fitF N L X).1 = (fitF N (L.map (sh f)) (ysL f X N.toNat)).1 := by
  have ha := ask_of hc
  have hN := toNat_of hc
  have h60 := ha.n
  have h0 : inN N.toNat 0 := ⟨by omega, by omega⟩
  have yl : ((ysL f X N.toNat).length : Int) = N := by rw [ys_len]; omega
  have fx : frM X := frM_of fun i hi => by
    have := hx (i : Int) ⟨by omega, by omega⟩
    omega
  have fy : frM (ysL f X N.toNat) := frM_of fun i hi => by
    rw [ys_len] at hi
    have hv : inN N.toNat (i : Int) := ⟨by omega, by omega⟩
    rw [ys_get hv]
    have := hx _ hv
    have := hf _ hv
    omega
  have e1 : fitF N L X = (solL X L && (gi X 0 == 0), 0) := ft3 (by rw [hc]; rfl) (by simpa using hX) (by rw [frB_iff.2 fx]; rfl)
  have e2 : fitF N (L.map (sh f)) (ysL f X N.toNat) = (solL (ysL f X N.toNat) (L.map (sh f)) && (gi (ysL f X N.toNat) 0 == 0), 0) := ft3 (by rw [hc']; rfl) (by simpa using yl) (by rw [frB_iff.2 fy]; rfl)
  refine ⟨⟨by rw [e1], by rw [e2]⟩, ?_⟩
  rw [Bool.eq_iff_iff, fit_iff, fit_iff, ys_get h0, f0]
  constructor
  · rintro ⟨_, _, _, k1, k2⟩
    refine ⟨hc', yl, fy, fun x hx' => ?_, by omega⟩
    obtain ⟨l, hl, rfl⟩ := List.mem_map.1 hx'
    have hn := ha.ok.nd l hl
    show gi (ysL f X N.toNat) l.2.1 ≤ gi (ysL f X N.toNat) l.1 + (l.2.2 + f l.2.1 - f l.1)
    rw [ys_get hn.1, ys_get hn.2]
    have := k1 l hl
    omega
  · rintro ⟨_, _, _, k1, k2⟩
    refine ⟨hc, hX, fx, fun l hl => ?_, by omega⟩
    have hn := ha.ok.nd l hl
    have := k1 (sh f l) (List.mem_map.2 ⟨l, hl, rfl⟩)
    have this : gi (ysL f X N.toNat) l.2.1 ≤ gi (ysL f X N.toNat) l.1 + (l.2.2 + f l.2.1 - f l.1) := this
    rw [ys_get hn.1, ys_get hn.2] at this
    omega
end
end Go.Proofs.Ytlmhkeoblgodiaa
end
