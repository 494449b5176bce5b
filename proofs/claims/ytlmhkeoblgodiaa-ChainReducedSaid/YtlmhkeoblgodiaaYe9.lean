/-
  Texts of the claims on chapter 2: Ye9. No condition: lemmas and contracts.
-/
import Derived.Test.YtlmhkeoblgodiaaYe5
set_option linter.all false
section
/-
  Chapter 2: closed chains below 0: what CheckClash accepts, and the first of them.
-/
namespace Go.Proofs.Ytlmhkeoblgodiaa
open Go Go.Sy Go.Chn
set_option linter.unusedVariables false
set_option linter.unusedSimpArgs false
section
variable {N : Int} {L : List Lk} {I : List Int}
theorem cc_iff : ccF N L I = 0 ↔ (checkF N L).1 = 0 ∧ I.length ≤ 80 ∧ (∀ i ∈ I, 0 ≤ i ∧ i < L.length) ∧ I ≠ [] ∧ Ch (lk L (gi I 0).toNat).1 (atL L I) (lk L (gi I 0).toNat).1 ∧ sumL (atL L I) < 0 := by
  unfold ccF
  by_cases h0 : (checkF N L).1 = 0
  · rw [if_neg (by simp [h0])]
    unfold idxE
    by_cases h3 : I.length > 80
    · rw [if_pos h3, if_pos (by decide)]
      constructor
      · intro h; cases h
      · intro h; omega
    · rw [if_neg h3]
      by_cases h4 : idxB L.length I = true
      · rw [if_pos h4, if_neg (by decide)]
        have h5 := idxB_iff.1 h4
        obtain ⟨k1, k2⟩ := sumR_ch (L := L) (b := (lk L (gi I 0).toNat).1) (a := (lk L (gi I 0).toNat).1) (s := 0) h5
        unfold closB
        by_cases h6 : I = []
        · subst h6
          constructor
          · intro h
            rw [if_neg (by simp)] at h
            cases h
          · intro h; exact absurd rfl h.2.2.2.1
        · have h7 : (I.length != 0) = true := by simpa using h6
          rw [h7, h4]
          simp only [Bool.true_and]
          constructor
          · intro h
            split at h
            · rename_i hb
              simp only [Bool.and_eq_true, decide_eq_true_eq, beq_iff_eq] at hb
              have e := k2 hb.1.1
              exact ⟨h0, by omega, h5, h6, k1.1 hb.1, by omega⟩
            · cases h
          · rintro ⟨_, _, _, _, h8, h9⟩
            obtain ⟨b1, b2⟩ := k1.2 h8
            have e := k2 b1
            rw [if_pos]
            simp only [Bool.and_eq_true, decide_eq_true_eq, beq_iff_eq]
            exact ⟨⟨b1, b2⟩, by omega⟩
      · rw [if_neg h4, if_pos (by decide)]
        constructor
        · intro h; cases h
        · intro h; exact absurd (idxB_iff.2 h.2.2.1) h4
  · rw [if_pos h0]
    constructor
    · intro h; exact absurd h h0
    · intro h; exact absurd h.1 h0
theorem cc_neg (hn : NoNeg L) : ccF N L I ≠ 0 := fun h => by
  obtain ⟨_, _, h3, _, h5, h6⟩ := cc_iff.1 h
  have := hn _ _ h5 (atL_sub h3)
  omega
def clsF (N : Int) (L : List Lk) : List Int × Int := if (checkF N L).1 ≠ 0 then ([], (checkF N L).1) else if conB N L = true then ([], 5) else (clF N.toNat L, 0)
theorem cls_ok (hc : (checkF N L).1 = 0) (hf : conB N L = false) : (clF N.toNat L).length ≤ N.toNat ∧ clF N.toNat L ≠ [] ∧ (∀ i ∈ clF N.toNat L, 0 ≤ i ∧ i < L.length) ∧ ccF N L (clF N.toNat L) = 0 ∧ ∀ I, ccF N L I = 0 → (clF N.toNat L).length ≤ I.length := by
  have ha := ask_of hc
  have hn : ¬ NoNeg L := fun h => by rw [(con_iff ha).2 h] at hf; cases hf
  obtain ⟨k, l, h1, h2⟩ := clash_some ha.ok hn
  obtain ⟨J, j1, j2, j3, j4, j5⟩ := h2.chain ha.ok
  have e : clF N.toNat L = J := by unfold clF; rw [h1]; exact j1.symm
  have hk := h2.lt
  have hn' := ha.n
  have hne : J ≠ [] := fun e => by rw [e] at j2; cases j2
  rw [e]
  refine ⟨by omega, hne, j3, cc_iff.2 ⟨hc, by omega, j3, hne, ?_, j5⟩, fun I hI => ?_⟩
  · cases J with
    | nil => exact absurd rfl hne
    | cons i J =>
      have e2 : (lk L (gi (i :: J) 0).toNat).1 = l.1 := j4.1
      rw [e2]; exact j4
  · obtain ⟨_, _, h3, _, h5, h6⟩ := cc_iff.1 hI
    have := h2.least ha.ok h5 (atL_sub h3) h6
    rw [j2]
    simpa [atL] using this
end
end Go.Proofs.Ytlmhkeoblgodiaa
end

section
/-
  Chapter 2: Clash. Printed by gen56.py.
-/
namespace Go.Proofs.Ytlmhkeoblgodiaa
open Go Go.Sy Go.Chn
set_option maxRecDepth 100000
set_option maxHeartbeats 4000000
set_option linter.unusedVariables false
set_option linter.unusedSimpArgs false
variable {Γ : Glob}

def kTT : List CK := [.sl 32 [.sl 3 [.int .i64]]]
/-- The tables of the first i nodes. -/
def rsT (N : Nat) (L : List Lk) (i : Nat) : List (List (List Int)) := (List.range i).map (fun n : Nat => xT N L (n : Int) (N + 1)) ++ List.replicate (N - i) []
section
variable {N : Nat} {L : List Lk} {i : Nat}
theorem rs_zero : List.replicate N ([] : List (List Int)) = rsT N L 0 := by simp [rsT]
theorem rs_len (h : i ≤ N) : (rsT N L i).length = N := by simp [rsT]; omega
theorem rs_set (h : i < N) : (rsT N L i).set i (xT N L (i : Int) (N + 1)) = rsT N L (i + 1) := by
  unfold rsT
  rw [List.set_append_right _ _ (by simp), List.length_map, List.length_range, Nat.sub_self, show N - i = (N - (i + 1)) + 1 by omega, List.replicate_succ, List.set_cons_zero, List.range_succ, List.map_append, List.append_assoc]
  rfl
theorem rs_get {v : Int} (h : inN N v) : (rsT N L N).getD v.toNat [] = xT N L v (N + 1) := by
  have h1 : v.toNat < N := by have := h.1; have := h.2; omega
  have e : ((v.toNat : Nat) : Int) = v := Int.toNat_of_nonneg h.1
  unfold rsT
  rw [List.getD_eq_getElem?_getD, List.getElem?_append_left (by simpa using h1), List.getElem?_map, List.getElem?_range h1]
  simp [e]
end
def row3 (R : List (List (List Int))) (f : Int) : List (List Int) := @Ar.get ⟨35, kTT, R⟩ (0 + Int.toNat f)
theorem row3_eq {N : Nat} {L : List Lk} {v : Int} (h : inN N v) : row3 (rsT N L N) v = xT N L v (N + 1) := by unfold row3; rw [Nat.zero_add]; exact rs_get h
def row3b (R : List (List (List Int))) (f : Int) (ix : Nat) : List Int := @Ar.get ⟨32, kT, row3 R f⟩ ix
theorem row3b_eq {N : Nat} {L : List Lk} {v : Int} {k : Nat} (h : inN N v) (hk : k < N + 1) : row3b (rsT N L N) v k = exF N L v k := by unfold row3b; rw [row3_eq h]; exact xT_get hk
def backA (R : List (List (List Int))) (L : List Lk) (i ix : Nat) : Int := @Ar.get ⟨3, kI, row3b R (lkA L i).1 ix⟩ (0 + Int.toNat (lkA L i).2.1)
theorem backA_eq {N : Nat} {L : List Lk} {i k : Nat} (h : inN N (lk L i).1) (h2 : 0 ≤ (lk L i).2.1) (hk : k < N + 1) : backA (rsT N L N) L i k = gi (exF N L (lk L i).1 k) (lk L i).2.1 := by
  unfold backA
  rw [lkA_eq, row3b_eq h hk, Nat.zero_add]
  show gi (exF N L (lk L i).1 k) ((Int.toNat (lk L i).2.1 : Nat) : Int) = _
  rw [Int.toNat_of_nonneg h2]
theorem fi_go {N k i : Nat} {L : List Lk} (h : i < L.length) (hb : hitC N L k (lk L i) = false) : (L.drop i).find? (hitC N L k) = (L.drop (i + 1)).find? (hitC N L k) := by rw [drop_lk h, List.find?_cons, hb]
theorem fi_hit {N k i : Nat} {L : List Lk} (h : i < L.length) (hb : hitC N L k (lk L i) = true) : (L.drop i).find? (hitC N L k) = some (lk L i) := by rw [drop_lk h, List.find?_cons, hb]
theorem fi_end {N k i : Nat} {L : List Lk} (h : L.length ≤ i) : (L.drop i).find? (hitC N L k) = none := by rw [List.drop_eq_nil_of_le h]; rfl
theorem hitC_eq {N k : Nat} {L : List Lk} {l : Lk} {c : Int} (hc : gi (exF N L l.1 k) l.2.1 = c) : hitC N L k l = (!(c == 1152921504606846976) && decide (l.2.2 + c < 0)) := by unfold hitC; rw [hc]; rfl
theorem clF_some {N : Nat} {L : List Lk} {k : Nat} {l : Lk} (h : srF N L N 0 = some (k, l)) : clF N L = folF L (exF N L l.1) (fun s => decide (s < 0)) (k + 1) l.1 0 := by unfold clF; rw [h]
theorem fol_congr' {L : List Lk} {T U : Nat → List Int} {good : Int → Bool} : ∀ {k : Nat} {a s : Int}, (∀ j, j < k → T j = U j) → folF L T good k a s = folF L U good k a s
  | 0, _, _, _ => rfl
  | k + 1, a, s, h => by
    rw [folF, folF, h k (Nat.lt_succ_self k)]
    split
    · rw [fol_congr' fun j hj => h j (by omega)]
    · rw [fol_congr' fun j hj => h j (by omega)]
theorem cls_e1 {N : Int} {L : List Lk} (h : ((checkF N L).1 != 0) = true) : clsF N L = ([], (checkF N L).1) := by unfold clsF; rw [if_pos (by simpa using h)]
theorem cls_e5 {N : Int} {L : List Lk} (h : (checkF N L).1 = 0) (hf : conB N L = true) : clsF N L = ([], 5) := by unfold clsF; rw [if_neg (not_not_intro h), if_pos hf]
theorem cls_e0 {N : Int} {L : List Lk} (h : (checkF N L).1 = 0) (hf : conB N L = false) : clsF N L = (clF N.toNat L, 0) := by unfold clsF; rw [if_neg (not_not_intro h), if_neg (by rw [hf]; simp)]
noncomputable def L25 : List (Nat × Ctr) := [(22, c22), (65, c65), (66, c66), (68, c68)]
theorem L25_ok : CsOk Try.prog Γ L25 := (((CsOk.nil.cons (body_of Try.func68 rfl rfl).fn c68_ok).cons (body_of Try.func66 rfl rfl).fn c66_ok).cons (body_of Try.func65 rfl rfl).fn c65_ok).cons (body_of Try.func22 rfl rfl).fn c22_ok
def o25 (id : Nat) : Option (List Nat) := match Nat.beq id 22 with | true => some [0, 1, 2, 3, 4, 5, 6, 7, 8, 9, 10, 11, 12] | false => none
attribute [local irreducible] checkF gi lk folF clF clsF xT exF relaxF solF
noncomputable def c25 : Ctr := newS (fun _ L => [(Duty.of (L.length ≤ 1000000))]) (fun N L => ⟨[.arr 3 kI (clsF N L).1 true true], .tup [.a (.sl 0 [] 0 (clsF N L).1.length), .a (vI (clsF N L).2)]⟩)
theorem c25_ok : Ctr.Ok Try.prog Γ 25 c25 := newS_ok (d := 0) (E := { tabs.env L25 [] false 0 with ord := o25 }) ((prog_ok L25_ok BsOk.nil false 0).ords o25) (body_of Try.func25 rfl rfl) (by
  intro N L K ⟨hL, _⟩ hK
  simp only [Duty.of_p] at hL
  by_cases hq : ((checkF N L).1 != 0) = true
  · repeat' ((conv => whnf); (first | apply And.intro | (intro h9; first | (have h8 : (_ : Bool) = false := h9; exfalso; clear h8; revert h9; subst_vars; intro h9; exact ft_no (h9.symm.trans (by assumption))) | (have h8 : (_ : Bool) = true := h9; exfalso; clear h8; revert h9; subst_vars; intro h9; exact tf_no (h9.symm.trans (by assumption))) | skip)))
    all_goals try (conv => whnf)
    all_goals try first
      | exact LexB.mk (by kernel_rfl)
      | exact LexG.mk (by kernel_rfl)
      | exact LexT.mk (by kernel_rfl)
      | exact Forced.mk (by kernel_rfl)
      | exact LexP.mk (by kernel_rfl)
      | exact ForcedP.mk (by kernel_rfl)
      | exact ⟨Nat.le_of_ble_eq_true rfl⟩
      | exact ⟨rfl⟩
      | exact ⟨trivial⟩
    all_goals subst_vars
    all_goals try first
      | rfl
      | contradiction
      | (refine Ob.mk ?_; simp only [inRQ, inR, Duty.of_p]; omega)
    all_goals try first
      | exact ⟨show L.length ≤ 1000000 by omega⟩
      | exact ⟨show L.length ≤ 1099511627776 by omega⟩
      | trivial
    all_goals (exact klE (te := 3) (tg := kI) (by simp [kI]) (by rw [cls_e1 hq] at hK; exact hK) rfl)
  replace hq : ((checkF N L).1 != 0) = false := by simpa using hq
  have hc : (checkF N L).1 = 0 := by simpa using hq
  have ha := ask_of hc
  have hN := toNat_of hc
  cases hf : conB N L
  case true =>
    have hf' : (relaxF N.toNat L [] (List.replicate N.toNat 0)).1 = true := hf
    repeat' ((conv => whnf); (first | apply And.intro | (intro h9; first | (have h8 : (_ : Bool) = false := h9; exfalso; clear h8; revert h9; subst_vars; intro h9; exact ft_no (h9.symm.trans (by assumption))) | (have h8 : (_ : Bool) = true := h9; exfalso; clear h8; revert h9; subst_vars; intro h9; exact tf_no (h9.symm.trans (by assumption))) | skip)))
    all_goals try (conv => whnf)
    all_goals try first
      | exact LexB.mk (by kernel_rfl)
      | exact LexG.mk (by kernel_rfl)
      | exact LexT.mk (by kernel_rfl)
      | exact Forced.mk (by kernel_rfl)
      | exact LexP.mk (by kernel_rfl)
      | exact ForcedP.mk (by kernel_rfl)
      | exact ⟨Nat.le_of_ble_eq_true rfl⟩
      | exact ⟨rfl⟩
      | exact ⟨trivial⟩
    all_goals subst_vars
    all_goals try first
      | rfl
      | contradiction
      | (refine Ob.mk ?_; simp only [inRQ, inR, Duty.of_p]; omega)
    all_goals try first
      | exact ⟨show L.length ≤ 1000000 by omega⟩
      | exact ⟨show L.length ≤ 1099511627776 by omega⟩
      | trivial
    all_goals try first
      | exact hN
      | exact ha
    all_goals (exact klE (te := 3) (tg := kI) (by simp [kI]) (by rw [cls_e5 hc hf] at hK; exact hK) rfl)
  have hf' : (relaxF N.toNat L [] (List.replicate N.toNat 0)).1 = false := hf
  rw [cls_e0 hc hf] at hK
  have hn60 := ha.n
  repeat' ((conv => whnf); (first | apply And.intro | (intro h9; first | (have h8 : (_ : Bool) = false := h9; exfalso; clear h8; revert h9; subst_vars; intro h9; exact ft_no (h9.symm.trans (by assumption))) | (have h8 : (_ : Bool) = true := h9; exfalso; clear h8; revert h9; subst_vars; intro h9; exact tf_no (h9.symm.trans (by assumption))) | skip)))
  all_goals try (conv => whnf)
  all_goals try first
    | exact LexB.mk (by kernel_rfl)
    | exact LexG.mk (by kernel_rfl)
    | exact LexT.mk (by kernel_rfl)
    | exact Forced.mk (by kernel_rfl)
    | exact LexP.mk (by kernel_rfl)
    | exact ForcedP.mk (by kernel_rfl)
    | exact ⟨Nat.le_of_ble_eq_true rfl⟩
    | exact ⟨rfl⟩
    | exact ⟨trivial⟩
  all_goals subst_vars
  all_goals try first
    | rfl
    | contradiction
    | (refine Ob.mk ?_; simp only [inRQ, inR, Duty.of_p]; omega)
  all_goals try first
    | exact ⟨show L.length ≤ 1000000 by omega⟩
    | exact ⟨show L.length ≤ 1099511627776 by omega⟩
    | trivial
  all_goals try first
    | exact hN
    | exact ha
    | exact ⟨show N * ((1 : Nat) : Int) ≤ 16777216 by omega⟩
  refine ⟨Nat, fun i => i ≤ N.toNat, fun i => ⟨slotsT 93 [1, 8, 33, 34] [.a (.p 1 [] 0 0), .a (.sl 2 [] 0 N.toNat), .a (vI N.toNat), .a (vI i)], [], [.arr 44 kL L false false, .box true [vI N, .sl 0 [] 0 L.length], .arr 35 kTT (rsT N.toNat L i) true true]⟩, fun i => N.toNat - i, 0, [], Nat.zero_le _, ?_, ?_⟩
  · have e0 : List.replicate N.toNat ([] : List (List Int)) = rsT N.toNat L 0 := rs_zero
    subst_vars
    repeat' ((conv => whnf); (first | apply And.intro | intro _))
    all_goals first | rfl | trivial | exact Nat.le_of_ble_eq_true rfl | exact ⟨rfl, rfl, rfl⟩ | exact ⟨rfl, rfl, rfl, rfl⟩ | exact ⟨rfl, rfl⟩ | exact e0 | exact e0.symm | exact ⟨rfl, rfl, e0⟩
  rintro i hi
  have hrl := rs_len (L := L) hi
  by_cases hi1 : i < N.toNat
  · have p0 : decide ((i : Int) < (N.toNat : Int)) = true := decide_eq_true (by omega)
    have e1 : (rsT N.toNat L i).set (0 + Int.toNat (i : Int)) (xT N.toNat L (i : Int) (N.toNat + 1)) = rsT N.toNat L (i + 1) := by rw [Nat.zero_add]; exact rs_set hi1
    repeat' ((conv => whnf); (first | apply And.intro | (intro h9; first | (have h8 : (_ : Bool) = false := h9; exfalso; clear h8; revert h9; subst_vars; intro h9; exact ft_no (h9.symm.trans (by assumption))) | (have h8 : (_ : Bool) = true := h9; exfalso; clear h8; revert h9; subst_vars; intro h9; exact tf_no (h9.symm.trans (by assumption))) | skip)))
    all_goals try (conv => whnf)
    all_goals try first
      | exact LexB.mk (by kernel_rfl)
      | exact LexG.mk (by kernel_rfl)
      | exact LexT.mk (by kernel_rfl)
      | exact Forced.mk (by kernel_rfl)
      | exact LexP.mk (by kernel_rfl)
      | exact ForcedP.mk (by kernel_rfl)
      | exact ⟨Nat.le_of_ble_eq_true rfl⟩
      | exact ⟨rfl⟩
      | exact ⟨trivial⟩
    all_goals subst_vars
    all_goals try first
      | rfl
      | contradiction
      | (refine Ob.mk ?_; simp only [inRQ, inR, Duty.of_p]; omega)
    all_goals try first
      | exact ⟨show L.length ≤ 1000000 by omega⟩
      | exact ⟨show L.length ≤ 1099511627776 by omega⟩
      | trivial
    all_goals try first
      | exact ⟨hN⟩
      | exact ⟨ha⟩
      | exact ⟨show (i : Int) < (N.toNat : Int) by omega⟩
      | exact ⟨show N.toNat ≤ 60 by omega⟩
      | exact ⟨show 0 ≤ (i : Int) ∧ (i : Int) < (N.toNat : Int) by omega⟩
      | exact ⟨show 0 + Int.toNat (i : Int) < (rsT N.toNat L i).length by rw [hrl]; omega⟩
      | exact ⟨(xT_len).symm⟩
    all_goals
      refine ⟨i + 1, [0, 1, 2], hi1, ?_, by show N.toNat - (i + 1) < N.toNat - i; omega⟩
      subst_vars
      repeat' ((conv => whnf); (first | apply And.intro | intro _))
      all_goals first | rfl | trivial | exact Nat.le_of_ble_eq_true rfl | exact ⟨rfl, rfl, rfl⟩ | exact ⟨rfl, rfl, rfl, rfl⟩ | exact ⟨rfl, rfl⟩ | exact e1 | (subst_vars; rfl) | exact ⟨rfl, rfl, e1⟩
  have p0 : decide ((i : Int) < (N.toNat : Int)) = false := decide_eq_false (by omega)
  obtain rfl : i = N.toNat := by omega
  have hnn : ¬ NoNeg L := fun h => by rw [(con_iff ha).2 h] at hf; cases hf
  obtain ⟨kk, ll, hs1, hs2⟩ := clash_some ha.ok hnn
  have hkN := hs2.lt
  have eC : clF N.toNat L = folF L (exF N.toNat L ll.1) (fun s => decide (s < 0)) (kk + 1) ll.1 0 := by rw [clF_some hs1]
  repeat' ((conv => whnf); (first | apply And.intro | (intro h9; first | (have h8 : (_ : Bool) = false := h9; exfalso; clear h8; revert h9; subst_vars; intro h9; exact ft_no (h9.symm.trans (by assumption))) | (have h8 : (_ : Bool) = true := h9; exfalso; clear h8; revert h9; subst_vars; intro h9; exact tf_no (h9.symm.trans (by assumption))) | skip)))
  all_goals try (conv => whnf)
  all_goals try first
    | exact LexB.mk (by kernel_rfl)
    | exact LexG.mk (by kernel_rfl)
    | exact LexT.mk (by kernel_rfl)
    | exact Forced.mk (by kernel_rfl)
    | exact LexP.mk (by kernel_rfl)
    | exact ForcedP.mk (by kernel_rfl)
    | exact ⟨Nat.le_of_ble_eq_true rfl⟩
    | exact ⟨rfl⟩
    | exact ⟨trivial⟩
  all_goals subst_vars
  all_goals try first
    | rfl
    | contradiction
    | (refine Ob.mk ?_; simp only [inRQ, inR, Duty.of_p]; omega)
  all_goals try first
    | exact ⟨show L.length ≤ 1000000 by omega⟩
    | exact ⟨show L.length ≤ 1099511627776 by omega⟩
    | trivial
  refine ⟨Nat, fun k => k ≤ kk, fun k => ⟨slotsT 93 [1, 8, 10, 11] [.a (.p 1 [] 0 0), .a (.sl 2 [] 0 N.toNat), .a (.fn 67 []), .a (vI ((k + 1 : Nat) : Int))], [], [.arr 44 kL L false false, .box true [vI N, .sl 0 [] 0 L.length], .arr 35 kTT (rsT N.toNat L N.toNat) true true]⟩, fun k => kk - k, 0, [], Nat.zero_le _, ?_, ?_⟩
  · subst_vars
    repeat' ((conv => whnf); (first | apply And.intro | intro _))
    all_goals first | rfl | trivial | exact Nat.le_of_ble_eq_true rfl | exact ⟨rfl, rfl, rfl⟩ | exact ⟨rfl, rfl, rfl, rfl⟩ | exact ⟨rfl, rfl⟩ | (rename_i r hr; cases hr)
  rintro k hk
  have hkk : k < N.toNat + 1 := by omega
  repeat' ((conv => whnf); (first | apply And.intro | (intro h9; first | (have h8 : (_ : Bool) = false := h9; exfalso; clear h8; revert h9; subst_vars; intro h9; exact ft_no (h9.symm.trans (by assumption))) | (have h8 : (_ : Bool) = true := h9; exfalso; clear h8; revert h9; subst_vars; intro h9; exact tf_no (h9.symm.trans (by assumption))) | skip)))
  all_goals try (conv => whnf)
  all_goals try first
    | exact LexB.mk (by kernel_rfl)
    | exact LexG.mk (by kernel_rfl)
    | exact LexT.mk (by kernel_rfl)
    | exact Forced.mk (by kernel_rfl)
    | exact LexP.mk (by kernel_rfl)
    | exact ForcedP.mk (by kernel_rfl)
    | exact ⟨Nat.le_of_ble_eq_true rfl⟩
    | exact ⟨rfl⟩
    | exact ⟨trivial⟩
  all_goals subst_vars
  all_goals try first
    | rfl
    | contradiction
    | (refine Ob.mk ?_; simp only [inRQ, inR, Duty.of_p]; omega)
  all_goals try first
    | exact ⟨show L.length ≤ 1000000 by omega⟩
    | exact ⟨show L.length ≤ 1099511627776 by omega⟩
    | trivial
  refine ⟨Nat, fun i => i ≤ L.length ∧ L.find? (hitC N.toNat L k) = (L.drop i).find? (hitC N.toNat L k), fun i => ⟨slotsT 93 [1, 8, 10, 11, 49, 50, 51] [.a (.p 1 [] 0 0), .a (.sl 2 [] 0 N.toNat), .a (.fn 67 []), .a (vI ((k + 1 : Nat) : Int)), .a (.sl 0 [] 0 L.length), .a (vI L.length), .a (vI i)], [], [.arr 44 kL L false false, .box true [vI N, .sl 0 [] 0 L.length], .arr 35 kTT (rsT N.toNat L N.toNat) true true]⟩, fun i => L.length - i, 0, [], ⟨Nat.zero_le _, rfl⟩, ?_, ?_⟩
  · subst_vars
    repeat' ((conv => whnf); (first | apply And.intro | intro _))
    all_goals first | rfl | trivial | exact Nat.le_of_ble_eq_true rfl | exact ⟨rfl, rfl, rfl⟩ | exact ⟨rfl, rfl, rfl, rfl⟩ | exact ⟨rfl, rfl⟩ | (rename_i r hr; cases hr)
  rintro i ⟨hi, hfd⟩
  by_cases hi1 : i < L.length
  case neg =>
    have p0 : decide ((i : Int) < (L.length : Int)) = false := decide_eq_false (by omega)
    have hno := hfd.trans (fi_end (by omega))
    have hk1 : k + 1 ≤ kk := by
      rcases Nat.lt_or_ge k kk with h | h
      · exact h
      · obtain rfl : k = kk := by omega
        rw [hs2.fd] at hno; cases hno
    repeat' ((conv => whnf); (first | apply And.intro | (intro h9; first | (have h8 : (_ : Bool) = false := h9; exfalso; clear h8; revert h9; subst_vars; intro h9; exact ft_no (h9.symm.trans (by assumption))) | (have h8 : (_ : Bool) = true := h9; exfalso; clear h8; revert h9; subst_vars; intro h9; exact tf_no (h9.symm.trans (by assumption))) | skip)))
    all_goals try (conv => whnf)
    all_goals try first
      | exact LexB.mk (by kernel_rfl)
      | exact LexG.mk (by kernel_rfl)
      | exact LexT.mk (by kernel_rfl)
      | exact Forced.mk (by kernel_rfl)
      | exact LexP.mk (by kernel_rfl)
      | exact ForcedP.mk (by kernel_rfl)
      | exact ⟨Nat.le_of_ble_eq_true rfl⟩
      | exact ⟨rfl⟩
      | exact ⟨trivial⟩
    all_goals subst_vars
    all_goals try first
      | rfl
      | contradiction
      | (refine Ob.mk ?_; simp only [inRQ, inR, Duty.of_p]; omega)
    all_goals try first
      | exact ⟨show L.length ≤ 1000000 by omega⟩
      | exact ⟨show L.length ≤ 1099511627776 by omega⟩
      | trivial
    all_goals
      refine ⟨k + 1, [0, 1, 2], hk1, ?_, by show kk - (k + 1) < kk - k; omega⟩
      subst_vars
      repeat' ((conv => whnf); (first | apply And.intro | intro _))
      all_goals first | rfl | trivial | exact Nat.le_of_ble_eq_true rfl | exact ⟨rfl, rfl, rfl⟩ | exact ⟨rfl, rfl, rfl, rfl⟩ | exact ⟨rfl, rfl⟩ | (rename_i r hr; cases hr) | (subst_vars; rfl)
  have p0 : decide ((i : Int) < (L.length : Int)) = true := decide_eq_true (by omega)
  have hll := ha.l
  have hnd := ha.ok.nd _ (lk_mem' hi1)
  have hms := ha.ok.ms _ (lk_mem' hi1)
  have hA := lkA_eq L i
  have hnA : (0 ≤ (lkA L i).1 ∧ (lkA L i).1 < N.toNat) ∧ (0 ≤ (lkA L i).2.1 ∧ (lkA L i).2.1 < N.toNat) := by rw [hA]; exact hnd
  have hmA : -4503599627370496 ≤ (lkA L i).2.2 ∧ (lkA L i).2.2 ≤ 4503599627370496 := by rw [hA]; exact hms
  have hix : (0 + Int.toNat (((k + 1 : Nat) : Int) - 1)) = k := by omega
  have hB : backA (rsT N.toNat L N.toNat) L i (0 + Int.toNat (((k + 1 : Nat) : Int) - 1)) = gi (exF N.toNat L (lk L i).1 k) (lk L i).2.1 := by rw [hix]; exact backA_eq hnd.1 hnd.2.1 hkk
  have hr1 : (row3 (rsT N.toNat L N.toNat) (lkA L i).1).length = N.toNat + 1 := by rw [hA, row3_eq hnd.1]; exact xT_len
  have hr2 : (row3b (rsT N.toNat L N.toNat) (lkA L i).1 (0 + Int.toNat (((k + 1 : Nat) : Int) - 1))).length = N.toNat := by rw [hix, hA, row3b_eq hnd.1 hkk]; exact exF_len
  have hRl : ((rsT N.toNat L N.toNat)).length = N.toNat := rs_len (Nat.le_refl _)
  have hH : hitC N.toNat L k (lk L i) = (!(backA (rsT N.toNat L N.toNat) L i (0 + Int.toNat (((k + 1 : Nat) : Int) - 1)) == 1152921504606846976) && decide ((lkA L i).2.2 + backA (rsT N.toNat L N.toNat) L i (0 + Int.toNat (((k + 1 : Nat) : Int) - 1)) < 0)) := by rw [hA]; exact hitC_eq hB.symm
  cases c1 : (backA (rsT N.toNat L N.toNat) L i (0 + Int.toNat (((k + 1 : Nat) : Int) - 1)) == 1152921504606846976)
  case true =>
    have hgo := hfd.trans (fi_go hi1 (by rw [hH, c1]; rfl))
    repeat' ((conv => whnf); (first | apply And.intro | (intro h9; first | (have h8 : (_ : Bool) = false := h9; exfalso; clear h8; revert h9; subst_vars; intro h9; exact ft_no (h9.symm.trans (by assumption))) | (have h8 : (_ : Bool) = true := h9; exfalso; clear h8; revert h9; subst_vars; intro h9; exact tf_no (h9.symm.trans (by assumption))) | skip)))
    all_goals try (conv => whnf)
    all_goals try first
      | exact LexB.mk (by kernel_rfl)
      | exact LexG.mk (by kernel_rfl)
      | exact LexT.mk (by kernel_rfl)
      | exact Forced.mk (by kernel_rfl)
      | exact LexP.mk (by kernel_rfl)
      | exact ForcedP.mk (by kernel_rfl)
      | exact ⟨Nat.le_of_ble_eq_true rfl⟩
      | exact ⟨rfl⟩
      | exact ⟨trivial⟩
    all_goals subst_vars
    all_goals try first
      | rfl
      | contradiction
      | (refine Ob.mk ?_; simp only [inRQ, inR, Duty.of_p]; omega)
    all_goals try first
      | exact ⟨show L.length ≤ 1000000 by omega⟩
      | exact ⟨show L.length ≤ 1099511627776 by omega⟩
      | trivial
    all_goals try first
      | exact ⟨show 0 ≤ (i : Int) ∧ (i : Int) < (L.length : Int) by omega⟩
      | exact ⟨show 0 + Int.toNat (i : Int) < L.length by omega⟩
      | exact ⟨show 0 ≤ (lkA L i).1 ∧ (lkA L i).1 < (N.toNat : Int) from hnA.1⟩
      | exact ⟨show 0 + Int.toNat (lkA L i).1 < (rsT N.toNat L N.toNat).length by rw [hRl]; omega⟩
      | exact ⟨show 0 ≤ ((k + 1 : Nat) : Int) - 1 ∧ ((k + 1 : Nat) : Int) - 1 < ((row3 (rsT N.toNat L N.toNat) (lkA L i).1).length : Int) by rw [hr1]; omega⟩
      | exact ⟨show (0 + Int.toNat (((k + 1 : Nat) : Int) - 1)) < (row3 (rsT N.toNat L N.toNat) (lkA L i).1).length by rw [hr1]; omega⟩
      | exact ⟨show 0 ≤ (lkA L i).2.1 ∧ (lkA L i).2.1 < ((row3b (rsT N.toNat L N.toNat) (lkA L i).1 (0 + Int.toNat (((k + 1 : Nat) : Int) - 1))).length : Int) by rw [hr2]; exact hnA.2⟩
      | exact ⟨show 0 + Int.toNat (lkA L i).2.1 < (row3b (rsT N.toNat L N.toNat) (lkA L i).1 (0 + Int.toNat (((k + 1 : Nat) : Int) - 1))).length by rw [hr2]; omega⟩
      | (refine Ob.mk ?_; show (inRQ .i64 ((lkA L i).2.2 + backA (rsT N.toNat L N.toNat) L i (0 + Int.toNat (((k + 1 : Nat) : Int) - 1)))).p; simp only [inRQ, inR, Duty.of_p]; omega)
    all_goals
      refine ⟨i + 1, [0, 1, 2], ⟨hi1, hgo⟩, ?_, by show L.length - (i + 1) < L.length - i; omega⟩
      subst_vars
      repeat' ((conv => whnf); (first | apply And.intro | intro _))
      all_goals first | rfl | trivial | exact Nat.le_of_ble_eq_true rfl | exact ⟨rfl, rfl, rfl⟩ | exact ⟨rfl, rfl, rfl, rfl⟩ | exact ⟨rfl, rfl⟩ | (rename_i r hr; cases hr) | (subst_vars; rfl)
  have hbb : -270215977642229760 ≤ backA (rsT N.toNat L N.toNat) L i (0 + Int.toNat (((k + 1 : Nat) : Int) - 1)) ∧ backA (rsT N.toNat L N.toNat) L i (0 + Int.toNat (((k + 1 : Nat) : Int) - 1)) ≤ 270215977642229760 := by
    have h5 : gi (exF N.toNat L (lk L i).1 k) (lk L i).2.1 ≠ Fr := by rw [← hB]; unfold Fr; simpa using c1
    have := (exF_ex ha.ok hnd.1 (k := k) (by omega) _ hnd.2).bound ha.ok h5
    rw [hB]; omega
  cases c2 : decide ((lkA L i).2.2 + backA (rsT N.toNat L N.toNat) L i (0 + Int.toNat (((k + 1 : Nat) : Int) - 1)) ≥ 0)
  case true =>
    have hgo := hfd.trans (fi_go hi1 (by rw [hH, c1, decide_eq_false (by have := of_decide_eq_true c2; omega)]; rfl))
    repeat' ((conv => whnf); (first | apply And.intro | (intro h9; first | (have h8 : (_ : Bool) = false := h9; exfalso; clear h8; revert h9; subst_vars; intro h9; exact ft_no (h9.symm.trans (by assumption))) | (have h8 : (_ : Bool) = true := h9; exfalso; clear h8; revert h9; subst_vars; intro h9; exact tf_no (h9.symm.trans (by assumption))) | skip)))
    all_goals try (conv => whnf)
    all_goals try first
      | exact LexB.mk (by kernel_rfl)
      | exact LexG.mk (by kernel_rfl)
      | exact LexT.mk (by kernel_rfl)
      | exact Forced.mk (by kernel_rfl)
      | exact LexP.mk (by kernel_rfl)
      | exact ForcedP.mk (by kernel_rfl)
      | exact ⟨Nat.le_of_ble_eq_true rfl⟩
      | exact ⟨rfl⟩
      | exact ⟨trivial⟩
    all_goals subst_vars
    all_goals try first
      | rfl
      | contradiction
      | (refine Ob.mk ?_; simp only [inRQ, inR, Duty.of_p]; omega)
    all_goals try first
      | exact ⟨show L.length ≤ 1000000 by omega⟩
      | exact ⟨show L.length ≤ 1099511627776 by omega⟩
      | trivial
    all_goals try first
      | exact ⟨show 0 ≤ (i : Int) ∧ (i : Int) < (L.length : Int) by omega⟩
      | exact ⟨show 0 + Int.toNat (i : Int) < L.length by omega⟩
      | exact ⟨show 0 ≤ (lkA L i).1 ∧ (lkA L i).1 < (N.toNat : Int) from hnA.1⟩
      | exact ⟨show 0 + Int.toNat (lkA L i).1 < (rsT N.toNat L N.toNat).length by rw [hRl]; omega⟩
      | exact ⟨show 0 ≤ ((k + 1 : Nat) : Int) - 1 ∧ ((k + 1 : Nat) : Int) - 1 < ((row3 (rsT N.toNat L N.toNat) (lkA L i).1).length : Int) by rw [hr1]; omega⟩
      | exact ⟨show (0 + Int.toNat (((k + 1 : Nat) : Int) - 1)) < (row3 (rsT N.toNat L N.toNat) (lkA L i).1).length by rw [hr1]; omega⟩
      | exact ⟨show 0 ≤ (lkA L i).2.1 ∧ (lkA L i).2.1 < ((row3b (rsT N.toNat L N.toNat) (lkA L i).1 (0 + Int.toNat (((k + 1 : Nat) : Int) - 1))).length : Int) by rw [hr2]; exact hnA.2⟩
      | exact ⟨show 0 + Int.toNat (lkA L i).2.1 < (row3b (rsT N.toNat L N.toNat) (lkA L i).1 (0 + Int.toNat (((k + 1 : Nat) : Int) - 1))).length by rw [hr2]; omega⟩
      | (refine Ob.mk ?_; show (inRQ .i64 ((lkA L i).2.2 + backA (rsT N.toNat L N.toNat) L i (0 + Int.toNat (((k + 1 : Nat) : Int) - 1)))).p; simp only [inRQ, inR, Duty.of_p]; omega)
    all_goals
      refine ⟨i + 1, [0, 1, 2], ⟨hi1, hgo⟩, ?_, by show L.length - (i + 1) < L.length - i; omega⟩
      subst_vars
      repeat' ((conv => whnf); (first | apply And.intro | intro _))
      all_goals first | rfl | trivial | exact Nat.le_of_ble_eq_true rfl | exact ⟨rfl, rfl, rfl⟩ | exact ⟨rfl, rfl, rfl, rfl⟩ | exact ⟨rfl, rfl⟩ | (rename_i r hr; cases hr) | (subst_vars; rfl)
  have hh := hfd.trans (fi_hit hi1 (by rw [hH, c1, decide_eq_true (by have := of_decide_eq_false c2; omega)]; rfl))
  have hkq : k = kk := by
    rcases Nat.lt_or_ge k kk with h | h
    · rw [hs2.no k h] at hh; cases hh
    · omega
  have hlq : ll = lkA L i := by
    have := hs2.fd
    rw [← hkq, hh] at this
    rw [hA]; exact (Option.some.inj this).symm
  have p1 : decide (((k + 1 : Nat) : Int) > N) = false := decide_eq_false (by omega)
  have eF : folF L (fT (row3 (rsT N.toNat L N.toNat) (lkA L i).1)) (fun s => decide (s < 0)) (Int.toNat ((k + 1 : Nat) : Int)) (lkA L i).1 0 = clF N.toNat L := by
    rw [eC, ← hkq, hlq, Int.toNat_natCast]
    refine fol_congr' fun j hj => ?_
    unfold fT
    rw [hA, row3_eq hnd.1]; exact xT_get (by omega)
  rw [← eF] at hK
  clear hlq hkq eF eC
  repeat' ((conv => whnf); (first | apply And.intro | (intro h9; first | (have h8 : (_ : Bool) = false := h9; exfalso; clear h8; revert h9; subst_vars; intro h9; exact ft_no (h9.symm.trans (by assumption))) | (have h8 : (_ : Bool) = true := h9; exfalso; clear h8; revert h9; subst_vars; intro h9; exact tf_no (h9.symm.trans (by assumption))) | skip)))
  all_goals try (conv => whnf)
  all_goals try first
    | exact LexB.mk (by kernel_rfl)
    | exact LexG.mk (by kernel_rfl)
    | exact LexT.mk (by kernel_rfl)
    | exact Forced.mk (by kernel_rfl)
    | exact LexP.mk (by kernel_rfl)
    | exact ForcedP.mk (by kernel_rfl)
    | exact ⟨Nat.le_of_ble_eq_true rfl⟩
    | exact ⟨rfl⟩
    | exact ⟨trivial⟩
  all_goals subst_vars
  all_goals try first
    | rfl
    | contradiction
    | (refine Ob.mk ?_; simp only [inRQ, inR, Duty.of_p]; omega)
  all_goals try first
    | exact ⟨show L.length ≤ 1000000 by omega⟩
    | exact ⟨show L.length ≤ 1099511627776 by omega⟩
    | trivial
  all_goals try first
    | exact ⟨show 0 ≤ (i : Int) ∧ (i : Int) < (L.length : Int) by omega⟩
    | exact ⟨show 0 + Int.toNat (i : Int) < L.length by omega⟩
    | exact ⟨show 0 ≤ (lkA L i).1 ∧ (lkA L i).1 < (N.toNat : Int) from hnA.1⟩
    | exact ⟨show 0 + Int.toNat (lkA L i).1 < (rsT N.toNat L N.toNat).length by rw [hRl]; omega⟩
    | exact ⟨show 0 ≤ ((k + 1 : Nat) : Int) - 1 ∧ ((k + 1 : Nat) : Int) - 1 < ((row3 (rsT N.toNat L N.toNat) (lkA L i).1).length : Int) by rw [hr1]; omega⟩
    | exact ⟨show (0 + Int.toNat (((k + 1 : Nat) : Int) - 1)) < (row3 (rsT N.toNat L N.toNat) (lkA L i).1).length by rw [hr1]; omega⟩
    | exact ⟨show 0 ≤ (lkA L i).2.1 ∧ (lkA L i).2.1 < ((row3b (rsT N.toNat L N.toNat) (lkA L i).1 (0 + Int.toNat (((k + 1 : Nat) : Int) - 1))).length : Int) by rw [hr2]; exact hnA.2⟩
    | exact ⟨show 0 + Int.toNat (lkA L i).2.1 < (row3b (rsT N.toNat L N.toNat) (lkA L i).1 (0 + Int.toNat (((k + 1 : Nat) : Int) - 1))).length by rw [hr2]; omega⟩
    | (refine Ob.mk ?_; show (inRQ .i64 ((lkA L i).2.2 + backA (rsT N.toNat L N.toNat) L i (0 + Int.toNat (((k + 1 : Nat) : Int) - 1)))).p; simp only [inRQ, inR, Duty.of_p]; omega)
  all_goals try first
    | exact ⟨hN⟩
    | exact ⟨ha⟩
    | exact ⟨(⟨(lkA L i).1, hnA.1, by rw [hr1, hA]; exact row3_eq hnd.1, by rw [hr1]; omega⟩ : xtP N.toNat L (row3 (rsT N.toNat L N.toNat) (lkA L i).1))⟩
    | exact ⟨hnA.1.1⟩
    | exact ⟨hnA.1.2⟩
    | exact ⟨show Int.toNat ((k + 1 : Nat) : Int) ≤ (row3 (rsT N.toNat L N.toNat) (lkA L i).1).length by rw [hr1]; omega⟩
  all_goals exact klC (i := 4) hK rfl rfl)
end Go.Proofs.Ytlmhkeoblgodiaa
end
