/-
  Texts of the claims on chapter 2: Ye25. No condition: lemmas and contracts.
-/
import Derived.Test.YtlmhkeoblgodiaaYe17
import Derived.Test.YtlmhkeoblgodiaaYb
import Derived.Test.YtlmhkeoblgodiaaYe1
set_option linter.all false
section
/-
  Chapter 2: Reduce. Printed by gen75.py.
-/
namespace Go.Proofs.Ytlmhkeoblgodiaa
open Go Go.Sy Go.Chn
set_option maxRecDepth 100000
set_option maxHeartbeats 4000000
set_option linter.unusedVariables false
set_option linter.unusedSimpArgs false
variable {Γ : Glob}
/-- What is left out, and what is kept, when n links were looked at from the last one on. -/
def rdS (N : Int) (L : List Lk) : Nat → List (Int × Bool) × List Int
  | 0 => ([], [])
  | n + 1 => if idleF N.toNat L (rdS N L n).1 (Int.toNat ((L.length : Int) - 1 - (n : Int))) = true then (mset (rdS N L n).1 ((L.length : Int) - 1 - (n : Int)) true, (rdS N L n).2) else ((rdS N L n).1, (rdS N L n).2 ++ [(L.length : Int) - 1 - (n : Int)])
def rdF (N : Int) (L : List Lk) : List Int × Int := if askF N L [] ≠ 0 then ([], askF N L []) else ((rdS N L L.length).2.reverse, 0)
/-- A list of which the first i and the last i elements are exchanged. -/
def rvL (X : List Int) (i : Nat) : List Int := (List.range X.length).map fun p => if p < i ∨ X.length - i ≤ p then gi X ((X.length - 1 - p : Nat) : Int) else gi X (p : Int)
section
variable {N : Int} {L : List Lk} {n : Nat} {X : List Int} {i : Nat}
theorem rdS_idle (h : idleF N.toNat L (rdS N L n).1 (Int.toNat ((L.length : Int) - 1 - (n : Int))) = true) : rdS N L (n + 1) = (mset (rdS N L n).1 ((L.length : Int) - 1 - (n : Int)) true, (rdS N L n).2) := by rw [rdS, if_pos h]
theorem rdS_kept (h : idleF N.toNat L (rdS N L n).1 (Int.toNat ((L.length : Int) - 1 - (n : Int))) = false) : rdS N L (n + 1) = ((rdS N L n).1, (rdS N L n).2 ++ [(L.length : Int) - 1 - (n : Int)]) := by rw [rdS, if_neg (by rw [h]; simp)]
theorem rdS_len : ∀ {n : Nat}, (rdS N L n).2.length ≤ n
  | 0 => Nat.le_refl _
  | n + 1 => by
    have ih := rdS_len (n := n)
    rw [rdS]; split
    · show (rdS N L n).2.length ≤ n + 1; omega
    · simp; omega
theorem rd0 (h : (askF N L [] != 0) = true) : rdF N L = ([], askF N L []) := by unfold rdF; rw [if_pos (by simpa using h)]
theorem rd1 (h : (askF N L [] != 0) = false) : rdF N L = ((rdS N L L.length).2.reverse, 0) := by unfold rdF; rw [if_neg (by simpa using h)]
theorem rv_len : (rvL X i).length = X.length := by simp [rvL]
theorem rv_zero : X = rvL X 0 := by
  refine List.ext_getElem (by simp [rvL]) fun p h1 h2 => ?_
  simp only [rvL, List.getElem_map, List.getElem_range]
  rw [if_neg (by omega)]
  simp [gi, List.getD, h1]
theorem rv_get {p : Nat} (h : p < X.length) : gi (rvL X i) (p : Int) = if p < i ∨ X.length - i ≤ p then gi X ((X.length - 1 - p : Nat) : Int) else gi X (p : Int) := by
  have h2 : p < (rvL X i).length := by rw [rv_len]; exact h
  have : gi (rvL X i) (p : Int) = (rvL X i)[p] := by simp [gi, List.getD, h2]
  rw [this]; simp only [rvL, List.getElem_map, List.getElem_range]
theorem rv_swap (h : i < X.length - 1 - i) : ((rvL X i).set i (gi (rvL X i) ((X.length - 1 - i : Nat) : Int))).set (X.length - 1 - i) (gi (rvL X i) (i : Int)) = rvL X (i + 1) := by
  rw [rv_get (by omega), rv_get (by omega), if_neg (by omega), if_neg (by omega)]
  refine List.ext_getElem (by simp [rvL]) fun p h1 h2 => ?_
  have hp : p < X.length := by simpa [rvL] using h2
  rw [List.getElem_set, List.getElem_set]
  simp only [rvL, List.getElem_map, List.getElem_range]
  by_cases e1 : X.length - 1 - i = p
  · rw [if_pos e1, if_pos (by omega), show X.length - 1 - p = i by omega]
  · rw [if_neg e1]
    by_cases e2 : i = p
    · rw [if_pos e2, if_pos (by omega), e2]
    · rw [if_neg e2]
      by_cases c : p < i ∨ X.length - i ≤ p
      · rw [if_pos c, if_pos (by omega)]
      · rw [if_neg c, if_neg (by omega)]
theorem rv_end (h : X.length - 1 - i ≤ i) : rvL X i = X.reverse := by
  refine List.ext_getElem (by simp [rvL]) fun p h1 h2 => ?_
  have hp : p < X.length := by simpa [rvL] using h1
  have hr : X.length - 1 - p < X.length := by omega
  simp only [rvL, List.getElem_map, List.getElem_range, List.getElem_reverse]
  have e : gi X ((X.length - 1 - p : Nat) : Int) = X[X.length - 1 - p] := by simp [gi, List.getD, hr]
  by_cases c : p < i ∨ X.length - i ≤ p
  · rw [if_pos c, e]
  · rw [if_neg c]
    have : X.length - 1 - p = p := by omega
    simp [gi, List.getD, hp, this]
end
def L33 : List (Nat × Ctr) := [(73, c73), (74, c74)]
theorem L33_ok : CsOk Try.prog Γ L33 := (CsOk.nil.cons (body_of Try.func74 rfl rfl).fn c74_ok).cons (body_of Try.func73 rfl rfl).fn c73_ok
noncomputable def bs33 : List (Nat × Body) := [(75, bo Try.f75)]
theorem bs33_ok : BsOk Try.prog bs33 := BsOk.nil.cons (body_bo Try.func75 rfl rfl)
noncomputable def e33 : Env := { tabs.env L33 bs33 false 0 with tree := fun id => match Nat.beq id 3 with | true => some t75 | false => none }
theorem e33_ok : ProgOk Try.prog Γ e33 := (prog_ok L33_ok bs33_ok false 0).trees _
attribute [local irreducible] askF gi lk idleF rdS rdF rvL mset
def c33 : Ctr := newS (fun _ L => [(Duty.of (L.length ≤ 1000000))]) (fun N L => ⟨[.arr 3 kI (rdF N L).1 true true], .tup [.a (.sl 0 [] 0 (rdF N L).1.length), .a (vI (rdF N L).2)]⟩)
theorem c33_ok : Ctr.Ok Try.prog Γ 33 c33 := newS_ok (d := 1) e33_ok (body_of Try.func33 rfl rfl) (by
  intro N L K ⟨hL, _⟩ hK
  simp only [Duty.of_p] at hL
  by_cases hq : (askF N L [] != 0) = true
  · repeat' ((conv => whnf); (first | apply And.intro | (intro h9; first | (have h8 : (_ : Bool) = false := h9; exfalso; clear h8; revert h9; subst_vars; intro h9; exact ft_no (h9.symm.trans (by assumption))) | (have h8 : (_ : Bool) = true := h9; exfalso; clear h8; revert h9; subst_vars; intro h9; exact tf_no (h9.symm.trans (by assumption))) | skip)))
    all_goals try (conv => whnf)
    all_goals try first
      | exact LexB.mk (by kernel_rfl)
      | exact LexG.mk (by kernel_rfl)
      | exact LexT.mk (by kernel_rfl)
      | exact Forced.mk (by kernel_rfl)
      | exact LexP.mk (by kernel_rfl)
      | exact ForcedP.mk (by kernel_rfl)
      | exact ⟨Nat.le_of_ble_eq_true rfl⟩
      | exact ⟨rfl⟩
      | exact ⟨trivial⟩
    all_goals subst_vars
    all_goals try first
      | rfl
      | contradiction
      | (refine Ob.mk ?_; simp only [inRQ, inR, Duty.of_p]; omega)
    all_goals try first
      | exact ⟨show L.length ≤ 1000000 by omega⟩
      | exact ⟨show L.length ≤ 1099511627776 by omega⟩
    all_goals (exact klE (te := 3) (tg := kI) (by simp [kI]) (by rw [rd0 hq] at hK; exact hK) rfl)
  replace hq : (askF N L [] != 0) = false := by simpa using hq
  have h0 : askF N L [] = 0 := by simpa using hq
  obtain ⟨c1, _, c3⟩ := ask_iff.1 h0
  have ha := ask_of c1
  have hN := toNat_of c1
  have hll := ha.l
  rw [rd1 hq] at hK
  repeat' ((conv => whnf); (first | apply And.intro | (intro h9; first | (have h8 : (_ : Bool) = false := h9; exfalso; clear h8; revert h9; subst_vars; intro h9; exact ft_no (h9.symm.trans (by assumption))) | (have h8 : (_ : Bool) = true := h9; exfalso; clear h8; revert h9; subst_vars; intro h9; exact tf_no (h9.symm.trans (by assumption))) | skip)))
  all_goals try (conv => whnf)
  all_goals try first
    | exact LexB.mk (by kernel_rfl)
    | exact LexG.mk (by kernel_rfl)
    | exact LexT.mk (by kernel_rfl)
    | exact Forced.mk (by kernel_rfl)
    | exact LexP.mk (by kernel_rfl)
    | exact ForcedP.mk (by kernel_rfl)
    | exact ⟨Nat.le_of_ble_eq_true rfl⟩
    | exact ⟨rfl⟩
    | exact ⟨trivial⟩
  all_goals subst_vars
  all_goals try first
    | rfl
    | contradiction
    | (refine Ob.mk ?_; simp only [inRQ, inR, Duty.of_p]; omega)
  all_goals try first
    | exact ⟨show L.length ≤ 1000000 by omega⟩
    | exact ⟨show L.length ≤ 1099511627776 by omega⟩
  refine ⟨Nat, fun n => n ≤ L.length, fun n => ⟨slotsT 35 [1, 5, 6, 7] [.a (.p 1 [] 0 0), .a (.mp 2), .a (.sl 3 [] 0 (rdS N L n).2.length), .a (vI ((L.length : Int) - 1 - (n : Int)))], [], [.arr 44 kL L false false, .box true [vI N, .sl 0 [] 0 L.length], .map 91 .i64 .bool (rdS N L n).1 true, .arr 3 kI (rdS N L n).2 true true]⟩, fun n => L.length - n, 0, [0, 1, 2, 1000], Nat.zero_le _, ?_, ?_⟩
  · have e0 : [] = (rdS N L 0).2 := by unfold rdS; rfl
    have e1 : (rdS N L 0).2.length = 0 := by rw [← e0]; rfl
    have e2 : [] = (rdS N L 0).1 := by unfold rdS; rfl
    have e3 : (L.length : Int) - 1 = (L.length : Int) - 1 - ((0 : Nat) : Int) := by omega
    subst_vars
    repeat' ((conv => whnf); (first | apply And.intro | intro _))
    all_goals first | rfl | trivial | exact Nat.le_of_ble_eq_true rfl | exact ⟨rfl, rfl, rfl⟩ | exact ⟨rfl, rfl, rfl, rfl⟩ | exact ⟨rfl, rfl⟩ | exact e0 | exact e0.symm | exact e1 | exact e1.symm | exact e2 | exact e2.symm | exact e3 | exact e3.symm | exact ⟨rfl, rfl, e0⟩ | exact ⟨rfl, rfl, rfl, e2⟩
  rintro n hn
  have il := rdS_len (N := N) (L := L) (n := n)
  by_cases hn1 : n < L.length
  · have p0 : decide ((L.length : Int) - 1 - (n : Int) ≥ 0) = true := decide_eq_true (by omega)
    cases k : idleF N.toNat L (rdS N L n).1 (Int.toNat ((L.length : Int) - 1 - (n : Int)))
    · have e1 := rdS_kept k
      have e2 : (rdS N L n).2 ++ [(L.length : Int) - 1 - (n : Int)] = (rdS N L (n + 1)).2 := by rw [e1]
      have e3 : (rdS N L n).1 = (rdS N L (n + 1)).1 := by rw [e1]
      have e4 : (rdS N L n).2.length + 1 = (rdS N L (n + 1)).2.length := by rw [← e2]; simp
      have e5 : (L.length : Int) - 1 - (n : Int) - 1 = (L.length : Int) - 1 - ((n + 1 : Nat) : Int) := by omega
      clear e1
      repeat' ((conv => whnf); (first | apply And.intro | (intro h9; first | (have h8 : (_ : Bool) = false := h9; exfalso; clear h8; revert h9; subst_vars; intro h9; exact ft_no (h9.symm.trans (by assumption))) | (have h8 : (_ : Bool) = true := h9; exfalso; clear h8; revert h9; subst_vars; intro h9; exact tf_no (h9.symm.trans (by assumption))) | skip)))
      all_goals try (conv => whnf)
      all_goals try first
        | exact LexB.mk (by kernel_rfl)
        | exact LexG.mk (by kernel_rfl)
        | exact LexT.mk (by kernel_rfl)
        | exact Forced.mk (by kernel_rfl)
        | exact LexP.mk (by kernel_rfl)
        | exact ForcedP.mk (by kernel_rfl)
        | exact ⟨Nat.le_of_ble_eq_true rfl⟩
        | exact ⟨rfl⟩
        | exact ⟨trivial⟩
      all_goals subst_vars
      all_goals try first
        | rfl
        | contradiction
        | (refine Ob.mk ?_; simp only [inRQ, inR, Duty.of_p]; omega)
      all_goals try first
        | exact ⟨show L.length ≤ 1000000 by omega⟩
        | exact ⟨show L.length ≤ 1099511627776 by omega⟩
      all_goals try first
        | exact ⟨hN⟩
        | exact ⟨ha⟩
        | exact ⟨show (L.length : Int) - 1 - (n : Int) < (L.length : Int) by omega⟩
        | exact ⟨show 0 ≤ (L.length : Int) - 1 - (n : Int) by omega⟩
        | exact ⟨Nat.zero_add _⟩
        | exact ⟨show ((rdS N L n).2.length + 1) * 1 ≤ 1099511627776 by omega⟩
      all_goals
        refine ⟨n + 1, [0, 1, 2, 3], hn1, ?_, by show L.length - (n + 1) < L.length - n; omega⟩
        subst_vars
        repeat' ((conv => whnf); (first | apply And.intro | intro _))
        all_goals first | rfl | trivial | exact Nat.le_of_ble_eq_true rfl | exact ⟨rfl, rfl, rfl⟩ | exact ⟨rfl, rfl, rfl, rfl⟩ | exact ⟨rfl, rfl⟩ | exact e2 | exact e3 | exact e4 | exact e5 | (subst_vars; rfl) | exact ⟨rfl, rfl, e2⟩ | exact ⟨rfl, rfl, rfl, e3⟩
    · have e1 := rdS_idle k
      have e2 : (rdS N L n).2 = (rdS N L (n + 1)).2 := by rw [e1]
      have e3 : mset (rdS N L n).1 ((L.length : Int) - 1 - (n : Int)) true = (rdS N L (n + 1)).1 := by rw [e1]
      have e4 : (rdS N L n).2.length = (rdS N L (n + 1)).2.length := by rw [← e2]
      have e5 : (L.length : Int) - 1 - (n : Int) - 1 = (L.length : Int) - 1 - ((n + 1 : Nat) : Int) := by omega
      clear e1
      repeat' ((conv => whnf); (first | apply And.intro | (intro h9; first | (have h8 : (_ : Bool) = false := h9; exfalso; clear h8; revert h9; subst_vars; intro h9; exact ft_no (h9.symm.trans (by assumption))) | (have h8 : (_ : Bool) = true := h9; exfalso; clear h8; revert h9; subst_vars; intro h9; exact tf_no (h9.symm.trans (by assumption))) | skip)))
      all_goals try (conv => whnf)
      all_goals try first
        | exact LexB.mk (by kernel_rfl)
        | exact LexG.mk (by kernel_rfl)
        | exact LexT.mk (by kernel_rfl)
        | exact Forced.mk (by kernel_rfl)
        | exact LexP.mk (by kernel_rfl)
        | exact ForcedP.mk (by kernel_rfl)
        | exact ⟨Nat.le_of_ble_eq_true rfl⟩
        | exact ⟨rfl⟩
        | exact ⟨trivial⟩
      all_goals subst_vars
      all_goals try first
        | rfl
        | contradiction
        | (refine Ob.mk ?_; simp only [inRQ, inR, Duty.of_p]; omega)
      all_goals try first
        | exact ⟨show L.length ≤ 1000000 by omega⟩
        | exact ⟨show L.length ≤ 1099511627776 by omega⟩
      all_goals try first
        | exact ⟨hN⟩
        | exact ⟨ha⟩
        | exact ⟨show (L.length : Int) - 1 - (n : Int) < (L.length : Int) by omega⟩
        | exact ⟨show 0 ≤ (L.length : Int) - 1 - (n : Int) by omega⟩
        | exact ⟨Nat.zero_add _⟩
        | exact ⟨show ((rdS N L n).2.length + 1) * 1 ≤ 1099511627776 by omega⟩
      all_goals
        refine ⟨n + 1, [0, 1, 2, 3], hn1, ?_, by show L.length - (n + 1) < L.length - n; omega⟩
        subst_vars
        repeat' ((conv => whnf); (first | apply And.intro | intro _))
        all_goals first | rfl | trivial | exact Nat.le_of_ble_eq_true rfl | exact ⟨rfl, rfl, rfl⟩ | exact ⟨rfl, rfl, rfl, rfl⟩ | exact ⟨rfl, rfl⟩ | exact e2 | exact e3 | exact e4 | exact e5 | (subst_vars; rfl) | exact ⟨rfl, rfl, e2⟩ | exact ⟨rfl, rfl, rfl, e3⟩
  have p0 : decide ((L.length : Int) - 1 - (n : Int) ≥ 0) = false := decide_eq_false (by omega)
  obtain rfl : n = L.length := by omega
  have hq2 : (rdS N L L.length).2.length ≤ 300 := by omega
  repeat' ((conv => whnf); (first | apply And.intro | (intro h9; first | (have h8 : (_ : Bool) = false := h9; exfalso; clear h8; revert h9; subst_vars; intro h9; exact ft_no (h9.symm.trans (by assumption))) | (have h8 : (_ : Bool) = true := h9; exfalso; clear h8; revert h9; subst_vars; intro h9; exact tf_no (h9.symm.trans (by assumption))) | skip)))
  all_goals try (conv => whnf)
  all_goals try first
    | exact LexB.mk (by kernel_rfl)
    | exact LexG.mk (by kernel_rfl)
    | exact LexT.mk (by kernel_rfl)
    | exact Forced.mk (by kernel_rfl)
    | exact LexP.mk (by kernel_rfl)
    | exact ForcedP.mk (by kernel_rfl)
    | exact ⟨Nat.le_of_ble_eq_true rfl⟩
    | exact ⟨rfl⟩
    | exact ⟨trivial⟩
  all_goals subst_vars
  all_goals try first
    | rfl
    | contradiction
    | (refine Ob.mk ?_; simp only [inRQ, inR, Duty.of_p]; omega)
  all_goals try first
    | exact ⟨show L.length ≤ 1000000 by omega⟩
    | exact ⟨show L.length ≤ 1099511627776 by omega⟩
  all_goals try first
    | exact ⟨hN⟩
    | exact ⟨ha⟩
    | exact ⟨show (L.length : Int) - 1 - (n : Int) < (L.length : Int) by omega⟩
    | exact ⟨show 0 ≤ (L.length : Int) - 1 - (n : Int) by omega⟩
    | exact ⟨Nat.zero_add _⟩
    | exact ⟨show ((rdS N L n).2.length + 1) * 1 ≤ 1099511627776 by omega⟩
  refine ⟨Nat, fun i => i ≤ (rdS N L L.length).2.length, fun i => ⟨slotsT 28 [0, 2, 3] [.a (.sl 3 [] 0 (rdS N L L.length).2.length), .a (vI i), .a (vI (((rdS N L L.length).2.length : Int) - 1 - (i : Int)))], [slotsT 35 [6] [.a (.sl 3 [] 0 (rdS N L L.length).2.length)]], [.arr 44 kL L false false, .box true [vI N, .sl 0 [] 0 L.length], .map 91 .i64 .bool (rdS N L L.length).1 true, .arr 3 kI (rvL (rdS N L L.length).2 i) true true]⟩, fun i => (rdS N L L.length).2.length - i, 0, [], Nat.zero_le _, ?_, ?_⟩
  · have e0 : (rdS N L L.length).2 = rvL (rdS N L L.length).2 0 := rv_zero
    have e3 : ((rdS N L L.length).2.length : Int) - 1 = ((rdS N L L.length).2.length : Int) - 1 - ((0 : Nat) : Int) := by omega
    subst_vars
    repeat' ((conv => whnf); (first | apply And.intro | intro _))
    all_goals first | rfl | trivial | exact Nat.le_of_ble_eq_true rfl | exact ⟨rfl, rfl, rfl⟩ | exact ⟨rfl, rfl, rfl, rfl⟩ | exact ⟨rfl, rfl⟩ | exact e0 | exact e0.symm | exact e3 | exact e3.symm | exact ⟨rfl, rfl, e0⟩
  rintro i hi
  have rl : (rvL (rdS N L L.length).2 i).length = (rdS N L L.length).2.length := rv_len
  by_cases hi1 : (i : Int) < ((rdS N L L.length).2.length : Int) - 1 - (i : Int)
  · have p1 : decide ((i : Int) < ((rdS N L L.length).2.length : Int) - 1 - (i : Int)) = true := decide_eq_true hi1
    have hj : Int.toNat (((rdS N L L.length).2.length : Int) - 1 - (i : Int)) = (rdS N L L.length).2.length - 1 - i := by omega
    have g1 : e1A (rvL (rdS N L L.length).2 i) (i : Int) = gi (rvL (rdS N L L.length).2 i) (i : Int) := e1A_eq (by omega)
    have g2 : e1A (rvL (rdS N L L.length).2 i) (((rdS N L L.length).2.length : Int) - 1 - (i : Int)) = gi (rvL (rdS N L L.length).2 i) (((rdS N L L.length).2.length - 1 - i : Nat) : Int) := by rw [e1A_eq (by omega)]; congr 1; omega
    have e1 : ((rvL (rdS N L L.length).2 i).set (0 + Int.toNat (i : Int)) (e1A (rvL (rdS N L L.length).2 i) (((rdS N L L.length).2.length : Int) - 1 - (i : Int)))).set (0 + Int.toNat (((rdS N L L.length).2.length : Int) - 1 - (i : Int))) (e1A (rvL (rdS N L L.length).2 i) (i : Int)) = rvL (rdS N L L.length).2 (i + 1) := by
      rw [g1, g2, hj, Nat.zero_add, Nat.zero_add, Int.toNat_natCast]; exact rv_swap (by omega)
    have e5 : ((rdS N L L.length).2.length : Int) - 1 - (i : Int) - 1 = ((rdS N L L.length).2.length : Int) - 1 - ((i + 1 : Nat) : Int) := by omega
    repeat' ((conv => whnf); (first | apply And.intro | (intro h9; first | (have h8 : (_ : Bool) = false := h9; exfalso; clear h8; revert h9; subst_vars; intro h9; exact ft_no (h9.symm.trans (by assumption))) | (have h8 : (_ : Bool) = true := h9; exfalso; clear h8; revert h9; subst_vars; intro h9; exact tf_no (h9.symm.trans (by assumption))) | skip)))
    all_goals try (conv => whnf)
    all_goals try first
      | exact LexB.mk (by kernel_rfl)
      | exact LexG.mk (by kernel_rfl)
      | exact LexT.mk (by kernel_rfl)
      | exact Forced.mk (by kernel_rfl)
      | exact LexP.mk (by kernel_rfl)
      | exact ForcedP.mk (by kernel_rfl)
      | exact ⟨Nat.le_of_ble_eq_true rfl⟩
      | exact ⟨rfl⟩
      | exact ⟨trivial⟩
    all_goals subst_vars
    all_goals try first
      | rfl
      | contradiction
      | (refine Ob.mk ?_; simp only [inRQ, inR, Duty.of_p]; omega)
    all_goals try first
      | exact ⟨show L.length ≤ 1000000 by omega⟩
      | exact ⟨show L.length ≤ 1099511627776 by omega⟩
      | exact ⟨show 0 ≤ (i : Int) ∧ (i : Int) < ((rdS N L L.length).2.length : Int) by omega⟩
      | exact ⟨show 0 + Int.toNat (i : Int) < (rvL (rdS N L L.length).2 i).length by omega⟩
      | exact ⟨show 0 ≤ ((rdS N L L.length).2.length : Int) - 1 - (i : Int) ∧ ((rdS N L L.length).2.length : Int) - 1 - (i : Int) < ((rdS N L L.length).2.length : Int) by omega⟩
      | exact ⟨show 0 + Int.toNat (((rdS N L L.length).2.length : Int) - 1 - (i : Int)) < (rvL (rdS N L L.length).2 i).length by omega⟩
      | exact ⟨show 0 + Int.toNat (((rdS N L L.length).2.length : Int) - 1 - (i : Int)) < ((rvL (rdS N L L.length).2 i).set (0 + Int.toNat (i : Int)) (e1A (rvL (rdS N L L.length).2 i) (((rdS N L L.length).2.length : Int) - 1 - (i : Int)))).length by rw [List.length_set]; omega⟩
      | trivial
    all_goals
      refine ⟨i + 1, [], by omega, ?_, by show (rdS N L L.length).2.length - (i + 1) < (rdS N L L.length).2.length - i; omega⟩
      subst_vars
      repeat' ((conv => whnf); (first | apply And.intro | intro _))
      all_goals first | rfl | trivial | exact Nat.le_of_ble_eq_true rfl | exact ⟨rfl, rfl, rfl⟩ | exact ⟨rfl, rfl, rfl, rfl⟩ | exact ⟨rfl, rfl⟩ | exact e1 | exact e5 | (subst_vars; rfl) | exact ⟨rfl, rfl, e1⟩
  have p1 : decide ((i : Int) < ((rdS N L L.length).2.length : Int) - 1 - (i : Int)) = false := decide_eq_false hi1
  have eR : rvL (rdS N L L.length).2 i = (rdS N L L.length).2.reverse := rv_end (by omega)
  rw [← eR] at hK
  have hK' : K ⟨[.arr 3 kI (rvL (rdS N L L.length).2 i) true true], .tup [.a (.sl 0 [] 0 (rdS N L L.length).2.length), .a (vI 0)]⟩ := by rw [← rl]; exact hK
  repeat' ((conv => whnf); (first | apply And.intro | (intro h9; first | (have h8 : (_ : Bool) = false := h9; exfalso; clear h8; revert h9; subst_vars; intro h9; exact ft_no (h9.symm.trans (by assumption))) | (have h8 : (_ : Bool) = true := h9; exfalso; clear h8; revert h9; subst_vars; intro h9; exact tf_no (h9.symm.trans (by assumption))) | skip)))
  all_goals try (conv => whnf)
  all_goals try first
    | exact LexB.mk (by kernel_rfl)
    | exact LexG.mk (by kernel_rfl)
    | exact LexT.mk (by kernel_rfl)
    | exact Forced.mk (by kernel_rfl)
    | exact LexP.mk (by kernel_rfl)
    | exact ForcedP.mk (by kernel_rfl)
    | exact ⟨Nat.le_of_ble_eq_true rfl⟩
    | exact ⟨rfl⟩
    | exact ⟨trivial⟩
  all_goals subst_vars
  all_goals try first
    | rfl
    | contradiction
    | (refine Ob.mk ?_; simp only [inRQ, inR, Duty.of_p]; omega)
  all_goals try first
    | exact ⟨show L.length ≤ 1000000 by omega⟩
    | exact ⟨show L.length ≤ 1099511627776 by omega⟩
    | exact ⟨show 0 ≤ (i : Int) ∧ (i : Int) < ((rdS N L L.length).2.length : Int) by omega⟩
    | exact ⟨show 0 + Int.toNat (i : Int) < (rvL (rdS N L L.length).2 i).length by omega⟩
    | exact ⟨show 0 ≤ ((rdS N L L.length).2.length : Int) - 1 - (i : Int) ∧ ((rdS N L L.length).2.length : Int) - 1 - (i : Int) < ((rdS N L L.length).2.length : Int) by omega⟩
    | exact ⟨show 0 + Int.toNat (((rdS N L L.length).2.length : Int) - 1 - (i : Int)) < (rvL (rdS N L L.length).2 i).length by omega⟩
    | exact ⟨show 0 + Int.toNat (((rdS N L L.length).2.length : Int) - 1 - (i : Int)) < ((rvL (rdS N L L.length).2 i).set (0 + Int.toNat (i : Int)) (e1A (rvL (rdS N L L.length).2 i) (((rdS N L L.length).2.length : Int) - 1 - (i : Int)))).length by rw [List.length_set]; omega⟩
    | trivial
  all_goals exact klC (i := 3) hK' rfl rfl)
end Go.Proofs.Ytlmhkeoblgodiaa
end

section
/-
  Chapter 2: the plain law of ChainReduced.
-/
namespace Go.Proofs.Ytlmhkeoblgodiaa
open Go Go.Sy Go.Chn
set_option linter.unusedVariables false
set_option linter.unusedSimpArgs false
/-! ### Maps all of whose values are true -/
def allT (es : List (Int × Bool)) : Prop := ∀ p ∈ es, p.2 = true
theorem any_mgb (i : Int) : ∀ {es : List (Int × Bool)}, allT es → es.any (fun p => p.1 == i) = mgb es i
  | [], _ => rfl
  | (k, v) :: es, h => by
    have hv : v = true := h (k, v) (by simp)
    rw [List.any_cons, any_mgb i fun p hp => h p (by simp [hp]), mgb, hv]
    cases k == i <;> rfl
theorem mget_mgb2 (i : Int) : ∀ (es : List (Int × Bool)), mget es i false = mgb es i
  | [] => rfl
  | (k, v) :: es => by
    rw [mget, mgb, mget_mgb2 i es]
    cases k == i <;> rfl
theorem mset_allT (n : Int) : ∀ {es : List (Int × Bool)}, allT es → allT (mset es n true)
  | [], _ => fun p hp => by
    rw [mset] at hp
    rw [List.mem_singleton.1 hp]
  | (k, w) :: es, h => fun p hp => by
    have hw : w = true := h (k, w) (by simp)
    have ih := mset_allT n (es := es) fun p hp => h p (by simp [hp])
    rw [mset] at hp
    cases hk : k == n
    · rw [hk] at hp
      rcases List.mem_cons.1 hp with rfl | hp
      · exact hw
      · exact ih p hp
    · rw [hk] at hp
      rcases List.mem_cons.1 hp with rfl | hp
      · rfl
      · exact h p (by simp [hp])
theorem less_T {es : List (Int × Bool)} (h : allT es) (k i : Nat) : mgb (lessF es k) i = (decide (i = k) || mgb es i) := by rw [less_mgb, any_mgb _ h]
theorem used_mem {es : List (Int × Bool)} {x : Lk} : ∀ {i : Nat} {L : List Lk}, x ∈ usedF es i L ↔ ∃ j, j < L.length ∧ mgb es ((i + j : Nat) : Int) = false ∧ lk L j = x
  | _, [] => by simp [usedF]
  | i, l :: L => by
    have ih := used_mem (es := es) (x := x) (i := i + 1) (L := L)
    have hs : (∃ j, j < (l :: L).length ∧ mgb es ((i + j : Nat) : Int) = false ∧ lk (l :: L) j = x) ↔ (mgb es (i : Int) = false ∧ l = x) ∨ ∃ j, j < L.length ∧ mgb es ((i + 1 + j : Nat) : Int) = false ∧ lk L j = x := by
      constructor
      · rintro ⟨j, h1, h2, h3⟩
        cases j with
        | zero => exact .inl ⟨by simpa using h2, h3⟩
        | succ j => exact .inr ⟨j, by simpa using h1, by rw [show i + 1 + j = i + (j + 1) by omega]; exact h2, h3⟩
      · rintro (⟨h1, h2⟩ | ⟨j, h1, h2, h3⟩)
        · exact ⟨0, by simp, by simpa using h1, h2⟩
        · exact ⟨j + 1, by simpa using h1, by rw [show i + (j + 1) = i + 1 + j by omega]; exact h2, h3⟩
    rw [hs, usedF]
    split
    · rename_i hm
      rw [ih]
      constructor
      · exact .inr
      · rintro (⟨h1, _⟩ | h)
        · rw [hm] at h1; cases h1
        · exact h
    · rename_i hm
      rw [List.mem_cons, ih]
      have hm' : mgb es (i : Int) = false := by simpa using hm
      constructor
      · rintro (h | h)
        · exact .inl ⟨hm', h.symm⟩
        · exact .inr h
      · rintro (⟨_, h⟩ | h)
        · exact .inl h.symm
        · exact .inr h
theorem used_mem0 {es : List (Int × Bool)} {x : Lk} {L : List Lk} : x ∈ usedF es 0 L ↔ ∃ j, j < L.length ∧ mgb es (j : Int) = false ∧ lk L j = x := by
  rw [used_mem]
  constructor <;> (rintro ⟨j, h1, h2, h3⟩; exact ⟨j, h1, by simpa using h2, h3⟩)
/-! ### A link that others stand for -/
theorem replace_ch {U V : List Lk} {l : Lk} (hl : ∃ c, Ch l.1 c l.2.1 ∧ Sub c V ∧ sumL c ≤ l.2.2) (hx : ∀ x ∈ U, x ∈ V ∨ x = l) : ∀ {ls : List Lk} {u v : Int}, Ch u ls v → Sub ls U → ∃ c, Ch u c v ∧ Sub c V ∧ sumL c ≤ sumL ls
  | [], u, v, h, _ => ⟨[], h, Sub.nil, Int.le_refl _⟩
  | x :: r, u, v, h, hs => by
    obtain ⟨c, c1, c2, c3⟩ := replace_ch hl hx h.2 hs.tail
    have e := h.1
    rcases hx x (hs x (by simp)) with hV | rfl
    · exact ⟨x :: c, ⟨e, c1⟩, Sub.cons hV c2, by simp only [sumL]; omega⟩
    · obtain ⟨d, d1, d2, d3⟩ := hl
      rw [e] at d1
      exact ⟨d ++ c, d1.append c1, Sub.app d2 c2, by rw [sumL_append]; simp only [sumL]; omega⟩
theorem isD_drop {U V : List Lk} {l : Lk} (hl : ∃ c, Ch l.1 c l.2.1 ∧ Sub c V ∧ sumL c ≤ l.2.2) (hx : ∀ x ∈ U, x ∈ V ∨ x = l) (hs : Sub V U) {u v d : Int} (h : IsD U u v d) : IsD V u v d := by
  refine ⟨fun hd => ?_, fun ls h1 h2 => h.le ls h1 fun x hx' => hs x (h2 x hx'), fun ls h1 h2 => h.no ls h1 fun x hx' => hs x (h2 x hx'), h.fr⟩
  obtain ⟨ls, h1, h2, h3⟩ := h.is hd
  obtain ⟨c, c1, c2, c3⟩ := replace_ch hl hx h1 h2
  have := h.le c c1 fun x hx' => hs x (c2 x hx')
  exact ⟨c, c1, c2, by omega⟩
section
variable {N : Int} {L : List Lk}
/-- What holds when n links were looked at. -/
structure RdI (N : Int) (L : List Lk) (n : Nat) : Prop where
  t : allT (rdS N L n).1
  low : ∀ j : Nat, j < L.length - n → mgb (rdS N L n).1 (j : Int) = false
  out : (rdS N L n).2.reverse = ((List.range' (L.length - n) n).filter fun (j : Nat) => !mgb (rdS N L n).1 (j : Int)).map fun (j : Nat) => (j : Int)
  ds : ∀ u v d, IsD L u v d → IsD (usedF (rdS N L n).1 0 L) u v d
theorem rdI_zero : RdI N L 0 := ⟨fun p hp => by simp [rdS] at hp, fun j _ => rfl, by simp [rdS], fun u v d h => by simpa [rdS, usedF_nil] using h⟩
theorem idle_some (ha : AskL N.toNat L) (hn : NoNeg L) {es : List (Int × Bool)} (ht : allT es) {i : Nat} (hi : i < L.length) (hidle : idleF N.toNat L es i = true) : ∃ c, Ch (lk L i).1 c (lk L i).2.1 ∧ Sub c (usedF (lessF es i) 0 L) ∧ sumL c ≤ (lk L i).2.2 := by
  have hm := ha.ok.nd _ (lk_mem' hi)
  unfold idleF at hidle
  rcases Bool.or_eq_true _ _ ▸ hidle with h | h
  · obtain ⟨j, hj, hh⟩ := List.any_eq_true.1 h
    have hj := List.mem_range.1 hj
    obtain ⟨h1, h2, h3, h4, h5⟩ := of_decide_eq_true hh
    rw [mget_mgb2] at h2
    refine ⟨[lk L j], ⟨h4, h1⟩, fun x hx => ?_, by simp only [sumL]; omega⟩
    rw [List.mem_singleton.1 hx]
    exact used_mem0.2 ⟨j, hj, by rw [less_T ht, h2, decide_eq_false h3]; rfl, rfl⟩
  · have hle := of_decide_eq_true h
    have d := less_isD ha hn (lessF es i) hm.1 hm.2
    have hms := ha.ok.ms _ (lk_mem' hi)
    obtain ⟨c, c1, c2, c3⟩ := d.is (by unfold Fr; omega)
    exact ⟨c, c1, c2, by omega⟩
theorem rdI_step (ha : AskL N.toNat L) (hn : NoNeg L) {n : Nat} (hnl : n < L.length) (h : RdI N L n) : RdI N L (n + 1) := by
  have ei : Int.toNat ((L.length : Int) - 1 - (n : Int)) = L.length - 1 - n := by omega
  have ec : (L.length : Int) - 1 - (n : Int) = ((L.length - 1 - n : Nat) : Int) := by omega
  have hi : L.length - 1 - n < L.length := by omega
  have hlo := h.low (L.length - 1 - n) (by omega)
  have hr : List.range' (L.length - (n + 1)) (n + 1) = (L.length - 1 - n) :: List.range' (L.length - n) n := by
    rw [List.range'_succ, show L.length - (n + 1) = L.length - 1 - n by omega, show L.length - 1 - n + 1 = L.length - n by omega]
  cases k : idleF N.toNat L (rdS N L n).1 (Int.toNat ((L.length : Int) - 1 - (n : Int)))
  · have e := rdS_kept k
    refine ⟨by rw [e]; exact h.t, fun j hj => by rw [e]; exact h.low j (by omega), ?_, by rw [e]; exact h.ds⟩
    rw [e, hr, List.filter_cons, ec]
    show ((rdS N L n).2 ++ [((L.length - 1 - n : Nat) : Int)]).reverse = _
    rw [List.reverse_append, h.out]
    simp only [hlo, Bool.not_false, if_true]
    rfl
  · have e := rdS_idle k
    have hidle : idleF N.toNat L (rdS N L n).1 (L.length - 1 - n) = true := by rw [← ei]; exact k
    have hmg : ∀ j : Nat, mgb (mset (rdS N L n).1 ((L.length - 1 - n : Nat) : Int) true) (j : Int) = (decide (j = L.length - 1 - n) || mgb (rdS N L n).1 (j : Int)) := fun j => by
      rw [mset_mgb]
      congr 1
      rw [Bool.eq_iff_iff, beq_iff_eq, decide_eq_true_eq]; omega
    rw [ec] at e
    refine ⟨by rw [e]; exact mset_allT _ h.t, fun j hj => by rw [e]; show mgb (mset _ _ true) _ = false; rw [hmg, h.low j (by omega), decide_eq_false (by omega)]; rfl, ?_, fun u v d hd => ?_⟩
    · rw [e, hr, List.filter_cons]
      show (rdS N L n).2.reverse = _
      rw [h.out]
      have e1 : (!mgb (mset (rdS N L n).1 ((L.length - 1 - n : Nat) : Int) true) ((L.length - 1 - n : Nat) : Int)) = false := by rw [hmg, decide_eq_true rfl]; rfl
      rw [e1]
      simp only [Bool.false_eq_true, if_false]
      congr 1
      refine List.filter_congr fun j hj => ?_
      have := List.mem_range'_1.1 hj
      rw [hmg, decide_eq_false (by omega), Bool.false_or]
    · rw [e]
      show IsD (usedF (mset (rdS N L n).1 ((L.length - 1 - n : Nat) : Int) true) 0 L) u v d
      have eU : usedF (mset (rdS N L n).1 ((L.length - 1 - n : Nat) : Int) true) 0 L = usedF (lessF (rdS N L n).1 (L.length - 1 - n)) 0 L := used_congr (fun j => by rw [hmg, less_T h.t]) 0 L
      rw [eU]
      refine isD_drop (idle_some ha hn h.t hi hidle) (fun x hx => ?_) (fun x hx => ?_) (h.ds u v d hd)
      · obtain ⟨j, h1, h2, h3⟩ := used_mem0.1 hx
        by_cases hj : j = L.length - 1 - n
        · exact .inr (by rw [← h3, hj])
        · exact .inl (used_mem0.2 ⟨j, h1, by rw [less_T h.t, h2, decide_eq_false hj]; rfl, h3⟩)
      · obtain ⟨j, h1, h2, h3⟩ := used_mem0.1 hx
        rw [less_T h.t, Bool.or_eq_false_iff] at h2
        exact used_mem0.2 ⟨j, h1, h2.2, h3⟩
theorem rdI_all (ha : AskL N.toNat L) (hn : NoNeg L) : ∀ {n : Nat}, n ≤ L.length → RdI N L n
  | 0, _ => rdI_zero
  | n + 1, h => rdI_step ha hn (by omega) (rdI_all ha hn (by omega))
/-- What was left out stays out. -/
theorem rd_mono {n m : Nat} (hm : n ≤ m) {j : Int} (h : mgb (rdS N L m).1 j = false) : mgb (rdS N L n).1 j = false := by
  induction m with
  | zero => obtain rfl : n = 0 := by omega
            exact h
  | succ m ih =>
    rcases Nat.lt_or_ge m n with hh | hh
    · obtain rfl : n = m + 1 := by omega
      exact h
    · refine ih hh ?_
      cases k : idleF N.toNat L (rdS N L m).1 (Int.toNat ((L.length : Int) - 1 - (m : Int)))
      · rw [rdS_kept k] at h; exact h
      · rw [rdS_idle k] at h
        replace h : mgb (mset (rdS N L m).1 _ true) j = false := h
        rw [mset_mgb, Bool.or_eq_false_iff] at h
        exact h.2
/-- What is kept was not idle when it was looked at. -/
theorem rd_kept {i : Nat} (hi : i < L.length) (h : mgb (rdS N L L.length).1 (i : Int) = false) : idleF N.toNat L (rdS N L (L.length - 1 - i)).1 i = false := by
  have hs := rd_mono (show L.length - 1 - i + 1 ≤ L.length by omega) h
  have ei : Int.toNat ((L.length : Int) - 1 - ((L.length - 1 - i : Nat) : Int)) = i := by omega
  cases k : idleF N.toNat L (rdS N L (L.length - 1 - i)).1 i
  · rfl
  · exfalso
    rw [rdS_idle (by rw [ei]; exact k)] at hs
    replace hs : mgb (mset (rdS N L (L.length - 1 - i)).1 _ true) (i : Int) = false := hs
    rw [mset_mgb, Bool.or_eq_false_iff] at hs
    have := hs.1
    rw [beq_eq_false_iff_ne] at this
    exact this (by omega)
def rdM (N : Int) (L : List Lk) : List Lk := usedF (rdS N L L.length).1 0 L
/-- The indices of what is kept. -/
def rdX (N : Int) (L : List Lk) : List Nat := (List.range L.length).filter fun (j : Nat) => !mgb (rdS N L L.length).1 (j : Int)
theorem used_ix (es : List (Int × Bool)) : ∀ (i : Nat) (L : List Lk), usedF es i L = ((List.range L.length).filter fun j => !mgb es ((i + j : Nat) : Int)).map (lk L)
  | _, [] => rfl
  | i, l :: L => by
    rw [List.length_cons, List.range_succ_eq_map, List.filter_cons, usedF, used_ix es (i + 1) L]
    have e : ((List.range L.length).map Nat.succ).filter (fun j => !mgb es ((i + j : Nat) : Int)) = ((List.range L.length).filter fun j => !mgb es ((i + 1 + j : Nat) : Int)).map Nat.succ := by
      rw [List.filter_map]
      congr 1
      refine List.filter_congr fun j _ => ?_
      show (!mgb es ((i + (j + 1) : Nat) : Int)) = _
      rw [show i + (j + 1) = i + 1 + j by omega]
    rw [e, Nat.add_zero]
    have e2 : ∀ (I : List Nat), (I.map Nat.succ).map (lk (l :: L)) = I.map (lk L) := fun I => by
      rw [List.map_map]; exact List.map_congr_left fun j _ => rfl
    cases hm : mgb es (i : Int)
    · rw [if_neg (by simp), if_pos (by simp), List.map_cons, e2]; rfl
    · rw [if_pos rfl, if_neg (by simp), e2]
theorem rdM_ix : rdM N L = (rdX N L).map (lk L) := by
  unfold rdM rdX
  rw [used_ix]
  congr 1
  refine List.filter_congr fun j _ => ?_
  rw [Nat.zero_add]
theorem rdM_len : (rdM N L).length = (rdX N L).length := by rw [rdM_ix, List.length_map]
theorem rdM_lk {k : Nat} (h : k < (rdX N L).length) : lk (rdM N L) k = lk L ((rdX N L)[k]) := by
  have h2 : k < (rdM N L).length := by rw [rdM_len]; exact h
  have : lk (rdM N L) k = (rdM N L)[k] := by simp [lk, List.getD, h2]
  rw [this]
  simp only [rdM_ix, List.getElem_map]
theorem rdX_get {k : Nat} (h : k < (rdX N L).length) : (rdX N L)[k] < L.length ∧ mgb (rdS N L L.length).1 ((rdX N L)[k] : Int) = false := by
  have := List.mem_filter.1 (List.getElem_mem h)
  exact ⟨List.mem_range.1 this.1, by simpa using this.2⟩
theorem rdX_nodup : (rdX N L).Nodup := List.Nodup.sublist List.filter_sublist List.nodup_range
theorem rdM_sub : Sub (rdM N L) L := fun x hx => usedF_sub _ 0 L x hx
theorem rdM_check (hc : (checkF N L).1 = 0) : (checkF N (rdM N L)).1 = 0 := by
  obtain ⟨hn, hl, _⟩ := checkF_ok hc
  have hg := good_of hc
  have e : (rdM N L).any (badL N) = false := by
    rw [List.any_eq_false]
    intro x hx
    rw [hg x (rdM_sub x hx)]; simp
  have hlen : (rdM N L).length ≤ L.length := by
    rw [rdM_len]; unfold rdX; exact Nat.le_trans (List.length_filter_le _ _) (by simp)
  unfold checkF
  rw [if_neg (by omega), if_neg (by omega), ckL_any, e]
  rfl
/-- No link of what is kept is idle. -/
theorem rd_idle (ha : AskL N.toNat L) (hn : NoNeg L) (hb : AskL N.toNat (rdM N L)) {k : Nat} (hk : k < (rdM N L).length) : idleF N.toNat (rdM N L) [] k = false := by
  have hk' : k < (rdX N L).length := by rw [← rdM_len]; exact hk
  obtain ⟨i1, i2⟩ := rdX_get hk'
  have hkept := rd_kept i1 i2
  have hI := rdI_all (N := N) ha hn (show L.length - 1 - (rdX N L)[k] ≤ L.length by omega)
  have el := rdM_lk hk'
  have hm := ha.ok.nd _ (lk_mem' i1)
  unfold idleF at hkept
  rw [Bool.or_eq_false_iff] at hkept
  obtain ⟨no1, no2⟩ := hkept
  have nd := rdX_nodup (N := N) (L := L)
  have inj : ∀ {a b : Nat} (h1 : a < (rdX N L).length) (h2 : b < (rdX N L).length), (rdX N L)[a] = (rdX N L)[b] → a = b := fun {a b} h1 h2 e => by
    rcases Nat.lt_trichotomy a b with h | h | h
    · exact absurd e (List.pairwise_iff_getElem.1 nd a b h1 h2 h)
    · exact h
    · exact absurd e.symm (List.pairwise_iff_getElem.1 nd b a h2 h1 h)
  unfold idleF
  rw [Bool.or_eq_false_iff]
  constructor
  · rw [List.any_eq_false]
    intro j hj
    have hj := List.mem_range.1 hj
    have hj' : j < (rdX N L).length := by rw [← rdM_len]; exact hj
    obtain ⟨j1, j2⟩ := rdX_get hj'
    intro hh
    obtain ⟨h1, _, h3, h4, h5⟩ := of_decide_eq_true hh
    rw [rdM_lk hj', el] at h1 h4 h5
    have := List.any_eq_false.1 no1 ((rdX N L)[j]) (List.mem_range.2 j1)
    exact this (decide_eq_true ⟨h1, by rw [mget_mgb2]; exact rd_mono (by omega) j2, fun e => h3 (inj hj' hk' e), h4, h5⟩)
  · rw [el]
    have d1 := less_isD ha hn (lessF (rdS N L (L.length - 1 - (rdX N L)[k])).1 (rdX N L)[k]) hm.1 hm.2
    have d2 := less_isD hb (noneg_sub hn rdM_sub) (lessF [] k) hm.1 hm.2
    have hlt := of_decide_eq_false no2
    refine decide_eq_false fun hle => hlt ?_
    have hms := ha.ok.ms _ (lk_mem' i1)
    obtain ⟨c, c1, c2, c3⟩ := d2.is (by unfold Fr; omega)
    have := d1.le c c1 fun x hx => by
      obtain ⟨p, p1, p2, p3⟩ := used_mem0.1 (c2 x hx)
      have p1' : p < (rdX N L).length := by rw [← rdM_len]; exact p1
      obtain ⟨q1, q2⟩ := rdX_get p1'
      rw [less_T (fun p hp => by cases hp), Bool.or_eq_false_iff] at p2
      refine used_mem0.2 ⟨(rdX N L)[p], q1, ?_, by rw [← rdM_lk p1', p3]⟩
      rw [less_T hI.t, rd_mono (by omega) q2, decide_eq_false fun e => of_decide_eq_false p2.1 (inj p1' hk' e)]
      rfl
    omega
theorem rd_con (ha : AskL N.toNat L) (hn : NoNeg L) (hb : AskL N.toNat (rdM N L)) : conB N (rdM N L) = true := (con_iff hb).2 (noneg_sub hn rdM_sub)
theorem rd_d (ha : AskL N.toNat L) (hn : NoNeg L) (hb : AskL N.toNat (rdM N L)) {a b : Int} (h1 : inN N.toNat a) (h2 : inN N.toNat b) : dB N (rdM N L) a b = dB N L a b :=
  (bd_isD hb (noneg_sub hn rdM_sub) h1 h2).1.uniq ((rdI_all ha hn (Nat.le_refl _)).ds a b _ (bd_isD ha hn h1 h2).1)
theorem rd_tg (h : askF N L [] = 0) : tgF N (rdM N L) = tgF N L ∧ askF N (rdM N L) [] = 0 := by
  obtain ⟨c1, _, c3⟩ := ask_iff.1 h
  have ha := ask_of c1
  have hc' := rdM_check c1
  have hb := ask_of hc'
  have hn := (con_iff ha).1 c3
  have h' : askF N (rdM N L) [] = 0 := ask_iff.2 ⟨hc', rfl, rd_con ha hn hb⟩
  refine ⟨?_, h'⟩
  rw [tgF1 (by rw [h']; rfl), tgF1 (by rw [h]; rfl)]
  have : tgL N (rdM N L) N.toNat = tgL N L N.toNat := sq_ext (tg_sq hb) (tg_sq ha) fun a b h1 h2 => by
    rw [tg_tb h1, tg_tb h1]; exact rd_d ha hn hb h1 h2
  rw [this]
theorem rd_id (h : askF N L [] = 0) : idF N (rdM N L) = ([], 0) := by
  obtain ⟨c1, _, c3⟩ := ask_iff.1 h
  have ha := ask_of c1
  have hb := ask_of (rdM_check c1)
  have hn := (con_iff ha).1 c3
  rw [id1 (by rw [(rd_tg h).2]; rfl)]
  have : idL N (rdM N L) (rdM N L).length = [] := by
    unfold idL
    rw [List.filter_eq_nil_iff.2 fun k hk => by rw [rd_idle ha hn hb (List.mem_range.1 hk)]; simp]
    rfl
  rw [this]
/-! ### What the law leaves out -/
theorem rd_out (h : askF N L [] = 0) : (rdF N L).1 = (rdX N L).map (fun (j : Nat) => (j : Int)) := by
  obtain ⟨c1, _, c3⟩ := ask_iff.1 h
  have ha := ask_of c1
  have hn := (con_iff ha).1 c3
  rw [rd1 (by rw [h]; rfl)]
  show (rdS N L L.length).2.reverse = _
  rw [(rdI_all ha hn (Nat.le_refl _)).out, Nat.sub_self]
  unfold rdX
  rw [List.range_eq_range']
theorem hasB_iff {n : Int} : ∀ {I : List Int}, hasB I n = true ↔ n ∈ I
  | [] => by simp [hasB]
  | x :: I => by
    rw [hasB, List.mem_cons]
    by_cases e : x = n
    · rw [if_pos e]; simp [e]
    · rw [if_neg e, hasB_iff]
      constructor
      · exact .inr
      · rintro (h | h)
        · exact absurd h.symm e
        · exact h
def goL (X : List Int) (i : Nat) : List Int := ((List.range i).filter fun (j : Nat) => !hasB X (j : Int)).map fun (j : Nat) => (j : Int)
theorem go_zero {X : List Int} : [] = goL X 0 := rfl
theorem go_has {X : List Int} {i : Nat} (h : hasB X (i : Int) = true) : goL X i = goL X (i + 1) := by unfold goL; rw [List.range_succ, List.filter_append]; simp [h]
theorem go_put {X : List Int} {i : Nat} (h : hasB X (i : Int) = false) : goL X i ++ [(i : Int)] = goL X (i + 1) := by unfold goL; rw [List.range_succ, List.filter_append]; simp [h]
theorem go_len {X : List Int} {i : Nat} : (goL X i).length ≤ i := by unfold goL; rw [List.length_map]; exact Nat.le_trans (List.length_filter_le _ _) (by simp)
theorem keep_used {I : List Int} {es : List (Int × Bool)} : ∀ {L : List Lk} {k : Nat}, (∀ j, k ≤ j → j < k + L.length → hasB I (j : Int) = mgb es (j : Int)) → keepL I k L = usedF es k L
  | [], _, _ => rfl
  | l :: L, k, h => by
    rw [keepL, usedF, h k (Nat.le_refl _) (by simp), keep_used fun j h1 h2 => h j (by omega) (by simp; omega)]
theorem rd_keep (h : askF N L [] = 0) : keepL (goL (rdF N L).1 L.length) 0 L = rdM N L := by
  refine keep_used fun j _ hj => ?_
  rw [Nat.zero_add] at hj
  rw [Bool.eq_iff_iff, hasB_iff]
  unfold goL
  rw [rd_out h, List.mem_map]
  have hx : hasB ((rdX N L).map fun (j : Nat) => (j : Int)) (j : Int) = true ↔ mgb (rdS N L L.length).1 (j : Int) = false := by
    rw [hasB_iff, List.mem_map]
    constructor
    · rintro ⟨a, h1, h2⟩
      obtain rfl : a = j := by omega
      have := List.mem_filter.1 h1
      simpa using this.2
    · intro h2
      exact ⟨j, List.mem_filter.2 ⟨List.mem_range.2 hj, by simpa using h2⟩, rfl⟩
  constructor
  · rintro ⟨a, h1, h2⟩
    obtain rfl : a = j := by omega
    have h3 := (List.mem_filter.1 h1).2
    cases hb : mgb (rdS N L L.length).1 (a : Int)
    · rw [hx.2 hb] at h3; cases h3
    · rfl
  · intro h2
    refine ⟨j, List.mem_filter.2 ⟨List.mem_range.2 hj, ?_⟩, rfl⟩
    cases hb : hasB ((rdX N L).map fun (j : Nat) => (j : Int)) (j : Int)
    · rfl
    · rw [hx.1 hb] at h2; cases h2
end
end Go.Proofs.Ytlmhkeoblgodiaa
end
