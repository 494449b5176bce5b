/-
  Texts of the claims on chapter 2: Yk3. No condition: lemmas and contracts.
-/
import Derived.Test.YtlmhkeoblgodiaaYk2
import Derived.Test.YtlmhkeoblgodiaaYk1
set_option linter.all false
section
/-
  Chapter 2: the specification's Reduce. Printed by gen81.py.
-/
namespace Go.Proofs.Ytlmhkeoblgodiaa
open Go Go.Sy Go.Chn
set_option maxRecDepth 100000
set_option maxHeartbeats 4000000
set_option linter.unusedVariables false
set_option linter.unusedSimpArgs false
variable {Γ : Glob}
def L37 : List (Nat × Ctr) := [(26, c26), (50, c50), (46, c46), (61, c61)]
theorem L37_ok : CsOk Try.prog Γ L37 := ((((CsOk.nil.cons (body_of Try.func61 rfl rfl).fn c61_ok).cons (body_of Try.func46 rfl rfl).fn c46_ok).cons (body_of Try.func50 rfl rfl).fn c50_ok).cons (body_of Try.func26 rfl rfl).fn c26_ok)
theorem yg {c : Int} {g ys : List Int} (h : List.drop 0 [c] ++ List.take g.length (List.drop 0 g) = ys) : c :: g = ys := by rw [← h, List.drop_zero, List.drop_zero, List.take_length]; rfl
attribute [local irreducible] gi lk checkF conF conB relaxF rtF rgS goL keepL smB hasB rgF
def c37 : Ctr := newS (fun N L => [(Duty.of (N = N.toNat)), askD N.toNat L]) (fun N L => ⟨[.arr 3 kI (rgF N L) true true], .a (.sl 0 [] 0 (rgF N L).length)⟩)
theorem c37_ok : Ctr.Ok Try.prog Γ 37 c37 := newS_ok (d := 0) (prog_ok L37_ok BsOk.nil false 0) (body_of Try.func37 rfl rfl) (by
  rintro N L K ⟨hN, ha, _⟩ hK
  simp only [Duty.of_p] at hN
  replace ha : AskL N.toNat L := ha
  have hll := ha.l
  repeat' ((conv => whnf); (first | apply And.intro | (intro h9; first | (have h8 : (_ : Bool) = false := h9; exfalso; clear h8; revert h9; subst_vars; intro h9; exact ft_no (h9.symm.trans (by assumption))) | (have h8 : (_ : Bool) = true := h9; exfalso; clear h8; revert h9; subst_vars; intro h9; exact tf_no (h9.symm.trans (by assumption))) | skip)))
  all_goals try (conv => whnf)
  all_goals try first
    | exact LexB.mk (by kernel_rfl)
    | exact LexG.mk (by kernel_rfl)
    | exact LexT.mk (by kernel_rfl)
    | exact Forced.mk (by kernel_rfl)
    | exact LexP.mk (by kernel_rfl)
    | exact ForcedP.mk (by kernel_rfl)
    | exact ⟨Nat.le_of_ble_eq_true rfl⟩
    | exact ⟨rfl⟩
    | exact ⟨trivial⟩
  all_goals try first
    | rfl
    | contradiction
    | (refine Ob.mk ?_; simp only [inRQ, inR, Duty.of_p]; omega)
  all_goals try first
    | exact ⟨show L.length ≤ 1000000 by omega⟩
    | exact ⟨show L.length ≤ 1099511627776 by omega⟩
    | exact ⟨hN⟩
    | exact ⟨ha⟩
  refine ⟨Nat, fun n => n ≤ L.length, fun n => ⟨slotsT 56 [1, 3, 5, 6] [.a (.p 1 [] 0 0), .a (.sl 2 [] 0 (rtF N L).1.length), .a (.sl 3 [] 0 (rgS N L n).length), .a (vI ((L.length : Int) - 1 - (n : Int)))], [], [.arr 44 kL L false false, .box true [vI N, .sl 0 [] 0 L.length], .arr 32 kT (rtF N L).1 true true, .arr 3 kI (rgS N L n) true true]⟩, fun n => L.length - n, 0, [0, 1, 2, 1000], Nat.zero_le _, ?_, ?_⟩
  · have e0 : [] = rgS N L 0 := by unfold rgS; rfl
    have e1 : (rgS N L 0).length = 0 := by rw [← e0]; rfl
    have e3 : (L.length : Int) - 1 = (L.length : Int) - 1 - ((0 : Nat) : Int) := by omega
    clear hN
    subst_vars
    repeat' ((conv => whnf); (first | apply And.intro | intro _))
    all_goals first | rfl | trivial | exact Nat.le_of_ble_eq_true rfl | exact ⟨rfl, rfl, rfl⟩ | exact ⟨rfl, rfl, rfl, rfl⟩ | exact ⟨rfl, rfl⟩ | exact e0 | exact e0.symm | exact e1 | exact e1.symm | exact e3 | exact e3.symm | exact ⟨rfl, rfl, e0⟩
  rintro n hn
  have il := rgS_len (N := N) (L := L) (n := n)
  have ha' := keep_ask (I := ((L.length : Int) - 1 - (n : Int)) :: rgS N L n) ha
  have rl := rt_len ha
  have rr := rt_rows ha
  by_cases hn1 : n < L.length
  · have p0 : decide ((L.length : Int) - 1 - (n : Int) ≥ 0) = true := decide_eq_true (by omega)
    have e5 : (L.length : Int) - 1 - (n : Int) - 1 = (L.length : Int) - 1 - ((n + 1 : Nat) : Int) := by omega
    cases k : smB N L (((L.length : Int) - 1 - (n : Int)) :: rgS N L n)
    · have e1 := (rgS_skip k).symm
      have e2 := congrArg List.length e1
      unfold smB at k
      repeat' ((conv => whnf); (first | apply And.intro | (intro h9; first | (have h8 : (_ : Bool) = false := h9; exfalso; clear h8; revert h9; subst_vars; intro h9; exact ft_no (h9.symm.trans (by assumption))) | (have h8 : (_ : Bool) = true := h9; exfalso; clear h8; revert h9; subst_vars; intro h9; exact tf_no (h9.symm.trans (by assumption))) | skip)))
      all_goals try (conv => whnf)
      all_goals try first
        | exact LexB.mk (by kernel_rfl)
        | exact LexG.mk (by kernel_rfl)
        | exact LexT.mk (by kernel_rfl)
        | exact Forced.mk (by kernel_rfl)
        | exact LexP.mk (by kernel_rfl)
        | exact ForcedP.mk (by kernel_rfl)
        | exact ⟨Nat.le_of_ble_eq_true rfl⟩
        | exact ⟨rfl⟩
        | exact ⟨trivial⟩
      all_goals try first
        | rfl
        | contradiction
        | (refine Ob.mk ?_; simp only [inRQ, inR, Duty.of_p]; omega)
      all_goals try first
        | exact ⟨show L.length ≤ 1000000 by omega⟩
        | exact ⟨show L.length ≤ 1099511627776 by omega⟩
        | exact ⟨hN⟩
        | exact ⟨ha⟩
      all_goals try first
        | exact ⟨ha'⟩
        | exact ⟨rr⟩
        | exact ⟨show (rtF N L).1.length ≤ 1000000 by omega⟩
        | exact ⟨Nat.zero_add _⟩
        | exact ⟨show ((rgS N L n).length + 1) * 1 ≤ 1099511627776 by omega⟩
        | exact ⟨show (rgS N L n).length + 1 ≤ 1099511627776 by omega⟩
        | exact ⟨show 0 + (rgS N L n).length ≤ (rgS N L n).length by omega⟩
        | exact ⟨show (1 + (rgS N L n).length) * 1 ≤ 1099511627776 by omega⟩
      all_goals try obtain rfl := yg ‹List.drop 0 [((L.length : Int) - 1 - (n : Int))] ++ List.take (rgS N L n).length (List.drop 0 (rgS N L n)) = _›
      all_goals try first
        | exact ⟨ha'⟩
        | exact ⟨show (rgS N L n).length + 1 ≤ 1000000 by omega⟩
        | exact ⟨Nat.add_comm _ _⟩
      all_goals clear hN
      all_goals subst_vars
      all_goals try exact absurd (show decide ((rtF N L).1 = (rtF N (keepL (((L.length : Int) - 1 - (n : Int)) :: rgS N L n) 0 L)).1) = true by assumption) (by rw [k]; simp)
      all_goals
        refine ⟨n + 1, [0, 1, 2, 3], hn1, ?_, by show L.length - (n + 1) < L.length - n; omega⟩
        subst_vars
        repeat' ((conv => whnf); (first | apply And.intro | intro _))
        all_goals first | rfl | trivial | exact Nat.le_of_ble_eq_true rfl | exact ⟨rfl, rfl, rfl⟩ | exact ⟨rfl, rfl, rfl, rfl⟩ | exact ⟨rfl, rfl⟩ | exact e0 | exact e1 | exact e2 | exact e3 | exact e5 | (subst_vars; rfl) | exact ⟨rfl, rfl, e1⟩
    · have e1 := (rgS_put k).symm
      have e2 := congrArg List.length e1
      have e3 : 1 + (rgS N L n).length = (rgS N L (n + 1)).length := by rw [← e1]; simp; omega
      unfold smB at k
      repeat' ((conv => whnf); (first | apply And.intro | (intro h9; first | (have h8 : (_ : Bool) = false := h9; exfalso; clear h8; revert h9; subst_vars; intro h9; exact ft_no (h9.symm.trans (by assumption))) | (have h8 : (_ : Bool) = true := h9; exfalso; clear h8; revert h9; subst_vars; intro h9; exact tf_no (h9.symm.trans (by assumption))) | skip)))
      all_goals try (conv => whnf)
      all_goals try first
        | exact LexB.mk (by kernel_rfl)
        | exact LexG.mk (by kernel_rfl)
        | exact LexT.mk (by kernel_rfl)
        | exact Forced.mk (by kernel_rfl)
        | exact LexP.mk (by kernel_rfl)
        | exact ForcedP.mk (by kernel_rfl)
        | exact ⟨Nat.le_of_ble_eq_true rfl⟩
        | exact ⟨rfl⟩
        | exact ⟨trivial⟩
      all_goals try first
        | rfl
        | contradiction
        | (refine Ob.mk ?_; simp only [inRQ, inR, Duty.of_p]; omega)
      all_goals try first
        | exact ⟨show L.length ≤ 1000000 by omega⟩
        | exact ⟨show L.length ≤ 1099511627776 by omega⟩
        | exact ⟨hN⟩
        | exact ⟨ha⟩
      all_goals try first
        | exact ⟨ha'⟩
        | exact ⟨rr⟩
        | exact ⟨show (rtF N L).1.length ≤ 1000000 by omega⟩
        | exact ⟨Nat.zero_add _⟩
        | exact ⟨show ((rgS N L n).length + 1) * 1 ≤ 1099511627776 by omega⟩
        | exact ⟨show (rgS N L n).length + 1 ≤ 1099511627776 by omega⟩
        | exact ⟨show 0 + (rgS N L n).length ≤ (rgS N L n).length by omega⟩
        | exact ⟨show (1 + (rgS N L n).length) * 1 ≤ 1099511627776 by omega⟩
      all_goals try obtain rfl := yg ‹List.drop 0 [((L.length : Int) - 1 - (n : Int))] ++ List.take (rgS N L n).length (List.drop 0 (rgS N L n)) = _›
      all_goals try first
        | exact ⟨ha'⟩
        | exact ⟨show (rgS N L n).length + 1 ≤ 1000000 by omega⟩
        | exact ⟨Nat.add_comm _ _⟩
      all_goals clear hN
      all_goals subst_vars
      all_goals try exact absurd (show decide ((rtF N L).1 = (rtF N (keepL (((L.length : Int) - 1 - (n : Int)) :: rgS N L n) 0 L)).1) = false by assumption) (by rw [k]; simp)
      all_goals
        refine ⟨n + 1, [0, 1, 2, 4], hn1, ?_, by show L.length - (n + 1) < L.length - n; omega⟩
        subst_vars
        repeat' ((conv => whnf); (first | apply And.intro | intro _))
        all_goals first | rfl | trivial | exact Nat.le_of_ble_eq_true rfl | exact ⟨rfl, rfl, rfl⟩ | exact ⟨rfl, rfl, rfl, rfl⟩ | exact ⟨rfl, rfl⟩ | exact e0 | exact e1 | exact e2 | exact e3 | exact e5 | (subst_vars; rfl) | exact ⟨rfl, rfl, e1⟩
  have p0 : decide ((L.length : Int) - 1 - (n : Int) ≥ 0) = false := decide_eq_false (by omega)
  obtain rfl : n = L.length := by omega
  repeat' ((conv => whnf); (first | apply And.intro | (intro h9; first | (have h8 : (_ : Bool) = false := h9; exfalso; clear h8; revert h9; subst_vars; intro h9; exact ft_no (h9.symm.trans (by assumption))) | (have h8 : (_ : Bool) = true := h9; exfalso; clear h8; revert h9; subst_vars; intro h9; exact tf_no (h9.symm.trans (by assumption))) | skip)))
  all_goals try (conv => whnf)
  all_goals try first
    | exact LexB.mk (by kernel_rfl)
    | exact LexG.mk (by kernel_rfl)
    | exact LexT.mk (by kernel_rfl)
    | exact Forced.mk (by kernel_rfl)
    | exact LexP.mk (by kernel_rfl)
    | exact ForcedP.mk (by kernel_rfl)
    | exact ⟨Nat.le_of_ble_eq_true rfl⟩
    | exact ⟨rfl⟩
    | exact ⟨trivial⟩
  all_goals try first
    | rfl
    | contradiction
    | (refine Ob.mk ?_; simp only [inRQ, inR, Duty.of_p]; omega)
  all_goals try first
    | exact ⟨show L.length ≤ 1000000 by omega⟩
    | exact ⟨show L.length ≤ 1099511627776 by omega⟩
    | exact ⟨hN⟩
    | exact ⟨ha⟩
  all_goals try first
    | exact ⟨ha'⟩
    | exact ⟨rr⟩
    | exact ⟨show (rtF N L).1.length ≤ 1000000 by omega⟩
    | exact ⟨Nat.zero_add _⟩
    | exact ⟨show ((rgS N L n).length + 1) * 1 ≤ 1099511627776 by omega⟩
    | exact ⟨show (rgS N L n).length + 1 ≤ 1099511627776 by omega⟩
    | exact ⟨show 0 + (rgS N L n).length ≤ (rgS N L n).length by omega⟩
    | exact ⟨show (1 + (rgS N L n).length) * 1 ≤ 1099511627776 by omega⟩
  refine ⟨Nat, fun i => i ≤ L.length, fun i => ⟨slotsT 56 [1, 5, 10, 11] [.a (.p 1 [] 0 0), .a (.sl 2 [] 0 (rgS N L L.length).length), .a (.sl 3 [] 0 (goL (rgS N L L.length) i).length), .a (vI i)], [], [.arr 44 kL L false false, .box true [vI N, .sl 0 [] 0 L.length], .arr 3 kI (rgS N L L.length) true true, .arr 3 kI (goL (rgS N L L.length) i) true true]⟩, fun i => L.length - i, 0, [0, 1, 3, 1000], Nat.zero_le _, ?_, ?_⟩
  · have e0 : [] = goL (rgS N L L.length) 0 := by unfold goL; rfl
    have e1 : (goL (rgS N L L.length) 0).length = 0 := by rw [← e0]; rfl
    clear hN
    subst_vars
    repeat' ((conv => whnf); (first | apply And.intro | intro _))
    all_goals first | rfl | trivial | exact Nat.le_of_ble_eq_true rfl | exact ⟨rfl, rfl, rfl⟩ | exact ⟨rfl, rfl, rfl, rfl⟩ | exact ⟨rfl, rfl⟩ | exact e0 | exact e0.symm | exact e1 | exact e1.symm | exact ⟨rfl, rfl, e0⟩
  rintro i hi
  have gl := go_len (X := (rgS N L L.length)) (i := i)
  by_cases hi1 : i < L.length
  · have p1 : decide ((i : Int) < (L.length : Int)) = true := decide_eq_true (by omega)
    cases k : hasB (rgS N L L.length) (i : Int)
    · have k' : (!hasB (rgS N L L.length) (i : Int)) = true := by rw [k]; rfl
      have e1 := go_put k
      have e2 : (goL (rgS N L L.length) i).length + 1 = (goL (rgS N L L.length) (i + 1)).length := by rw [← e1]; simp
      repeat' ((conv => whnf); (first | apply And.intro | (intro h9; first | (have h8 : (_ : Bool) = false := h9; exfalso; clear h8; revert h9; subst_vars; intro h9; exact ft_no (h9.symm.trans (by assumption))) | (have h8 : (_ : Bool) = true := h9; exfalso; clear h8; revert h9; subst_vars; intro h9; exact tf_no (h9.symm.trans (by assumption))) | skip)))
      all_goals try (conv => whnf)
      all_goals try first
        | exact LexB.mk (by kernel_rfl)
        | exact LexG.mk (by kernel_rfl)
        | exact LexT.mk (by kernel_rfl)
        | exact Forced.mk (by kernel_rfl)
        | exact LexP.mk (by kernel_rfl)
        | exact ForcedP.mk (by kernel_rfl)
        | exact ⟨Nat.le_of_ble_eq_true rfl⟩
        | exact ⟨rfl⟩
        | exact ⟨trivial⟩
      all_goals try first
        | rfl
        | contradiction
        | (refine Ob.mk ?_; simp only [inRQ, inR, Duty.of_p]; omega)
      all_goals try first
        | exact ⟨show L.length ≤ 1000000 by omega⟩
        | exact ⟨show L.length ≤ 1099511627776 by omega⟩
        | exact ⟨hN⟩
        | exact ⟨ha⟩
      all_goals try first
        | exact ⟨show (i : Int) < (L.length : Int) by omega⟩
        | exact ⟨Nat.zero_add _⟩
        | exact ⟨show (rgS N L L.length).length ≤ 1000000 by omega⟩
        | exact ⟨show ((goL (rgS N L L.length) i).length + 1) * 1 ≤ 1099511627776 by omega⟩
      all_goals
        refine ⟨i + 1, [0, 1, 2, 3], hi1, ?_, by show L.length - (i + 1) < L.length - i; omega⟩
        clear hN
        subst_vars
        repeat' ((conv => whnf); (first | apply And.intro | intro _))
        all_goals first | rfl | trivial | exact Nat.le_of_ble_eq_true rfl | exact ⟨rfl, rfl, rfl⟩ | exact ⟨rfl, rfl, rfl, rfl⟩ | exact ⟨rfl, rfl⟩ | exact e1 | exact e2 | (subst_vars; rfl) | exact ⟨rfl, rfl, e1⟩
    · have k' : (!hasB (rgS N L L.length) (i : Int)) = false := by rw [k]; rfl
      have e1 := go_has k
      have e2 : (goL (rgS N L L.length) i).length = (goL (rgS N L L.length) (i + 1)).length := by rw [← e1]
      repeat' ((conv => whnf); (first | apply And.intro | (intro h9; first | (have h8 : (_ : Bool) = false := h9; exfalso; clear h8; revert h9; subst_vars; intro h9; exact ft_no (h9.symm.trans (by assumption))) | (have h8 : (_ : Bool) = true := h9; exfalso; clear h8; revert h9; subst_vars; intro h9; exact tf_no (h9.symm.trans (by assumption))) | skip)))
      all_goals try (conv => whnf)
      all_goals try first
        | exact LexB.mk (by kernel_rfl)
        | exact LexG.mk (by kernel_rfl)
        | exact LexT.mk (by kernel_rfl)
        | exact Forced.mk (by kernel_rfl)
        | exact LexP.mk (by kernel_rfl)
        | exact ForcedP.mk (by kernel_rfl)
        | exact ⟨Nat.le_of_ble_eq_true rfl⟩
        | exact ⟨rfl⟩
        | exact ⟨trivial⟩
      all_goals try first
        | rfl
        | contradiction
        | (refine Ob.mk ?_; simp only [inRQ, inR, Duty.of_p]; omega)
      all_goals try first
        | exact ⟨show L.length ≤ 1000000 by omega⟩
        | exact ⟨show L.length ≤ 1099511627776 by omega⟩
        | exact ⟨hN⟩
        | exact ⟨ha⟩
      all_goals try first
        | exact ⟨show (i : Int) < (L.length : Int) by omega⟩
        | exact ⟨Nat.zero_add _⟩
        | exact ⟨show (rgS N L L.length).length ≤ 1000000 by omega⟩
        | exact ⟨show ((goL (rgS N L L.length) i).length + 1) * 1 ≤ 1099511627776 by omega⟩
      all_goals
        refine ⟨i + 1, [0, 1, 2, 3], hi1, ?_, by show L.length - (i + 1) < L.length - i; omega⟩
        clear hN
        subst_vars
        repeat' ((conv => whnf); (first | apply And.intro | intro _))
        all_goals first | rfl | trivial | exact Nat.le_of_ble_eq_true rfl | exact ⟨rfl, rfl, rfl⟩ | exact ⟨rfl, rfl, rfl, rfl⟩ | exact ⟨rfl, rfl⟩ | exact e1 | exact e2 | (subst_vars; rfl) | exact ⟨rfl, rfl, e1⟩
  have p1 : decide ((i : Int) < (L.length : Int)) = false := decide_eq_false (by omega)
  obtain rfl : i = L.length := by omega
  unfold rgF at hK
  repeat' ((conv => whnf); (first | apply And.intro | (intro h9; first | (have h8 : (_ : Bool) = false := h9; exfalso; clear h8; revert h9; subst_vars; intro h9; exact ft_no (h9.symm.trans (by assumption))) | (have h8 : (_ : Bool) = true := h9; exfalso; clear h8; revert h9; subst_vars; intro h9; exact tf_no (h9.symm.trans (by assumption))) | skip)))
  all_goals try (conv => whnf)
  all_goals try first
    | exact LexB.mk (by kernel_rfl)
    | exact LexG.mk (by kernel_rfl)
    | exact LexT.mk (by kernel_rfl)
    | exact Forced.mk (by kernel_rfl)
    | exact LexP.mk (by kernel_rfl)
    | exact ForcedP.mk (by kernel_rfl)
    | exact ⟨Nat.le_of_ble_eq_true rfl⟩
    | exact ⟨rfl⟩
    | exact ⟨trivial⟩
  all_goals try first
    | rfl
    | contradiction
    | (refine Ob.mk ?_; simp only [inRQ, inR, Duty.of_p]; omega)
  all_goals try first
    | exact ⟨show L.length ≤ 1000000 by omega⟩
    | exact ⟨show L.length ≤ 1099511627776 by omega⟩
    | exact ⟨hN⟩
    | exact ⟨ha⟩
  all_goals try first
    | exact ⟨show (i : Int) < (L.length : Int) by omega⟩
    | exact ⟨Nat.zero_add _⟩
    | exact ⟨show (rgS N L L.length).length ≤ 1000000 by omega⟩
    | exact ⟨show ((goL (rgS N L L.length) i).length + 1) * 1 ≤ 1099511627776 by omega⟩
  all_goals exact kl1 (i := 3) hK rfl rfl)
end Go.Proofs.Ytlmhkeoblgodiaa
end

section
/-
  Chapter 2: Slack. Printed by gen40.py.
-/
namespace Go.Proofs.Ytlmhkeoblgodiaa
open Go Go.Sy Go.Chn
set_option maxRecDepth 100000
set_option maxHeartbeats 1000000
set_option linter.unusedVariables false
set_option linter.unusedSimpArgs false
variable {Γ : Glob}
def slkF (N : Int) (L : List Lk) (w : Int) : Int × Int := if (checkF N L).1 ≠ 0 then (0, (checkF N L).1) else if w < 0 ∨ (L.length : Int) ≤ w then (0, 1) else if conB N L = false then (0, 9) else
  if dB N L (lk L w.toNat).2.1 (lk L w.toNat).1 = 1152921504606846976 then (0, 5) else ((lk L w.toNat).2.2 + dB N L (lk L w.toNat).2.1 (lk L w.toNat).1, 0)
section
variable {N : Int} {L : List Lk} {w : Int}
theorem sl0 (h : ((checkF N L).1 != 0) = true) : slkF N L w = (0, (checkF N L).1) := by unfold slkF; rw [if_pos (by simpa using h)]
theorem sl1 (h : ((checkF N L).1 != 0) = false) (h2 : w < 0 ∨ (L.length : Int) ≤ w) : slkF N L w = (0, 1) := by unfold slkF; rw [if_neg (by simpa using h), if_pos h2]
theorem sl2 (h : ((checkF N L).1 != 0) = false) (h2 : ¬ (w < 0 ∨ (L.length : Int) ≤ w)) (h3 : conB N L = false) : slkF N L w = (0, 9) := by unfold slkF; rw [if_neg (by simpa using h), if_neg h2, if_pos h3]
theorem sl3 (h : ((checkF N L).1 != 0) = false) (h2 : ¬ (w < 0 ∨ (L.length : Int) ≤ w)) (h3 : conB N L = true) (h4 : (dB N L (lk L w.toNat).2.1 (lk L w.toNat).1 == 1152921504606846976) = true) : slkF N L w = (0, 5) := by
  unfold slkF; rw [if_neg (by simpa using h), if_neg h2, if_neg (by simp [h3]), if_pos (by simpa using h4)]
theorem sl4 (h : ((checkF N L).1 != 0) = false) (h2 : ¬ (w < 0 ∨ (L.length : Int) ≤ w)) (h3 : conB N L = true) (h4 : (dB N L (lk L w.toNat).2.1 (lk L w.toNat).1 == 1152921504606846976) = false) : slkF N L w = ((lk L w.toNat).2.2 + dB N L (lk L w.toNat).2.1 (lk L w.toNat).1, 0) := by
  unfold slkF; rw [if_neg (by simpa using h), if_neg h2, if_neg (by simp [h3]), if_neg (by simpa using h4)]
end
def L30 : List (Nat × Ctr) := [(22, c22), (65, c65), (72, c72)]
theorem L30_ok : CsOk Try.prog Γ L30 := ((CsOk.nil.cons (body_of Try.func72 rfl rfl).fn c72_ok).cons (body_of Try.func65 rfl rfl).fn c65_ok).cons (body_of Try.func22 rfl rfl).fn c22_ok
def o30 (id : Nat) : Option (List Nat) := match Nat.beq id 10 with | true => some [0, 1, 2, 4, 5, 3, 6, 7, 8] | false => none
attribute [local irreducible] checkF gi lk boundsF dB slkF
def c30 : Ctr := fSn (fun _ L _ => [(Duty.of (L.length ≤ 1000000))]) (fun N L w => .tup [.a (vI (slkF N L w).1), .a (vI (slkF N L w).2)])
theorem c30_ok : Ctr.Ok Try.prog Γ 30 c30 := fSn_ok (d := 0) (E := { tabs.env L30 [] false 0 with ord := o30 }) ((prog_ok L30_ok BsOk.nil false 0).ords o30) (body_of Try.func30 rfl rfl) (fun _ _ _ => rfl) (by
  intro N L w ⟨hL, _⟩
  simp only [Duty.of_p] at hL
  have g0 := @sl0 N L w
  have g1 := @sl1 N L w
  have g2 := @sl2 N L w
  have g3 := @sl3 N L w
  have g4 := @sl4 N L w
  generalize slkF N L w = res at *
  repeat' ((conv => whnf); (first | apply And.intro | intro _))
  all_goals try (conv => whnf)
  all_goals try first
    | exact LexB.mk (by kernel_rfl)
    | exact LexP.mk (by kernel_rfl)
    | exact ForcedP.mk (by kernel_rfl)
  all_goals subst_vars
  all_goals try simp only [getL, getI, castLk, castIk] at *
  all_goals try first
    | exact ⟨rfl⟩
    | exact ⟨trivial⟩
    | exact ⟨show L.length ≤ 1099511627776 by omega⟩
    | rfl
  all_goals try
    (have hq : ((checkF N L).1 != 0) = true := by assumption
     first
       | (rw [g0 hq]; done)
       | exact (congrArg Prod.fst (g0 hq)).symm
       | exact (congrArg Prod.snd (g0 hq)).symm
       | exact congrArg Prod.snd (g0 hq))
  all_goals have hq : ((checkF N L).1 != 0) = false := by assumption
  all_goals have ha := ask_of (ok_of hq)
  all_goals have hN := toNat_of (ok_of hq)
  all_goals try first
    | exact hN
    | exact ha
  all_goals try
    (have hw : w < 0 ∨ (L.length : Int) ≤ w := by
       first
         | exact .inl (of_decide_eq_true (by assumption))
         | exact .inr (of_decide_eq_true (by assumption))
     first
       | (rw [g1 hq hw]; done)
       | exact (congrArg Prod.fst (g1 hq hw)).symm
       | exact (congrArg Prod.snd (g1 hq hw)).symm)
  all_goals have hw0 : ¬ w < 0 := of_decide_eq_false (by assumption)
  all_goals have hw1 : ¬ (L.length : Int) ≤ w := of_decide_eq_false (by assumption)
  all_goals have hw : ¬ (w < 0 ∨ (L.length : Int) ≤ w) := by omega
  all_goals try
    (have hc := con_f (N := N) (L := L) (by assumption)
     first
       | (rw [g2 hq hw hc]; done)
       | exact (congrArg Prod.fst (g2 hq hw hc)).symm
       | exact (congrArg Prod.snd (g2 hq hw hc)).symm)
  all_goals have hc := con_t (N := N) (L := L) (by assumption)
  all_goals have hm : lk L w.toNat ∈ L := lk_mem' (by omega)
  all_goals have hnd := ha.ok.nd _ hm
  all_goals have hms := ha.ok.ms _ hm
  all_goals have hlen := bd_len ha hnd.2
  all_goals have hrg := bd_range ha ((con_iff ha).1 hc) hnd.2 hnd.1
  all_goals try simp only [Nat.zero_add] at *
  all_goals have e1 : ((Int.toNat (lk L w.toNat).1 : Nat) : Int) = (lk L w.toNat).1 := Int.toNat_of_nonneg hnd.1.1
  all_goals have eD : gi (boundsF N.toNat L [] (lk L w.toNat).2.1) ((Int.toNat (lk L w.toNat).1 : Nat) : Int) = dB N L (lk L w.toNat).2.1 (lk L w.toNat).1 := by rw [e1]; exact dB_eq
  all_goals try first
    | exact hnd.2.1
    | exact hnd.2.2
    | exact ⟨show w.toNat < L.length by omega⟩
    | exact ⟨show Int.toNat (lk L w.toNat).1 < (boundsF N.toNat L [] (lk L w.toNat).2.1).length by rw [hlen]; have := hnd.1; omega⟩
    | (refine Ob.mk ?_; simp only [Duty.of_p]; omega)
    | (refine Ob.mk ?_; simp only [inRQ, inR, Duty.of_p]; rw [eD]; omega)
  all_goals try
    (have h4 : (dB N L (lk L w.toNat).2.1 (lk L w.toNat).1 == 1152921504606846976) = true := by rw [← eD]; assumption
     first
       | exact (congrArg Prod.fst (g3 hq hw hc h4)).symm
       | exact (congrArg Prod.snd (g3 hq hw hc h4)).symm)
  all_goals try
    (have h4 : (dB N L (lk L w.toNat).2.1 (lk L w.toNat).1 == 1152921504606846976) = false := by rw [← eD]; assumption
     first
       | (rw [eD]; exact (congrArg Prod.fst (g4 hq hw hc h4)).symm)
       | exact (congrArg Prod.snd (g4 hq hw hc h4)).symm)
  done)
end Go.Proofs.Ytlmhkeoblgodiaa
end
