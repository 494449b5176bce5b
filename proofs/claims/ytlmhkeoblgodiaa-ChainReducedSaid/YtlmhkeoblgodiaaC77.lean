/-
  Texts of the claims on chapter 2: C77. No condition: lemmas and contracts.
-/
import Derived.Test.YtlmhkeoblgodiaaYe25
import Derived.Test.YtlmhkeoblgodiaaYe1
set_option linter.all false
section
/-
  Chapter 2: the law ChainReduced. Printed by gen77.py.
-/
namespace Go.Proofs.Ytlmhkeoblgodiaa
open Go Go.Sy Go.Chn
set_option maxRecDepth 100000
set_option maxHeartbeats 4000000
set_option linter.unusedVariables false
set_option linter.unusedSimpArgs false
variable {Γ : Glob}
def lightB (N : Int) (L : List Lk) : Bool := decide (L.length ≤ 45) && decide (N ≤ 14)
def c29 : Ctr := fS (fun _ _ => []) (fun N L => bl (lightB N L))
theorem c29_ok : Ctr.Ok Try.prog Γ 29 c29 := fS_ok (d := 0) (prog_ok CsOk.nil BsOk.nil false 0) (body_of Try.func29 rfl rfl) (fun _ _ => rfl) (by
  intro N L _
  unfold lightB
  repeat' ((conv => whnf); (first | apply And.intro | intro _))
  all_goals try (conv => whnf)
  all_goals subst_vars
  all_goals simp only [decide_eq_true_eq, decide_eq_false_iff_not] at *
  · rw [decide_eq_true (show L.length ≤ 45 by omega)]; rfl
  · rw [decide_eq_false (show ¬ L.length ≤ 45 by omega)]; rfl)
theorem light_len {N : Int} {L : List Lk} (h : (!lightB N L) = false) : L.length ≤ 45 := by
  unfold lightB at h
  simp only [Bool.not_eq_false', Bool.and_eq_true, decide_eq_true_eq] at h
  exact h.1
noncomputable def Lw16 : List (Nat × Ctr) := [(29, c29), (21, c21), (44, c44), (33, c33), (61, c61), (48, c48), (46, c46), (32, c32)]
theorem Lw16_ok : CsOk Try.prog Γ Lw16 := ((((((((CsOk.nil.cons (body_of Try.func32 rfl rfl).fn c32_ok).cons (body_of Try.func46 rfl rfl).fn c46_ok).cons (body_of Try.func48 rfl rfl).fn c48_ok).cons (body_of Try.func61 rfl rfl).fn c61_ok).cons (body_of Try.func33 rfl rfl).fn c33_ok).cons (body_of Try.func44 rfl rfl).fn c44_ok).cons (body_of Try.func21 rfl rfl).fn c21_ok).cons (body_of Try.func29 rfl rfl).fn c29_ok)
theorem wo_eq3 {N : Int} {L : List Lk} {I : List Int} (h : (checkF N L).1 = 0) : woutF N L I = ((N, keepL I 0 L), 0) := by unfold woutF; rw [if_neg (not_not_intro h)]
theorem tg_rows3 {N : Int} {L : List Lk} : (tgF N L).1.length ≤ 1000000 ∧ rowsM (tgF N L).1 := by
  by_cases h0 : askF N L [] = 0
  · obtain ⟨c1, _, c3⟩ := ask_iff.1 h0
    have ha := ask_of c1
    have hn := ha.n
    rw [tgF1 (by rw [h0]; rfl)]
    refine ⟨by show (tgL N L N.toNat).length ≤ 1000000; rw [tg_len]; omega, fun r hr => ?_⟩
    obtain ⟨u, hu, rfl⟩ := List.mem_map.1 hr
    rw [bd_len ha ⟨by omega, by have := List.mem_range.1 hu; omega⟩]
    omega
  · rw [tgF0 (by simpa using h0)]
    exact ⟨Nat.zero_le _, fun r hr => (by cases hr)⟩
attribute [local irreducible] gi lk checkF lightB tgF rdF idF woutF hasB goL
def c16 : Ctr := fS (fun _ _ => []) (fun _ _ => bl true)
theorem c16_ok : Ctr.Ok Try.prog Γ 16 c16 := fS_ok (d := 0) (prog_ok Lw16_ok BsOk.nil false 0) (body_of Try.func16 rfl rfl) (fun _ _ => rfl) (by
  intro N L _
  by_cases hs : (!lightB N L) = true
  · repeat' ((conv => whnf); (first | apply And.intro | (intro h9; first | (have h8 : (_ : Bool) = false := h9; exfalso; clear h8; revert h9; subst_vars; intro h9; exact ft_no (h9.symm.trans (by assumption))) | (have h8 : (_ : Bool) = true := h9; exfalso; clear h8; revert h9; subst_vars; intro h9; exact tf_no (h9.symm.trans (by assumption))) | skip)))
    all_goals try (conv => whnf)
    all_goals try first
      | exact LexB.mk (by kernel_rfl)
      | exact LexG.mk (by kernel_rfl)
      | exact LexT.mk (by kernel_rfl)
      | exact Forced.mk (by kernel_rfl)
      | exact LexP.mk (by kernel_rfl)
      | exact ForcedP.mk (by kernel_rfl)
      | exact ⟨Nat.le_of_ble_eq_true rfl⟩
      | exact ⟨rfl⟩
      | exact ⟨trivial⟩
    all_goals subst_vars
    all_goals try first
      | rfl
      | contradiction
      | (refine Ob.mk ?_; simp only [inRQ, inR, Duty.of_p]; omega)
    all_goals try first
      | exact ⟨show L.length ≤ 1000000 by omega⟩
  replace hs : (!lightB N L) = false := by simpa using hs
  have hL := light_len hs
  by_cases h0 : askF N L [] = 0
  case neg =>
    have q : (askF N L [] != 0) = true := by simpa using h0
    have v1 : ((tgF N L).2 != 0) = true := by rw [tgF0 q]; exact q
    have v2 : ((rdF N L).2 == (tgF N L).2) = true := by rw [tgF0 q, rd0 q]; simp
    repeat' ((conv => whnf); (first | apply And.intro | (intro h9; first | (have h8 : (_ : Bool) = false := h9; exfalso; clear h8; revert h9; subst_vars; intro h9; exact ft_no (h9.symm.trans (by assumption))) | (have h8 : (_ : Bool) = true := h9; exfalso; clear h8; revert h9; subst_vars; intro h9; exact tf_no (h9.symm.trans (by assumption))) | skip)))
    all_goals try (conv => whnf)
    all_goals try first
      | exact LexB.mk (by kernel_rfl)
      | exact LexG.mk (by kernel_rfl)
      | exact LexT.mk (by kernel_rfl)
      | exact Forced.mk (by kernel_rfl)
      | exact LexP.mk (by kernel_rfl)
      | exact ForcedP.mk (by kernel_rfl)
      | exact ⟨Nat.le_of_ble_eq_true rfl⟩
      | exact ⟨rfl⟩
      | exact ⟨trivial⟩
    all_goals subst_vars
    all_goals try first
      | rfl
      | contradiction
      | (refine Ob.mk ?_; simp only [inRQ, inR, Duty.of_p]; omega)
    all_goals try first
      | exact ⟨show L.length ≤ 1000000 by omega⟩
    all_goals exact v2
  have q : (askF N L [] != 0) = false := by rw [h0]; rfl
  obtain ⟨c1, _, c3⟩ := ask_iff.1 h0
  have hN := toNat_of c1
  have v1 : ((tgF N L).2 != 0) = false := by rw [tgF1 q]; rfl
  have xl : (rdF N L).1.length ≤ 45 := by
    rw [rd_out h0, List.length_map]
    exact Nat.le_trans (List.length_filter_le _ _) (by simpa using hL)
  repeat' ((conv => whnf); (first | apply And.intro | (intro h9; first | (have h8 : (_ : Bool) = false := h9; exfalso; clear h8; revert h9; subst_vars; intro h9; exact ft_no (h9.symm.trans (by assumption))) | (have h8 : (_ : Bool) = true := h9; exfalso; clear h8; revert h9; subst_vars; intro h9; exact tf_no (h9.symm.trans (by assumption))) | skip)))
  all_goals try (conv => whnf)
  all_goals try first
    | exact LexB.mk (by kernel_rfl)
    | exact LexG.mk (by kernel_rfl)
    | exact LexT.mk (by kernel_rfl)
    | exact Forced.mk (by kernel_rfl)
    | exact LexP.mk (by kernel_rfl)
    | exact ForcedP.mk (by kernel_rfl)
    | exact ⟨Nat.le_of_ble_eq_true rfl⟩
    | exact ⟨rfl⟩
    | exact ⟨trivial⟩
  all_goals subst_vars
  all_goals try first
    | rfl
    | contradiction
    | (refine Ob.mk ?_; simp only [inRQ, inR, Duty.of_p]; omega)
  all_goals try first
    | exact ⟨show L.length ≤ 1000000 by omega⟩
  refine ⟨Nat, fun i => i ≤ L.length, fun i => ⟨slotsT 102 [1, 3, 5, 6, 7, 8] [.a (.p 1 [] 0 0), .a (.sl 2 [] 0 (tgF N L).1.length), .a (.sl 3 [] 0 (rdF N L).1.length), .a (vI (rdF N L).2), .a (.sl 4 [] 0 (goL (rdF N L).1 i).length), .a (vI i)], [], [.arr 44 kL L false false, .box true [vI N, .sl 0 [] 0 L.length], .arr 32 kT (tgF N L).1 true true, .arr 3 kI (rdF N L).1 true true, .arr 3 kI (goL (rdF N L).1 i) true true]⟩, fun i => L.length - i, 0, [0, 1, 2, 3, 1000], Nat.zero_le _, ?_, ?_⟩
  · have e0 : [] = goL (rdF N L).1 0 := by unfold goL; rfl
    have e1 : (goL (rdF N L).1 0).length = 0 := by rw [← e0]; rfl
    subst_vars
    repeat' ((conv => whnf); (first | apply And.intro | intro _))
    all_goals first | rfl | trivial | exact Nat.le_of_ble_eq_true rfl | exact ⟨rfl, rfl, rfl⟩ | exact ⟨rfl, rfl, rfl, rfl⟩ | exact ⟨rfl, rfl⟩ | exact e0 | exact e0.symm | exact e1 | exact e1.symm | exact ⟨rfl, rfl, e0⟩
  rintro i hi
  have gl := go_len (X := (rdF N L).1) (i := i)
  by_cases hi1 : i < L.length
  · have p0 : decide ((i : Int) < (L.length : Int)) = true := decide_eq_true (by omega)
    cases k : hasB (rdF N L).1 (i : Int)
    · have k' : (!hasB (rdF N L).1 (i : Int)) = true := by rw [k]; rfl
      have e1 := go_put k
      have e2 : (goL (rdF N L).1 i).length + 1 = (goL (rdF N L).1 (i + 1)).length := by rw [← e1]; simp
      repeat' ((conv => whnf); (first | apply And.intro | (intro h9; first | (have h8 : (_ : Bool) = false := h9; exfalso; clear h8; revert h9; subst_vars; intro h9; exact ft_no (h9.symm.trans (by assumption))) | (have h8 : (_ : Bool) = true := h9; exfalso; clear h8; revert h9; subst_vars; intro h9; exact tf_no (h9.symm.trans (by assumption))) | skip)))
      all_goals try (conv => whnf)
      all_goals try first
        | exact LexB.mk (by kernel_rfl)
        | exact LexG.mk (by kernel_rfl)
        | exact LexT.mk (by kernel_rfl)
        | exact Forced.mk (by kernel_rfl)
        | exact LexP.mk (by kernel_rfl)
        | exact ForcedP.mk (by kernel_rfl)
        | exact ⟨Nat.le_of_ble_eq_true rfl⟩
        | exact ⟨rfl⟩
        | exact ⟨trivial⟩
      all_goals subst_vars
      all_goals try first
        | rfl
        | contradiction
        | (refine Ob.mk ?_; simp only [inRQ, inR, Duty.of_p]; omega)
      all_goals try first
        | exact ⟨show L.length ≤ 1000000 by omega⟩
        | exact ⟨show (rdF N L).1.length ≤ 1000000 by omega⟩
        | exact ⟨Nat.zero_add _⟩
        | exact ⟨show ((goL (rdF N L).1 i).length + 1) * 1 ≤ 1099511627776 by omega⟩
      all_goals
        refine ⟨i + 1, [0, 1, 2, 3, 4], hi1, ?_, by show L.length - (i + 1) < L.length - i; omega⟩
        subst_vars
        repeat' ((conv => whnf); (first | apply And.intro | intro _))
        all_goals first | rfl | trivial | exact Nat.le_of_ble_eq_true rfl | exact ⟨rfl, rfl, rfl⟩ | exact ⟨rfl, rfl, rfl, rfl⟩ | exact ⟨rfl, rfl⟩ | exact e1 | exact e2 | (subst_vars; rfl) | exact ⟨rfl, rfl, e1⟩
    · have k' : (!hasB (rdF N L).1 (i : Int)) = false := by rw [k]; rfl
      have e1 := go_has k
      have e2 : (goL (rdF N L).1 i).length = (goL (rdF N L).1 (i + 1)).length := by rw [← e1]
      repeat' ((conv => whnf); (first | apply And.intro | (intro h9; first | (have h8 : (_ : Bool) = false := h9; exfalso; clear h8; revert h9; subst_vars; intro h9; exact ft_no (h9.symm.trans (by assumption))) | (have h8 : (_ : Bool) = true := h9; exfalso; clear h8; revert h9; subst_vars; intro h9; exact tf_no (h9.symm.trans (by assumption))) | skip)))
      all_goals try (conv => whnf)
      all_goals try first
        | exact LexB.mk (by kernel_rfl)
        | exact LexG.mk (by kernel_rfl)
        | exact LexT.mk (by kernel_rfl)
        | exact Forced.mk (by kernel_rfl)
        | exact LexP.mk (by kernel_rfl)
        | exact ForcedP.mk (by kernel_rfl)
        | exact ⟨Nat.le_of_ble_eq_true rfl⟩
        | exact ⟨rfl⟩
        | exact ⟨trivial⟩
      all_goals subst_vars
      all_goals try first
        | rfl
        | contradiction
        | (refine Ob.mk ?_; simp only [inRQ, inR, Duty.of_p]; omega)
      all_goals try first
        | exact ⟨show L.length ≤ 1000000 by omega⟩
        | exact ⟨show (rdF N L).1.length ≤ 1000000 by omega⟩
        | exact ⟨Nat.zero_add _⟩
        | exact ⟨show ((goL (rdF N L).1 i).length + 1) * 1 ≤ 1099511627776 by omega⟩
      all_goals
        refine ⟨i + 1, [0, 1, 2, 3, 4], hi1, ?_, by show L.length - (i + 1) < L.length - i; omega⟩
        subst_vars
        repeat' ((conv => whnf); (first | apply And.intro | intro _))
        all_goals first | rfl | trivial | exact Nat.le_of_ble_eq_true rfl | exact ⟨rfl, rfl, rfl⟩ | exact ⟨rfl, rfl, rfl, rfl⟩ | exact ⟨rfl, rfl⟩ | exact e1 | exact e2 | (subst_vars; rfl) | exact ⟨rfl, rfl, e1⟩
  have p0 : decide ((i : Int) < (L.length : Int)) = false := decide_eq_false (by omega)
  obtain rfl : i = L.length := by omega
  have w0 : (woutF N L (goL (rdF N L).1 L.length)) = ((N, rdM N L), 0) := by rw [wo_eq3 c1, rd_keep h0]
  obtain ⟨t1, t2⟩ := rd_tg h0
  have wl : (woutF N L (goL (rdF N L).1 L.length)).1.2.length ≤ 1000000 := by
    rw [w0]; show (rdM N L).length ≤ 1000000
    rw [rdM_len]
    exact Nat.le_trans (List.length_filter_le _ _) (by simp; omega)
  have xm : (rdF N L).1.length = (rdM N L).length := by rw [rd_out h0, List.length_map, rdM_len]
  have v2 : ((rdF N L).2 != 0) = false := by rw [rd1 q]; rfl
  have v3 : ((woutF N L (goL (rdF N L).1 L.length)).2 != 0) = false := by rw [w0]; rfl
  have v4 : ((tgF (woutF N L (goL (rdF N L).1 L.length)).1.1 (woutF N L (goL (rdF N L).1 L.length)).1.2).2 != 0) = false := by rw [w0]; show ((tgF N (rdM N L)).2 != 0) = false; rw [t1]; exact v1
  have v5 : (!decide ((tgF N L).1 = (tgF (woutF N L (goL (rdF N L).1 L.length)).1.1 (woutF N L (goL (rdF N L).1 L.length)).1.2).1)) = false := by rw [w0]; show (!decide ((tgF N L).1 = (tgF N (rdM N L)).1)) = false; rw [t1]; simp
  have v6 : (((woutF N L (goL (rdF N L).1 L.length)).1.2.length : Int) != ((rdF N L).1.length : Int)) = false := by rw [w0, xm]; simp
  have v7 : ((idF (woutF N L (goL (rdF N L).1 L.length)).1.1 (woutF N L (goL (rdF N L).1 L.length)).1.2).2 == 0) = true := by rw [w0]; show ((idF N (rdM N L)).2 == 0) = true; rw [rd_id h0]; rfl
  have z9 : (((idF (woutF N L (goL (rdF N L).1 L.length)).1.1 (woutF N L (goL (rdF N L).1 L.length)).1.2).1.length : Int) == 0) = true := by rw [w0]; show (((idF N (rdM N L)).1.length : Int) == 0) = true; rw [rd_id h0]; rfl
  have r1 := tg_rows3 (N := N) (L := L)
  clear w0 t1 t2 xm
  repeat' ((conv => whnf); (first | apply And.intro | (intro h9; first | (have h8 : (_ : Bool) = false := h9; exfalso; clear h8; revert h9; subst_vars; intro h9; exact ft_no (h9.symm.trans (by assumption))) | (have h8 : (_ : Bool) = true := h9; exfalso; clear h8; revert h9; subst_vars; intro h9; exact tf_no (h9.symm.trans (by assumption))) | skip)))
  all_goals try (conv => whnf)
  all_goals try first
    | exact LexB.mk (by kernel_rfl)
    | exact LexG.mk (by kernel_rfl)
    | exact LexT.mk (by kernel_rfl)
    | exact Forced.mk (by kernel_rfl)
    | exact LexP.mk (by kernel_rfl)
    | exact ForcedP.mk (by kernel_rfl)
    | exact ⟨Nat.le_of_ble_eq_true rfl⟩
    | exact ⟨rfl⟩
    | exact ⟨trivial⟩
  all_goals subst_vars
  all_goals try first
    | rfl
    | contradiction
    | (refine Ob.mk ?_; simp only [inRQ, inR, Duty.of_p]; omega)
  all_goals first
    | exact ⟨show L.length ≤ 1000000 by omega⟩
    | exact ⟨show (goL (rdF N L).1 L.length).length ≤ 1000000 by omega⟩
    | exact ⟨wl⟩
    | exact ⟨r1.1⟩
    | exact ⟨r1.2⟩
    | exact z9
)
end Go.Proofs.Ytlmhkeoblgodiaa
end
