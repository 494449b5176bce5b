/-
  Texts of the claims on chapter 2: C55. No condition: lemmas and contracts.
-/
import Derived.Test.YtlmhkeoblgodiaaYe5
import Derived.Test.YtlmhkeoblgodiaaYe2
set_option linter.all false
section
/-
  Chapter 2: the law ChainMemory. Printed by gen55.py.
-/
namespace Go.Proofs.Ytlmhkeoblgodiaa
open Go Go.Sy Go.Chn
set_option maxRecDepth 100000
set_option maxHeartbeats 4000000
set_option linter.unusedVariables false
set_option linter.unusedSimpArgs false
variable {Γ : Glob}
def fSnnb (D : Int → List Lk → Int → Int → List Duty) (F : Int → List Lk → Int → Int → Tm) : Ctr := .fn fun args rg => match args with
  | [.agg [.v (.int .i64 N0), x0], .a (.v (.int .i64 i0)), .a (.v (.int .i64 i1))] => (match arrOf 44 kL rg x0 with | some (q0, L0) => some (q0 ++ (D N0 L0 i0 i1), F N0 L0 i0 i1) | _ => none)
  | _ => none
theorem fSnnb_ok {f : FuncId} {b : Body} {E : Env} {d : Nat} (hP : ProgOk Try.prog Γ E) (hb : BodyOk Try.prog f b) {D : Int → List Lk → Int → Int → List Duty} {F : Int → List Lk → Int → Int → Tm} (hp : ∀ (N0 : Int) (L0 : List Lk) (i0 : Int) (i1 : Int), (F N0 L0 i0 i1).plain = true)
    (H : ∀ (N0 : Int) (L0 : List Lk) (i0 : Int) (i1 : Int), obl (D N0 L0 i0 i1) → evTop E d b [.agg [vI N0, .sl 0 [] 0 L0.length], .a (vI i0), .a (vI i1)] [.arr 44 kL L0 false false] (fun x _ => eqT x (F N0 L0 i0 i1))) : Ctr.Ok Try.prog Γ f (fSnnb D F) := Ctr.fn_ok (d := d) hP hb (by
  intro args rg q t hF hq
  split at hF
  next N0 x0 i0 i1 =>
    split at hF
    next q0 L0 hx0 =>
      obtain ⟨rfl, rfl⟩ := Prod.mk.inj (Option.some.inj hF); clear hF
      rw [obl_append] at hq
      obtain ⟨hq0, hD⟩ := hq
      obtain ⟨e0, he0⟩ := pas_arr (by simp [kL]) hx0 hq0
      obtain ⟨p0, r0⟩ := he0 [e0] 0 1 rfl (by omega)
      refine ⟨hp _ _ _ _, [e0], [.agg [vI N0, .sl 0 [] 0 L0.length], .a (vI i0), .a (vI i1)], [.arr 44 kL L0 false false], ⟨⟨⟨rfl, p0, trivial⟩, rfl, rfl, trivial⟩, fun r g hg => ?_⟩, H _ _ _ _ hD⟩
      match r, hg with
      | 0, hg => obtain rfl := Option.some.inj hg; exact r0
    next => cases hF
  next => cases hF)
noncomputable def L12 : List (Nat × Ctr) := [(20, c20), (21, c21), (51, c51), (48, c48), (45, c45 false), (39, c39), (49, c49)]
theorem L12_ok : CsOk Try.prog Γ L12 := (((((((CsOk.nil.cons (body_of Try.func49 rfl rfl).fn c49_ok).cons (body_of Try.func39 rfl rfl).fn c39_ok).cons (body_of Try.func45 rfl rfl).fn (c45_ok _)).cons (body_of Try.func48 rfl rfl).fn c48_ok).cons (body_of Try.func51 rfl rfl).fn c51_ok).cons (body_of Try.func21 rfl rfl).fn c21_ok).cons (body_of Try.func20 rfl rfl).fn c20_ok)
theorem chn_nn {N : Int} {L : List Lk} {a b : Int} : (chnF N L a b).1.length ≤ 60 ∧ ∀ i : Nat, i < (chnF N L a b).1.length → 0 ≤ gi (chnF N L a b).1 i := by
  by_cases he : ((bndF N L a b).2 != 0) = true
  · rw [ch0 he]; exact ⟨Nat.zero_le _, fun i hi => absurd hi (Nat.not_lt_zero _)⟩
  · have he' : ((bndF N L a b).2 != 0) = false := by simpa using he
    obtain ⟨q1, q2, q3⟩ := bnd_0 (by simpa using he')
    obtain ⟨ha, hn, h1, h2, hN, hc⟩ := ask_2 q1
    have cok := chn_ok ha hn h1 h2 q2
    have ckk := kB_ok ha hn h1 h2 q2
    have hn60 := ha.n
    rw [ch1 he']
    refine ⟨by show (chnL N L a b).length ≤ 60; rw [cok.1]; omega, fun i hi => ?_⟩
    exact (cok.2.1 _ (gi_mem (by omega) (by show (i : Int) < ((chnL N L a b).length : Int); replace hi : i < (chnL N L a b).length := hi; omega))).1
theorem ef_same {N : Int} {L : List Lk} : ((woutF N L []).2 == (withF N L []).2) = true := by
  unfold woutF withF
  rw [List.append_nil]
  by_cases h : (checkF N L).1 = 0
  · rw [if_neg (not_not_intro h), if_neg (not_not_intro h), if_neg (not_not_intro h)]; rfl
  · rw [if_pos h, if_pos h]; simp
attribute [local irreducible] gi lk checkF smallB bndF chnF woutF withF sameB keepL
def c12 : Ctr := fSnnb (fun _ _ _ _ => []) (fun _ _ _ _ => bl true)
theorem c12_ok : Ctr.Ok Try.prog Γ 12 c12 := fSnnb_ok (d := 0) (prog_ok L12_ok BsOk.nil false 0) (body_of Try.func12 rfl rfl) (fun _ _ _ _ => rfl) (by
  intro N L a b _
  by_cases hs : (!smallB N L) = true
  · repeat' ((conv => whnf); (first | apply And.intro | (intro h9; first | (have h8 : (_ : Bool) = false := h9; exfalso; clear h8; revert h9; subst_vars; intro h9; exact ft_no (h9.symm.trans (by assumption))) | (have h8 : (_ : Bool) = true := h9; exfalso; clear h8; revert h9; subst_vars; intro h9; exact tf_no (h9.symm.trans (by assumption))) | skip)))
    all_goals try (conv => whnf)
    all_goals try first
      | exact LexB.mk (by kernel_rfl)
      | exact LexG.mk (by kernel_rfl)
      | exact LexT.mk (by kernel_rfl)
      | exact Forced.mk (by kernel_rfl)
      | exact LexP.mk (by kernel_rfl)
      | exact ForcedP.mk (by kernel_rfl)
      | exact ⟨Nat.le_of_ble_eq_true rfl⟩
      | exact ⟨rfl⟩
      | exact ⟨trivial⟩
    all_goals subst_vars
    all_goals try first
      | rfl
      | contradiction
      | (refine Ob.mk ?_; simp only [inRQ, inR, Duty.of_p]; omega)
    all_goals first
      | exact ⟨show L.length ≤ 1000000 by omega⟩
  replace hs : (!smallB N L) = false := by simpa using hs
  have hL := small_len hs
  have l1 := wo_len (N := N) (L := L) (I := [])
  have l2 := wi_len (N := N) (L := L) (M := [])
  simp only [List.length_nil, Nat.add_zero] at l2
  have l3 : (chnF N L a b).1.length ≤ 60 ∧ ∀ i : Nat, i < (chnF N L a b).1.length → 0 ≤ gi (chnF N L a b).1 i := chn_nn
  have q1 : ((woutF N L []).2 == (withF N L []).2) = true := ef_same
  have q2 : sameB N L N (L ++ []) = true := by rw [List.append_nil]; exact same_self
  have q3 : ((chnF N L a b).2 == (chnF N L a b).2) = true := by simp
  repeat' ((conv => whnf); (first | apply And.intro | (intro h9; first | (have h8 : (_ : Bool) = false := h9; exfalso; clear h8; revert h9; subst_vars; intro h9; exact ft_no (h9.symm.trans (by assumption))) | (have h8 : (_ : Bool) = true := h9; exfalso; clear h8; revert h9; subst_vars; intro h9; exact tf_no (h9.symm.trans (by assumption))) | skip)))
  all_goals try (conv => whnf)
  all_goals try first
    | exact LexB.mk (by kernel_rfl)
    | exact LexG.mk (by kernel_rfl)
    | exact LexT.mk (by kernel_rfl)
    | exact Forced.mk (by kernel_rfl)
    | exact LexP.mk (by kernel_rfl)
    | exact ForcedP.mk (by kernel_rfl)
    | exact ⟨Nat.le_of_ble_eq_true rfl⟩
    | exact ⟨rfl⟩
    | exact ⟨trivial⟩
  all_goals subst_vars
  all_goals try first
    | rfl
    | contradiction
    | (refine Ob.mk ?_; simp only [inRQ, inR, Duty.of_p]; omega)
  all_goals try first
    | exact ⟨show L.length ≤ 1000000 by omega⟩
  refine ⟨Nat × List Lk, fun p => p.1 ≤ (woutF N L []).1.2.length ∧ p.2.length = (woutF N L []).1.2.length, fun p => ⟨slotsT 110 [1, 2, 3, 7, 8, 9, 10] [.a (vI a), .a (vI b), .a (.p 1 [] 0 0), .a (.p 3 [] 0 0), .a (.p 5 [] 0 0), .a (vI (woutF N L []).2), .a (vI p.1)], [], [Reg.arr 44 kL L false false, .box true [vI N, .sl 0 [] 0 L.length], .arr 44 kL (L ++ []) true true, .box true [vI N, .sl 2 [] 0 (L ++ []).length], .arr 44 kL p.2 true true, .box true [vI (woutF N L []).1.1, .sl 4 [] 0 (woutF N L []).1.2.length]]⟩, fun p => (woutF N L []).1.2.length - p.1, (0, (woutF N L []).1.2), [], ⟨Nat.zero_le _, rfl⟩, ?_, ?_⟩
  · subst_vars
    repeat' ((conv => whnf); (first | apply And.intro | intro _))
    all_goals first | rfl | trivial | exact Nat.le_of_ble_eq_true rfl | exact ⟨rfl, rfl, rfl⟩ | exact ⟨rfl, rfl, rfl, rfl⟩ | exact ⟨rfl, rfl⟩
  rintro ⟨i1, M1⟩ ⟨hi1, hM1⟩
  simp only at hi1 hM1
  by_cases hl1 : i1 < (woutF N L []).1.2.length
  · have p0 : decide ((i1 : Int) < ((woutF N L []).1.2.length : Int)) = true := decide_eq_true (by omega)
    repeat' ((conv => whnf); (first | apply And.intro | (intro h9; first | (have h8 : (_ : Bool) = false := h9; exfalso; clear h8; revert h9; subst_vars; intro h9; exact ft_no (h9.symm.trans (by assumption))) | (have h8 : (_ : Bool) = true := h9; exfalso; clear h8; revert h9; subst_vars; intro h9; exact tf_no (h9.symm.trans (by assumption))) | skip)))
    all_goals try (conv => whnf)
    all_goals try first
      | exact LexB.mk (by kernel_rfl)
      | exact LexG.mk (by kernel_rfl)
      | exact LexT.mk (by kernel_rfl)
      | exact Forced.mk (by kernel_rfl)
      | exact LexP.mk (by kernel_rfl)
      | exact ForcedP.mk (by kernel_rfl)
      | exact ⟨Nat.le_of_ble_eq_true rfl⟩
      | exact ⟨rfl⟩
      | exact ⟨trivial⟩
    all_goals subst_vars
    all_goals try first
      | rfl
      | contradiction
      | (refine Ob.mk ?_; simp only [inRQ, inR, Duty.of_p]; omega)
    all_goals try first
      | exact ⟨show L.length ≤ 1000000 by omega⟩
    all_goals try first
      | exact ⟨show 0 ≤ (i1 : Int) ∧ (i1 : Int) < ((woutF N L []).1.2.length : Int) by omega⟩
      | exact ⟨show 0 + Int.toNat (i1 : Int) < M1.length by omega⟩
      | exact ⟨show 0 + Int.toNat (i1 : Int) < (woutF N L []).1.2.length by omega⟩
    all_goals
      refine ⟨(i1 + 1, M1.set (0 + Int.toNat (i1 : Int)) ((lkA M1 i1).1, (lkA M1 i1).2.1, (7 : Int))), [], ⟨hl1, ?_⟩, ?_, by show (woutF N L []).1.2.length - (i1 + 1) < (woutF N L []).1.2.length - i1; omega⟩
      rotate_left
      · subst_vars
        repeat' ((conv => whnf); (first | apply And.intro | intro _))
        all_goals first | rfl | trivial | exact Nat.le_of_ble_eq_true rfl | exact ⟨rfl, rfl, rfl⟩ | exact ⟨rfl, rfl, rfl, rfl⟩ | exact ⟨rfl, rfl⟩ | (subst_vars; rfl)
      · simpa using hM1
  have p1 : decide ((i1 : Int) < ((woutF N L []).1.2.length : Int)) = false := decide_eq_false (by omega)
  repeat' ((conv => whnf); (first | apply And.intro | (intro h9; first | (have h8 : (_ : Bool) = false := h9; exfalso; clear h8; revert h9; subst_vars; intro h9; exact ft_no (h9.symm.trans (by assumption))) | (have h8 : (_ : Bool) = true := h9; exfalso; clear h8; revert h9; subst_vars; intro h9; exact tf_no (h9.symm.trans (by assumption))) | skip)))
  all_goals try (conv => whnf)
  all_goals try first
    | exact LexB.mk (by kernel_rfl)
    | exact LexG.mk (by kernel_rfl)
    | exact LexT.mk (by kernel_rfl)
    | exact Forced.mk (by kernel_rfl)
    | exact LexP.mk (by kernel_rfl)
    | exact ForcedP.mk (by kernel_rfl)
    | exact ⟨Nat.le_of_ble_eq_true rfl⟩
    | exact ⟨rfl⟩
    | exact ⟨trivial⟩
  all_goals subst_vars
  all_goals try first
    | rfl
    | contradiction
    | (refine Ob.mk ?_; simp only [inRQ, inR, Duty.of_p]; omega)
  all_goals try first
    | exact ⟨show L.length ≤ 1000000 by omega⟩
  refine ⟨Nat × List Lk, fun p => p.1 ≤ (withF N L []).1.2.length ∧ p.2.length = (withF N L []).1.2.length, fun p => ⟨slotsT 110 [1, 2, 3, 7, 9, 11, 12, 13] [.a (vI a), .a (vI b), .a (.p 1 [] 0 0), .a (.p 3 [] 0 0), .a (vI (woutF N L []).2), .a (.p 5 [] 0 0), .a (vI (withF N L []).2), .a (vI p.1)], [], [Reg.arr 44 kL L false false, .box true [vI N, .sl 0 [] 0 L.length], .arr 44 kL (L ++ []) true true, .box true [vI N, .sl 2 [] 0 (L ++ []).length], .arr 44 kL p.2 true true, .box true [vI (withF N L []).1.1, .sl 4 [] 0 (withF N L []).1.2.length]]⟩, fun p => (withF N L []).1.2.length - p.1, (0, (withF N L []).1.2), [0, 1, 2, 3, 6, 7], ⟨Nat.zero_le _, rfl⟩, ?_, ?_⟩
  · subst_vars
    repeat' ((conv => whnf); (first | apply And.intro | intro _))
    all_goals first | rfl | trivial | exact Nat.le_of_ble_eq_true rfl | exact ⟨rfl, rfl, rfl⟩ | exact ⟨rfl, rfl, rfl, rfl⟩ | exact ⟨rfl, rfl⟩
  rintro ⟨i2, M2⟩ ⟨hi2, hM2⟩
  simp only at hi2 hM2
  by_cases hl2 : i2 < (withF N L []).1.2.length
  · have p0 : decide ((i2 : Int) < ((withF N L []).1.2.length : Int)) = true := decide_eq_true (by omega)
    repeat' ((conv => whnf); (first | apply And.intro | (intro h9; first | (have h8 : (_ : Bool) = false := h9; exfalso; clear h8; revert h9; subst_vars; intro h9; exact ft_no (h9.symm.trans (by assumption))) | (have h8 : (_ : Bool) = true := h9; exfalso; clear h8; revert h9; subst_vars; intro h9; exact tf_no (h9.symm.trans (by assumption))) | skip)))
    all_goals try (conv => whnf)
    all_goals try first
      | exact LexB.mk (by kernel_rfl)
      | exact LexG.mk (by kernel_rfl)
      | exact LexT.mk (by kernel_rfl)
      | exact Forced.mk (by kernel_rfl)
      | exact LexP.mk (by kernel_rfl)
      | exact ForcedP.mk (by kernel_rfl)
      | exact ⟨Nat.le_of_ble_eq_true rfl⟩
      | exact ⟨rfl⟩
      | exact ⟨trivial⟩
    all_goals subst_vars
    all_goals try first
      | rfl
      | contradiction
      | (refine Ob.mk ?_; simp only [inRQ, inR, Duty.of_p]; omega)
    all_goals try first
      | exact ⟨show L.length ≤ 1000000 by omega⟩
    all_goals try first
      | exact ⟨show 0 ≤ (i2 : Int) ∧ (i2 : Int) < ((withF N L []).1.2.length : Int) by omega⟩
      | exact ⟨show 0 + Int.toNat (i2 : Int) < M2.length by omega⟩
      | exact ⟨show 0 + Int.toNat (i2 : Int) < (withF N L []).1.2.length by omega⟩
    all_goals
      refine ⟨(i2 + 1, M2.set (0 + Int.toNat (i2 : Int)) ((-1 : Int), (lkA M2 i2).2)), [], ⟨hl2, ?_⟩, ?_, by show (withF N L []).1.2.length - (i2 + 1) < (withF N L []).1.2.length - i2; omega⟩
      rotate_left
      · subst_vars
        repeat' ((conv => whnf); (first | apply And.intro | intro _))
        all_goals first | rfl | trivial | exact Nat.le_of_ble_eq_true rfl | exact ⟨rfl, rfl, rfl⟩ | exact ⟨rfl, rfl, rfl, rfl⟩ | exact ⟨rfl, rfl⟩ | (subst_vars; rfl)
      · simpa using hM2
  have p2 : decide ((i2 : Int) < ((withF N L []).1.2.length : Int)) = false := decide_eq_false (by omega)
  repeat' ((conv => whnf); (first | apply And.intro | (intro h9; first | (have h8 : (_ : Bool) = false := h9; exfalso; clear h8; revert h9; subst_vars; intro h9; exact ft_no (h9.symm.trans (by assumption))) | (have h8 : (_ : Bool) = true := h9; exfalso; clear h8; revert h9; subst_vars; intro h9; exact tf_no (h9.symm.trans (by assumption))) | skip)))
  all_goals try (conv => whnf)
  all_goals try first
    | exact LexB.mk (by kernel_rfl)
    | exact LexG.mk (by kernel_rfl)
    | exact LexT.mk (by kernel_rfl)
    | exact Forced.mk (by kernel_rfl)
    | exact LexP.mk (by kernel_rfl)
    | exact ForcedP.mk (by kernel_rfl)
    | exact ⟨Nat.le_of_ble_eq_true rfl⟩
    | exact ⟨rfl⟩
    | exact ⟨trivial⟩
  all_goals subst_vars
  all_goals try first
    | rfl
    | contradiction
    | (refine Ob.mk ?_; simp only [inRQ, inR, Duty.of_p]; omega)
  all_goals try first
    | exact ⟨show L.length ≤ 1000000 by omega⟩
  refine ⟨Nat × List Int, fun p => p.1 ≤ (chnF N L a b).1.length ∧ p.2.length = (chnF N L a b).1.length, fun p => ⟨slotsT 110 [1, 2, 3, 7, 9, 12, 14, 15, 16] [.a (vI a), .a (vI b), .a (.p 1 [] 0 0), .a (.p 3 [] 0 0), .a (vI (woutF N L []).2), .a (vI (withF N L []).2), .a (.sl 4 [] 0 (chnF N L a b).1.length), .a (vI (chnF N L a b).2), .a (vI p.1)], [], [Reg.arr 44 kL L false false, .box true [vI N, .sl 0 [] 0 L.length], .arr 44 kL (L ++ []) true true, .box true [vI N, .sl 2 [] 0 (L ++ []).length], .arr 3 kI p.2 true true]⟩, fun p => (chnF N L a b).1.length - p.1, (0, (chnF N L a b).1), [0, 1, 2, 3, 6], ⟨Nat.zero_le _, rfl⟩, ?_, ?_⟩
  · subst_vars
    repeat' ((conv => whnf); (first | apply And.intro | intro _))
    all_goals first | rfl | trivial | exact Nat.le_of_ble_eq_true rfl | exact ⟨rfl, rfl, rfl⟩ | exact ⟨rfl, rfl, rfl, rfl⟩ | exact ⟨rfl, rfl⟩
  rintro ⟨i3, M3⟩ ⟨hi3, hM3⟩
  simp only at hi3 hM3
  by_cases hl3 : i3 < (chnF N L a b).1.length
  · have p0 : decide ((i3 : Int) < ((chnF N L a b).1.length : Int)) = true := decide_eq_true (by omega)
    repeat' ((conv => whnf); (first | apply And.intro | (intro h9; first | (have h8 : (_ : Bool) = false := h9; exfalso; clear h8; revert h9; subst_vars; intro h9; exact ft_no (h9.symm.trans (by assumption))) | (have h8 : (_ : Bool) = true := h9; exfalso; clear h8; revert h9; subst_vars; intro h9; exact tf_no (h9.symm.trans (by assumption))) | skip)))
    all_goals try (conv => whnf)
    all_goals try first
      | exact LexB.mk (by kernel_rfl)
      | exact LexG.mk (by kernel_rfl)
      | exact LexT.mk (by kernel_rfl)
      | exact Forced.mk (by kernel_rfl)
      | exact LexP.mk (by kernel_rfl)
      | exact ForcedP.mk (by kernel_rfl)
      | exact ⟨Nat.le_of_ble_eq_true rfl⟩
      | exact ⟨rfl⟩
      | exact ⟨trivial⟩
    all_goals subst_vars
    all_goals try first
      | rfl
      | contradiction
      | (refine Ob.mk ?_; simp only [inRQ, inR, Duty.of_p]; omega)
    all_goals try first
      | exact ⟨show L.length ≤ 1000000 by omega⟩
    all_goals try first
      | exact ⟨show 0 ≤ (i3 : Int) ∧ (i3 : Int) < ((chnF N L a b).1.length : Int) by omega⟩
      | exact ⟨show 0 + Int.toNat (i3 : Int) < M3.length by omega⟩
      | exact ⟨show 0 + Int.toNat (i3 : Int) < (chnF N L a b).1.length by omega⟩
    all_goals
      refine ⟨(i3 + 1, M3.set (0 + Int.toNat (i3 : Int)) (-5 : Int)), [], ⟨hl3, ?_⟩, ?_, by show (chnF N L a b).1.length - (i3 + 1) < (chnF N L a b).1.length - i3; omega⟩
      rotate_left
      · subst_vars
        repeat' ((conv => whnf); (first | apply And.intro | intro _))
        all_goals first | rfl | trivial | exact Nat.le_of_ble_eq_true rfl | exact ⟨rfl, rfl, rfl⟩ | exact ⟨rfl, rfl, rfl, rfl⟩ | exact ⟨rfl, rfl⟩ | (subst_vars; rfl)
      · simpa using hM3
  have p3 : decide ((i3 : Int) < ((chnF N L a b).1.length : Int)) = false := decide_eq_false (by omega)
  repeat' ((conv => whnf); (first | apply And.intro | (intro h9; first | (have h8 : (_ : Bool) = false := h9; exfalso; clear h8; revert h9; subst_vars; intro h9; exact ft_no (h9.symm.trans (by assumption))) | (have h8 : (_ : Bool) = true := h9; exfalso; clear h8; revert h9; subst_vars; intro h9; exact tf_no (h9.symm.trans (by assumption))) | skip)))
  all_goals try (conv => whnf)
  all_goals try first
    | exact LexB.mk (by kernel_rfl)
    | exact LexG.mk (by kernel_rfl)
    | exact LexT.mk (by kernel_rfl)
    | exact Forced.mk (by kernel_rfl)
    | exact LexP.mk (by kernel_rfl)
    | exact ForcedP.mk (by kernel_rfl)
    | exact ⟨Nat.le_of_ble_eq_true rfl⟩
    | exact ⟨rfl⟩
    | exact ⟨trivial⟩
  all_goals subst_vars
  all_goals try first
    | rfl
    | contradiction
    | (refine Ob.mk ?_; simp only [inRQ, inR, Duty.of_p]; omega)
  all_goals try first
    | exact ⟨show L.length ≤ 1000000 by omega⟩
  refine ⟨Nat, fun i => i ≤ (chnF N L a b).1.length, fun i => ⟨slotsT 110 [3, 7, 9, 12, 15, 17, 18, 19] [.a (.p 1 [] 0 0), .a (.p 3 [] 0 0), .a (vI (woutF N L []).2), .a (vI (withF N L []).2), .a (vI (chnF N L a b).2), .a (.sl 4 [] 0 (chnF N L a b).1.length), .a (vI (chnF N L a b).2), .a (vI i)], [], [Reg.arr 44 kL L false false, .box true [vI N, .sl 0 [] 0 L.length], .arr 44 kL (L ++ []) true true, .box true [vI N, .sl 2 [] 0 (L ++ []).length], .arr 3 kI (chnF N L a b).1 true true]⟩, fun i => (chnF N L a b).1.length - i, 0, [0, 1, 2, 3, 5], Nat.zero_le _, ?_, ?_⟩
  · subst_vars
    repeat' ((conv => whnf); (first | apply And.intro | intro _))
    all_goals first | rfl | trivial | exact Nat.le_of_ble_eq_true rfl | exact ⟨rfl, rfl, rfl⟩ | exact ⟨rfl, rfl, rfl, rfl⟩ | exact ⟨rfl, rfl⟩
  rintro i hi
  by_cases hl : i < (chnF N L a b).1.length
  · have p0 : decide ((i : Int) < ((chnF N L a b).1.length : Int)) = true := decide_eq_true (by omega)
    have p9 : decide (e1A (chnF N L a b).1 (i : Int) < 0) = false := by rw [e1A_eq (by omega)]; exact decide_eq_false (by have := l3.2 i hl; omega)
    repeat' ((conv => whnf); (first | apply And.intro | (intro h9; first | (have h8 : (_ : Bool) = false := h9; exfalso; clear h8; revert h9; subst_vars; intro h9; exact ft_no (h9.symm.trans (by assumption))) | (have h8 : (_ : Bool) = true := h9; exfalso; clear h8; revert h9; subst_vars; intro h9; exact tf_no (h9.symm.trans (by assumption))) | skip)))
    all_goals try (conv => whnf)
    all_goals try first
      | exact LexB.mk (by kernel_rfl)
      | exact LexG.mk (by kernel_rfl)
      | exact LexT.mk (by kernel_rfl)
      | exact Forced.mk (by kernel_rfl)
      | exact LexP.mk (by kernel_rfl)
      | exact ForcedP.mk (by kernel_rfl)
      | exact ⟨Nat.le_of_ble_eq_true rfl⟩
      | exact ⟨rfl⟩
      | exact ⟨trivial⟩
    all_goals subst_vars
    all_goals try first
      | rfl
      | contradiction
      | (refine Ob.mk ?_; simp only [inRQ, inR, Duty.of_p]; omega)
    all_goals try first
      | exact ⟨show L.length ≤ 1000000 by omega⟩
    all_goals try first
      | exact ⟨show 0 ≤ (i : Int) ∧ (i : Int) < ((chnF N L a b).1.length : Int) by omega⟩
      | exact ⟨show 0 + Int.toNat (i : Int) < M0.length by omega⟩
      | exact ⟨show 0 + Int.toNat (i : Int) < (chnF N L a b).1.length by omega⟩
    all_goals
      refine ⟨i + 1, [], hl, ?_, by show (chnF N L a b).1.length - (i + 1) < (chnF N L a b).1.length - i; omega⟩
      subst_vars
      repeat' ((conv => whnf); (first | apply And.intro | intro _))
      all_goals first | rfl | trivial | exact Nat.le_of_ble_eq_true rfl | exact ⟨rfl, rfl, rfl⟩ | exact ⟨rfl, rfl, rfl, rfl⟩ | exact ⟨rfl, rfl⟩ | (subst_vars; rfl)
  have p4 : decide ((i : Int) < ((chnF N L a b).1.length : Int)) = false := decide_eq_false (by omega)
  repeat' ((conv => whnf); (first | apply And.intro | (intro h9; first | (have h8 : (_ : Bool) = false := h9; exfalso; clear h8; revert h9; subst_vars; intro h9; exact ft_no (h9.symm.trans (by assumption))) | (have h8 : (_ : Bool) = true := h9; exfalso; clear h8; revert h9; subst_vars; intro h9; exact tf_no (h9.symm.trans (by assumption))) | skip)))
  all_goals try (conv => whnf)
  all_goals try first
    | exact LexB.mk (by kernel_rfl)
    | exact LexG.mk (by kernel_rfl)
    | exact LexT.mk (by kernel_rfl)
    | exact Forced.mk (by kernel_rfl)
    | exact LexP.mk (by kernel_rfl)
    | exact ForcedP.mk (by kernel_rfl)
    | exact ⟨Nat.le_of_ble_eq_true rfl⟩
    | exact ⟨rfl⟩
    | exact ⟨trivial⟩
  all_goals subst_vars
  all_goals try first
    | rfl
    | contradiction
    | (refine Ob.mk ?_; simp only [inRQ, inR, Duty.of_p]; omega)
  all_goals try first
    | exact ⟨show L.length ≤ 1000000 by omega⟩
    | exact q2
)
end Go.Proofs.Ytlmhkeoblgodiaa
end
