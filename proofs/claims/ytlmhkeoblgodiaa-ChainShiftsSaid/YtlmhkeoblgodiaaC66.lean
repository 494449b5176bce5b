/-
  Texts of the claims on chapter 2: C66. No condition: lemmas and contracts.
-/
import Derived.Test.YtlmhkeoblgodiaaYe19
import Derived.Test.YtlmhkeoblgodiaaYe9
import Derived.Test.YtlmhkeoblgodiaaYe1
set_option linter.all false
section
/-
  Chapter 2: the law ChainShifts. Printed by gen66.py.
-/
namespace Go.Proofs.Ytlmhkeoblgodiaa
open Go Go.Sy Go.Chn
set_option maxRecDepth 100000
set_option maxHeartbeats 4000000
set_option linter.unusedVariables false
set_option linter.unusedSimpArgs false
variable {Γ : Glob}
def fSInnI (D : Int → List Lk → List Int → Int → Int → List Int → List Duty) (F : Int → List Lk → List Int → Int → Int → List Int → Tm) : Ctr := .fn fun args rg => match args with
  | [.agg [.v (.int .i64 N0), x0], .a x1, .a (.v (.int .i64 i0)), .a (.v (.int .i64 i1)), .a x2] => (match arrOf 44 kL rg x0, arrOf 3 kI rg x1, arrOf 3 kI rg x2 with | some (q0, L0), some (q1, L1), some (q2, L2) => some (q0 ++ (q1 ++ (q2 ++ (D N0 L0 L1 i0 i1 L2))), F N0 L0 L1 i0 i1 L2) | _, _, _ => none)
  | _ => none
theorem fSInnI_ok {f : FuncId} {b : Body} {E : Env} {d : Nat} (hP : ProgOk Try.prog Γ E) (hb : BodyOk Try.prog f b) {D : Int → List Lk → List Int → Int → Int → List Int → List Duty} {F : Int → List Lk → List Int → Int → Int → List Int → Tm} (hp : ∀ (N0 : Int) (L0 : List Lk) (L1 : List Int) (i0 : Int) (i1 : Int) (L2 : List Int), (F N0 L0 L1 i0 i1 L2).plain = true)
    (H : ∀ (N0 : Int) (L0 : List Lk) (L1 : List Int) (i0 : Int) (i1 : Int) (L2 : List Int), obl (D N0 L0 L1 i0 i1 L2) → evTop E d b [.agg [vI N0, .sl 0 [] 0 L0.length], .a (.sl 1 [] 0 L1.length), .a (vI i0), .a (vI i1), .a (.sl 2 [] 0 L2.length)] [.arr 44 kL L0 false false, .arr 3 kI L1 false false, .arr 3 kI L2 false false] (fun x _ => eqT x (F N0 L0 L1 i0 i1 L2))) : Ctr.Ok Try.prog Γ f (fSInnI D F) := Ctr.fn_ok (d := d) hP hb (by
  intro args rg q t hF hq
  split at hF
  next N0 x0 x1 i0 i1 x2 =>
    split at hF
    next q0 L0 q1 L1 q2 L2 hx0 hx1 hx2 =>
      obtain ⟨rfl, rfl⟩ := Prod.mk.inj (Option.some.inj hF); clear hF
      rw [obl_append, obl_append, obl_append] at hq
      obtain ⟨hq0, hq1, hq2, hD⟩ := hq
      obtain ⟨e0, he0⟩ := pas_arr (by simp [kL]) hx0 hq0
      obtain ⟨e1, he1⟩ := pas_arr (by simp [kI]) hx1 hq1
      obtain ⟨e2, he2⟩ := pas_arr (by simp [kI]) hx2 hq2
      obtain ⟨p0, r0⟩ := he0 [e0, e1, e2] 0 3 rfl (by omega)
      obtain ⟨p1, r1⟩ := he1 [e0, e1, e2] 1 3 rfl (by omega)
      obtain ⟨p2, r2⟩ := he2 [e0, e1, e2] 2 3 rfl (by omega)
      refine ⟨hp _ _ _ _ _ _, [e0, e1, e2], [.agg [vI N0, .sl 0 [] 0 L0.length], .a (.sl 1 [] 0 L1.length), .a (vI i0), .a (vI i1), .a (.sl 2 [] 0 L2.length)], [.arr 44 kL L0 false false, .arr 3 kI L1 false false, .arr 3 kI L2 false false], ⟨⟨⟨rfl, p0, trivial⟩, p1, rfl, rfl, p2, trivial⟩, fun r g hg => ?_⟩, H _ _ _ _ _ _ hD⟩
      match r, hg with
      | 0, hg => obtain rfl := Option.some.inj hg; exact r0
      | 1, hg => obtain rfl := Option.some.inj hg; exact r1
      | 2, hg => obtain rfl := Option.some.inj hg; exact r2
    next => cases hF
  next => cases hF)
noncomputable def L9 : List (Nat × Ctr) := [(20, c20), (21, c21), (34, c34), (25, c25), (27, c27), (38, c38), (39, c39), (47, c47)]
theorem L9_ok : CsOk Try.prog Γ L9 := ((((((((CsOk.nil.cons (body_of Try.func47 rfl rfl).fn c47_ok).cons (body_of Try.func39 rfl rfl).fn c39_ok).cons (body_of Try.func38 rfl rfl).fn c38_ok).cons (body_of Try.func27 rfl rfl).fn c27_ok).cons (body_of Try.func25 rfl rfl).fn c25_ok).cons (body_of Try.func34 rfl rfl).fn c34_ok).cons (body_of Try.func21 rfl rfl).fn c21_ok).cons (body_of Try.func20 rfl rfl).fn c20_ok)
noncomputable def e9 : Env := { tabs.env L9 [] false 0 with cut := fun t => Nat.beq t 201 }
theorem e9_ok : ProgOk Try.prog Γ e9 := (prog_ok L9_ok BsOk.nil false 0).cuts _
theorem cls_60 {N : Int} {L : List Lk} : (clsF N L).1.length ≤ 60 := by
  unfold clsF
  split
  · exact Nat.zero_le _
  · rename_i h
    split
    · exact Nat.zero_le _
    · rename_i h2
      have hc : (checkF N L).1 = 0 := by simpa using h
      have h60 := (ask_of hc).n
      have := (cls_ok hc (by simpa using h2)).1
      show (clF N.toNat L).length ≤ 60
      omega
theorem chn_60 {N : Int} {L : List Lk} {a b : Int} : (chnF N L a b).1.length ≤ 60 := by
  by_cases he : ((bndF N L a b).2 != 0) = true
  · rw [ch0 he]; exact Nat.zero_le _
  · have he' : ((bndF N L a b).2 != 0) = false := by simpa using he
    obtain ⟨q1, q2, q3⟩ := bnd_0 (by simpa using he')
    obtain ⟨ha, hn, h1, h2, hN, hc⟩ := ask_2 q1
    have cok := chn_ok ha hn h1 h2 q2
    have ckk := kB_ok ha hn h1 h2 q2
    have hn60 := ha.n
    rw [ch1 he']
    show (chnL N L a b).length ≤ 60
    rw [cok.1]; omega
attribute [local irreducible] gi lk checkF smallB bndF clsF chnF fitF mvL shL ysL
def c9 : Ctr := fSInnI (fun _ _ _ _ _ _ => []) (fun _ _ _ _ _ _ => bl true)
theorem c9_ok : Ctr.Ok Try.prog Γ 9 c9 := fSInnI_ok (d := 0) e9_ok (body_of Try.func9 rfl rfl) (fun _ _ _ _ _ _ => rfl) (by
  intro N L B a b X _
  by_cases hs : (!smallB N L) = true
  · repeat' ((conv => whnf); (first | apply And.intro | (intro h9; first | (have h8 : (_ : Bool) = false := h9; exfalso; clear h8; revert h9; subst_vars; intro h9; exact ft_no (h9.symm.trans (by assumption))) | (have h8 : (_ : Bool) = true := h9; exfalso; clear h8; revert h9; subst_vars; intro h9; exact tf_no (h9.symm.trans (by assumption))) | skip)))
    all_goals try (conv => whnf)
    all_goals try first
      | exact LexB.mk (by kernel_rfl)
      | exact LexG.mk (by kernel_rfl)
      | exact LexT.mk (by kernel_rfl)
      | exact Forced.mk (by kernel_rfl)
      | exact LexP.mk (by kernel_rfl)
      | exact ForcedP.mk (by kernel_rfl)
      | exact ⟨Nat.le_of_ble_eq_true rfl⟩
      | exact ⟨rfl⟩
      | exact ⟨trivial⟩
    all_goals subst_vars
    all_goals try first
      | rfl
      | contradiction
      | (refine Ob.mk ?_; simp only [inRQ, inR, Duty.of_p]; omega)
    all_goals first
      | exact ⟨show L.length ≤ 1000000 by omega⟩
  replace hs : (!smallB N L) = false := by simpa using hs
  have hL := small_len hs
  by_cases h1 : decide (N < 1) = true
  · repeat' ((conv => whnf); (first | apply And.intro | (intro h9; first | (have h8 : (_ : Bool) = false := h9; exfalso; clear h8; revert h9; subst_vars; intro h9; exact ft_no (h9.symm.trans (by assumption))) | (have h8 : (_ : Bool) = true := h9; exfalso; clear h8; revert h9; subst_vars; intro h9; exact tf_no (h9.symm.trans (by assumption))) | skip)))
    all_goals try (conv => whnf)
    all_goals try first
      | exact LexB.mk (by kernel_rfl)
      | exact LexG.mk (by kernel_rfl)
      | exact LexT.mk (by kernel_rfl)
      | exact Forced.mk (by kernel_rfl)
      | exact LexP.mk (by kernel_rfl)
      | exact ForcedP.mk (by kernel_rfl)
      | exact ⟨Nat.le_of_ble_eq_true rfl⟩
      | exact ⟨rfl⟩
      | exact ⟨trivial⟩
    all_goals subst_vars
    all_goals try first
      | rfl
      | contradiction
      | (refine Ob.mk ?_; simp only [inRQ, inR, Duty.of_p]; omega)
    all_goals first
      | exact ⟨show L.length ≤ 1000000 by omega⟩
  replace h1 : decide (N < 1) = false := by simpa using h1
  by_cases h2 : decide (N > 60) = true
  · repeat' ((conv => whnf); (first | apply And.intro | (intro h9; first | (have h8 : (_ : Bool) = false := h9; exfalso; clear h8; revert h9; subst_vars; intro h9; exact ft_no (h9.symm.trans (by assumption))) | (have h8 : (_ : Bool) = true := h9; exfalso; clear h8; revert h9; subst_vars; intro h9; exact tf_no (h9.symm.trans (by assumption))) | skip)))
    all_goals try (conv => whnf)
    all_goals try first
      | exact LexB.mk (by kernel_rfl)
      | exact LexG.mk (by kernel_rfl)
      | exact LexT.mk (by kernel_rfl)
      | exact Forced.mk (by kernel_rfl)
      | exact LexP.mk (by kernel_rfl)
      | exact ForcedP.mk (by kernel_rfl)
      | exact ⟨Nat.le_of_ble_eq_true rfl⟩
      | exact ⟨rfl⟩
      | exact ⟨trivial⟩
    all_goals subst_vars
    all_goals try first
      | rfl
      | contradiction
      | (refine Ob.mk ?_; simp only [inRQ, inR, Duty.of_p]; omega)
    all_goals first
      | exact ⟨show L.length ≤ 1000000 by omega⟩
  replace h2 : decide (N > 60) = false := by simpa using h2
  by_cases h3 : decide ((B.length : Int) < N) = true
  · repeat' ((conv => whnf); (first | apply And.intro | (intro h9; first | (have h8 : (_ : Bool) = false := h9; exfalso; clear h8; revert h9; subst_vars; intro h9; exact ft_no (h9.symm.trans (by assumption))) | (have h8 : (_ : Bool) = true := h9; exfalso; clear h8; revert h9; subst_vars; intro h9; exact tf_no (h9.symm.trans (by assumption))) | skip)))
    all_goals try (conv => whnf)
    all_goals try first
      | exact LexB.mk (by kernel_rfl)
      | exact LexG.mk (by kernel_rfl)
      | exact LexT.mk (by kernel_rfl)
      | exact Forced.mk (by kernel_rfl)
      | exact LexP.mk (by kernel_rfl)
      | exact ForcedP.mk (by kernel_rfl)
      | exact ⟨Nat.le_of_ble_eq_true rfl⟩
      | exact ⟨rfl⟩
      | exact ⟨trivial⟩
    all_goals subst_vars
    all_goals try first
      | rfl
      | contradiction
      | (refine Ob.mk ?_; simp only [inRQ, inR, Duty.of_p]; omega)
    all_goals first
      | exact ⟨show L.length ≤ 1000000 by omega⟩
  replace h3 : decide ((B.length : Int) < N) = false := by simpa using h3
  by_cases h4 : decide ((B.length : Int) > 70) = true
  · repeat' ((conv => whnf); (first | apply And.intro | (intro h9; first | (have h8 : (_ : Bool) = false := h9; exfalso; clear h8; revert h9; subst_vars; intro h9; exact ft_no (h9.symm.trans (by assumption))) | (have h8 : (_ : Bool) = true := h9; exfalso; clear h8; revert h9; subst_vars; intro h9; exact tf_no (h9.symm.trans (by assumption))) | skip)))
    all_goals try (conv => whnf)
    all_goals try first
      | exact LexB.mk (by kernel_rfl)
      | exact LexG.mk (by kernel_rfl)
      | exact LexT.mk (by kernel_rfl)
      | exact Forced.mk (by kernel_rfl)
      | exact LexP.mk (by kernel_rfl)
      | exact ForcedP.mk (by kernel_rfl)
      | exact ⟨Nat.le_of_ble_eq_true rfl⟩
      | exact ⟨rfl⟩
      | exact ⟨trivial⟩
    all_goals subst_vars
    all_goals try first
      | rfl
      | contradiction
      | (refine Ob.mk ?_; simp only [inRQ, inR, Duty.of_p]; omega)
    all_goals first
      | exact ⟨show L.length ≤ 1000000 by omega⟩
  replace h4 : decide ((B.length : Int) > 70) = false := by simpa using h4
  by_cases h5 : decide ((X.length : Int) > 70) = true
  · repeat' ((conv => whnf); (first | apply And.intro | (intro h9; first | (have h8 : (_ : Bool) = false := h9; exfalso; clear h8; revert h9; subst_vars; intro h9; exact ft_no (h9.symm.trans (by assumption))) | (have h8 : (_ : Bool) = true := h9; exfalso; clear h8; revert h9; subst_vars; intro h9; exact tf_no (h9.symm.trans (by assumption))) | skip)))
    all_goals try (conv => whnf)
    all_goals try first
      | exact LexB.mk (by kernel_rfl)
      | exact LexG.mk (by kernel_rfl)
      | exact LexT.mk (by kernel_rfl)
      | exact Forced.mk (by kernel_rfl)
      | exact LexP.mk (by kernel_rfl)
      | exact ForcedP.mk (by kernel_rfl)
      | exact ⟨Nat.le_of_ble_eq_true rfl⟩
      | exact ⟨rfl⟩
      | exact ⟨trivial⟩
    all_goals subst_vars
    all_goals try first
      | rfl
      | contradiction
      | (refine Ob.mk ?_; simp only [inRQ, inR, Duty.of_p]; omega)
    all_goals first
      | exact ⟨show L.length ≤ 1000000 by omega⟩
  replace h5 : decide ((X.length : Int) > 70) = false := by simpa using h5
  by_cases h6 : ((checkF N L).1 != 0) = true
  · repeat' ((conv => whnf); (first | apply And.intro | (intro h9; first | (have h8 : (_ : Bool) = false := h9; exfalso; clear h8; revert h9; subst_vars; intro h9; exact ft_no (h9.symm.trans (by assumption))) | (have h8 : (_ : Bool) = true := h9; exfalso; clear h8; revert h9; subst_vars; intro h9; exact tf_no (h9.symm.trans (by assumption))) | skip)))
    all_goals try (conv => whnf)
    all_goals try first
      | exact LexB.mk (by kernel_rfl)
      | exact LexG.mk (by kernel_rfl)
      | exact LexT.mk (by kernel_rfl)
      | exact Forced.mk (by kernel_rfl)
      | exact LexP.mk (by kernel_rfl)
      | exact ForcedP.mk (by kernel_rfl)
      | exact ⟨Nat.le_of_ble_eq_true rfl⟩
      | exact ⟨rfl⟩
      | exact ⟨trivial⟩
    all_goals subst_vars
    all_goals try first
      | rfl
      | contradiction
      | (refine Ob.mk ?_; simp only [inRQ, inR, Duty.of_p]; omega)
    all_goals first
      | exact ⟨show L.length ≤ 1000000 by omega⟩
  replace h6 : ((checkF N L).1 != 0) = false := by simpa using h6
  have k1 := of_decide_eq_false h1
  have k2 := of_decide_eq_false h2
  have k3 := of_decide_eq_false h3
  have k4 := of_decide_eq_false h4
  have k5 := of_decide_eq_false h5
  have hc : (checkF N L).1 = 0 := by simpa using h6
  have ha := ask_of hc
  have hN := toNat_of hc
  have hll := ha.l
  have h60 := ha.n
  repeat' ((conv => whnf); (first | apply And.intro | (intro h9; first | (have h8 : (_ : Bool) = false := h9; exfalso; clear h8; revert h9; subst_vars; intro h9; exact ft_no (h9.symm.trans (by assumption))) | (have h8 : (_ : Bool) = true := h9; exfalso; clear h8; revert h9; subst_vars; intro h9; exact tf_no (h9.symm.trans (by assumption))) | skip)))
  all_goals try (conv => whnf)
  all_goals try first
    | exact LexB.mk (by kernel_rfl)
    | exact LexG.mk (by kernel_rfl)
    | exact LexT.mk (by kernel_rfl)
    | exact Forced.mk (by kernel_rfl)
    | exact LexP.mk (by kernel_rfl)
    | exact ForcedP.mk (by kernel_rfl)
    | exact ⟨Nat.le_of_ble_eq_true rfl⟩
    | exact ⟨rfl⟩
    | exact ⟨trivial⟩
  all_goals subst_vars
  all_goals try first
    | rfl
    | contradiction
    | (refine Ob.mk ?_; simp only [inRQ, inR, Duty.of_p]; omega)
  all_goals try first
    | exact ⟨show L.length ≤ 1000000 by omega⟩
    | exact ⟨show L.length ≤ 1099511627776 by omega⟩
  all_goals try first
    | exact ⟨show N * ((1 : Nat) : Int) ≤ 16777216 by omega⟩
    | exact ⟨show 0 ≤ N by omega⟩
  refine ⟨Nat, fun i => 1 ≤ i ∧ i ≤ N.toNat ∧ ∀ j : Nat, 1 ≤ j → j < i → -1099511627776 ≤ gi B j ∧ gi B j ≤ 1099511627776, fun i => ⟨slotsT 288 [1, 2, 3, 4, 5, 11, 12] [.a (.sl 1 [] 0 B.length), .a (vI a), .a (vI b), .a (.sl 2 [] 0 X.length), .a (.p 3 [] 0 0), .a (.sl 4 [] 0 N.toNat), .a (vI i)], [], [.arr 44 kL L false false, .arr 3 kI B false false, .arr 3 kI X false false, .box true [vI N, .sl 0 [] 0 L.length], .arr 3 kI (mvL B N.toNat i) true true]⟩, fun i => N.toNat - i, 1, [], ⟨Nat.le_refl _, by omega, fun j j1 j2 => by omega⟩, ?_, ?_⟩
  · have e0 : List.replicate N.toNat (0 : Int) = mvL B N.toNat 1 := mv_one (by omega) (by omega)
    subst_vars
    repeat' ((conv => whnf); (first | apply And.intro | intro _))
    all_goals first | rfl | trivial | exact Nat.le_of_ble_eq_true rfl | exact ⟨rfl, rfl, rfl⟩ | exact ⟨rfl, rfl, rfl, rfl⟩ | exact ⟨rfl, rfl⟩ | exact e0 | exact e0.symm | exact ⟨rfl, rfl, e0⟩
  rintro i ⟨hi0, hi, hB⟩
  have ml := mv_len hi0 hi (show N.toNat ≤ B.length by omega)
  by_cases hi1 : i < N.toNat
  · have p0 : decide ((i : Int) < N) = true := decide_eq_true (by omega)
    have ev : e1A B (i : Int) = gi B (i : Int) := e1A_eq (by omega)
    cases c1 : decide (e1A B (i : Int) < -1099511627776)
    case true =>
      repeat' ((conv => whnf); (first | apply And.intro | (intro h9; first | (have h8 : (_ : Bool) = false := h9; exfalso; clear h8; revert h9; subst_vars; intro h9; exact ft_no (h9.symm.trans (by assumption))) | (have h8 : (_ : Bool) = true := h9; exfalso; clear h8; revert h9; subst_vars; intro h9; exact tf_no (h9.symm.trans (by assumption))) | skip)))
      all_goals try (conv => whnf)
      all_goals try first
        | exact LexB.mk (by kernel_rfl)
        | exact LexG.mk (by kernel_rfl)
        | exact LexT.mk (by kernel_rfl)
        | exact Forced.mk (by kernel_rfl)
        | exact LexP.mk (by kernel_rfl)
        | exact ForcedP.mk (by kernel_rfl)
        | exact ⟨Nat.le_of_ble_eq_true rfl⟩
        | exact ⟨rfl⟩
        | exact ⟨trivial⟩
      all_goals subst_vars
      all_goals try first
        | rfl
        | contradiction
        | (refine Ob.mk ?_; simp only [inRQ, inR, Duty.of_p]; omega)
      all_goals try first
        | exact ⟨show L.length ≤ 1000000 by omega⟩
        | exact ⟨show L.length ≤ 1099511627776 by omega⟩
        | exact ⟨show 0 ≤ (i : Int) ∧ (i : Int) < (B.length : Int) by omega⟩
        | exact ⟨show 0 + Int.toNat (i : Int) < B.length by omega⟩
        | exact ⟨show 0 ≤ (i : Int) ∧ (i : Int) < (N.toNat : Int) by omega⟩
        | exact ⟨show 0 + Int.toNat (i : Int) < (mvL B N.toNat i).length by omega⟩
    cases c2 : decide (e1A B (i : Int) > 1099511627776)
    case true =>
      repeat' ((conv => whnf); (first | apply And.intro | (intro h9; first | (have h8 : (_ : Bool) = false := h9; exfalso; clear h8; revert h9; subst_vars; intro h9; exact ft_no (h9.symm.trans (by assumption))) | (have h8 : (_ : Bool) = true := h9; exfalso; clear h8; revert h9; subst_vars; intro h9; exact tf_no (h9.symm.trans (by assumption))) | skip)))
      all_goals try (conv => whnf)
      all_goals try first
        | exact LexB.mk (by kernel_rfl)
        | exact LexG.mk (by kernel_rfl)
        | exact LexT.mk (by kernel_rfl)
        | exact Forced.mk (by kernel_rfl)
        | exact LexP.mk (by kernel_rfl)
        | exact ForcedP.mk (by kernel_rfl)
        | exact ⟨Nat.le_of_ble_eq_true rfl⟩
        | exact ⟨rfl⟩
        | exact ⟨trivial⟩
      all_goals subst_vars
      all_goals try first
        | rfl
        | contradiction
        | (refine Ob.mk ?_; simp only [inRQ, inR, Duty.of_p]; omega)
      all_goals try first
        | exact ⟨show L.length ≤ 1000000 by omega⟩
        | exact ⟨show L.length ≤ 1099511627776 by omega⟩
        | exact ⟨show 0 ≤ (i : Int) ∧ (i : Int) < (B.length : Int) by omega⟩
        | exact ⟨show 0 + Int.toNat (i : Int) < B.length by omega⟩
        | exact ⟨show 0 ≤ (i : Int) ∧ (i : Int) < (N.toNat : Int) by omega⟩
        | exact ⟨show 0 + Int.toNat (i : Int) < (mvL B N.toNat i).length by omega⟩
    have q1 := of_decide_eq_false c1
    have q2 := of_decide_eq_false c2
    have e1 : (mvL B N.toNat i).set (0 + Int.toNat (i : Int)) (e1A B (i : Int)) = mvL B N.toNat (i + 1) := by rw [Nat.zero_add, ev]; exact mv_set hi0 hi1 (by omega)
    repeat' ((conv => whnf); (first | apply And.intro | (intro h9; first | (have h8 : (_ : Bool) = false := h9; exfalso; clear h8; revert h9; subst_vars; intro h9; exact ft_no (h9.symm.trans (by assumption))) | (have h8 : (_ : Bool) = true := h9; exfalso; clear h8; revert h9; subst_vars; intro h9; exact tf_no (h9.symm.trans (by assumption))) | skip)))
    all_goals try (conv => whnf)
    all_goals try first
      | exact LexB.mk (by kernel_rfl)
      | exact LexG.mk (by kernel_rfl)
      | exact LexT.mk (by kernel_rfl)
      | exact Forced.mk (by kernel_rfl)
      | exact LexP.mk (by kernel_rfl)
      | exact ForcedP.mk (by kernel_rfl)
      | exact ⟨Nat.le_of_ble_eq_true rfl⟩
      | exact ⟨rfl⟩
      | exact ⟨trivial⟩
    all_goals subst_vars
    all_goals try first
      | rfl
      | contradiction
      | (refine Ob.mk ?_; simp only [inRQ, inR, Duty.of_p]; omega)
    all_goals try first
      | exact ⟨show L.length ≤ 1000000 by omega⟩
      | exact ⟨show L.length ≤ 1099511627776 by omega⟩
      | exact ⟨show 0 ≤ (i : Int) ∧ (i : Int) < (B.length : Int) by omega⟩
      | exact ⟨show 0 + Int.toNat (i : Int) < B.length by omega⟩
      | exact ⟨show 0 ≤ (i : Int) ∧ (i : Int) < (N.toNat : Int) by omega⟩
      | exact ⟨show 0 + Int.toNat (i : Int) < (mvL B N.toNat i).length by omega⟩
    all_goals
      refine ⟨i + 1, [], ⟨by omega, hi1, fun j j1 j2 => ?_⟩, ?_, by show N.toNat - (i + 1) < N.toNat - i; omega⟩
      · rcases Nat.lt_or_ge j i with h | h
        · exact hB j j1 h
        · obtain rfl : j = i := by omega
          rw [← ev]; omega
      subst_vars
      repeat' ((conv => whnf); (first | apply And.intro | intro _))
      all_goals first | rfl | trivial | exact Nat.le_of_ble_eq_true rfl | exact ⟨rfl, rfl, rfl⟩ | exact ⟨rfl, rfl, rfl, rfl⟩ | exact ⟨rfl, rfl⟩ | exact e1 | (subst_vars; rfl) | exact ⟨rfl, rfl, e1⟩
  have p0 : decide ((i : Int) < N) = false := decide_eq_false (by omega)
  obtain rfl : i = N.toNat := by omega
  have hf : Sml N.toNat (gi (mvL B N.toNat N.toNat)) := fun v hv => by
    rw [mv_get (by omega) hv]
    split
    · omega
    · have e : ((v.toNat : Nat) : Int) = v := Int.toNat_of_nonneg hv.1
      have := hB v.toNat (by have := hv.1; omega) (by have := hv.2; omega)
      rwa [e] at this
  have f0 : (gi (mvL B N.toNat N.toNat)) 0 = 0 := by rw [mv_get (by omega) ⟨by omega, by omega⟩]; rfl
  repeat' ((conv => whnf); (first | apply And.intro | (intro h9; first | (have h8 : (_ : Bool) = false := h9; exfalso; clear h8; revert h9; subst_vars; intro h9; exact ft_no (h9.symm.trans (by assumption))) | (have h8 : (_ : Bool) = true := h9; exfalso; clear h8; revert h9; subst_vars; intro h9; exact tf_no (h9.symm.trans (by assumption))) | skip)))
  all_goals try (conv => whnf)
  all_goals try first
    | exact LexB.mk (by kernel_rfl)
    | exact LexG.mk (by kernel_rfl)
    | exact LexT.mk (by kernel_rfl)
    | exact Forced.mk (by kernel_rfl)
    | exact LexP.mk (by kernel_rfl)
    | exact ForcedP.mk (by kernel_rfl)
    | exact ⟨Nat.le_of_ble_eq_true rfl⟩
    | exact ⟨rfl⟩
    | exact ⟨trivial⟩
  all_goals subst_vars
  all_goals try first
    | rfl
    | contradiction
    | (refine Ob.mk ?_; simp only [inRQ, inR, Duty.of_p]; omega)
  all_goals try first
    | exact ⟨show L.length ≤ 1000000 by omega⟩
    | exact ⟨show L.length ≤ 1099511627776 by omega⟩
  refine ⟨Nat, fun i => i ≤ L.length ∧ ∀ l ∈ L.take i, -1099511627776 ≤ l.2.2 ∧ l.2.2 ≤ 1099511627776, fun i => ⟨slotsT 288 [2, 3, 4, 5, 11, 13, 14] [.a (vI a), .a (vI b), .a (.sl 2 [] 0 X.length), .a (.p 3 [] 0 0), .a (.sl 4 [] 0 N.toNat), .a (.p 5 [] 0 0), .a (vI i)], [], [.arr 44 kL L false false, .arr 3 kI B false false, .arr 3 kI X false false, .box true [vI N, .sl 0 [] 0 L.length], .arr 3 kI (mvL B N.toNat N.toNat) true true, .box true [vI N, .sl 6 [] 0 i], .arr 44 kL (shL (gi (mvL B N.toNat N.toNat)) L i) true true]⟩, fun i => L.length - i, 0, [0, 1, 2, 3, 4, 5, 1000], ⟨Nat.zero_le _, fun l hl => by simp at hl⟩, ?_, ?_⟩
  · have e0 : [] = shL (gi (mvL B N.toNat N.toNat)) L 0 := shL_zero
    subst_vars
    repeat' ((conv => whnf); (first | apply And.intro | intro _))
    all_goals first | rfl | trivial | exact Nat.le_of_ble_eq_true rfl | exact ⟨rfl, rfl, rfl⟩ | exact ⟨rfl, rfl, rfl, rfl⟩ | exact ⟨rfl, rfl⟩ | exact e0 | exact e0.symm | exact ⟨rfl, rfl, e0⟩
  rintro i ⟨hi2, hm⟩
  have sl := shL_len (f := (gi (mvL B N.toNat N.toNat))) hi2
  by_cases hi1 : i < L.length
  · have p1 : decide ((i : Int) < (L.length : Int)) = true := decide_eq_true (by omega)
    have hnd := ha.ok.nd _ (lk_mem' hi1)
    have hA := lkA_eq L i
    have hnA : (0 ≤ (lkA L i).1 ∧ (lkA L i).1 < N.toNat) ∧ (0 ≤ (lkA L i).2.1 ∧ (lkA L i).2.1 < N.toNat) := by rw [hA]; exact hnd
    have g1 : e1A (mvL B N.toNat N.toNat) (lkA L i).1 = (gi (mvL B N.toNat N.toNat)) (lkA L i).1 := e1A_eq hnA.1.1
    have g2 : e1A (mvL B N.toNat N.toNat) (lkA L i).2.1 = (gi (mvL B N.toNat N.toNat)) (lkA L i).2.1 := e1A_eq hnA.2.1
    have s1 := hf _ hnA.1
    have s2 := hf _ hnA.2
    cases c1 : decide ((lkA L i).2.2 < -1099511627776)
    case true =>
      repeat' ((conv => whnf); (first | apply And.intro | (intro h9; first | (have h8 : (_ : Bool) = false := h9; exfalso; clear h8; revert h9; subst_vars; intro h9; exact ft_no (h9.symm.trans (by assumption))) | (have h8 : (_ : Bool) = true := h9; exfalso; clear h8; revert h9; subst_vars; intro h9; exact tf_no (h9.symm.trans (by assumption))) | skip)))
      all_goals try (conv => whnf)
      all_goals try first
        | exact LexB.mk (by kernel_rfl)
        | exact LexG.mk (by kernel_rfl)
        | exact LexT.mk (by kernel_rfl)
        | exact Forced.mk (by kernel_rfl)
        | exact LexP.mk (by kernel_rfl)
        | exact ForcedP.mk (by kernel_rfl)
        | exact ⟨Nat.le_of_ble_eq_true rfl⟩
        | exact ⟨rfl⟩
        | exact ⟨trivial⟩
      all_goals subst_vars
      all_goals try first
        | rfl
        | contradiction
        | (refine Ob.mk ?_; simp only [inRQ, inR, Duty.of_p]; omega)
      all_goals try first
        | exact ⟨show L.length ≤ 1000000 by omega⟩
        | exact ⟨show L.length ≤ 1099511627776 by omega⟩
        | exact ⟨show 0 ≤ (i : Int) ∧ (i : Int) < (L.length : Int) by omega⟩
        | exact ⟨show 0 + Int.toNat (i : Int) < L.length by omega⟩
        | exact ⟨show 0 ≤ (lkA L i).1 ∧ (lkA L i).1 < (N.toNat : Int) from hnA.1⟩
        | exact ⟨show 0 + Int.toNat (lkA L i).1 < (mvL B N.toNat N.toNat).length by rw [ml]; omega⟩
        | exact ⟨show 0 ≤ (lkA L i).2.1 ∧ (lkA L i).2.1 < (N.toNat : Int) from hnA.2⟩
        | exact ⟨show 0 + Int.toNat (lkA L i).2.1 < (mvL B N.toNat N.toNat).length by rw [ml]; omega⟩
        | (refine Ob.mk ?_; show (inRQ .i64 ((lkA L i).2.2 + e1A (mvL B N.toNat N.toNat) (lkA L i).2.1)).p; rw [g2]; simp only [inRQ, inR, Duty.of_p]; omega)
        | (refine Ob.mk ?_; show (inRQ .i64 ((lkA L i).2.2 + e1A (mvL B N.toNat N.toNat) (lkA L i).2.1 - e1A (mvL B N.toNat N.toNat) (lkA L i).1)).p; rw [g1, g2]; simp only [inRQ, inR, Duty.of_p]; omega)
        | exact ⟨show 0 + i = (shL (gi (mvL B N.toNat N.toNat)) L i).length by omega⟩
        | exact ⟨show (i + 1) * 3 ≤ 1099511627776 by omega⟩
    cases c2 : decide ((lkA L i).2.2 > 1099511627776)
    case true =>
      repeat' ((conv => whnf); (first | apply And.intro | (intro h9; first | (have h8 : (_ : Bool) = false := h9; exfalso; clear h8; revert h9; subst_vars; intro h9; exact ft_no (h9.symm.trans (by assumption))) | (have h8 : (_ : Bool) = true := h9; exfalso; clear h8; revert h9; subst_vars; intro h9; exact tf_no (h9.symm.trans (by assumption))) | skip)))
      all_goals try (conv => whnf)
      all_goals try first
        | exact LexB.mk (by kernel_rfl)
        | exact LexG.mk (by kernel_rfl)
        | exact LexT.mk (by kernel_rfl)
        | exact Forced.mk (by kernel_rfl)
        | exact LexP.mk (by kernel_rfl)
        | exact ForcedP.mk (by kernel_rfl)
        | exact ⟨Nat.le_of_ble_eq_true rfl⟩
        | exact ⟨rfl⟩
        | exact ⟨trivial⟩
      all_goals subst_vars
      all_goals try first
        | rfl
        | contradiction
        | (refine Ob.mk ?_; simp only [inRQ, inR, Duty.of_p]; omega)
      all_goals try first
        | exact ⟨show L.length ≤ 1000000 by omega⟩
        | exact ⟨show L.length ≤ 1099511627776 by omega⟩
        | exact ⟨show 0 ≤ (i : Int) ∧ (i : Int) < (L.length : Int) by omega⟩
        | exact ⟨show 0 + Int.toNat (i : Int) < L.length by omega⟩
        | exact ⟨show 0 ≤ (lkA L i).1 ∧ (lkA L i).1 < (N.toNat : Int) from hnA.1⟩
        | exact ⟨show 0 + Int.toNat (lkA L i).1 < (mvL B N.toNat N.toNat).length by rw [ml]; omega⟩
        | exact ⟨show 0 ≤ (lkA L i).2.1 ∧ (lkA L i).2.1 < (N.toNat : Int) from hnA.2⟩
        | exact ⟨show 0 + Int.toNat (lkA L i).2.1 < (mvL B N.toNat N.toNat).length by rw [ml]; omega⟩
        | (refine Ob.mk ?_; show (inRQ .i64 ((lkA L i).2.2 + e1A (mvL B N.toNat N.toNat) (lkA L i).2.1)).p; rw [g2]; simp only [inRQ, inR, Duty.of_p]; omega)
        | (refine Ob.mk ?_; show (inRQ .i64 ((lkA L i).2.2 + e1A (mvL B N.toNat N.toNat) (lkA L i).2.1 - e1A (mvL B N.toNat N.toNat) (lkA L i).1)).p; rw [g1, g2]; simp only [inRQ, inR, Duty.of_p]; omega)
        | exact ⟨show 0 + i = (shL (gi (mvL B N.toNat N.toNat)) L i).length by omega⟩
        | exact ⟨show (i + 1) * 3 ≤ 1099511627776 by omega⟩
    have q1 := of_decide_eq_false c1
    have q2 := of_decide_eq_false c2
    have e1 : List.drop 0 (shL (gi (mvL B N.toNat N.toNat)) L i) ++ [((lkA L i).1, (lkA L i).2.1, (lkA L i).2.2 + e1A (mvL B N.toNat N.toNat) (lkA L i).2.1 - e1A (mvL B N.toNat N.toNat) (lkA L i).1)] = shL (gi (mvL B N.toNat N.toNat)) L (i + 1) := by rw [g1, g2, hA]; exact shL_succ hi1
    repeat' ((conv => whnf); (first | apply And.intro | (intro h9; first | (have h8 : (_ : Bool) = false := h9; exfalso; clear h8; revert h9; subst_vars; intro h9; exact ft_no (h9.symm.trans (by assumption))) | (have h8 : (_ : Bool) = true := h9; exfalso; clear h8; revert h9; subst_vars; intro h9; exact tf_no (h9.symm.trans (by assumption))) | skip)))
    all_goals try (conv => whnf)
    all_goals try first
      | exact LexB.mk (by kernel_rfl)
      | exact LexG.mk (by kernel_rfl)
      | exact LexT.mk (by kernel_rfl)
      | exact Forced.mk (by kernel_rfl)
      | exact LexP.mk (by kernel_rfl)
      | exact ForcedP.mk (by kernel_rfl)
      | exact ⟨Nat.le_of_ble_eq_true rfl⟩
      | exact ⟨rfl⟩
      | exact ⟨trivial⟩
    all_goals subst_vars
    all_goals try first
      | rfl
      | contradiction
      | (refine Ob.mk ?_; simp only [inRQ, inR, Duty.of_p]; omega)
    all_goals try first
      | exact ⟨show L.length ≤ 1000000 by omega⟩
      | exact ⟨show L.length ≤ 1099511627776 by omega⟩
      | exact ⟨show 0 ≤ (i : Int) ∧ (i : Int) < (L.length : Int) by omega⟩
      | exact ⟨show 0 + Int.toNat (i : Int) < L.length by omega⟩
      | exact ⟨show 0 ≤ (lkA L i).1 ∧ (lkA L i).1 < (N.toNat : Int) from hnA.1⟩
      | exact ⟨show 0 + Int.toNat (lkA L i).1 < (mvL B N.toNat N.toNat).length by rw [ml]; omega⟩
      | exact ⟨show 0 ≤ (lkA L i).2.1 ∧ (lkA L i).2.1 < (N.toNat : Int) from hnA.2⟩
      | exact ⟨show 0 + Int.toNat (lkA L i).2.1 < (mvL B N.toNat N.toNat).length by rw [ml]; omega⟩
      | (refine Ob.mk ?_; show (inRQ .i64 ((lkA L i).2.2 + e1A (mvL B N.toNat N.toNat) (lkA L i).2.1)).p; rw [g2]; simp only [inRQ, inR, Duty.of_p]; omega)
      | (refine Ob.mk ?_; show (inRQ .i64 ((lkA L i).2.2 + e1A (mvL B N.toNat N.toNat) (lkA L i).2.1 - e1A (mvL B N.toNat N.toNat) (lkA L i).1)).p; rw [g1, g2]; simp only [inRQ, inR, Duty.of_p]; omega)
      | exact ⟨show 0 + i = (shL (gi (mvL B N.toNat N.toNat)) L i).length by omega⟩
      | exact ⟨show (i + 1) * 3 ≤ 1099511627776 by omega⟩
    all_goals
      refine ⟨i + 1, [0, 1, 2, 3, 4, 5, 6], ⟨hi1, fun l hl => ?_⟩, ?_, by show L.length - (i + 1) < L.length - i; omega⟩
      · rw [take_lk hi1] at hl
        rcases List.mem_append.1 hl with h | h
        · exact hm l h
        · rw [List.mem_singleton.1 h, ← hA]; omega
      subst_vars
      repeat' ((conv => whnf); (first | apply And.intro | intro _))
      all_goals first | rfl | trivial | exact Nat.le_of_ble_eq_true rfl | exact ⟨rfl, rfl, rfl⟩ | exact ⟨rfl, rfl, rfl, rfl⟩ | exact ⟨rfl, rfl⟩ | exact e1 | (subst_vars; rfl) | exact ⟨rfl, rfl, e1⟩
  have p1 : decide ((i : Int) < (L.length : Int)) = false := decide_eq_false (by omega)
  obtain rfl : i = L.length := by omega
  have hc' : (checkF N (shL (gi (mvL B N.toNat N.toNat)) L L.length)).1 = 0 := by rw [shL_all]; exact check_sh hc hf fun l hl => hm l (by rw [List.take_length]; exact hl)
  have ct : clsF N (shL (gi (mvL B N.toNat N.toNat)) L L.length) = clsF N L := by rw [shL_all] at hc' ⊢; exact cls_sh hf hc hc'
  have bt := bnd_sh (a := a) (b := b) hf hc (show (checkF N (L.map (sh (gi (mvL B N.toNat N.toNat))))).1 = 0 by rw [← shL_all]; exact hc')
  have ht : chnF N (shL (gi (mvL B N.toNat N.toNat)) L L.length) a b = chnF N L a b := by rw [shL_all] at hc' ⊢; exact chn_sh hf hc hc'
  rw [← shL_all] at bt
  have l1 := cls_60 (N := N) (L := L)
  have l2 := chn_60 (N := N) (L := L) (a := a) (b := b)
  have v1 : ((clsF N L).2 != (clsF N (shL (gi (mvL B N.toNat N.toNat)) L L.length)).2) = false := by rw [ct]; simp
  have v2 : (!decide ((clsF N L).1 = (clsF N (shL (gi (mvL B N.toNat N.toNat)) L L.length)).1)) = false := by rw [ct]; simp
  have v3 : ((bndF N L a b).2 != (bndF N (shL (gi (mvL B N.toNat N.toNat)) L L.length) a b).2) = false := by rw [bt.1]; simp
  have v4 : ((chnF N L a b).2 != (chnF N (shL (gi (mvL B N.toNat N.toNat)) L L.length) a b).2) = false := by rw [ht]; simp
  have v5 : (!decide ((chnF N L a b).1 = (chnF N (shL (gi (mvL B N.toNat N.toNat)) L L.length) a b).1)) = false := by rw [ht]; simp
  repeat' ((conv => whnf); (first | apply And.intro | (intro h9; first | (have h8 : (_ : Bool) = false := h9; exfalso; clear h8; revert h9; subst_vars; intro h9; exact ft_no (h9.symm.trans (by assumption))) | (have h8 : (_ : Bool) = true := h9; exfalso; clear h8; revert h9; subst_vars; intro h9; exact tf_no (h9.symm.trans (by assumption))) | skip)))
  all_goals try (conv => whnf)
  all_goals try first
    | exact LexB.mk (by kernel_rfl)
    | exact LexG.mk (by kernel_rfl)
    | exact LexT.mk (by kernel_rfl)
    | exact Forced.mk (by kernel_rfl)
    | exact LexP.mk (by kernel_rfl)
    | exact ForcedP.mk (by kernel_rfl)
    | exact ⟨Nat.le_of_ble_eq_true rfl⟩
    | exact ⟨rfl⟩
    | exact ⟨trivial⟩
  all_goals subst_vars
  all_goals try first
    | rfl
    | contradiction
    | (refine Ob.mk ?_; simp only [inRQ, inR, Duty.of_p]; omega)
  all_goals try first
    | exact ⟨show L.length ≤ 1000000 by omega⟩
    | exact ⟨show L.length ≤ 1099511627776 by omega⟩
    | exact ⟨show (shL (gi (mvL B N.toNat N.toNat)) L L.length).length ≤ 1000000 by omega⟩
    | exact ⟨sl.symm⟩
    | exact ⟨show (clsF N L).1.length ≤ 1000000 by omega⟩
    | exact ⟨show (chnF N L a b).1.length ≤ 1000000 by omega⟩
  refine ⟨Unit, fun _ => True, fun _ => ⟨slotsT 288 [2, 3, 4, 5, 11, 13] [.a (vI a), .a (vI b), .a (.sl 2 [] 0 X.length), .a (.p 3 [] 0 0), .a (.sl 4 [] 0 N.toNat), .a (.p 5 [] 0 0)], [], [.arr 44 kL L false false, .arr 3 kI B false false, .arr 3 kI X false false, .box true [vI N, .sl 0 [] 0 L.length], .arr 3 kI (mvL B N.toNat N.toNat) true true, .box true [vI N, .sl 6 [] 0 L.length], .arr 44 kL (shL (gi (mvL B N.toNat N.toNat)) L L.length) true true]⟩, ?_, fun _ _ => ?_⟩
  · cases g0 : ((bndF N L a b).2 == 0)
    · repeat' ((conv => whnf); (first | apply And.intro | (intro h9; first | (have h8 : (_ : Bool) = false := h9; exfalso; clear h8; revert h9; subst_vars; intro h9; exact ft_no (h9.symm.trans (by assumption))) | (have h8 : (_ : Bool) = true := h9; exfalso; clear h8; revert h9; subst_vars; intro h9; exact tf_no (h9.symm.trans (by assumption))) | skip)))
      all_goals try (conv => whnf)
      all_goals try first
        | exact LexB.mk (by kernel_rfl)
        | exact LexG.mk (by kernel_rfl)
        | exact LexT.mk (by kernel_rfl)
        | exact Forced.mk (by kernel_rfl)
        | exact LexP.mk (by kernel_rfl)
        | exact ForcedP.mk (by kernel_rfl)
        | exact ⟨Nat.le_of_ble_eq_true rfl⟩
        | exact ⟨rfl⟩
        | exact ⟨trivial⟩
      all_goals subst_vars
      all_goals try first
        | rfl
        | contradiction
        | (refine Ob.mk ?_; simp only [inRQ, inR, Duty.of_p]; omega)
      all_goals try first
        | exact ⟨show L.length ≤ 1000000 by omega⟩
        | exact ⟨show L.length ≤ 1099511627776 by omega⟩
        | exact ⟨show (shL (gi (mvL B N.toNat N.toNat)) L L.length).length ≤ 1000000 by omega⟩
        | exact ⟨sl.symm⟩
        | exact ⟨show (clsF N L).1.length ≤ 1000000 by omega⟩
        | exact ⟨show (chnF N L a b).1.length ≤ 1000000 by omega⟩
      all_goals
        exact ⟨(), [0, 1, 2, 3, 4, 5, 6], trivial, by
          repeat' ((conv => whnf); (first | apply And.intro | intro _))
          all_goals first | rfl | trivial | exact Nat.le_of_ble_eq_true rfl | exact ⟨rfl, rfl, rfl⟩ | exact ⟨rfl, rfl, rfl, rfl⟩ | exact ⟨rfl, rfl⟩⟩
    · have g1 : (bndF N L a b).2 = 0 := by simpa using g0
      obtain ⟨r1, r2, r3⟩ := bnd_0 g1
      obtain ⟨_, hn, na, nb, _, _⟩ := ask_2 r1
      have na1 := na.1
      have na2 := na.2
      have nb1 := nb.1
      have nb2 := nb.2
      have dl := d_low ha hn nb (bd_isD ha hn na nb).1 r2
      have m1 : e1A (mvL B N.toNat N.toNat) a = (gi (mvL B N.toNat N.toNat)) a := e1A_eq na1
      have m2 : e1A (mvL B N.toNat N.toNat) b = (gi (mvL B N.toNat N.toNat)) b := e1A_eq nb1
      have s1 := hf a na
      have s2 := hf b nb
      have v6 : ((bndF N (shL (gi (mvL B N.toNat N.toNat)) L L.length) a b).1 != (bndF N L a b).1 + e1A (mvL B N.toNat N.toNat) b - e1A (mvL B N.toNat N.toNat) a) = false := by rw [bt.2 g1, m1, m2]; simp
      repeat' ((conv => whnf); (first | apply And.intro | (intro h9; first | (have h8 : (_ : Bool) = false := h9; exfalso; clear h8; revert h9; subst_vars; intro h9; exact ft_no (h9.symm.trans (by assumption))) | (have h8 : (_ : Bool) = true := h9; exfalso; clear h8; revert h9; subst_vars; intro h9; exact tf_no (h9.symm.trans (by assumption))) | skip)))
      all_goals try (conv => whnf)
      all_goals try first
        | exact LexB.mk (by kernel_rfl)
        | exact LexG.mk (by kernel_rfl)
        | exact LexT.mk (by kernel_rfl)
        | exact Forced.mk (by kernel_rfl)
        | exact LexP.mk (by kernel_rfl)
        | exact ForcedP.mk (by kernel_rfl)
        | exact ⟨Nat.le_of_ble_eq_true rfl⟩
        | exact ⟨rfl⟩
        | exact ⟨trivial⟩
      all_goals subst_vars
      all_goals try first
        | rfl
        | contradiction
        | (refine Ob.mk ?_; simp only [inRQ, inR, Duty.of_p]; omega)
      all_goals try first
        | exact ⟨show L.length ≤ 1000000 by omega⟩
        | exact ⟨show L.length ≤ 1099511627776 by omega⟩
        | exact ⟨show (shL (gi (mvL B N.toNat N.toNat)) L L.length).length ≤ 1000000 by omega⟩
        | exact ⟨sl.symm⟩
        | exact ⟨show (clsF N L).1.length ≤ 1000000 by omega⟩
        | exact ⟨show (chnF N L a b).1.length ≤ 1000000 by omega⟩
        | exact ⟨show 0 ≤ a ∧ a < (N.toNat : Int) from na⟩
        | exact ⟨show 0 + a.toNat < (mvL B N.toNat N.toNat).length by omega⟩
        | exact ⟨show 0 ≤ b ∧ b < (N.toNat : Int) from nb⟩
        | exact ⟨show 0 + b.toNat < (mvL B N.toNat N.toNat).length by omega⟩
        | (refine Ob.mk ?_; show (inRQ .i64 ((bndF N L a b).1 + e1A (mvL B N.toNat N.toNat) b)).p; rw [r3, m2]; simp only [inRQ, inR, Duty.of_p]; omega)
        | (refine Ob.mk ?_; show (inRQ .i64 ((bndF N L a b).1 + e1A (mvL B N.toNat N.toNat) b - e1A (mvL B N.toNat N.toNat) a)).p; rw [r3, m1, m2]; simp only [inRQ, inR, Duty.of_p]; omega)
      all_goals
        exact ⟨(), [0, 1, 2, 3, 4, 5, 6], trivial, by
          repeat' ((conv => whnf); (first | apply And.intro | intro _))
          all_goals first | rfl | trivial | exact Nat.le_of_ble_eq_true rfl | exact ⟨rfl, rfl, rfl⟩ | exact ⟨rfl, rfl, rfl, rfl⟩ | exact ⟨rfl, rfl⟩⟩
  by_cases hx : ((X.length : Int) != N) = true
  · repeat' ((conv => whnf); (first | apply And.intro | (intro h9; first | (have h8 : (_ : Bool) = false := h9; exfalso; clear h8; revert h9; subst_vars; intro h9; exact ft_no (h9.symm.trans (by assumption))) | (have h8 : (_ : Bool) = true := h9; exfalso; clear h8; revert h9; subst_vars; intro h9; exact tf_no (h9.symm.trans (by assumption))) | skip)))
    all_goals try (conv => whnf)
    all_goals try first
      | exact LexB.mk (by kernel_rfl)
      | exact LexG.mk (by kernel_rfl)
      | exact LexT.mk (by kernel_rfl)
      | exact Forced.mk (by kernel_rfl)
      | exact LexP.mk (by kernel_rfl)
      | exact ForcedP.mk (by kernel_rfl)
      | exact ⟨Nat.le_of_ble_eq_true rfl⟩
      | exact ⟨rfl⟩
      | exact ⟨trivial⟩
    all_goals subst_vars
    all_goals try first
      | rfl
      | contradiction
      | (refine Ob.mk ?_; simp only [inRQ, inR, Duty.of_p]; omega)
    all_goals try first
      | exact ⟨show L.length ≤ 1000000 by omega⟩
      | exact ⟨show L.length ≤ 1099511627776 by omega⟩
      | exact ⟨show (shL (gi (mvL B N.toNat N.toNat)) L L.length).length ≤ 1000000 by omega⟩
      | exact ⟨sl.symm⟩
      | exact ⟨show (clsF N L).1.length ≤ 1000000 by omega⟩
      | exact ⟨show (chnF N L a b).1.length ≤ 1000000 by omega⟩
  replace hx : ((X.length : Int) != N) = false := by simpa using hx
  have hxl : X.length = N.toNat := by have : (X.length : Int) = N := by simpa using hx
                                      omega
  repeat' ((conv => whnf); (first | apply And.intro | (intro h9; first | (have h8 : (_ : Bool) = false := h9; exfalso; clear h8; revert h9; subst_vars; intro h9; exact ft_no (h9.symm.trans (by assumption))) | (have h8 : (_ : Bool) = true := h9; exfalso; clear h8; revert h9; subst_vars; intro h9; exact tf_no (h9.symm.trans (by assumption))) | skip)))
  all_goals try (conv => whnf)
  all_goals try first
    | exact LexB.mk (by kernel_rfl)
    | exact LexG.mk (by kernel_rfl)
    | exact LexT.mk (by kernel_rfl)
    | exact Forced.mk (by kernel_rfl)
    | exact LexP.mk (by kernel_rfl)
    | exact ForcedP.mk (by kernel_rfl)
    | exact ⟨Nat.le_of_ble_eq_true rfl⟩
    | exact ⟨rfl⟩
    | exact ⟨trivial⟩
  all_goals subst_vars
  all_goals try first
    | rfl
    | contradiction
    | (refine Ob.mk ?_; simp only [inRQ, inR, Duty.of_p]; omega)
  all_goals try first
    | exact ⟨show L.length ≤ 1000000 by omega⟩
    | exact ⟨show L.length ≤ 1099511627776 by omega⟩
    | exact ⟨show (shL (gi (mvL B N.toNat N.toNat)) L L.length).length ≤ 1000000 by omega⟩
    | exact ⟨sl.symm⟩
    | exact ⟨show (clsF N L).1.length ≤ 1000000 by omega⟩
    | exact ⟨show (chnF N L a b).1.length ≤ 1000000 by omega⟩
  refine ⟨Nat, fun i => i ≤ N.toNat ∧ ∀ v : Nat, v < i → -1125899906842624 ≤ gi X v ∧ gi X v ≤ 1125899906842624, fun i => ⟨slotsT 288 [4, 5, 11, 13, 28, 29] [.a (.sl 2 [] 0 X.length), .a (.p 3 [] 0 0), .a (.sl 4 [] 0 N.toNat), .a (.p 5 [] 0 0), .a (.sl 7 [] 0 i), .a (vI i)], [], [.arr 44 kL L false false, .arr 3 kI B false false, .arr 3 kI X false false, .box true [vI N, .sl 0 [] 0 L.length], .arr 3 kI (mvL B N.toNat N.toNat) true true, .box true [vI N, .sl 6 [] 0 L.length], .arr 44 kL (shL (gi (mvL B N.toNat N.toNat)) L L.length) true true, .arr 3 kI (ysL (gi (mvL B N.toNat N.toNat)) X i) true true]⟩, fun i => N.toNat - i, 0, [0, 1, 2, 3, 4, 5, 6, 1000], ⟨Nat.zero_le _, fun v hv => by omega⟩, ?_, ?_⟩
  · have e0 : [] = ysL (gi (mvL B N.toNat N.toNat)) X 0 := ys_zero
    subst_vars
    repeat' ((conv => whnf); (first | apply And.intro | intro _))
    all_goals first | rfl | trivial | exact Nat.le_of_ble_eq_true rfl | exact ⟨rfl, rfl, rfl⟩ | exact ⟨rfl, rfl, rfl, rfl⟩ | exact ⟨rfl, rfl⟩ | exact e0 | exact e0.symm | exact ⟨rfl, rfl, e0⟩
  rintro i ⟨hi3, hX⟩
  have yl : (ysL (gi (mvL B N.toNat N.toNat)) X i).length = i := ys_len
  by_cases hi1 : i < N.toNat
  · have p2 : decide ((i : Int) < (X.length : Int)) = true := decide_eq_true (by omega)
    have ev : e1A X (i : Int) = gi X (i : Int) := e1A_eq (by omega)
    have em : e1A (mvL B N.toNat N.toNat) (i : Int) = (gi (mvL B N.toNat N.toNat)) (i : Int) := e1A_eq (by omega)
    have s1 := hf (i : Int) ⟨by omega, by omega⟩
    cases c1 : decide (e1A X (i : Int) < -1125899906842624)
    case true =>
      repeat' ((conv => whnf); (first | apply And.intro | (intro h9; first | (have h8 : (_ : Bool) = false := h9; exfalso; clear h8; revert h9; subst_vars; intro h9; exact ft_no (h9.symm.trans (by assumption))) | (have h8 : (_ : Bool) = true := h9; exfalso; clear h8; revert h9; subst_vars; intro h9; exact tf_no (h9.symm.trans (by assumption))) | skip)))
      all_goals try (conv => whnf)
      all_goals try first
        | exact LexB.mk (by kernel_rfl)
        | exact LexG.mk (by kernel_rfl)
        | exact LexT.mk (by kernel_rfl)
        | exact Forced.mk (by kernel_rfl)
        | exact LexP.mk (by kernel_rfl)
        | exact ForcedP.mk (by kernel_rfl)
        | exact ⟨Nat.le_of_ble_eq_true rfl⟩
        | exact ⟨rfl⟩
        | exact ⟨trivial⟩
      all_goals subst_vars
      all_goals try first
        | rfl
        | contradiction
        | (refine Ob.mk ?_; simp only [inRQ, inR, Duty.of_p]; omega)
      all_goals try first
        | exact ⟨show L.length ≤ 1000000 by omega⟩
        | exact ⟨show L.length ≤ 1099511627776 by omega⟩
        | exact ⟨show (shL (gi (mvL B N.toNat N.toNat)) L L.length).length ≤ 1000000 by omega⟩
        | exact ⟨sl.symm⟩
        | exact ⟨show (clsF N L).1.length ≤ 1000000 by omega⟩
        | exact ⟨show (chnF N L a b).1.length ≤ 1000000 by omega⟩
        | exact ⟨show 0 ≤ (i : Int) ∧ (i : Int) < (X.length : Int) by omega⟩
        | exact ⟨show 0 + Int.toNat (i : Int) < X.length by omega⟩
        | exact ⟨show 0 ≤ (i : Int) ∧ (i : Int) < (N.toNat : Int) by omega⟩
        | exact ⟨show 0 + Int.toNat (i : Int) < (mvL B N.toNat N.toNat).length by omega⟩
        | (refine Ob.mk ?_; show (inRQ .i64 (e1A X (i : Int) + e1A (mvL B N.toNat N.toNat) (i : Int))).p; rw [em]; simp only [inRQ, inR, Duty.of_p]; omega)
        | exact ⟨show 0 + i = (ysL (gi (mvL B N.toNat N.toNat)) X i).length by omega⟩
        | exact ⟨show (i + 1) * 1 ≤ 1099511627776 by omega⟩
    cases c2 : decide (e1A X (i : Int) > 1125899906842624)
    case true =>
      repeat' ((conv => whnf); (first | apply And.intro | (intro h9; first | (have h8 : (_ : Bool) = false := h9; exfalso; clear h8; revert h9; subst_vars; intro h9; exact ft_no (h9.symm.trans (by assumption))) | (have h8 : (_ : Bool) = true := h9; exfalso; clear h8; revert h9; subst_vars; intro h9; exact tf_no (h9.symm.trans (by assumption))) | skip)))
      all_goals try (conv => whnf)
      all_goals try first
        | exact LexB.mk (by kernel_rfl)
        | exact LexG.mk (by kernel_rfl)
        | exact LexT.mk (by kernel_rfl)
        | exact Forced.mk (by kernel_rfl)
        | exact LexP.mk (by kernel_rfl)
        | exact ForcedP.mk (by kernel_rfl)
        | exact ⟨Nat.le_of_ble_eq_true rfl⟩
        | exact ⟨rfl⟩
        | exact ⟨trivial⟩
      all_goals subst_vars
      all_goals try first
        | rfl
        | contradiction
        | (refine Ob.mk ?_; simp only [inRQ, inR, Duty.of_p]; omega)
      all_goals try first
        | exact ⟨show L.length ≤ 1000000 by omega⟩
        | exact ⟨show L.length ≤ 1099511627776 by omega⟩
        | exact ⟨show (shL (gi (mvL B N.toNat N.toNat)) L L.length).length ≤ 1000000 by omega⟩
        | exact ⟨sl.symm⟩
        | exact ⟨show (clsF N L).1.length ≤ 1000000 by omega⟩
        | exact ⟨show (chnF N L a b).1.length ≤ 1000000 by omega⟩
        | exact ⟨show 0 ≤ (i : Int) ∧ (i : Int) < (X.length : Int) by omega⟩
        | exact ⟨show 0 + Int.toNat (i : Int) < X.length by omega⟩
        | exact ⟨show 0 ≤ (i : Int) ∧ (i : Int) < (N.toNat : Int) by omega⟩
        | exact ⟨show 0 + Int.toNat (i : Int) < (mvL B N.toNat N.toNat).length by omega⟩
        | (refine Ob.mk ?_; show (inRQ .i64 (e1A X (i : Int) + e1A (mvL B N.toNat N.toNat) (i : Int))).p; rw [em]; simp only [inRQ, inR, Duty.of_p]; omega)
        | exact ⟨show 0 + i = (ysL (gi (mvL B N.toNat N.toNat)) X i).length by omega⟩
        | exact ⟨show (i + 1) * 1 ≤ 1099511627776 by omega⟩
    have q1 := of_decide_eq_false c1
    have q2 := of_decide_eq_false c2
    have e1 : List.drop 0 (ysL (gi (mvL B N.toNat N.toNat)) X i) ++ [e1A X (i : Int) + e1A (mvL B N.toNat N.toNat) (i : Int)] = ysL (gi (mvL B N.toNat N.toNat)) X (i + 1) := by rw [ev, em]; exact ys_succ
    repeat' ((conv => whnf); (first | apply And.intro | (intro h9; first | (have h8 : (_ : Bool) = false := h9; exfalso; clear h8; revert h9; subst_vars; intro h9; exact ft_no (h9.symm.trans (by assumption))) | (have h8 : (_ : Bool) = true := h9; exfalso; clear h8; revert h9; subst_vars; intro h9; exact tf_no (h9.symm.trans (by assumption))) | skip)))
    all_goals try (conv => whnf)
    all_goals try first
      | exact LexB.mk (by kernel_rfl)
      | exact LexG.mk (by kernel_rfl)
      | exact LexT.mk (by kernel_rfl)
      | exact Forced.mk (by kernel_rfl)
      | exact LexP.mk (by kernel_rfl)
      | exact ForcedP.mk (by kernel_rfl)
      | exact ⟨Nat.le_of_ble_eq_true rfl⟩
      | exact ⟨rfl⟩
      | exact ⟨trivial⟩
    all_goals subst_vars
    all_goals try first
      | rfl
      | contradiction
      | (refine Ob.mk ?_; simp only [inRQ, inR, Duty.of_p]; omega)
    all_goals try first
      | exact ⟨show L.length ≤ 1000000 by omega⟩
      | exact ⟨show L.length ≤ 1099511627776 by omega⟩
      | exact ⟨show (shL (gi (mvL B N.toNat N.toNat)) L L.length).length ≤ 1000000 by omega⟩
      | exact ⟨sl.symm⟩
      | exact ⟨show (clsF N L).1.length ≤ 1000000 by omega⟩
      | exact ⟨show (chnF N L a b).1.length ≤ 1000000 by omega⟩
      | exact ⟨show 0 ≤ (i : Int) ∧ (i : Int) < (X.length : Int) by omega⟩
      | exact ⟨show 0 + Int.toNat (i : Int) < X.length by omega⟩
      | exact ⟨show 0 ≤ (i : Int) ∧ (i : Int) < (N.toNat : Int) by omega⟩
      | exact ⟨show 0 + Int.toNat (i : Int) < (mvL B N.toNat N.toNat).length by omega⟩
      | (refine Ob.mk ?_; show (inRQ .i64 (e1A X (i : Int) + e1A (mvL B N.toNat N.toNat) (i : Int))).p; rw [em]; simp only [inRQ, inR, Duty.of_p]; omega)
      | exact ⟨show 0 + i = (ysL (gi (mvL B N.toNat N.toNat)) X i).length by omega⟩
      | exact ⟨show (i + 1) * 1 ≤ 1099511627776 by omega⟩
    all_goals
      refine ⟨i + 1, [], ⟨hi1, fun j j2 => ?_⟩, ?_, by show N.toNat - (i + 1) < N.toNat - i; omega⟩
      · rcases Nat.lt_or_ge j i with h | h
        · exact hX j h
        · obtain rfl : j = i := by omega
          rw [← ev]; omega
      subst_vars
      repeat' ((conv => whnf); (first | apply And.intro | intro _))
      all_goals first | rfl | trivial | exact Nat.le_of_ble_eq_true rfl | exact ⟨rfl, rfl, rfl⟩ | exact ⟨rfl, rfl, rfl, rfl⟩ | exact ⟨rfl, rfl⟩ | exact e1 | (subst_vars; rfl) | exact ⟨rfl, rfl, e1⟩
  have p2 : decide ((i : Int) < (X.length : Int)) = false := decide_eq_false (by omega)
  obtain rfl : i = N.toNat := by omega
  have ft := fit_sh (f := (gi (mvL B N.toNat N.toNat))) (X := X) hc (show (checkF N (L.map (sh (gi (mvL B N.toNat N.toNat))))).1 = 0 by rw [← shL_all]; exact hc') hf f0 (by omega) (fun v hv => by
    have e : ((v.toNat : Nat) : Int) = v := Int.toNat_of_nonneg hv.1
    have := hX v.toNat (by have := hv.2; have := hv.1; omega)
    rwa [e] at this)
  rw [← shL_all] at ft
  have w1 : ((fitF N L X).2 == 0) = true := by rw [ft.1.1]; rfl
  have w2 : ((fitF N (shL (gi (mvL B N.toNat N.toNat)) L L.length) (ysL (gi (mvL B N.toNat N.toNat)) X N.toNat)).2 == 0) = true := by rw [ft.1.2]; rfl
  have w3 : ((fitF N L X).1 == (fitF N (shL (gi (mvL B N.toNat N.toNat)) L L.length) (ysL (gi (mvL B N.toNat N.toNat)) X N.toNat)).1) = true := by rw [ft.2]; simp
  repeat' ((conv => whnf); (first | apply And.intro | (intro h9; first | (have h8 : (_ : Bool) = false := h9; exfalso; clear h8; revert h9; subst_vars; intro h9; exact ft_no (h9.symm.trans (by assumption))) | (have h8 : (_ : Bool) = true := h9; exfalso; clear h8; revert h9; subst_vars; intro h9; exact tf_no (h9.symm.trans (by assumption))) | skip)))
  all_goals try (conv => whnf)
  all_goals try first
    | exact LexB.mk (by kernel_rfl)
    | exact LexG.mk (by kernel_rfl)
    | exact LexT.mk (by kernel_rfl)
    | exact Forced.mk (by kernel_rfl)
    | exact LexP.mk (by kernel_rfl)
    | exact ForcedP.mk (by kernel_rfl)
    | exact ⟨Nat.le_of_ble_eq_true rfl⟩
    | exact ⟨rfl⟩
    | exact ⟨trivial⟩
  all_goals subst_vars
  all_goals try first
    | rfl
    | contradiction
    | (refine Ob.mk ?_; simp only [inRQ, inR, Duty.of_p]; omega)
  all_goals try first
    | exact ⟨show L.length ≤ 1000000 by omega⟩
    | exact ⟨show L.length ≤ 1099511627776 by omega⟩
    | exact ⟨show (shL (gi (mvL B N.toNat N.toNat)) L L.length).length ≤ 1000000 by omega⟩
    | exact ⟨sl.symm⟩
    | exact ⟨show (clsF N L).1.length ≤ 1000000 by omega⟩
    | exact ⟨show (chnF N L a b).1.length ≤ 1000000 by omega⟩
  all_goals first
    | exact ⟨show X.length ≤ 1000000 by omega⟩
    | exact ⟨show (ysL (gi (mvL B N.toNat N.toNat)) X N.toNat).length ≤ 1000000 by omega⟩
    | exact ⟨yl.symm⟩
    | exact w3
)
end Go.Proofs.Ytlmhkeoblgodiaa
end
