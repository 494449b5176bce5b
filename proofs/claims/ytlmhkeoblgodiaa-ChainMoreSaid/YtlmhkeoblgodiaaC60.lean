/-
  Texts of the claims on chapter 2: C60. No condition: lemmas and contracts.
-/
import Derived.Test.YtlmhkeoblgodiaaYe5
import Derived.Test.YtlmhkeoblgodiaaYe15
import Derived.Test.YtlmhkeoblgodiaaYe2
import Derived.Test.YtlmhkeoblgodiaaYe1
set_option linter.all false
section
/-
  Chapter 2: the law ChainMore. Printed by gen60.py.
-/
namespace Go.Proofs.Ytlmhkeoblgodiaa
open Go Go.Sy Go.Chn
set_option maxRecDepth 100000
set_option maxHeartbeats 4000000
set_option linter.unusedVariables false
set_option linter.unusedSimpArgs false
variable {Γ : Glob}
def fSknn (D : Int → List Lk → Int → Int → Int → Int → Int → List Duty) (F : Int → List Lk → Int → Int → Int → Int → Int → Tm) : Ctr := .fn fun args rg => match args with
  | [.agg [.v (.int .i64 N0), x0], .agg [.v (.int .i64 i0), .v (.int .i64 i1), .v (.int .i64 i2)], .a (.v (.int .i64 i3)), .a (.v (.int .i64 i4))] => (match arrOf 44 kL rg x0 with | some (q0, L0) => some (q0 ++ (D N0 L0 i0 i1 i2 i3 i4), F N0 L0 i0 i1 i2 i3 i4) | _ => none)
  | _ => none
theorem fSknn_ok {f : FuncId} {b : Body} {E : Env} {d : Nat} (hP : ProgOk Try.prog Γ E) (hb : BodyOk Try.prog f b) {D : Int → List Lk → Int → Int → Int → Int → Int → List Duty} {F : Int → List Lk → Int → Int → Int → Int → Int → Tm} (hp : ∀ (N0 : Int) (L0 : List Lk) (i0 : Int) (i1 : Int) (i2 : Int) (i3 : Int) (i4 : Int), (F N0 L0 i0 i1 i2 i3 i4).plain = true)
    (H : ∀ (N0 : Int) (L0 : List Lk) (i0 : Int) (i1 : Int) (i2 : Int) (i3 : Int) (i4 : Int), obl (D N0 L0 i0 i1 i2 i3 i4) → evTop E d b [.agg [vI N0, .sl 0 [] 0 L0.length], .agg [vI i0, vI i1, vI i2], .a (vI i3), .a (vI i4)] [.arr 44 kL L0 false false] (fun x _ => eqT x (F N0 L0 i0 i1 i2 i3 i4))) : Ctr.Ok Try.prog Γ f (fSknn D F) := Ctr.fn_ok (d := d) hP hb (by
  intro args rg q t hF hq
  split at hF
  next N0 x0 i0 i1 i2 i3 i4 =>
    split at hF
    next q0 L0 hx0 =>
      obtain ⟨rfl, rfl⟩ := Prod.mk.inj (Option.some.inj hF); clear hF
      rw [obl_append] at hq
      obtain ⟨hq0, hD⟩ := hq
      obtain ⟨e0, he0⟩ := pas_arr (by simp [kL]) hx0 hq0
      obtain ⟨p0, r0⟩ := he0 [e0] 0 1 rfl (by omega)
      refine ⟨hp _ _ _ _ _ _ _, [e0], [.agg [vI N0, .sl 0 [] 0 L0.length], .agg [vI i0, vI i1, vI i2], .a (vI i3), .a (vI i4)], [.arr 44 kL L0 false false], ⟨⟨⟨rfl, p0, trivial⟩, ⟨rfl, rfl, rfl, trivial⟩, rfl, rfl, trivial⟩, fun r g hg => ?_⟩, H _ _ _ _ _ _ _ hD⟩
      match r, hg with
      | 0, hg => obtain rfl := Option.some.inj hg; exact r0
    next => cases hF
  next => cases hF)
noncomputable def L6 : List (Nat × Ctr) := [(20, c20), (21, c21), (44, c44), (45, c45 false), (24, c24), (30, c30)]
theorem L6_ok : CsOk Try.prog Γ L6 := ((((((CsOk.nil.cons (body_of Try.func30 rfl rfl).fn c30_ok).cons (body_of Try.func24 rfl rfl).fn c24_ok).cons (body_of Try.func45 rfl rfl).fn (c45_ok _)).cons (body_of Try.func44 rfl rfl).fn c44_ok).cons (body_of Try.func21 rfl rfl).fn c21_ok).cons (body_of Try.func20 rfl rfl).fn c20_ok)
noncomputable def e6 : Env := { tabs.env L6 [] false 0 with cut := fun t => match Nat.beq t 1010 with | true => true | false => match Nat.beq t 1011 with | true => true | false => Nat.beq t 136 }
theorem e6_ok : ProgOk Try.prog Γ e6 := (prog_ok L6_ok BsOk.nil false 0).cuts _
theorem tg_e {N : Int} {L : List Lk} (h : askF N L [] = 0) {a b : Int} (h1 : inN N.toNat a) (h2 : inN N.toNat b) : e2A (tgF N L).1 a b = dB N L a b := by
  rw [e2A_eq h2.1, tgF1 (by rw [h]; rfl)]; exact tg_tb h1
theorem tg_r {N : Int} {L : List Lk} (h : askF N L [] = 0) {a : Int} (h1 : inN N.toNat a) : (rwA (tgF N L).1 a).length = N.toNat := by
  obtain ⟨c1, _, c3⟩ := ask_iff.1 h
  have ha := ask_of c1
  have k1 := h1.1
  have k2 := h1.2
  rw [rwA_eq, tgF1 (by rw [h]; rfl)]
  show ((tgL N L N.toNat).getD a.toNat []).length = _
  rw [tg_get (by omega)]
  exact bd_len ha ⟨by omega, by omega⟩
theorem tg_l {N : Int} {L : List Lk} (h : askF N L [] = 0) : (tgF N L).1.length = N.toNat := by rw [tgF1 (by rw [h]; rfl)]; exact tg_len
theorem wi_0 {N : Int} {L M : List Lk} (h : ((withF N L M).2 != 0) = false) (hc : (checkF N L).1 = 0) : (checkF N (L ++ M)).1 = 0 := by
  by_cases h2 : (checkF N (L ++ M)).1 = 0
  · exact h2
  · exfalso
    rw [wi_no hc h2] at h
    exact h2 (by simpa using h)
theorem lk_last {L : List Lk} {l : Lk} : lk (L ++ [l]) (Int.toNat (L.length : Int)) = l := by
  rw [Int.toNat_natCast]; simp [lk, List.getD]
attribute [local irreducible] gi lk checkF smallB tgF withF conF slkF askF dB
def c6 : Ctr := fSknn (fun _ _ _ _ _ _ _ => []) (fun _ _ _ _ _ _ _ => bl true)
theorem c6_ok : Ctr.Ok Try.prog Γ 6 c6 := fSknn_ok (d := 0) e6_ok (body_of Try.func6 rfl rfl) (fun _ _ _ _ _ _ _ => rfl) (by
  intro N L u v w a b _
  by_cases hs : (!smallB N L) = true
  · repeat' ((conv => whnf); (first | apply And.intro | (intro h9; first | (have h8 : (_ : Bool) = false := h9; exfalso; clear h8; revert h9; subst_vars; intro h9; exact ft_no (h9.symm.trans (by assumption))) | (have h8 : (_ : Bool) = true := h9; exfalso; clear h8; revert h9; subst_vars; intro h9; exact tf_no (h9.symm.trans (by assumption))) | skip)))
    all_goals try (conv => whnf)
    all_goals try first
      | exact LexB.mk (by kernel_rfl)
      | exact LexG.mk (by kernel_rfl)
      | exact LexT.mk (by kernel_rfl)
      | exact Forced.mk (by kernel_rfl)
      | exact LexP.mk (by kernel_rfl)
      | exact ForcedP.mk (by kernel_rfl)
      | exact ⟨Nat.le_of_ble_eq_true rfl⟩
      | exact ⟨rfl⟩
      | exact ⟨trivial⟩
    all_goals subst_vars
    all_goals try first
      | rfl
      | contradiction
      | (refine Ob.mk ?_; simp only [inRQ, inR, Duty.of_p]; omega)
    all_goals first
      | exact ⟨show L.length ≤ 1000000 by omega⟩
      | exact ⟨show ([(u, v, w)] : List Lk).length ≤ 1000000 from Nat.le_of_ble_eq_true rfl⟩
      | exact ⟨show (withF N L [(u, v, w)]).1.2.length ≤ 1000000 by have := wi_len (N := N) (L := L) (M := [(u, v, w)]); simp only [List.length_cons, List.length_nil] at this; omega⟩
      | exact ⟨show (0 : Nat) < 1 by omega⟩
  replace hs : (!smallB N L) = false := by simpa using hs
  have hL := small_len hs
  by_cases he : ((tgF N L).2 != 0) = true
  · repeat' ((conv => whnf); (first | apply And.intro | (intro h9; first | (have h8 : (_ : Bool) = false := h9; exfalso; clear h8; revert h9; subst_vars; intro h9; exact ft_no (h9.symm.trans (by assumption))) | (have h8 : (_ : Bool) = true := h9; exfalso; clear h8; revert h9; subst_vars; intro h9; exact tf_no (h9.symm.trans (by assumption))) | skip)))
    all_goals try (conv => whnf)
    all_goals try first
      | exact LexB.mk (by kernel_rfl)
      | exact LexG.mk (by kernel_rfl)
      | exact LexT.mk (by kernel_rfl)
      | exact Forced.mk (by kernel_rfl)
      | exact LexP.mk (by kernel_rfl)
      | exact ForcedP.mk (by kernel_rfl)
      | exact ⟨Nat.le_of_ble_eq_true rfl⟩
      | exact ⟨rfl⟩
      | exact ⟨trivial⟩
    all_goals subst_vars
    all_goals try first
      | rfl
      | contradiction
      | (refine Ob.mk ?_; simp only [inRQ, inR, Duty.of_p]; omega)
    all_goals first
      | exact ⟨show L.length ≤ 1000000 by omega⟩
      | exact ⟨show ([(u, v, w)] : List Lk).length ≤ 1000000 from Nat.le_of_ble_eq_true rfl⟩
      | exact ⟨show (withF N L [(u, v, w)]).1.2.length ≤ 1000000 by have := wi_len (N := N) (L := L) (M := [(u, v, w)]); simp only [List.length_cons, List.length_nil] at this; omega⟩
      | exact ⟨show (0 : Nat) < 1 by omega⟩
  replace he : ((tgF N L).2 != 0) = false := by simpa using he
  by_cases hf : ((withF N L [(u, v, w)]).2 != 0) = true
  · repeat' ((conv => whnf); (first | apply And.intro | (intro h9; first | (have h8 : (_ : Bool) = false := h9; exfalso; clear h8; revert h9; subst_vars; intro h9; exact ft_no (h9.symm.trans (by assumption))) | (have h8 : (_ : Bool) = true := h9; exfalso; clear h8; revert h9; subst_vars; intro h9; exact tf_no (h9.symm.trans (by assumption))) | skip)))
    all_goals try (conv => whnf)
    all_goals try first
      | exact LexB.mk (by kernel_rfl)
      | exact LexG.mk (by kernel_rfl)
      | exact LexT.mk (by kernel_rfl)
      | exact Forced.mk (by kernel_rfl)
      | exact LexP.mk (by kernel_rfl)
      | exact ForcedP.mk (by kernel_rfl)
      | exact ⟨Nat.le_of_ble_eq_true rfl⟩
      | exact ⟨rfl⟩
      | exact ⟨trivial⟩
    all_goals subst_vars
    all_goals try first
      | rfl
      | contradiction
      | (refine Ob.mk ?_; simp only [inRQ, inR, Duty.of_p]; omega)
    all_goals first
      | exact ⟨show L.length ≤ 1000000 by omega⟩
      | exact ⟨show ([(u, v, w)] : List Lk).length ≤ 1000000 from Nat.le_of_ble_eq_true rfl⟩
      | exact ⟨show (withF N L [(u, v, w)]).1.2.length ≤ 1000000 by have := wi_len (N := N) (L := L) (M := [(u, v, w)]); simp only [List.length_cons, List.length_nil] at this; omega⟩
      | exact ⟨show (0 : Nat) < 1 by omega⟩
  replace hf : ((withF N L [(u, v, w)]).2 != 0) = false := by simpa using hf
  have q0 : askF N L [] = 0 := tg_ok (by simpa using he)
  obtain ⟨c1, _, c3⟩ := ask_iff.1 q0
  have ha := ask_of c1
  have hN := toNat_of c1
  have hn := (con_iff ha).1 c3
  have hn60 := ha.n
  have d1 := wi_0 hf c1
  have hb := ask_of d1
  have w0 : (withF N L [(u, v, w)]) = ((N, L ++ [(u, v, w)]), 0) := wi_eq c1 d1
  obtain ⟨nu, nv, hw⟩ := hb.last
  replace nu : inN N.toNat u := nu
  replace nv : inN N.toNat v := nv
  replace hw : -4503599627370496 ≤ w ∧ w ≤ 4503599627370496 := hw
  have nu1 := nu.1
  have nu2 := nu.2
  have nv1 := nv.1
  have nv2 := nv.2
  have tl := tg_l q0
  have tv := tg_r q0 nv
  have xl : (withF N L [(u, v, w)]).1.2.length = L.length + 1 := by rw [w0]; simp
  have f1 : (((tgF N L).1.length : Int) != N) = false := by rw [tl, ← hN]; simp
  have f2 : (((withF N L [(u, v, w)]).1.2.length : Int) != (L.length : Int) + 1) = false := by rw [xl]; simp
  have f3 : decide (v < 0) = false := decide_eq_false (by omega)
  have f4 : decide (v ≥ ((tgF N L).1.length : Int)) = false := decide_eq_false (by omega)
  have f5 : decide (u < 0) = false := decide_eq_false (by omega)
  have f6 : decide (u ≥ ((rwA (tgF N L).1 v).length : Int)) = false := decide_eq_false (by omega)
  have cf : conF N (L ++ [(u, v, w)]) = (conB N (L ++ [(u, v, w)]), 0) := conF1 (by rw [d1]; rfl)
  have f7 : ((conF (withF N L [(u, v, w)]).1.1 (withF N L [(u, v, w)]).1.2).2 != 0) = false := by rw [w0]; show ((conF N (L ++ [(u, v, w)])).2 != 0) = false; rw [cf]; rfl
  have f8 : (conF (withF N L [(u, v, w)]).1.1 (withF N L [(u, v, w)]).1.2).1 = conB N (L ++ [(u, v, w)]) := by rw [w0]; show (conF N (L ++ [(u, v, w)])).1 = _; rw [cf]
  have bE := tg_e q0 nv nu
  have mc := more_con ha hb hn
  replace mc : conB N (L ++ [(u, v, w)]) = true ↔ dB N L v u = Fr ∨ 0 ≤ w + dB N L v u := mc
  rw [← bE] at mc
  have bR := dB_rng ha c3 nv nu
  rw [← bE] at bR
  -- the bound against the link, and whether the system stays consistent
  have key : ((e2A (tgF N L).1 v u == 1152921504606846976) = true ∧ (!((conF (withF N L [(u, v, w)]).1.1 (withF N L [(u, v, w)]).1.2).1 == true)) = false ∧ conB N (L ++ [(u, v, w)]) = true) ∨ ((e2A (tgF N L).1 v u == 1152921504606846976) = false ∧ (!((conF (withF N L [(u, v, w)]).1.1 (withF N L [(u, v, w)]).1.2).1 == decide (w + e2A (tgF N L).1 v u ≥ 0))) = false) := by
    rw [f8]
    cases k : (e2A (tgF N L).1 v u == 1152921504606846976)
    · refine .inr ⟨rfl, ?_⟩
      have k' : e2A (tgF N L).1 v u ≠ Fr := by unfold Fr; simpa using k
      have : conB N (L ++ [(u, v, w)]) = decide (w + e2A (tgF N L).1 v u ≥ 0) := by
        by_cases h : 0 ≤ w + e2A (tgF N L).1 v u
        · rw [mc.2 (.inr h)]; exact (decide_eq_true (by omega)).symm
        · rw [decide_eq_false (by omega)]
          cases hh : conB N (L ++ [(u, v, w)])
          · rfl
          · rcases mc.1 hh with h' | h'
            · exact absurd h' k'
            · exact absurd h' h
      rw [this]; simp
    · have hc := mc.2 (.inl (by unfold Fr; simpa using k))
      exact .inl ⟨rfl, by rw [hc]; rfl, hc⟩
  repeat' ((conv => whnf); (first | apply And.intro | (intro h9; first | (have h8 : (_ : Bool) = false := h9; exfalso; clear h8; revert h9; subst_vars; intro h9; exact ft_no (h9.symm.trans (by assumption))) | (have h8 : (_ : Bool) = true := h9; exfalso; clear h8; revert h9; subst_vars; intro h9; exact tf_no (h9.symm.trans (by assumption))) | skip)))
  all_goals try (conv => whnf)
  all_goals try first
    | exact LexB.mk (by kernel_rfl)
    | exact LexG.mk (by kernel_rfl)
    | exact LexT.mk (by kernel_rfl)
    | exact Forced.mk (by kernel_rfl)
    | exact LexP.mk (by kernel_rfl)
    | exact ForcedP.mk (by kernel_rfl)
    | exact ⟨Nat.le_of_ble_eq_true rfl⟩
    | exact ⟨rfl⟩
    | exact ⟨trivial⟩
  all_goals subst_vars
  all_goals try first
    | rfl
    | contradiction
    | (refine Ob.mk ?_; simp only [inRQ, inR, Duty.of_p]; omega)
  all_goals try first
    | exact ⟨show L.length ≤ 1000000 by omega⟩
    | exact ⟨show ([(u, v, w)] : List Lk).length ≤ 1000000 from Nat.le_of_ble_eq_true rfl⟩
    | exact ⟨show (withF N L [(u, v, w)]).1.2.length ≤ 1000000 by have := wi_len (N := N) (L := L) (M := [(u, v, w)]); simp only [List.length_cons, List.length_nil] at this; omega⟩
    | exact ⟨show (0 : Nat) < 1 by omega⟩
    | exact ⟨show 0 ≤ v ∧ v < ((tgF N L).1.length : Int) by omega⟩
    | exact ⟨show 0 + v.toNat < (tgF N L).1.length by omega⟩
    | exact ⟨show 0 ≤ u ∧ u < ((rwA (tgF N L).1 v).length : Int) by omega⟩
    | exact ⟨show 0 + u.toNat < (rwA (tgF N L).1 v).length by omega⟩
    | (refine Ob.mk ?_; show (inRQ .i64 (w + e2A (tgF N L).1 v u)).p; simp only [inRQ, inR, Duty.of_p]; omega)
    | trivial
  refine ⟨Unit, fun _ => True, fun _ => ⟨slotsT 243 [2, 3, 4, 5, 9, 11, 13, 14, 15] [.a (vI a), .a (vI b), .a (.p 1 [] 0 0), .a (.p 2 [] 0 0), .a (.sl 3 [] 0 (tgF N L).1.length), .a (.p 5 [] 0 0), .a (.v (.bool (conF (withF N L [(u, v, w)]).1.1 (withF N L [(u, v, w)]).1.2).1)), .a (vI (conF (withF N L [(u, v, w)]).1.1 (withF N L [(u, v, w)]).1.2).2), .a (vI (e2A (tgF N L).1 v u))], [], [.arr 44 kL L false false, .box true [vI N, .sl 0 [] 0 L.length], .box true [vI u, vI v, vI w], .arr 32 kT (tgF N L).1 true true, .arr 44 kL (withF N L [(u, v, w)]).1.2 true true, .box true [vI (withF N L [(u, v, w)]).1.1, .sl 4 [] 0 (withF N L [(u, v, w)]).1.2.length]]⟩, ?_, fun _ _ => ?_⟩
  · repeat' ((conv => whnf); (first | apply And.intro | (intro h9; first | (have h8 : (_ : Bool) = false := h9; exfalso; clear h8; revert h9; subst_vars; intro h9; exact ft_no (h9.symm.trans (by assumption))) | (have h8 : (_ : Bool) = true := h9; exfalso; clear h8; revert h9; subst_vars; intro h9; exact tf_no (h9.symm.trans (by assumption))) | skip)))
    all_goals try (conv => whnf)
    all_goals try first
      | exact LexB.mk (by kernel_rfl)
      | exact LexG.mk (by kernel_rfl)
      | exact LexT.mk (by kernel_rfl)
      | exact Forced.mk (by kernel_rfl)
      | exact LexP.mk (by kernel_rfl)
      | exact ForcedP.mk (by kernel_rfl)
      | exact ⟨Nat.le_of_ble_eq_true rfl⟩
      | exact ⟨rfl⟩
      | exact ⟨trivial⟩
    all_goals subst_vars
    all_goals try first
      | rfl
      | contradiction
      | (refine Ob.mk ?_; simp only [inRQ, inR, Duty.of_p]; omega)
    all_goals try first
      | exact ⟨show L.length ≤ 1000000 by omega⟩
      | exact ⟨show ([(u, v, w)] : List Lk).length ≤ 1000000 from Nat.le_of_ble_eq_true rfl⟩
      | exact ⟨show (withF N L [(u, v, w)]).1.2.length ≤ 1000000 by have := wi_len (N := N) (L := L) (M := [(u, v, w)]); simp only [List.length_cons, List.length_nil] at this; omega⟩
      | exact ⟨show (0 : Nat) < 1 by omega⟩
      | exact ⟨show 0 ≤ v ∧ v < ((tgF N L).1.length : Int) by omega⟩
      | exact ⟨show 0 + v.toNat < (tgF N L).1.length by omega⟩
      | exact ⟨show 0 ≤ u ∧ u < ((rwA (tgF N L).1 v).length : Int) by omega⟩
      | exact ⟨show 0 + u.toNat < (rwA (tgF N L).1 v).length by omega⟩
      | (refine Ob.mk ?_; show (inRQ .i64 (w + e2A (tgF N L).1 v u)).p; simp only [inRQ, inR, Duty.of_p]; omega)
      | trivial
    all_goals
      exact ⟨(), [0, 1, 2, 3, 5, 6], trivial, by
        repeat' ((conv => whnf); (first | apply And.intro | intro _))
        all_goals first | rfl | trivial | exact Nat.le_of_ble_eq_true rfl | exact ⟨rfl, rfl, rfl⟩ | exact ⟨rfl, rfl, rfl, rfl⟩ | exact ⟨rfl, rfl⟩⟩
  repeat' ((conv => whnf); (first | apply And.intro | (intro h9; first | (have h8 : (_ : Bool) = false := h9; exfalso; clear h8; revert h9; subst_vars; intro h9; exact ft_no (h9.symm.trans (by assumption))) | (have h8 : (_ : Bool) = true := h9; exfalso; clear h8; revert h9; subst_vars; intro h9; exact tf_no (h9.symm.trans (by assumption))) | skip)))
  all_goals try (conv => whnf)
  all_goals try first
    | exact LexB.mk (by kernel_rfl)
    | exact LexG.mk (by kernel_rfl)
    | exact LexT.mk (by kernel_rfl)
    | exact Forced.mk (by kernel_rfl)
    | exact LexP.mk (by kernel_rfl)
    | exact ForcedP.mk (by kernel_rfl)
    | exact ⟨Nat.le_of_ble_eq_true rfl⟩
    | exact ⟨rfl⟩
    | exact ⟨trivial⟩
  all_goals subst_vars
  all_goals try first
    | rfl
    | contradiction
    | (refine Ob.mk ?_; simp only [inRQ, inR, Duty.of_p]; omega)
  all_goals try first
    | exact ⟨show L.length ≤ 1000000 by omega⟩
    | exact ⟨show ([(u, v, w)] : List Lk).length ≤ 1000000 from Nat.le_of_ble_eq_true rfl⟩
    | exact ⟨show (withF N L [(u, v, w)]).1.2.length ≤ 1000000 by have := wi_len (N := N) (L := L) (M := [(u, v, w)]); simp only [List.length_cons, List.length_nil] at this; omega⟩
    | exact ⟨show (0 : Nat) < 1 by omega⟩
    | exact ⟨show 0 ≤ v ∧ v < ((tgF N L).1.length : Int) by omega⟩
    | exact ⟨show 0 + v.toNat < (tgF N L).1.length by omega⟩
    | exact ⟨show 0 ≤ u ∧ u < ((rwA (tgF N L).1 v).length : Int) by omega⟩
    | exact ⟨show 0 + u.toNat < (rwA (tgF N L).1 v).length by omega⟩
    | (refine Ob.mk ?_; show (inRQ .i64 (w + e2A (tgF N L).1 v u)).p; simp only [inRQ, inR, Duty.of_p]; omega)
    | trivial
  refine ⟨Unit, fun _ => True, fun _ => ⟨slotsT 243 [2, 3, 4, 5, 9, 11, 13, 15, 115] [.a (vI a), .a (vI b), .a (.p 1 [] 0 0), .a (.p 2 [] 0 0), .a (.sl 3 [] 0 (tgF N L).1.length), .a (.p 5 [] 0 0), .a (.v (.bool (conF (withF N L [(u, v, w)]).1.1 (withF N L [(u, v, w)]).1.2).1)), .a (vI (e2A (tgF N L).1 v u)), .a (.v (.bool ((conF (withF N L [(u, v, w)]).1.1 (withF N L [(u, v, w)]).1.2).2 != 0)))], [], [.arr 44 kL L false false, .box true [vI N, .sl 0 [] 0 L.length], .box true [vI u, vI v, vI w], .arr 32 kT (tgF N L).1 true true, .arr 44 kL (withF N L [(u, v, w)]).1.2 true true, .box true [vI (withF N L [(u, v, w)]).1.1, .sl 4 [] 0 (withF N L [(u, v, w)]).1.2.length]]⟩, ?_, fun _ _ => ?_⟩
  · rcases key with ⟨k1, k2, k3⟩ | ⟨k1, k2⟩
    · repeat' ((conv => whnf); (first | apply And.intro | (intro h9; first | (have h8 : (_ : Bool) = false := h9; exfalso; clear h8; revert h9; subst_vars; intro h9; exact ft_no (h9.symm.trans (by assumption))) | (have h8 : (_ : Bool) = true := h9; exfalso; clear h8; revert h9; subst_vars; intro h9; exact tf_no (h9.symm.trans (by assumption))) | skip)))
      all_goals try (conv => whnf)
      all_goals try first
        | exact LexB.mk (by kernel_rfl)
        | exact LexG.mk (by kernel_rfl)
        | exact LexT.mk (by kernel_rfl)
        | exact Forced.mk (by kernel_rfl)
        | exact LexP.mk (by kernel_rfl)
        | exact ForcedP.mk (by kernel_rfl)
        | exact ⟨Nat.le_of_ble_eq_true rfl⟩
        | exact ⟨rfl⟩
        | exact ⟨trivial⟩
      all_goals subst_vars
      all_goals try first
        | rfl
        | contradiction
        | (refine Ob.mk ?_; simp only [inRQ, inR, Duty.of_p]; omega)
      all_goals try first
        | exact ⟨show L.length ≤ 1000000 by omega⟩
        | exact ⟨show ([(u, v, w)] : List Lk).length ≤ 1000000 from Nat.le_of_ble_eq_true rfl⟩
        | exact ⟨show (withF N L [(u, v, w)]).1.2.length ≤ 1000000 by have := wi_len (N := N) (L := L) (M := [(u, v, w)]); simp only [List.length_cons, List.length_nil] at this; omega⟩
        | exact ⟨show (0 : Nat) < 1 by omega⟩
        | exact ⟨show 0 ≤ v ∧ v < ((tgF N L).1.length : Int) by omega⟩
        | exact ⟨show 0 + v.toNat < (tgF N L).1.length by omega⟩
        | exact ⟨show 0 ≤ u ∧ u < ((rwA (tgF N L).1 v).length : Int) by omega⟩
        | exact ⟨show 0 + u.toNat < (rwA (tgF N L).1 v).length by omega⟩
        | (refine Ob.mk ?_; show (inRQ .i64 (w + e2A (tgF N L).1 v u)).p; simp only [inRQ, inR, Duty.of_p]; omega)
        | trivial
      all_goals
        exact ⟨(), [], trivial, by
          repeat' ((conv => whnf); (first | apply And.intro | intro _))
          all_goals first | rfl | trivial | exact Nat.le_of_ble_eq_true rfl | exact ⟨rfl, rfl, rfl⟩ | exact ⟨rfl, rfl, rfl, rfl⟩ | exact ⟨rfl, rfl⟩ | exact k2.trans f7.symm⟩
    · have bNF : e2A (tgF N L).1 v u ≠ 1152921504606846976 := by simpa using k1
      repeat' ((conv => whnf); (first | apply And.intro | (intro h9; first | (have h8 : (_ : Bool) = false := h9; exfalso; clear h8; revert h9; subst_vars; intro h9; exact ft_no (h9.symm.trans (by assumption))) | (have h8 : (_ : Bool) = true := h9; exfalso; clear h8; revert h9; subst_vars; intro h9; exact tf_no (h9.symm.trans (by assumption))) | skip)))
      all_goals try (conv => whnf)
      all_goals try first
        | exact LexB.mk (by kernel_rfl)
        | exact LexG.mk (by kernel_rfl)
        | exact LexT.mk (by kernel_rfl)
        | exact Forced.mk (by kernel_rfl)
        | exact LexP.mk (by kernel_rfl)
        | exact ForcedP.mk (by kernel_rfl)
        | exact ⟨Nat.le_of_ble_eq_true rfl⟩
        | exact ⟨rfl⟩
        | exact ⟨trivial⟩
      all_goals subst_vars
      all_goals try first
        | rfl
        | contradiction
        | (refine Ob.mk ?_; simp only [inRQ, inR, Duty.of_p]; omega)
      all_goals try first
        | exact ⟨show L.length ≤ 1000000 by omega⟩
        | exact ⟨show ([(u, v, w)] : List Lk).length ≤ 1000000 from Nat.le_of_ble_eq_true rfl⟩
        | exact ⟨show (withF N L [(u, v, w)]).1.2.length ≤ 1000000 by have := wi_len (N := N) (L := L) (M := [(u, v, w)]); simp only [List.length_cons, List.length_nil] at this; omega⟩
        | exact ⟨show (0 : Nat) < 1 by omega⟩
        | exact ⟨show 0 ≤ v ∧ v < ((tgF N L).1.length : Int) by omega⟩
        | exact ⟨show 0 + v.toNat < (tgF N L).1.length by omega⟩
        | exact ⟨show 0 ≤ u ∧ u < ((rwA (tgF N L).1 v).length : Int) by omega⟩
        | exact ⟨show 0 + u.toNat < (rwA (tgF N L).1 v).length by omega⟩
        | (refine Ob.mk ?_; show (inRQ .i64 (w + e2A (tgF N L).1 v u)).p; simp only [inRQ, inR, Duty.of_p]; omega)
        | trivial
      all_goals
        exact ⟨(), [], trivial, by
          repeat' ((conv => whnf); (first | apply And.intro | intro _))
          all_goals first | rfl | trivial | exact Nat.le_of_ble_eq_true rfl | exact ⟨rfl, rfl, rfl⟩ | exact ⟨rfl, rfl, rfl, rfl⟩ | exact ⟨rfl, rfl⟩ | exact k2.trans f7.symm⟩
  cases cc : conB N (L ++ [(u, v, w)])
  · -- it is not
    have g0 : (!(conF (withF N L [(u, v, w)]).1.1 (withF N L [(u, v, w)]).1.2).1) = true := by rw [f8, cc]; rfl
    have g1 : ((tgF (withF N L [(u, v, w)]).1.1 (withF N L [(u, v, w)]).1.2).2 == 9) = true := by
      rw [w0]
      show ((tgF N (L ++ [(u, v, w)])).2 == 9) = true
      have q9 : askF N (L ++ [(u, v, w)]) [] = 9 := ask2 (by rw [d1]; rfl) rfl cc
      rw [tgF0 (by rw [q9]; rfl), q9]; rfl
    have z9 : True := trivial
    repeat' ((conv => whnf); (first | apply And.intro | (intro h9; first | (have h8 : (_ : Bool) = false := h9; exfalso; clear h8; revert h9; subst_vars; intro h9; exact ft_no (h9.symm.trans (by assumption))) | (have h8 : (_ : Bool) = true := h9; exfalso; clear h8; revert h9; subst_vars; intro h9; exact tf_no (h9.symm.trans (by assumption))) | skip)))
    all_goals try (conv => whnf)
    all_goals try first
      | exact LexB.mk (by kernel_rfl)
      | exact LexG.mk (by kernel_rfl)
      | exact LexT.mk (by kernel_rfl)
      | exact Forced.mk (by kernel_rfl)
      | exact LexP.mk (by kernel_rfl)
      | exact ForcedP.mk (by kernel_rfl)
      | exact ⟨Nat.le_of_ble_eq_true rfl⟩
      | exact ⟨rfl⟩
      | exact ⟨trivial⟩
    all_goals subst_vars
    all_goals try first
      | rfl
      | contradiction
      | (refine Ob.mk ?_; simp only [inRQ, inR, Duty.of_p]; omega)
    all_goals first
      | exact ⟨show L.length ≤ 1000000 by omega⟩
      | exact ⟨show ([(u, v, w)] : List Lk).length ≤ 1000000 from Nat.le_of_ble_eq_true rfl⟩
      | exact ⟨show (withF N L [(u, v, w)]).1.2.length ≤ 1000000 by have := wi_len (N := N) (L := L) (M := [(u, v, w)]); simp only [List.length_cons, List.length_nil] at this; omega⟩
      | exact ⟨show (0 : Nat) < 1 by omega⟩
      | exact ⟨show 0 ≤ v ∧ v < ((tgF N L).1.length : Int) by omega⟩
      | exact ⟨show 0 + v.toNat < (tgF N L).1.length by omega⟩
      | exact ⟨show 0 ≤ u ∧ u < ((rwA (tgF N L).1 v).length : Int) by omega⟩
      | exact ⟨show 0 + u.toNat < (rwA (tgF N L).1 v).length by omega⟩
      | (refine Ob.mk ?_; show (inRQ .i64 (w + e2A (tgF N L).1 v u)).p; simp only [inRQ, inR, Duty.of_p]; omega)
      | trivial
  have g0 : (!(conF (withF N L [(u, v, w)]).1.1 (withF N L [(u, v, w)]).1.2).1) = false := by rw [f8, cc]; rfl
  have p0 : askF N (L ++ [(u, v, w)]) [] = 0 := ask_iff.2 ⟨d1, rfl, cc⟩
  have g1 : ((tgF (withF N L [(u, v, w)]).1.1 (withF N L [(u, v, w)]).1.2).2 != 0) = false := by rw [w0]; show ((tgF N (L ++ [(u, v, w)])).2 != 0) = false; rw [tgF1 (by rw [p0]; rfl)]; rfl
  have dl : (tgF (withF N L [(u, v, w)]).1.1 (withF N L [(u, v, w)]).1.2).1.length = N.toNat := by rw [w0]; exact tg_l p0
  have g2 : (((tgF (withF N L [(u, v, w)]).1.1 (withF N L [(u, v, w)]).1.2).1.length : Int) != N) = false := by rw [dl, ← hN]; simp
  repeat' ((conv => whnf); (first | apply And.intro | (intro h9; first | (have h8 : (_ : Bool) = false := h9; exfalso; clear h8; revert h9; subst_vars; intro h9; exact ft_no (h9.symm.trans (by assumption))) | (have h8 : (_ : Bool) = true := h9; exfalso; clear h8; revert h9; subst_vars; intro h9; exact tf_no (h9.symm.trans (by assumption))) | skip)))
  all_goals try (conv => whnf)
  all_goals try first
    | exact LexB.mk (by kernel_rfl)
    | exact LexG.mk (by kernel_rfl)
    | exact LexT.mk (by kernel_rfl)
    | exact Forced.mk (by kernel_rfl)
    | exact LexP.mk (by kernel_rfl)
    | exact ForcedP.mk (by kernel_rfl)
    | exact ⟨Nat.le_of_ble_eq_true rfl⟩
    | exact ⟨rfl⟩
    | exact ⟨trivial⟩
  all_goals subst_vars
  all_goals try first
    | rfl
    | contradiction
    | (refine Ob.mk ?_; simp only [inRQ, inR, Duty.of_p]; omega)
  all_goals try first
    | exact ⟨show L.length ≤ 1000000 by omega⟩
    | exact ⟨show ([(u, v, w)] : List Lk).length ≤ 1000000 from Nat.le_of_ble_eq_true rfl⟩
    | exact ⟨show (withF N L [(u, v, w)]).1.2.length ≤ 1000000 by have := wi_len (N := N) (L := L) (M := [(u, v, w)]); simp only [List.length_cons, List.length_nil] at this; omega⟩
    | exact ⟨show (0 : Nat) < 1 by omega⟩
    | exact ⟨show 0 ≤ v ∧ v < ((tgF N L).1.length : Int) by omega⟩
    | exact ⟨show 0 + v.toNat < (tgF N L).1.length by omega⟩
    | exact ⟨show 0 ≤ u ∧ u < ((rwA (tgF N L).1 v).length : Int) by omega⟩
    | exact ⟨show 0 + u.toNat < (rwA (tgF N L).1 v).length by omega⟩
    | (refine Ob.mk ?_; show (inRQ .i64 (w + e2A (tgF N L).1 v u)).p; simp only [inRQ, inR, Duty.of_p]; omega)
    | trivial
  refine ⟨Unit, fun _ => True, fun _ => ⟨slotsT 243 [2, 3, 4, 5, 9, 11, 15, 16] [.a (vI a), .a (vI b), .a (.p 1 [] 0 0), .a (.p 2 [] 0 0), .a (.sl 3 [] 0 (tgF N L).1.length), .a (.p 5 [] 0 0), .a (vI (e2A (tgF N L).1 v u)), .a (.sl 6 [] 0 (tgF (withF N L [(u, v, w)]).1.1 (withF N L [(u, v, w)]).1.2).1.length)], [], [.arr 44 kL L false false, .box true [vI N, .sl 0 [] 0 L.length], .box true [vI u, vI v, vI w], .arr 32 kT (tgF N L).1 true true, .arr 44 kL (withF N L [(u, v, w)]).1.2 true true, .box true [vI (withF N L [(u, v, w)]).1.1, .sl 4 [] 0 (withF N L [(u, v, w)]).1.2.length], .arr 32 kT (tgF (withF N L [(u, v, w)]).1.1 (withF N L [(u, v, w)]).1.2).1 true true]⟩, ?_, fun _ _ => ?_⟩
  · repeat' ((conv => whnf); (first | apply And.intro | (intro h9; first | (have h8 : (_ : Bool) = false := h9; exfalso; clear h8; revert h9; subst_vars; intro h9; exact ft_no (h9.symm.trans (by assumption))) | (have h8 : (_ : Bool) = true := h9; exfalso; clear h8; revert h9; subst_vars; intro h9; exact tf_no (h9.symm.trans (by assumption))) | skip)))
    all_goals try (conv => whnf)
    all_goals try first
      | exact LexB.mk (by kernel_rfl)
      | exact LexG.mk (by kernel_rfl)
      | exact LexT.mk (by kernel_rfl)
      | exact Forced.mk (by kernel_rfl)
      | exact LexP.mk (by kernel_rfl)
      | exact ForcedP.mk (by kernel_rfl)
      | exact ⟨Nat.le_of_ble_eq_true rfl⟩
      | exact ⟨rfl⟩
      | exact ⟨trivial⟩
    all_goals subst_vars
    all_goals try first
      | rfl
      | contradiction
      | (refine Ob.mk ?_; simp only [inRQ, inR, Duty.of_p]; omega)
    all_goals try first
      | exact ⟨show L.length ≤ 1000000 by omega⟩
      | exact ⟨show ([(u, v, w)] : List Lk).length ≤ 1000000 from Nat.le_of_ble_eq_true rfl⟩
      | exact ⟨show (withF N L [(u, v, w)]).1.2.length ≤ 1000000 by have := wi_len (N := N) (L := L) (M := [(u, v, w)]); simp only [List.length_cons, List.length_nil] at this; omega⟩
      | exact ⟨show (0 : Nat) < 1 by omega⟩
      | exact ⟨show 0 ≤ v ∧ v < ((tgF N L).1.length : Int) by omega⟩
      | exact ⟨show 0 + v.toNat < (tgF N L).1.length by omega⟩
      | exact ⟨show 0 ≤ u ∧ u < ((rwA (tgF N L).1 v).length : Int) by omega⟩
      | exact ⟨show 0 + u.toNat < (rwA (tgF N L).1 v).length by omega⟩
      | (refine Ob.mk ?_; show (inRQ .i64 (w + e2A (tgF N L).1 v u)).p; simp only [inRQ, inR, Duty.of_p]; omega)
      | trivial
    all_goals
      exact ⟨(), [], trivial, by
        repeat' ((conv => whnf); (first | apply And.intro | intro _))
        all_goals first | rfl | trivial | exact Nat.le_of_ble_eq_true rfl | exact ⟨rfl, rfl, rfl⟩ | exact ⟨rfl, rfl, rfl, rfl⟩ | exact ⟨rfl, rfl⟩⟩
  have key2 : (e2A (tgF N L).1 v u == 1152921504606846976) = true ∧ (!((conF (withF N L [(u, v, w)]).1.1 (withF N L [(u, v, w)]).1.2).1 == true)) = false ∨ (e2A (tgF N L).1 v u == 1152921504606846976) = false ∧ (!((conF (withF N L [(u, v, w)]).1.1 (withF N L [(u, v, w)]).1.2).1 == decide (w + e2A (tgF N L).1 v u ≥ 0))) = false := by
    rcases key with ⟨k1, k2, _⟩ | k
    · exact .inl ⟨k1, k2⟩
    · exact .inr k
  by_cases r1 : decide (a < 0) = true
  · repeat' ((conv => whnf); (first | apply And.intro | (intro h9; first | (have h8 : (_ : Bool) = false := h9; exfalso; clear h8; revert h9; subst_vars; intro h9; exact ft_no (h9.symm.trans (by assumption))) | (have h8 : (_ : Bool) = true := h9; exfalso; clear h8; revert h9; subst_vars; intro h9; exact tf_no (h9.symm.trans (by assumption))) | skip)))
    all_goals try (conv => whnf)
    all_goals try first
      | exact LexB.mk (by kernel_rfl)
      | exact LexG.mk (by kernel_rfl)
      | exact LexT.mk (by kernel_rfl)
      | exact Forced.mk (by kernel_rfl)
      | exact LexP.mk (by kernel_rfl)
      | exact ForcedP.mk (by kernel_rfl)
      | exact ⟨Nat.le_of_ble_eq_true rfl⟩
      | exact ⟨rfl⟩
      | exact ⟨trivial⟩
    all_goals subst_vars
    all_goals try first
      | rfl
      | contradiction
      | (refine Ob.mk ?_; simp only [inRQ, inR, Duty.of_p]; omega)
    all_goals first
      | exact ⟨show L.length ≤ 1000000 by omega⟩
      | exact ⟨show ([(u, v, w)] : List Lk).length ≤ 1000000 from Nat.le_of_ble_eq_true rfl⟩
      | exact ⟨show (withF N L [(u, v, w)]).1.2.length ≤ 1000000 by have := wi_len (N := N) (L := L) (M := [(u, v, w)]); simp only [List.length_cons, List.length_nil] at this; omega⟩
      | exact ⟨show (0 : Nat) < 1 by omega⟩
      | exact ⟨show 0 ≤ v ∧ v < ((tgF N L).1.length : Int) by omega⟩
      | exact ⟨show 0 + v.toNat < (tgF N L).1.length by omega⟩
      | exact ⟨show 0 ≤ u ∧ u < ((rwA (tgF N L).1 v).length : Int) by omega⟩
      | exact ⟨show 0 + u.toNat < (rwA (tgF N L).1 v).length by omega⟩
      | (refine Ob.mk ?_; show (inRQ .i64 (w + e2A (tgF N L).1 v u)).p; simp only [inRQ, inR, Duty.of_p]; omega)
      | trivial
  replace r1 : decide (a < 0) = false := by simpa using r1
  by_cases r2 : decide (a ≥ N) = true
  · repeat' ((conv => whnf); (first | apply And.intro | (intro h9; first | (have h8 : (_ : Bool) = false := h9; exfalso; clear h8; revert h9; subst_vars; intro h9; exact ft_no (h9.symm.trans (by assumption))) | (have h8 : (_ : Bool) = true := h9; exfalso; clear h8; revert h9; subst_vars; intro h9; exact tf_no (h9.symm.trans (by assumption))) | skip)))
    all_goals try (conv => whnf)
    all_goals try first
      | exact LexB.mk (by kernel_rfl)
      | exact LexG.mk (by kernel_rfl)
      | exact LexT.mk (by kernel_rfl)
      | exact Forced.mk (by kernel_rfl)
      | exact LexP.mk (by kernel_rfl)
      | exact ForcedP.mk (by kernel_rfl)
      | exact ⟨Nat.le_of_ble_eq_true rfl⟩
      | exact ⟨rfl⟩
      | exact ⟨trivial⟩
    all_goals subst_vars
    all_goals try first
      | rfl
      | contradiction
      | (refine Ob.mk ?_; simp only [inRQ, inR, Duty.of_p]; omega)
    all_goals first
      | exact ⟨show L.length ≤ 1000000 by omega⟩
      | exact ⟨show ([(u, v, w)] : List Lk).length ≤ 1000000 from Nat.le_of_ble_eq_true rfl⟩
      | exact ⟨show (withF N L [(u, v, w)]).1.2.length ≤ 1000000 by have := wi_len (N := N) (L := L) (M := [(u, v, w)]); simp only [List.length_cons, List.length_nil] at this; omega⟩
      | exact ⟨show (0 : Nat) < 1 by omega⟩
      | exact ⟨show 0 ≤ v ∧ v < ((tgF N L).1.length : Int) by omega⟩
      | exact ⟨show 0 + v.toNat < (tgF N L).1.length by omega⟩
      | exact ⟨show 0 ≤ u ∧ u < ((rwA (tgF N L).1 v).length : Int) by omega⟩
      | exact ⟨show 0 + u.toNat < (rwA (tgF N L).1 v).length by omega⟩
      | (refine Ob.mk ?_; show (inRQ .i64 (w + e2A (tgF N L).1 v u)).p; simp only [inRQ, inR, Duty.of_p]; omega)
      | trivial
  replace r2 : decide (a ≥ N) = false := by simpa using r2
  by_cases r3 : decide (b < 0) = true
  · repeat' ((conv => whnf); (first | apply And.intro | (intro h9; first | (have h8 : (_ : Bool) = false := h9; exfalso; clear h8; revert h9; subst_vars; intro h9; exact ft_no (h9.symm.trans (by assumption))) | (have h8 : (_ : Bool) = true := h9; exfalso; clear h8; revert h9; subst_vars; intro h9; exact tf_no (h9.symm.trans (by assumption))) | skip)))
    all_goals try (conv => whnf)
    all_goals try first
      | exact LexB.mk (by kernel_rfl)
      | exact LexG.mk (by kernel_rfl)
      | exact LexT.mk (by kernel_rfl)
      | exact Forced.mk (by kernel_rfl)
      | exact LexP.mk (by kernel_rfl)
      | exact ForcedP.mk (by kernel_rfl)
      | exact ⟨Nat.le_of_ble_eq_true rfl⟩
      | exact ⟨rfl⟩
      | exact ⟨trivial⟩
    all_goals subst_vars
    all_goals try first
      | rfl
      | contradiction
      | (refine Ob.mk ?_; simp only [inRQ, inR, Duty.of_p]; omega)
    all_goals first
      | exact ⟨show L.length ≤ 1000000 by omega⟩
      | exact ⟨show ([(u, v, w)] : List Lk).length ≤ 1000000 from Nat.le_of_ble_eq_true rfl⟩
      | exact ⟨show (withF N L [(u, v, w)]).1.2.length ≤ 1000000 by have := wi_len (N := N) (L := L) (M := [(u, v, w)]); simp only [List.length_cons, List.length_nil] at this; omega⟩
      | exact ⟨show (0 : Nat) < 1 by omega⟩
      | exact ⟨show 0 ≤ v ∧ v < ((tgF N L).1.length : Int) by omega⟩
      | exact ⟨show 0 + v.toNat < (tgF N L).1.length by omega⟩
      | exact ⟨show 0 ≤ u ∧ u < ((rwA (tgF N L).1 v).length : Int) by omega⟩
      | exact ⟨show 0 + u.toNat < (rwA (tgF N L).1 v).length by omega⟩
      | (refine Ob.mk ?_; show (inRQ .i64 (w + e2A (tgF N L).1 v u)).p; simp only [inRQ, inR, Duty.of_p]; omega)
      | trivial
  replace r3 : decide (b < 0) = false := by simpa using r3
  by_cases r4 : decide (b ≥ N) = true
  · repeat' ((conv => whnf); (first | apply And.intro | (intro h9; first | (have h8 : (_ : Bool) = false := h9; exfalso; clear h8; revert h9; subst_vars; intro h9; exact ft_no (h9.symm.trans (by assumption))) | (have h8 : (_ : Bool) = true := h9; exfalso; clear h8; revert h9; subst_vars; intro h9; exact tf_no (h9.symm.trans (by assumption))) | skip)))
    all_goals try (conv => whnf)
    all_goals try first
      | exact LexB.mk (by kernel_rfl)
      | exact LexG.mk (by kernel_rfl)
      | exact LexT.mk (by kernel_rfl)
      | exact Forced.mk (by kernel_rfl)
      | exact LexP.mk (by kernel_rfl)
      | exact ForcedP.mk (by kernel_rfl)
      | exact ⟨Nat.le_of_ble_eq_true rfl⟩
      | exact ⟨rfl⟩
      | exact ⟨trivial⟩
    all_goals subst_vars
    all_goals try first
      | rfl
      | contradiction
      | (refine Ob.mk ?_; simp only [inRQ, inR, Duty.of_p]; omega)
    all_goals first
      | exact ⟨show L.length ≤ 1000000 by omega⟩
      | exact ⟨show ([(u, v, w)] : List Lk).length ≤ 1000000 from Nat.le_of_ble_eq_true rfl⟩
      | exact ⟨show (withF N L [(u, v, w)]).1.2.length ≤ 1000000 by have := wi_len (N := N) (L := L) (M := [(u, v, w)]); simp only [List.length_cons, List.length_nil] at this; omega⟩
      | exact ⟨show (0 : Nat) < 1 by omega⟩
      | exact ⟨show 0 ≤ v ∧ v < ((tgF N L).1.length : Int) by omega⟩
      | exact ⟨show 0 + v.toNat < (tgF N L).1.length by omega⟩
      | exact ⟨show 0 ≤ u ∧ u < ((rwA (tgF N L).1 v).length : Int) by omega⟩
      | exact ⟨show 0 + u.toNat < (rwA (tgF N L).1 v).length by omega⟩
      | (refine Ob.mk ?_; show (inRQ .i64 (w + e2A (tgF N L).1 v u)).p; simp only [inRQ, inR, Duty.of_p]; omega)
      | trivial
  replace r4 : decide (b ≥ N) = false := by simpa using r4
  have a1 := of_decide_eq_false r1
  have a2 := of_decide_eq_false r2
  have a3 := of_decide_eq_false r3
  have a4 := of_decide_eq_false r4
  have na : inN N.toNat a := ⟨by omega, by omega⟩
  have nb : inN N.toNat b := ⟨by omega, by omega⟩
  have ta := tg_r q0 na
  have da : (rwA (tgF (withF N L [(u, v, w)]).1.1 (withF N L [(u, v, w)]).1.2).1 a).length = N.toNat := by rw [w0]; exact tg_r p0 na
  have eab := tg_e q0 na nb
  have eau := tg_e q0 na nu
  have evb := tg_e q0 nv nb
  have dab : e2A (tgF (withF N L [(u, v, w)]).1.1 (withF N L [(u, v, w)]).1.2).1 a b = dB N (L ++ [(u, v, w)]) a b := by rw [w0]; exact tg_e p0 na nb
  have md := more_d ha hb hn cc na nb
  replace md : dB N (L ++ [(u, v, w)]) a b = if dB N L a u ≠ Fr ∧ dB N L v b ≠ Fr then min (dB N L a b) (dB N L a u + w + dB N L v b) else dB N L a b := md
  rw [← eab, ← eau, ← evb, ← dab] at md
  have mb := more_back ha hb hn cc
  replace mb : dB N (L ++ [(u, v, w)]) v u = dB N L v u := mb
  have R1 := dB_rng ha c3 na nu
  have R2 := dB_rng ha c3 nv nb
  rw [← eau] at R1
  rw [← evb] at R2
  have sk : slkF (withF N L [(u, v, w)]).1.1 (withF N L [(u, v, w)]).1.2 (L.length : Int) = if e2A (tgF N L).1 v u = 1152921504606846976 then (0, 5) else (w + e2A (tgF N L).1 v u, 0) := by
    rw [w0, bE, ← mb]
    show slkF N (L ++ [(u, v, w)]) (L.length : Int) = _
    have n1 : ¬ ((L.length : Int) < 0 ∨ ((L ++ [(u, v, w)]).length : Int) ≤ (L.length : Int)) := by simp; omega
    have ll := lk_last (L := L) (l := (u, v, w))
    have h9 : ((checkF N (L ++ [(u, v, w)])).1 != 0) = false := by rw [d1]; rfl
    cases k : (dB N (L ++ [(u, v, w)]) v u == 1152921504606846976)
    · have k5 : ¬ dB N (L ++ [(u, v, w)]) v u = 1152921504606846976 := by simpa using k
      rw [if_neg k5, sl4 h9 n1 cc (by rw [ll]; exact k), ll]
    · have k5 : dB N (L ++ [(u, v, w)]) v u = 1152921504606846976 := by simpa using k
      rw [if_pos k5, sl3 h9 n1 cc (by rw [ll]; exact k)]
  have sl : (((e2A (tgF N L).1 v u == 1152921504606846976) = true ∧ (!((conF (withF N L [(u, v, w)]).1.1 (withF N L [(u, v, w)]).1.2).1 == true)) = false) ∧ ((slkF (withF N L [(u, v, w)]).1.1 (withF N L [(u, v, w)]).1.2 (L.length : Int)).2 == 0) = false ∧ ((slkF (withF N L [(u, v, w)]).1.1 (withF N L [(u, v, w)]).1.2 (L.length : Int)).2 == 5) = true ∧ (e2A (tgF N L).1 v u != 1152921504606846976) = false) ∨ (((e2A (tgF N L).1 v u == 1152921504606846976) = false ∧ (!((conF (withF N L [(u, v, w)]).1.1 (withF N L [(u, v, w)]).1.2).1 == decide (w + e2A (tgF N L).1 v u ≥ 0))) = false) ∧ ((slkF (withF N L [(u, v, w)]).1.1 (withF N L [(u, v, w)]).1.2 (L.length : Int)).2 == 0) = true ∧ ((slkF (withF N L [(u, v, w)]).1.1 (withF N L [(u, v, w)]).1.2 (L.length : Int)).2 == 5) = false ∧ ((slkF (withF N L [(u, v, w)]).1.1 (withF N L [(u, v, w)]).1.2 (L.length : Int)).1 != w + e2A (tgF N L).1 v u) = false) := by
    rcases key2 with ⟨k1, k2⟩ | ⟨k1, k2⟩
    · have k5 : e2A (tgF N L).1 v u = 1152921504606846976 := by simpa using k1
      rw [if_pos k5] at sk
      exact .inl ⟨⟨k1, k2⟩, by rw [sk]; rfl, by rw [sk]; rfl, by rw [k5]; rfl⟩
    · have k5 : ¬ e2A (tgF N L).1 v u = 1152921504606846976 := by simpa using k1
      rw [if_neg k5] at sk
      exact .inr ⟨⟨k1, k2⟩, by rw [sk]; rfl, by rw [sk]; rfl, by rw [sk]; simp⟩
  clear sk key key2 mc mb
  cases m1 : decide (e2A (tgF N L).1 a u < 1152921504606846976)
  · have hm1 := of_decide_eq_false m1
    have hm : ¬ (e2A (tgF N L).1 a u ≠ Fr ∧ e2A (tgF N L).1 v b ≠ Fr) := fun h => h.1 (by unfold Fr; omega)
    rw [if_neg hm] at md
    have z9 : (e2A (tgF (withF N L [(u, v, w)]).1.1 (withF N L [(u, v, w)]).1.2).1 a b == e2A (tgF N L).1 a b) = true := by rw [md]; simp
    rcases sl with ⟨⟨k1, k2⟩, s1, s2, s3⟩ | ⟨⟨k1, k2⟩, s1, s2, s3⟩
    · repeat' ((conv => whnf); (first | apply And.intro | (intro h9; first | (have h8 : (_ : Bool) = false := h9; exfalso; clear h8; revert h9; subst_vars; intro h9; exact ft_no (h9.symm.trans (by assumption))) | (have h8 : (_ : Bool) = true := h9; exfalso; clear h8; revert h9; subst_vars; intro h9; exact tf_no (h9.symm.trans (by assumption))) | skip)))
      all_goals try (conv => whnf)
      all_goals try first
        | exact LexB.mk (by kernel_rfl)
        | exact LexG.mk (by kernel_rfl)
        | exact LexT.mk (by kernel_rfl)
        | exact Forced.mk (by kernel_rfl)
        | exact LexP.mk (by kernel_rfl)
        | exact ForcedP.mk (by kernel_rfl)
        | exact ⟨Nat.le_of_ble_eq_true rfl⟩
        | exact ⟨rfl⟩
        | exact ⟨trivial⟩
      all_goals subst_vars
      all_goals try first
        | rfl
        | contradiction
        | (refine Ob.mk ?_; simp only [inRQ, inR, Duty.of_p]; omega)
      all_goals first
        | exact ⟨show L.length ≤ 1000000 by omega⟩
        | exact ⟨show ([(u, v, w)] : List Lk).length ≤ 1000000 from Nat.le_of_ble_eq_true rfl⟩
        | exact ⟨show (withF N L [(u, v, w)]).1.2.length ≤ 1000000 by have := wi_len (N := N) (L := L) (M := [(u, v, w)]); simp only [List.length_cons, List.length_nil] at this; omega⟩
        | exact ⟨show (0 : Nat) < 1 by omega⟩
        | exact ⟨show 0 ≤ v ∧ v < ((tgF N L).1.length : Int) by omega⟩
        | exact ⟨show 0 + v.toNat < (tgF N L).1.length by omega⟩
        | exact ⟨show 0 ≤ u ∧ u < ((rwA (tgF N L).1 v).length : Int) by omega⟩
        | exact ⟨show 0 + u.toNat < (rwA (tgF N L).1 v).length by omega⟩
        | (refine Ob.mk ?_; show (inRQ .i64 (w + e2A (tgF N L).1 v u)).p; simp only [inRQ, inR, Duty.of_p]; omega)
        | exact ⟨show 0 ≤ a ∧ a < ((tgF N L).1.length : Int) by omega⟩
        | exact ⟨show 0 + a.toNat < (tgF N L).1.length by omega⟩
        | exact ⟨show 0 ≤ b ∧ b < ((rwA (tgF N L).1 a).length : Int) by omega⟩
        | exact ⟨show 0 + b.toNat < (rwA (tgF N L).1 a).length by omega⟩
        | exact ⟨show 0 ≤ u ∧ u < ((rwA (tgF N L).1 a).length : Int) by omega⟩
        | exact ⟨show 0 + u.toNat < (rwA (tgF N L).1 a).length by omega⟩
        | exact ⟨show 0 ≤ b ∧ b < ((rwA (tgF N L).1 v).length : Int) by omega⟩
        | exact ⟨show 0 + b.toNat < (rwA (tgF N L).1 v).length by omega⟩
        | exact ⟨show 0 ≤ a ∧ a < ((tgF (withF N L [(u, v, w)]).1.1 (withF N L [(u, v, w)]).1.2).1.length : Int) by omega⟩
        | exact ⟨show 0 + a.toNat < (tgF (withF N L [(u, v, w)]).1.1 (withF N L [(u, v, w)]).1.2).1.length by omega⟩
        | exact ⟨show 0 ≤ b ∧ b < ((rwA (tgF (withF N L [(u, v, w)]).1.1 (withF N L [(u, v, w)]).1.2).1 a).length : Int) by omega⟩
        | exact ⟨show 0 + b.toNat < (rwA (tgF (withF N L [(u, v, w)]).1.1 (withF N L [(u, v, w)]).1.2).1 a).length by omega⟩
        | (refine Ob.mk ?_; show (inRQ .i64 (e2A (tgF N L).1 a u + w)).p; simp only [inRQ, inR, Duty.of_p]; omega)
        | (refine Ob.mk ?_; show (inRQ .i64 (e2A (tgF N L).1 a u + w + e2A (tgF N L).1 v b)).p; simp only [inRQ, inR, Duty.of_p]; omega)
        | exact z9
    · have bNF : e2A (tgF N L).1 v u ≠ 1152921504606846976 := by simpa using k1
      repeat' ((conv => whnf); (first | apply And.intro | (intro h9; first | (have h8 : (_ : Bool) = false := h9; exfalso; clear h8; revert h9; subst_vars; intro h9; exact ft_no (h9.symm.trans (by assumption))) | (have h8 : (_ : Bool) = true := h9; exfalso; clear h8; revert h9; subst_vars; intro h9; exact tf_no (h9.symm.trans (by assumption))) | skip)))
      all_goals try (conv => whnf)
      all_goals try first
        | exact LexB.mk (by kernel_rfl)
        | exact LexG.mk (by kernel_rfl)
        | exact LexT.mk (by kernel_rfl)
        | exact Forced.mk (by kernel_rfl)
        | exact LexP.mk (by kernel_rfl)
        | exact ForcedP.mk (by kernel_rfl)
        | exact ⟨Nat.le_of_ble_eq_true rfl⟩
        | exact ⟨rfl⟩
        | exact ⟨trivial⟩
      all_goals subst_vars
      all_goals try first
        | rfl
        | contradiction
        | (refine Ob.mk ?_; simp only [inRQ, inR, Duty.of_p]; omega)
      all_goals first
        | exact ⟨show L.length ≤ 1000000 by omega⟩
        | exact ⟨show ([(u, v, w)] : List Lk).length ≤ 1000000 from Nat.le_of_ble_eq_true rfl⟩
        | exact ⟨show (withF N L [(u, v, w)]).1.2.length ≤ 1000000 by have := wi_len (N := N) (L := L) (M := [(u, v, w)]); simp only [List.length_cons, List.length_nil] at this; omega⟩
        | exact ⟨show (0 : Nat) < 1 by omega⟩
        | exact ⟨show 0 ≤ v ∧ v < ((tgF N L).1.length : Int) by omega⟩
        | exact ⟨show 0 + v.toNat < (tgF N L).1.length by omega⟩
        | exact ⟨show 0 ≤ u ∧ u < ((rwA (tgF N L).1 v).length : Int) by omega⟩
        | exact ⟨show 0 + u.toNat < (rwA (tgF N L).1 v).length by omega⟩
        | (refine Ob.mk ?_; show (inRQ .i64 (w + e2A (tgF N L).1 v u)).p; simp only [inRQ, inR, Duty.of_p]; omega)
        | exact ⟨show 0 ≤ a ∧ a < ((tgF N L).1.length : Int) by omega⟩
        | exact ⟨show 0 + a.toNat < (tgF N L).1.length by omega⟩
        | exact ⟨show 0 ≤ b ∧ b < ((rwA (tgF N L).1 a).length : Int) by omega⟩
        | exact ⟨show 0 + b.toNat < (rwA (tgF N L).1 a).length by omega⟩
        | exact ⟨show 0 ≤ u ∧ u < ((rwA (tgF N L).1 a).length : Int) by omega⟩
        | exact ⟨show 0 + u.toNat < (rwA (tgF N L).1 a).length by omega⟩
        | exact ⟨show 0 ≤ b ∧ b < ((rwA (tgF N L).1 v).length : Int) by omega⟩
        | exact ⟨show 0 + b.toNat < (rwA (tgF N L).1 v).length by omega⟩
        | exact ⟨show 0 ≤ a ∧ a < ((tgF (withF N L [(u, v, w)]).1.1 (withF N L [(u, v, w)]).1.2).1.length : Int) by omega⟩
        | exact ⟨show 0 + a.toNat < (tgF (withF N L [(u, v, w)]).1.1 (withF N L [(u, v, w)]).1.2).1.length by omega⟩
        | exact ⟨show 0 ≤ b ∧ b < ((rwA (tgF (withF N L [(u, v, w)]).1.1 (withF N L [(u, v, w)]).1.2).1 a).length : Int) by omega⟩
        | exact ⟨show 0 + b.toNat < (rwA (tgF (withF N L [(u, v, w)]).1.1 (withF N L [(u, v, w)]).1.2).1 a).length by omega⟩
        | (refine Ob.mk ?_; show (inRQ .i64 (e2A (tgF N L).1 a u + w)).p; simp only [inRQ, inR, Duty.of_p]; omega)
        | (refine Ob.mk ?_; show (inRQ .i64 (e2A (tgF N L).1 a u + w + e2A (tgF N L).1 v b)).p; simp only [inRQ, inR, Duty.of_p]; omega)
        | exact z9
  · have hm1 := of_decide_eq_true m1
    cases m2 : decide (e2A (tgF N L).1 v b < 1152921504606846976)
    · have hm2 := of_decide_eq_false m2
      have hm : ¬ (e2A (tgF N L).1 a u ≠ Fr ∧ e2A (tgF N L).1 v b ≠ Fr) := fun h => h.2 (by unfold Fr; omega)
      rw [if_neg hm] at md
      have z9 : (e2A (tgF (withF N L [(u, v, w)]).1.1 (withF N L [(u, v, w)]).1.2).1 a b == e2A (tgF N L).1 a b) = true := by rw [md]; simp
      rcases sl with ⟨⟨k1, k2⟩, s1, s2, s3⟩ | ⟨⟨k1, k2⟩, s1, s2, s3⟩
      · repeat' ((conv => whnf); (first | apply And.intro | (intro h9; first | (have h8 : (_ : Bool) = false := h9; exfalso; clear h8; revert h9; subst_vars; intro h9; exact ft_no (h9.symm.trans (by assumption))) | (have h8 : (_ : Bool) = true := h9; exfalso; clear h8; revert h9; subst_vars; intro h9; exact tf_no (h9.symm.trans (by assumption))) | skip)))
        all_goals try (conv => whnf)
        all_goals try first
          | exact LexB.mk (by kernel_rfl)
          | exact LexG.mk (by kernel_rfl)
          | exact LexT.mk (by kernel_rfl)
          | exact Forced.mk (by kernel_rfl)
          | exact LexP.mk (by kernel_rfl)
          | exact ForcedP.mk (by kernel_rfl)
          | exact ⟨Nat.le_of_ble_eq_true rfl⟩
          | exact ⟨rfl⟩
          | exact ⟨trivial⟩
        all_goals subst_vars
        all_goals try first
          | rfl
          | contradiction
          | (refine Ob.mk ?_; simp only [inRQ, inR, Duty.of_p]; omega)
        all_goals first
          | exact ⟨show L.length ≤ 1000000 by omega⟩
          | exact ⟨show ([(u, v, w)] : List Lk).length ≤ 1000000 from Nat.le_of_ble_eq_true rfl⟩
          | exact ⟨show (withF N L [(u, v, w)]).1.2.length ≤ 1000000 by have := wi_len (N := N) (L := L) (M := [(u, v, w)]); simp only [List.length_cons, List.length_nil] at this; omega⟩
          | exact ⟨show (0 : Nat) < 1 by omega⟩
          | exact ⟨show 0 ≤ v ∧ v < ((tgF N L).1.length : Int) by omega⟩
          | exact ⟨show 0 + v.toNat < (tgF N L).1.length by omega⟩
          | exact ⟨show 0 ≤ u ∧ u < ((rwA (tgF N L).1 v).length : Int) by omega⟩
          | exact ⟨show 0 + u.toNat < (rwA (tgF N L).1 v).length by omega⟩
          | (refine Ob.mk ?_; show (inRQ .i64 (w + e2A (tgF N L).1 v u)).p; simp only [inRQ, inR, Duty.of_p]; omega)
          | exact ⟨show 0 ≤ a ∧ a < ((tgF N L).1.length : Int) by omega⟩
          | exact ⟨show 0 + a.toNat < (tgF N L).1.length by omega⟩
          | exact ⟨show 0 ≤ b ∧ b < ((rwA (tgF N L).1 a).length : Int) by omega⟩
          | exact ⟨show 0 + b.toNat < (rwA (tgF N L).1 a).length by omega⟩
          | exact ⟨show 0 ≤ u ∧ u < ((rwA (tgF N L).1 a).length : Int) by omega⟩
          | exact ⟨show 0 + u.toNat < (rwA (tgF N L).1 a).length by omega⟩
          | exact ⟨show 0 ≤ b ∧ b < ((rwA (tgF N L).1 v).length : Int) by omega⟩
          | exact ⟨show 0 + b.toNat < (rwA (tgF N L).1 v).length by omega⟩
          | exact ⟨show 0 ≤ a ∧ a < ((tgF (withF N L [(u, v, w)]).1.1 (withF N L [(u, v, w)]).1.2).1.length : Int) by omega⟩
          | exact ⟨show 0 + a.toNat < (tgF (withF N L [(u, v, w)]).1.1 (withF N L [(u, v, w)]).1.2).1.length by omega⟩
          | exact ⟨show 0 ≤ b ∧ b < ((rwA (tgF (withF N L [(u, v, w)]).1.1 (withF N L [(u, v, w)]).1.2).1 a).length : Int) by omega⟩
          | exact ⟨show 0 + b.toNat < (rwA (tgF (withF N L [(u, v, w)]).1.1 (withF N L [(u, v, w)]).1.2).1 a).length by omega⟩
          | (refine Ob.mk ?_; show (inRQ .i64 (e2A (tgF N L).1 a u + w)).p; simp only [inRQ, inR, Duty.of_p]; omega)
          | (refine Ob.mk ?_; show (inRQ .i64 (e2A (tgF N L).1 a u + w + e2A (tgF N L).1 v b)).p; simp only [inRQ, inR, Duty.of_p]; omega)
          | exact z9
      · have bNF : e2A (tgF N L).1 v u ≠ 1152921504606846976 := by simpa using k1
        repeat' ((conv => whnf); (first | apply And.intro | (intro h9; first | (have h8 : (_ : Bool) = false := h9; exfalso; clear h8; revert h9; subst_vars; intro h9; exact ft_no (h9.symm.trans (by assumption))) | (have h8 : (_ : Bool) = true := h9; exfalso; clear h8; revert h9; subst_vars; intro h9; exact tf_no (h9.symm.trans (by assumption))) | skip)))
        all_goals try (conv => whnf)
        all_goals try first
          | exact LexB.mk (by kernel_rfl)
          | exact LexG.mk (by kernel_rfl)
          | exact LexT.mk (by kernel_rfl)
          | exact Forced.mk (by kernel_rfl)
          | exact LexP.mk (by kernel_rfl)
          | exact ForcedP.mk (by kernel_rfl)
          | exact ⟨Nat.le_of_ble_eq_true rfl⟩
          | exact ⟨rfl⟩
          | exact ⟨trivial⟩
        all_goals subst_vars
        all_goals try first
          | rfl
          | contradiction
          | (refine Ob.mk ?_; simp only [inRQ, inR, Duty.of_p]; omega)
        all_goals first
          | exact ⟨show L.length ≤ 1000000 by omega⟩
          | exact ⟨show ([(u, v, w)] : List Lk).length ≤ 1000000 from Nat.le_of_ble_eq_true rfl⟩
          | exact ⟨show (withF N L [(u, v, w)]).1.2.length ≤ 1000000 by have := wi_len (N := N) (L := L) (M := [(u, v, w)]); simp only [List.length_cons, List.length_nil] at this; omega⟩
          | exact ⟨show (0 : Nat) < 1 by omega⟩
          | exact ⟨show 0 ≤ v ∧ v < ((tgF N L).1.length : Int) by omega⟩
          | exact ⟨show 0 + v.toNat < (tgF N L).1.length by omega⟩
          | exact ⟨show 0 ≤ u ∧ u < ((rwA (tgF N L).1 v).length : Int) by omega⟩
          | exact ⟨show 0 + u.toNat < (rwA (tgF N L).1 v).length by omega⟩
          | (refine Ob.mk ?_; show (inRQ .i64 (w + e2A (tgF N L).1 v u)).p; simp only [inRQ, inR, Duty.of_p]; omega)
          | exact ⟨show 0 ≤ a ∧ a < ((tgF N L).1.length : Int) by omega⟩
          | exact ⟨show 0 + a.toNat < (tgF N L).1.length by omega⟩
          | exact ⟨show 0 ≤ b ∧ b < ((rwA (tgF N L).1 a).length : Int) by omega⟩
          | exact ⟨show 0 + b.toNat < (rwA (tgF N L).1 a).length by omega⟩
          | exact ⟨show 0 ≤ u ∧ u < ((rwA (tgF N L).1 a).length : Int) by omega⟩
          | exact ⟨show 0 + u.toNat < (rwA (tgF N L).1 a).length by omega⟩
          | exact ⟨show 0 ≤ b ∧ b < ((rwA (tgF N L).1 v).length : Int) by omega⟩
          | exact ⟨show 0 + b.toNat < (rwA (tgF N L).1 v).length by omega⟩
          | exact ⟨show 0 ≤ a ∧ a < ((tgF (withF N L [(u, v, w)]).1.1 (withF N L [(u, v, w)]).1.2).1.length : Int) by omega⟩
          | exact ⟨show 0 + a.toNat < (tgF (withF N L [(u, v, w)]).1.1 (withF N L [(u, v, w)]).1.2).1.length by omega⟩
          | exact ⟨show 0 ≤ b ∧ b < ((rwA (tgF (withF N L [(u, v, w)]).1.1 (withF N L [(u, v, w)]).1.2).1 a).length : Int) by omega⟩
          | exact ⟨show 0 + b.toNat < (rwA (tgF (withF N L [(u, v, w)]).1.1 (withF N L [(u, v, w)]).1.2).1 a).length by omega⟩
          | (refine Ob.mk ?_; show (inRQ .i64 (e2A (tgF N L).1 a u + w)).p; simp only [inRQ, inR, Duty.of_p]; omega)
          | (refine Ob.mk ?_; show (inRQ .i64 (e2A (tgF N L).1 a u + w + e2A (tgF N L).1 v b)).p; simp only [inRQ, inR, Duty.of_p]; omega)
          | exact z9
    · have hm2 := of_decide_eq_true m2
      have hm : e2A (tgF N L).1 a u ≠ Fr ∧ e2A (tgF N L).1 v b ≠ Fr := ⟨by unfold Fr; omega, by unfold Fr; omega⟩
      rw [if_pos hm] at md
      have em : ∀ x y : Int, min x y = if y < x then y else x := fun x y => by split <;> omega
      have z9 : (e2A (tgF (withF N L [(u, v, w)]).1.1 (withF N L [(u, v, w)]).1.2).1 a b == if e2A (tgF N L).1 a u + w + e2A (tgF N L).1 v b < e2A (tgF N L).1 a b then e2A (tgF N L).1 a u + w + e2A (tgF N L).1 v b else e2A (tgF N L).1 a b) = true := by rw [md, em]; simp
      rcases sl with ⟨⟨k1, k2⟩, s1, s2, s3⟩ | ⟨⟨k1, k2⟩, s1, s2, s3⟩
      · repeat' ((conv => whnf); (first | apply And.intro | (intro h9; first | (have h8 : (_ : Bool) = false := h9; exfalso; clear h8; revert h9; subst_vars; intro h9; exact ft_no (h9.symm.trans (by assumption))) | (have h8 : (_ : Bool) = true := h9; exfalso; clear h8; revert h9; subst_vars; intro h9; exact tf_no (h9.symm.trans (by assumption))) | skip)))
        all_goals try (conv => whnf)
        all_goals try first
          | exact LexB.mk (by kernel_rfl)
          | exact LexG.mk (by kernel_rfl)
          | exact LexT.mk (by kernel_rfl)
          | exact Forced.mk (by kernel_rfl)
          | exact LexP.mk (by kernel_rfl)
          | exact ForcedP.mk (by kernel_rfl)
          | exact ⟨Nat.le_of_ble_eq_true rfl⟩
          | exact ⟨rfl⟩
          | exact ⟨trivial⟩
        all_goals subst_vars
        all_goals try first
          | rfl
          | contradiction
          | (refine Ob.mk ?_; simp only [inRQ, inR, Duty.of_p]; omega)
        all_goals first
          | exact ⟨show L.length ≤ 1000000 by omega⟩
          | exact ⟨show ([(u, v, w)] : List Lk).length ≤ 1000000 from Nat.le_of_ble_eq_true rfl⟩
          | exact ⟨show (withF N L [(u, v, w)]).1.2.length ≤ 1000000 by have := wi_len (N := N) (L := L) (M := [(u, v, w)]); simp only [List.length_cons, List.length_nil] at this; omega⟩
          | exact ⟨show (0 : Nat) < 1 by omega⟩
          | exact ⟨show 0 ≤ v ∧ v < ((tgF N L).1.length : Int) by omega⟩
          | exact ⟨show 0 + v.toNat < (tgF N L).1.length by omega⟩
          | exact ⟨show 0 ≤ u ∧ u < ((rwA (tgF N L).1 v).length : Int) by omega⟩
          | exact ⟨show 0 + u.toNat < (rwA (tgF N L).1 v).length by omega⟩
          | (refine Ob.mk ?_; show (inRQ .i64 (w + e2A (tgF N L).1 v u)).p; simp only [inRQ, inR, Duty.of_p]; omega)
          | exact ⟨show 0 ≤ a ∧ a < ((tgF N L).1.length : Int) by omega⟩
          | exact ⟨show 0 + a.toNat < (tgF N L).1.length by omega⟩
          | exact ⟨show 0 ≤ b ∧ b < ((rwA (tgF N L).1 a).length : Int) by omega⟩
          | exact ⟨show 0 + b.toNat < (rwA (tgF N L).1 a).length by omega⟩
          | exact ⟨show 0 ≤ u ∧ u < ((rwA (tgF N L).1 a).length : Int) by omega⟩
          | exact ⟨show 0 + u.toNat < (rwA (tgF N L).1 a).length by omega⟩
          | exact ⟨show 0 ≤ b ∧ b < ((rwA (tgF N L).1 v).length : Int) by omega⟩
          | exact ⟨show 0 + b.toNat < (rwA (tgF N L).1 v).length by omega⟩
          | exact ⟨show 0 ≤ a ∧ a < ((tgF (withF N L [(u, v, w)]).1.1 (withF N L [(u, v, w)]).1.2).1.length : Int) by omega⟩
          | exact ⟨show 0 + a.toNat < (tgF (withF N L [(u, v, w)]).1.1 (withF N L [(u, v, w)]).1.2).1.length by omega⟩
          | exact ⟨show 0 ≤ b ∧ b < ((rwA (tgF (withF N L [(u, v, w)]).1.1 (withF N L [(u, v, w)]).1.2).1 a).length : Int) by omega⟩
          | exact ⟨show 0 + b.toNat < (rwA (tgF (withF N L [(u, v, w)]).1.1 (withF N L [(u, v, w)]).1.2).1 a).length by omega⟩
          | (refine Ob.mk ?_; show (inRQ .i64 (e2A (tgF N L).1 a u + w)).p; simp only [inRQ, inR, Duty.of_p]; omega)
          | (refine Ob.mk ?_; show (inRQ .i64 (e2A (tgF N L).1 a u + w + e2A (tgF N L).1 v b)).p; simp only [inRQ, inR, Duty.of_p]; omega)
          | exact z9
      · have bNF : e2A (tgF N L).1 v u ≠ 1152921504606846976 := by simpa using k1
        repeat' ((conv => whnf); (first | apply And.intro | (intro h9; first | (have h8 : (_ : Bool) = false := h9; exfalso; clear h8; revert h9; subst_vars; intro h9; exact ft_no (h9.symm.trans (by assumption))) | (have h8 : (_ : Bool) = true := h9; exfalso; clear h8; revert h9; subst_vars; intro h9; exact tf_no (h9.symm.trans (by assumption))) | skip)))
        all_goals try (conv => whnf)
        all_goals try first
          | exact LexB.mk (by kernel_rfl)
          | exact LexG.mk (by kernel_rfl)
          | exact LexT.mk (by kernel_rfl)
          | exact Forced.mk (by kernel_rfl)
          | exact LexP.mk (by kernel_rfl)
          | exact ForcedP.mk (by kernel_rfl)
          | exact ⟨Nat.le_of_ble_eq_true rfl⟩
          | exact ⟨rfl⟩
          | exact ⟨trivial⟩
        all_goals subst_vars
        all_goals try first
          | rfl
          | contradiction
          | (refine Ob.mk ?_; simp only [inRQ, inR, Duty.of_p]; omega)
        all_goals first
          | exact ⟨show L.length ≤ 1000000 by omega⟩
          | exact ⟨show ([(u, v, w)] : List Lk).length ≤ 1000000 from Nat.le_of_ble_eq_true rfl⟩
          | exact ⟨show (withF N L [(u, v, w)]).1.2.length ≤ 1000000 by have := wi_len (N := N) (L := L) (M := [(u, v, w)]); simp only [List.length_cons, List.length_nil] at this; omega⟩
          | exact ⟨show (0 : Nat) < 1 by omega⟩
          | exact ⟨show 0 ≤ v ∧ v < ((tgF N L).1.length : Int) by omega⟩
          | exact ⟨show 0 + v.toNat < (tgF N L).1.length by omega⟩
          | exact ⟨show 0 ≤ u ∧ u < ((rwA (tgF N L).1 v).length : Int) by omega⟩
          | exact ⟨show 0 + u.toNat < (rwA (tgF N L).1 v).length by omega⟩
          | (refine Ob.mk ?_; show (inRQ .i64 (w + e2A (tgF N L).1 v u)).p; simp only [inRQ, inR, Duty.of_p]; omega)
          | exact ⟨show 0 ≤ a ∧ a < ((tgF N L).1.length : Int) by omega⟩
          | exact ⟨show 0 + a.toNat < (tgF N L).1.length by omega⟩
          | exact ⟨show 0 ≤ b ∧ b < ((rwA (tgF N L).1 a).length : Int) by omega⟩
          | exact ⟨show 0 + b.toNat < (rwA (tgF N L).1 a).length by omega⟩
          | exact ⟨show 0 ≤ u ∧ u < ((rwA (tgF N L).1 a).length : Int) by omega⟩
          | exact ⟨show 0 + u.toNat < (rwA (tgF N L).1 a).length by omega⟩
          | exact ⟨show 0 ≤ b ∧ b < ((rwA (tgF N L).1 v).length : Int) by omega⟩
          | exact ⟨show 0 + b.toNat < (rwA (tgF N L).1 v).length by omega⟩
          | exact ⟨show 0 ≤ a ∧ a < ((tgF (withF N L [(u, v, w)]).1.1 (withF N L [(u, v, w)]).1.2).1.length : Int) by omega⟩
          | exact ⟨show 0 + a.toNat < (tgF (withF N L [(u, v, w)]).1.1 (withF N L [(u, v, w)]).1.2).1.length by omega⟩
          | exact ⟨show 0 ≤ b ∧ b < ((rwA (tgF (withF N L [(u, v, w)]).1.1 (withF N L [(u, v, w)]).1.2).1 a).length : Int) by omega⟩
          | exact ⟨show 0 + b.toNat < (rwA (tgF (withF N L [(u, v, w)]).1.1 (withF N L [(u, v, w)]).1.2).1 a).length by omega⟩
          | (refine Ob.mk ?_; show (inRQ .i64 (e2A (tgF N L).1 a u + w)).p; simp only [inRQ, inR, Duty.of_p]; omega)
          | (refine Ob.mk ?_; show (inRQ .i64 (e2A (tgF N L).1 a u + w + e2A (tgF N L).1 v b)).p; simp only [inRQ, inR, Duty.of_p]; omega)
          | exact z9
)
end Go.Proofs.Ytlmhkeoblgodiaa
end
