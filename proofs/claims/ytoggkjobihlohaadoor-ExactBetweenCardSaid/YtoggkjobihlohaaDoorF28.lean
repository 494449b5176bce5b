/-
  Chapter 1: ends, Sum, Scale, as.
-/
import Derived.Test.YtoggkjobihlohaaDoorP9
namespace Go.Proofs.YtoggkjobihlohaaDoor
open Go Go.Sx
set_option maxRecDepth 100000
variable {Γ : Glob}

def tup3 (p : Int × Int × Int) : Tm := .tup [.agg [vI p.1, vI p.2.1], .a (vI p.2.2)]
def c101 : Ctr := .fn fun args rg => match args with
  | [.a (.v (.int .i64 i)), .agg [.v (.int .i64 n), .v (.int .i64 d)], .a (.p r 0 0)] => (match rg.getD r .dead, decide (i = 0), decide (i = 1) with
    | .box _ [.v (.int .i64 k), .v (.int .i64 l), .v (.int .i64 m), .v (.int .i64 e)], true, _ => some ([inR .i64 n, inR .i64 d, inR .i64 k, inR .i64 l, inR .i64 m, inR .i64 e], tup3 (two addT n d k l))
    | .box _ [.v (.int .i64 k), .v (.int .i64 l), .v (.int .i64 m), .v (.int .i64 e)], false, true => some ([inR .i64 n, inR .i64 d, inR .i64 k, inR .i64 l, inR .i64 m, inR .i64 e], tup3 (two addT n d m e))
    | _, _, _ => none)
  | _ => none
theorem c101_ok : Ctr.Ok Tryd.prog Γ 101 c101 := Ctr.fn_ok1 (prog_ok (L10_ok.cons (FnOk.of Tryd.func38 rfl rfl) c38_ok) true) Tryd.func101 rfl rfl rfl (by
  intro args rg q t hF hq
  split at hF
  next i n d r =>
    split at hF
    next b o k l m e hr hi =>
      obtain ⟨rfl, rfl⟩ := Prod.mk.inj (Option.some.inj hF); clear hF
      obtain rfl := of_decide_eq_true hi
      obtain ⟨h1, h2, h3, h4, h5, h6, -⟩ := hq
      have hr' := getD_arr hr (by simp)
      refine ⟨rfl, [r], [.a (.v (.int .i64 0)), .agg [.v (.int .i64 n), .v (.int .i64 d)], .a (.p 0 0 0)], [.box o [.v (.int .i64 k), .v (.int .i64 l), .v (.int .i64 m), .v (.int .i64 e)]], ⟨rfl, rfl, fun i g hg => ?_, rfl⟩, ?_⟩
      · match i with
        | 0 => simp at hg; subst hg; exact ⟨rfl, .inr hr'⟩
        | i + 1 => simp at hg
      repeat' ((conv => whnf); (first | apply And.intro | intro _))
      all_goals try (conv => whnf)
      all_goals try (first | rfl | trivial | exact LexB.mk (by kernel_rfl) | exact LexG.mk (by kernel_rfl) | exact LexT.mk (by kernel_rfl) | exact Forced.mk (by kernel_rfl))
      all_goals try subst_vars
      all_goals try exact ⟨by assumption⟩
      all_goals first | rfl | exact ⟨by decide⟩ | exact ⟨by omega⟩
    next o k l m e hr hi hj =>
      obtain ⟨rfl, rfl⟩ := Prod.mk.inj (Option.some.inj hF); clear hF
      obtain rfl := of_decide_eq_true hj
      obtain ⟨h1, h2, h3, h4, h5, h6, -⟩ := hq
      have hr' := getD_arr hr (by simp)
      refine ⟨rfl, [r], [.a (.v (.int .i64 1)), .agg [.v (.int .i64 n), .v (.int .i64 d)], .a (.p 0 0 0)], [.box o [.v (.int .i64 k), .v (.int .i64 l), .v (.int .i64 m), .v (.int .i64 e)]], ⟨rfl, rfl, fun i g hg => ?_, rfl⟩, ?_⟩
      · match i with
        | 0 => simp at hg; subst hg; exact ⟨rfl, .inr hr'⟩
        | i + 1 => simp at hg
      repeat' ((conv => whnf); (first | apply And.intro | intro _))
      all_goals try (conv => whnf)
      all_goals try (first | rfl | trivial | exact LexB.mk (by kernel_rfl) | exact LexG.mk (by kernel_rfl) | exact LexT.mk (by kernel_rfl) | exact Forced.mk (by kernel_rfl))
      all_goals try subst_vars
      all_goals try exact ⟨by assumption⟩
      all_goals first | rfl | exact ⟨by decide⟩ | exact ⟨by omega⟩
    next => cases hF
  next => cases hF)

def c102 : Ctr := .fn fun args rg => match args with
  | [.a (.v (.int .i64 _)), .agg [.v (.int .i64 n), .v (.int .i64 d)], .a (.p r 0 0)] => (match rg.getD r .dead with
    | .box _ [.v (.int .i64 k), .v (.int .i64 l)] => some ([inR .i64 n, inR .i64 d, inR .i64 k, inR .i64 l], tup3 (two mulT k l n d))
    | _ => none)
  | _ => none
theorem c102_ok : Ctr.Ok Tryd.prog Γ 102 c102 := Ctr.fn_ok1 (prog_ok (L10_ok.cons (FnOk.of Tryd.func39 rfl rfl) c39_ok) true) Tryd.func102 rfl rfl rfl (by
  intro args rg q t hF hq
  split at hF
  next i n d r =>
    split at hF
    next o k l hr =>
      obtain ⟨rfl, rfl⟩ := Prod.mk.inj (Option.some.inj hF); clear hF
      obtain ⟨h1, h2, h3, h4, -⟩ := hq
      have hr' := getD_arr hr (by simp)
      refine ⟨rfl, [r], [.a (.v (.int .i64 i)), .agg [.v (.int .i64 n), .v (.int .i64 d)], .a (.p 0 0 0)], [.box o [.v (.int .i64 k), .v (.int .i64 l)]], ⟨rfl, rfl, fun i g hg => ?_, rfl⟩, ?_⟩
      · match i with
        | 0 => simp at hg; subst hg; exact ⟨rfl, .inr hr'⟩
        | i + 1 => simp at hg
      repeat' ((conv => whnf); (first | apply And.intro | intro _))
      all_goals try (conv => whnf)
      all_goals try (first | rfl | trivial | exact LexB.mk (by kernel_rfl) | exact LexG.mk (by kernel_rfl) | exact LexT.mk (by kernel_rfl) | exact Forced.mk (by kernel_rfl))
      all_goals try subst_vars
      all_goals try exact ⟨by assumption⟩
      all_goals first | rfl | exact ⟨by decide⟩ | exact ⟨by omega⟩
    next => cases hF
  next => cases hF)
def tup5 (p : Int × Int × Int × Int × Int) : Tm := .tup [.agg [vI p.1, vI p.2.1, vI p.2.2.1, vI p.2.2.2.1], .a (vI p.2.2.2.2)]
/-- A number, or an error. -/
structure EndOk (p : Int × Int × Int) : Prop where
  b : -2147483647 ≤ p.1 ∧ p.1 ≤ 2147483647 ∧ 0 ≤ p.2.1 ∧ p.2.1 ≤ 2147483647
  of : p.2.2 = 0 → valid p.1 p.2.1 = true

def c100_101 : Ctr := .fn fun args rg => match args with
  | [.agg [.v (.int .i64 a), .v (.int .i64 b), .v (.int .i64 c), .v (.int .i64 d)], .a (.fn f [r])] => (match Nat.beq f 101, rg.getD r .dead with
    | true, .box _ [.v (.int .i64 k), .v (.int .i64 l), .v (.int .i64 m), .v (.int .i64 e)] => some ([inR .i64 a, inR .i64 b, inR .i64 c, inR .i64 d, inR .i64 k, inR .i64 l, inR .i64 m, inR .i64 e, EndOk (two addT a b k l), EndOk (two addT c d m e)],
        tup5 (endsT (two addT a b k l) (two addT c d m e)))
    | _, _ => none)
  | _ => none
set_option maxHeartbeats 4000000 in
theorem c100_101_ok : Ctr.Ok Tryd.prog Γ 100 c100_101 := Ctr.fn_ok1 (prog_ok ((L10_ok.cons (FnOk.of Tryd.func99 rfl rfl) c99_ok).cons (FnOk.of Tryd.func101 rfl rfl) c101_ok) true) Tryd.func100 rfl rfl rfl (by
  intro args rg q t hF hq
  split at hF
  next a b c d f r =>
    split at hF
    next o k l m e hf hr =>
      obtain ⟨rfl, rfl⟩ := Prod.mk.inj (Option.some.inj hF); clear hF
      obtain rfl := Nat.eq_of_beq_eq_true hf
      obtain ⟨h1, h2, h3, h4, h5, h6, h7, h8, vp, vq, -⟩ := hq
      have hr' := getD_arr hr (by simp)
      refine ⟨rfl, [r], [.agg [.v (.int .i64 a), .v (.int .i64 b), .v (.int .i64 c), .v (.int .i64 d)], .a (.fn 101 [0])], [.box o [.v (.int .i64 k), .v (.int .i64 l), .v (.int .i64 m), .v (.int .i64 e)]], ⟨rfl, rfl, fun i g hg => ?_, rfl⟩, ?_⟩
      · match i with
        | 0 => simp at hg; subst hg; exact ⟨rfl, .inr hr'⟩
        | i + 1 => simp at hg
      clear hr hr'
      generalize hPe : two addT a b k l = P at vp ⊢
      generalize hQe : two addT c d m e = Q at vq ⊢
      have bp := vp.b
      have bq := vq.b
      conv => whnf
      refine ⟨Nat, fun x => x ≤ 2 ∧ (1 ≤ x → P.2.2 = 0) ∧ (2 ≤ x → Q.2.2 = 0), fun x => match x with
        | 0 => ⟨slots 48 [(1, .a (.fn 101 [0])), (4, .a (.p 2 0 0)), (5, .a (vI 0)), (6, .a (.p 3 0 0)), (17, .agg [vI a, vI b, vI c, vI d]), (18, .a (vI 0))], [.box false [vI k, vI l, vI m, vI e], .box true [vI a, vI b, vI c, vI d], .box true [vI 0, vI 0, vI 0, vI 0], .box true [vI 0, vI 0, vI 0, vI 0]]⟩
        | 1 => ⟨slots 48 [(1, .a (.fn 101 [0])), (4, .a (.p 2 0 0)), (5, .a (vI 0)), (6, .a (.p 3 0 0)), (17, .agg [vI a, vI b, vI c, vI d]), (18, .a (vI 1))], [.box false [vI k, vI l, vI m, vI e], .box true [vI a, vI b, vI c, vI d], .box true [vI 0, vI 0, vI 0, vI 0], .box true [vI P.1, vI P.2.1, vI 0, vI 0]]⟩
        | _ => ⟨slots 48 [(1, .a (.fn 101 [0])), (4, .a (.p 2 0 0)), (5, .a (vI 0)), (6, .a (.p 3 0 0)), (17, .agg [vI a, vI b, vI c, vI d]), (18, .a (vI 2))], [.box false [vI k, vI l, vI m, vI e], .box true [vI a, vI b, vI c, vI d], .box true [vI 0, vI 0, vI 0, vI 0], .box true [vI P.1, vI P.2.1, vI Q.1, vI Q.2.1]]⟩, fun x => 2 - x, 0, ⟨Nat.zero_le _, fun h => absurd h (by decide), fun h => absurd h (by decide)⟩, ?_, ?_⟩
      · repeat' ((conv => whnf); (first | apply And.intro | intro _))
        all_goals (first | rfl | trivial | (simp_all; done) | (simp_all; omega))
      · rintro x ⟨hx, hP, hQ⟩
        match x, hx, hP, hQ with
        | 0, hx, hP, hQ =>
          repeat' ((conv => whnf); (first | apply And.intro | intro _))
          all_goals try (conv => whnf)
          all_goals try (first | rfl | trivial | exact LexB.mk (by kernel_rfl) | exact LexG.mk (by kernel_rfl) | exact LexT.mk (by kernel_rfl) | exact Forced.mk (by kernel_rfl))
          all_goals try subst_vars
          all_goals try rw [hPe] at *
          all_goals try rw [hQe] at *
          all_goals try exact ⟨by assumption⟩
          all_goals try (first | exact ⟨by decide⟩ | exact ⟨by omega⟩)
          all_goals try (simp only [bne_iff_ne, ne_eq, bne_eq_false_iff_eq] at *)
          all_goals first
            | (simp [endsT, *]; done)
            | exact ⟨by simp only [inR]; omega⟩
            | (refine ⟨1, ⟨by omega, (by intro _; first | assumption | exact hP (by omega)), (by intro h; first | assumption | exact absurd h (by decide))⟩, ?_, by omega⟩; (repeat' ((conv => whnf); (first | apply And.intro | intro _))); all_goals (first | rfl | trivial | (simp_all; done) | (simp_all; omega)))

        | 1, hx, hP, hQ =>
          repeat' ((conv => whnf); (first | apply And.intro | intro _))
          all_goals try (conv => whnf)
          all_goals try (first | rfl | trivial | exact LexB.mk (by kernel_rfl) | exact LexG.mk (by kernel_rfl) | exact LexT.mk (by kernel_rfl) | exact Forced.mk (by kernel_rfl))
          all_goals try subst_vars
          all_goals try rw [hPe] at *
          all_goals try rw [hQe] at *
          all_goals try exact ⟨by assumption⟩
          all_goals try (first | exact ⟨by decide⟩ | exact ⟨by omega⟩)
          all_goals try (simp only [bne_iff_ne, ne_eq, bne_eq_false_iff_eq] at *)
          all_goals first
            | (simp [endsT, *]; done)
            | exact ⟨by simp only [inR]; omega⟩
            | (refine ⟨2, ⟨by omega, (by intro _; first | assumption | exact hP (by omega)), (by intro h; first | assumption | exact absurd h (by decide))⟩, ?_, by omega⟩; (repeat' ((conv => whnf); (first | apply And.intro | intro _))); all_goals (first | rfl | trivial | (simp_all; done) | (simp_all; omega)))

        | 2, hx, hP, hQ =>
          have eP := hP (by omega)
          have eQ := hQ (by omega)
          have gp := vp.of eP
          have gq := vq.of eQ
          repeat' ((conv => whnf); (first | apply And.intro | intro _))
          all_goals try (conv => whnf)
          all_goals try (first | rfl | trivial | exact LexB.mk (by kernel_rfl) | exact LexG.mk (by kernel_rfl) | exact LexT.mk (by kernel_rfl) | exact Forced.mk (by kernel_rfl))
          all_goals try subst_vars
          all_goals try rw [hPe] at *
          all_goals try rw [hQe] at *
          all_goals try exact ⟨by assumption⟩
          all_goals try (first | exact ⟨by decide⟩ | exact ⟨by omega⟩)
          all_goals try (simp only [bne_iff_ne, ne_eq, bne_eq_false_iff_eq] at *)
          all_goals first
            | (simp [endsT, *]; done)
            | exact ⟨by simp only [inR]; omega⟩
            | exact ⟨(valid_mul gp gq).1⟩
            | exact ⟨(valid_mul gp gq).2⟩

        | x + 3, hx, _, _ => exact absurd hx (by omega)
    next => cases hF
  next => cases hF)

def c100_102 : Ctr := .fn fun args rg => match args with
  | [.agg [.v (.int .i64 a), .v (.int .i64 b), .v (.int .i64 c), .v (.int .i64 d)], .a (.fn f [r])] => (match Nat.beq f 102, rg.getD r .dead with
    | true, .box _ [.v (.int .i64 n), .v (.int .i64 m)] => some ([inR .i64 a, inR .i64 b, inR .i64 c, inR .i64 d, inR .i64 n, inR .i64 m, EndOk (two mulT n m a b), EndOk (two mulT n m c d)],
        tup5 (endsT (two mulT n m a b) (two mulT n m c d)))
    | _, _ => none)
  | _ => none
set_option maxHeartbeats 4000000 in
theorem c100_102_ok : Ctr.Ok Tryd.prog Γ 100 c100_102 := Ctr.fn_ok1 (prog_ok ((L10_ok.cons (FnOk.of Tryd.func99 rfl rfl) c99_ok).cons (FnOk.of Tryd.func102 rfl rfl) c102_ok) true) Tryd.func100 rfl rfl rfl (by
  intro args rg q t hF hq
  split at hF
  next a b c d f r =>
    split at hF
    next o n m hf hr =>
      obtain ⟨rfl, rfl⟩ := Prod.mk.inj (Option.some.inj hF); clear hF
      obtain rfl := Nat.eq_of_beq_eq_true hf
      obtain ⟨h1, h2, h3, h4, h5, h6, vp, vq, -⟩ := hq
      have hr' := getD_arr hr (by simp)
      refine ⟨rfl, [r], [.agg [.v (.int .i64 a), .v (.int .i64 b), .v (.int .i64 c), .v (.int .i64 d)], .a (.fn 102 [0])], [.box o [.v (.int .i64 n), .v (.int .i64 m)]], ⟨rfl, rfl, fun i g hg => ?_, rfl⟩, ?_⟩
      · match i with
        | 0 => simp at hg; subst hg; exact ⟨rfl, .inr hr'⟩
        | i + 1 => simp at hg
      clear hr hr'
      generalize hPe : two mulT n m a b = P at vp ⊢
      generalize hQe : two mulT n m c d = Q at vq ⊢
      have bp := vp.b
      have bq := vq.b
      conv => whnf
      refine ⟨Nat, fun x => x ≤ 2 ∧ (1 ≤ x → P.2.2 = 0) ∧ (2 ≤ x → Q.2.2 = 0), fun x => match x with
        | 0 => ⟨slots 48 [(1, .a (.fn 102 [0])), (4, .a (.p 2 0 0)), (5, .a (vI 0)), (6, .a (.p 3 0 0)), (17, .agg [vI a, vI b, vI c, vI d]), (18, .a (vI 0))], [.box false [vI n, vI m], .box true [vI a, vI b, vI c, vI d], .box true [vI 0, vI 0, vI 0, vI 0], .box true [vI 0, vI 0, vI 0, vI 0]]⟩
        | 1 => ⟨slots 48 [(1, .a (.fn 102 [0])), (4, .a (.p 2 0 0)), (5, .a (vI 0)), (6, .a (.p 3 0 0)), (17, .agg [vI a, vI b, vI c, vI d]), (18, .a (vI 1))], [.box false [vI n, vI m], .box true [vI a, vI b, vI c, vI d], .box true [vI 0, vI 0, vI 0, vI 0], .box true [vI P.1, vI P.2.1, vI 0, vI 0]]⟩
        | _ => ⟨slots 48 [(1, .a (.fn 102 [0])), (4, .a (.p 2 0 0)), (5, .a (vI 0)), (6, .a (.p 3 0 0)), (17, .agg [vI a, vI b, vI c, vI d]), (18, .a (vI 2))], [.box false [vI n, vI m], .box true [vI a, vI b, vI c, vI d], .box true [vI 0, vI 0, vI 0, vI 0], .box true [vI P.1, vI P.2.1, vI Q.1, vI Q.2.1]]⟩, fun x => 2 - x, 0, ⟨Nat.zero_le _, fun h => absurd h (by decide), fun h => absurd h (by decide)⟩, ?_, ?_⟩
      · repeat' ((conv => whnf); (first | apply And.intro | intro _))
        all_goals (first | rfl | trivial | (simp_all; done) | (simp_all; omega))
      · rintro x ⟨hx, hP, hQ⟩
        match x, hx, hP, hQ with
        | 0, hx, hP, hQ =>
          repeat' ((conv => whnf); (first | apply And.intro | intro _))
          all_goals try (conv => whnf)
          all_goals try (first | rfl | trivial | exact LexB.mk (by kernel_rfl) | exact LexG.mk (by kernel_rfl) | exact LexT.mk (by kernel_rfl) | exact Forced.mk (by kernel_rfl))
          all_goals try subst_vars
          all_goals try rw [hPe] at *
          all_goals try rw [hQe] at *
          all_goals try exact ⟨by assumption⟩
          all_goals try (first | exact ⟨by decide⟩ | exact ⟨by omega⟩)
          all_goals try (simp only [bne_iff_ne, ne_eq, bne_eq_false_iff_eq] at *)
          all_goals first
            | (simp [endsT, *]; done)
            | exact ⟨by simp only [inR]; omega⟩
            | (refine ⟨1, ⟨by omega, (by intro _; first | assumption | exact hP (by omega)), (by intro h; first | assumption | exact absurd h (by decide))⟩, ?_, by omega⟩; (repeat' ((conv => whnf); (first | apply And.intro | intro _))); all_goals (first | rfl | trivial | (simp_all; done) | (simp_all; omega)))

        | 1, hx, hP, hQ =>
          repeat' ((conv => whnf); (first | apply And.intro | intro _))
          all_goals try (conv => whnf)
          all_goals try (first | rfl | trivial | exact LexB.mk (by kernel_rfl) | exact LexG.mk (by kernel_rfl) | exact LexT.mk (by kernel_rfl) | exact Forced.mk (by kernel_rfl))
          all_goals try subst_vars
          all_goals try rw [hPe] at *
          all_goals try rw [hQe] at *
          all_goals try exact ⟨by assumption⟩
          all_goals try (first | exact ⟨by decide⟩ | exact ⟨by omega⟩)
          all_goals try (simp only [bne_iff_ne, ne_eq, bne_eq_false_iff_eq] at *)
          all_goals first
            | (simp [endsT, *]; done)
            | exact ⟨by simp only [inR]; omega⟩
            | (refine ⟨2, ⟨by omega, (by intro _; first | assumption | exact hP (by omega)), (by intro h; first | assumption | exact absurd h (by decide))⟩, ?_, by omega⟩; (repeat' ((conv => whnf); (first | apply And.intro | intro _))); all_goals (first | rfl | trivial | (simp_all; done) | (simp_all; omega)))

        | 2, hx, hP, hQ =>
          have eP := hP (by omega)
          have eQ := hQ (by omega)
          have gp := vp.of eP
          have gq := vq.of eQ
          repeat' ((conv => whnf); (first | apply And.intro | intro _))
          all_goals try (conv => whnf)
          all_goals try (first | rfl | trivial | exact LexB.mk (by kernel_rfl) | exact LexG.mk (by kernel_rfl) | exact LexT.mk (by kernel_rfl) | exact Forced.mk (by kernel_rfl))
          all_goals try subst_vars
          all_goals try rw [hPe] at *
          all_goals try rw [hQe] at *
          all_goals try exact ⟨by assumption⟩
          all_goals try (first | exact ⟨by decide⟩ | exact ⟨by omega⟩)
          all_goals try (simp only [bne_iff_ne, ne_eq, bne_eq_false_iff_eq] at *)
          all_goals first
            | (simp [endsT, *]; done)
            | exact ⟨by simp only [inR]; omega⟩
            | exact ⟨(valid_mul gp gq).1⟩
            | exact ⟨(valid_mul gp gq).2⟩

        | x + 3, hx, _, _ => exact absurd hx (by omega)
    next => cases hF
  next => cases hF)

theorem endOk_two {T : Int → Int → Int → Int → Int × Int × Int} {n d m e : Int} (ha : valid n d = true) (hb : valid m e = true) (h : EndOk (T n d m e)) : EndOk (two T n d m e) := by
  rw [two_good (by rw [ha, hb]; rfl)]; exact h
theorem lowEnd {n d : Int} (hd : 0 < d) : EndOk (lowT n d) := by
  rcases low_spec (n := n) hd with g | g
  · have v := valid_iff.1 g.v
    exact ⟨by omega, fun _ => g.v⟩
  · rw [g]; exact ⟨by decide, fun h => by cases h⟩
theorem addOk {n d m e : Int} (ha : valid n d = true) (hb : valid m e = true) : EndOk (addT n d m e) := lowEnd (Int.mul_pos (vpos ha) (vpos hb))
theorem mulOk {n d m e : Int} (ha : valid n d = true) (hb : valid m e = true) : EndOk (mulT n d m e) := lowEnd (Int.mul_pos (vpos ha) (vpos hb))
def sumE (a b c d k l m n : Int) : Int × Int × Int × Int × Int := endsT (two addT a b k l) (two addT c d m n)
def scaleX (a b c d n m : Int) : Int × Int × Int × Int × Int := if (validR a b c d && valid n m) = true then endsT (two mulT n m a b) (two mulT n m c d) else (0, 0, 0, 0, 1)
theorem scaleX_good {a b c d n m : Int} (h : (validR a b c d && valid n m) = true) : scaleX a b c d n m = endsT (two mulT n m a b) (two mulT n m c d) := if_pos h
theorem scaleX_bad {a b c d n m : Int} (h : (validR a b c d && valid n m) = false) : scaleX a b c d n m = (0, 0, 0, 0, 1) := by simp only [scaleX, h, Bool.false_eq_true, if_false]
theorem sum_ends {a b c d k l m n : Int} (h : (validR a b c d && validR k l m n) = true) : EndOk (two addT a b k l) ∧ EndOk (two addT c d m n) := by
  have h' := Bool.and_eq_true_iff.1 h
  have v := (validR_iff.1 h'.1).1; have v' := (validR_iff.1 h'.2).1
  exact ⟨endOk_two v.1 v'.1 (addOk v.1 v'.1), endOk_two v.2 v'.2 (addOk v.2 v'.2)⟩
theorem scale_ends {a b c d n m : Int} (h : (validR a b c d && valid n m) = true) : EndOk (two mulT n m a b) ∧ EndOk (two mulT n m c d) := by
  have h' := Bool.and_eq_true_iff.1 h
  have v := (validR_iff.1 h'.1).1
  exact ⟨endOk_two h'.2 v.1 (mulOk h'.2 v.1), endOk_two h'.2 v.2 (mulOk h'.2 v.2)⟩
def asB (p q r s e a b c d f : Int) : Bool := (p == a && (q == b && (r == c && (s == d && true)))) && e == f
def LE : List (Nat × Ctr) := (100, c100_101) :: (101, c101) :: LG
theorem LE_ok : LOk Tryd.prog Γ LE := (LG_ok.cons (FnOk.of Tryd.func101 rfl rfl) c101_ok).cons (FnOk.of Tryd.func100 rfl rfl) c100_101_ok
def LE2 : List (Nat × Ctr) := (100, c100_102) :: (102, c102) :: LG
theorem LE2_ok : LOk Tryd.prog Γ LE2 := (LG_ok.cons (FnOk.of Tryd.func102 rfl rfl) c102_ok).cons (FnOk.of Tryd.func100 rfl rfl) c100_102_ok

def c60 : Ctr := .fn fun args _ => match args with
  | [.agg [.v (.int .i64 a), .v (.int .i64 b), .v (.int .i64 c), .v (.int .i64 d)], .agg [.v (.int .i64 k), .v (.int .i64 l), .v (.int .i64 m), .v (.int .i64 n)]] => some ([inR .i64 a, inR .i64 b, inR .i64 c, inR .i64 d, inR .i64 k, inR .i64 l, inR .i64 m, inR .i64 n], .tup [.agg [vI (twoR sumE a b c d k l m n).1, vI (twoR sumE a b c d k l m n).2.1, vI (twoR sumE a b c d k l m n).2.2.1, vI (twoR sumE a b c d k l m n).2.2.2.1], .a (vI (twoR sumE a b c d k l m n).2.2.2.2)])
  | _ => none
theorem c60_ok : Ctr.Ok Tryd.prog Γ 60 c60 := Ctr.fn_ok0 (prog_ok LE_ok true) Tryd.func60 rfl rfl rfl (by
  intro args q t hF hq
  split at hF
  next a b c d k l m n =>
    obtain ⟨rfl, rfl⟩ := Prod.mk.inj (Option.some.inj hF); clear hF
    obtain ⟨h1, h2, h3, h4, h5, h6, h7, h8, -⟩ := hq
    refine ⟨rfl, rfl, ?_⟩
    repeat' ((conv => whnf); (first | apply And.intro | intro _))
    all_goals try (conv => whnf)
    all_goals try (first | rfl | trivial | exact LexB.mk (by kernel_rfl) | exact LexG.mk (by kernel_rfl) | exact LexT.mk (by kernel_rfl) | exact Forced.mk (by kernel_rfl))
    all_goals try subst_vars
    all_goals try exact ⟨by assumption⟩
    all_goals first
      | (have hv : (validR a b c d && validR k l m n) = false := by simpa using ‹((if (validR a b c d && validR k l m n) = true then (0 : Int) else 1) != 0) = true›
         simp only [hv, twoR_bad hv]; done)
      | (have hv : (validR a b c d && validR k l m n) = false := by simpa using ‹((if (validR a b c d && validR k l m n) = true then (0 : Int) else 1) != 0) = true›
         rw [twoR_bad hv, if_neg (by rw [hv]; decide)]; done)
      | (have hv : (validR a b c d && validR k l m n) = true := by simpa using ‹((if (validR a b c d && validR k l m n) = true then (0 : Int) else 1) != 0) = false›
         obtain ⟨g1, g2⟩ := sum_ends hv
         first
           | exact ⟨by assumption⟩
           | (rw [twoR_good hv]; rfl))
  next => cases hF)

def c61 : Ctr := .fn fun args _ => match args with
  | [.agg [.v (.int .i64 a), .v (.int .i64 b), .v (.int .i64 c), .v (.int .i64 d)], .agg [.v (.int .i64 n), .v (.int .i64 m)]] => some ([inR .i64 a, inR .i64 b, inR .i64 c, inR .i64 d, inR .i64 n, inR .i64 m], .tup [.agg [vI (scaleX a b c d n m).1, vI (scaleX a b c d n m).2.1, vI (scaleX a b c d n m).2.2.1, vI (scaleX a b c d n m).2.2.2.1], .a (vI (scaleX a b c d n m).2.2.2.2)])
  | _ => none
theorem c61_ok : Ctr.Ok Tryd.prog Γ 61 c61 := Ctr.fn_ok0 (prog_ok LE2_ok true) Tryd.func61 rfl rfl rfl (by
  intro args q t hF hq
  split at hF
  next a b c d n m =>
    obtain ⟨rfl, rfl⟩ := Prod.mk.inj (Option.some.inj hF); clear hF
    obtain ⟨h1, h2, h3, h4, h5, h6, -⟩ := hq
    refine ⟨rfl, rfl, ?_⟩
    repeat' ((conv => whnf); (first | apply And.intro | intro _))
    all_goals try (conv => whnf)
    all_goals try (first | rfl | trivial | exact LexB.mk (by kernel_rfl) | exact LexG.mk (by kernel_rfl) | exact LexT.mk (by kernel_rfl) | exact Forced.mk (by kernel_rfl))
    all_goals try subst_vars
    all_goals try exact ⟨by assumption⟩
    all_goals simp only [Bool.not_eq_true', Bool.not_eq_false'] at *
    all_goals first
      | (rw [scaleX_bad (by simp [*])]; done)
      | (have hv : (validR a b c d && valid n m) = true := by simp [*]
         obtain ⟨g1, g2⟩ := scale_ends hv
         first
           | exact ⟨by assumption⟩
           | (rw [scaleX_good hv]; done))
  next => cases hF)

def c63 : Ctr := .fn fun args _ => match args with
  | [.agg [.v (.int .i64 p), .v (.int .i64 q), .v (.int .i64 r), .v (.int .i64 s)], .a (.v (.int .i64 e)), .agg [.v (.int .i64 a), .v (.int .i64 b), .v (.int .i64 c), .v (.int .i64 d), .v (.int .i64 f)]] => some ([], bl (asB p q r s e a b c d f))
  | _ => none
theorem c63_ok : Ctr.Ok Tryd.prog Γ 63 c63 := Ctr.fn_ok0 (prog_ok LG_ok true) Tryd.func63 rfl rfl rfl (by
  intro args q t hF hq
  split at hF
  next p q r s e a b c d f =>
    obtain ⟨rfl, rfl⟩ := Prod.mk.inj (Option.some.inj hF); clear hF
    clear hq
    refine ⟨rfl, rfl, ?_⟩
    repeat' ((conv => whnf); (first | apply And.intro | intro _))
    all_goals try (conv => whnf)
    all_goals try (first | rfl | trivial | exact LexB.mk (by kernel_rfl) | exact LexG.mk (by kernel_rfl) | exact LexT.mk (by kernel_rfl) | exact Forced.mk (by kernel_rfl))
    all_goals try subst_vars
    all_goals (simp_all [asB]; done)
  next => cases hF)

end Go.Proofs.YtoggkjobihlohaaDoor
