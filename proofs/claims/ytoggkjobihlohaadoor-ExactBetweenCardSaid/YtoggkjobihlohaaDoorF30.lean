/-
  Chapter 1: ExactBetween, walked.
-/
import Derived.Test.YtoggkjobihlohaaDoorF29
import Derived.Test.YtoggkjobihlohaaDoorP10
namespace Go.Proofs.YtoggkjobihlohaaDoor
open Go Go.Sx
set_option maxRecDepth 100000

structure Fit (x : Int) : Prop where
  h : -2147483647 ≤ x ∧ x ≤ 2147483647
theorem Fit.i {x : Int} (h : Fit x) : inR .i64 x := by have := h.h; simp only [inR]; omega
structure Fit5 (x : Int × Int × Int × Int × Int) : Prop where
  a : Fit x.1
  b : Fit x.2.1
  c : Fit x.2.2.1
  d : Fit x.2.2.2.1
theorem fit_valid {p q : Int} (h : valid p q = true) : Fit p ∧ Fit q := by have := valid_iff.1 h; exact ⟨⟨by omega⟩, ⟨by omega⟩⟩
theorem fit0 : Fit 0 := ⟨by decide⟩
theorem fit_both {x y : Int × Int × Int} (hx : EndOk x) (hy : EndOk y) : Fit5 (bothT x y) := by
  have b1 := hx.b; have b2 := hy.b
  unfold bothT
  split
  · split
    · exact ⟨(⟨by omega⟩ : Fit x.1), (⟨by omega⟩ : Fit x.2.1), (⟨by omega⟩ : Fit y.1), (⟨by omega⟩ : Fit y.2.1)⟩
    · exact ⟨fit0, fit0, fit0, fit0⟩
  · exact ⟨fit0, fit0, fit0, fit0⟩
theorem fit_two {T : Int → Int → Int → Int → Int × Int × Int} {n d m e : Int} (h : valid n d = true → valid m e = true → EndOk (T n d m e)) : Fit (two T n d m e).1 ∧ Fit (two T n d m e).2.1 := by
  cases h1 : valid n d <;> cases h2 : valid m e
  case true.true =>
    rw [two_good (by rw [h1, h2]; rfl)]
    have := (h h1 h2).b
    exact ⟨⟨by omega⟩, ⟨by omega⟩⟩
  all_goals (rw [two_bad (by rw [h1, h2]; rfl)]; exact ⟨fit0, fit0⟩)
structure BetweenFacts (a b c d k l m n p q u v z : Int) : Prop where
  i0 : inR .i64 (twoR meetT a b c d k l m n).1
  i1 : inR .i64 (twoR meetT a b c d k l m n).2.1
  i2 : inR .i64 (twoR meetT a b c d k l m n).2.2.1
  i3 : inR .i64 (twoR meetT a b c d k l m n).2.2.2.1
  i4 : inR .i64 (twoR hullT a b c d k l m n).1
  i5 : inR .i64 (twoR hullT a b c d k l m n).2.1
  i6 : inR .i64 (twoR hullT a b c d k l m n).2.2.1
  i7 : inR .i64 (twoR hullT a b c d k l m n).2.2.2.1
  i8 : inR .i64 (twoR sumE a b c d k l m n).1
  i9 : inR .i64 (twoR sumE a b c d k l m n).2.1
  i10 : inR .i64 (twoR sumE a b c d k l m n).2.2.1
  i11 : inR .i64 (twoR sumE a b c d k l m n).2.2.2.1
  i12 : inR .i64 (scaleX a b c d u v).1
  i13 : inR .i64 (scaleX a b c d u v).2.1
  i14 : inR .i64 (scaleX a b c d u v).2.2.1
  i15 : inR .i64 (scaleX a b c d u v).2.2.2.1
  i16 : inR .i64 (two addT p q u v).1
  i17 : inR .i64 (two addT p q u v).2.1
  i18 : inR .i64 (two mulT p q u v).1
  i19 : inR .i64 (two mulT p q u v).2.1
  i20 : inR .i64 (makeT z 1).1
  i21 : inR .i64 (makeT z 1).2.1
  i22 : inR .i64 (two mulT p q (makeT z 1).1 (makeT z 1).2.1).1
  i23 : inR .i64 (two mulT p q (makeT z 1).1 (makeT z 1).2.1).2.1
  i24 : inR .i64 ((partX p q z).1 + 1)
  me : ((twoR meetT a b c d k l m n).2.2.2.2 == 0 && hasB (twoR meetT a b c d k l m n).1 (twoR meetT a b c d k l m n).2.1 (twoR meetT a b c d k l m n).2.2.1 (twoR meetT a b c d k l m n).2.2.2.1 p q) = (hasB a b c d p q && hasB k l m n p q)
  he : (twoR hullT a b c d k l m n).2.2.2.2 = 0
  hx : hasB a b c d p q = true → hasB (twoR hullT a b c d k l m n).1 (twoR hullT a b c d k l m n).2.1 (twoR hullT a b c d k l m n).2.2.1 (twoR hullT a b c d k l m n).2.2.2.1 p q = true
  hy : hasB k l m n p q = true → hasB (twoR hullT a b c d k l m n).1 (twoR hullT a b c d k l m n).2.1 (twoR hullT a b c d k l m n).2.2.1 (twoR hullT a b c d k l m n).2.2.2.1 p q = true
  su : (twoR sumE a b c d k l m n).2.2.2.2 = 0 → (two addT p q u v).2.2 = 0 → hasB a b c d p q = true → hasB k l m n u v = true → hasB (twoR sumE a b c d k l m n).1 (twoR sumE a b c d k l m n).2.1 (twoR sumE a b c d k l m n).2.2.1 (twoR sumE a b c d k l m n).2.2.2.1 (two addT p q u v).1 (two addT p q u v).2.1 = true
  sc : (scaleX a b c d u v).2.2.2.2 = 0 → (two mulT p q u v).2.2 = 0 → hasB a b c d p q = true → hasB (scaleX a b c d u v).1 (scaleX a b c d u v).2.1 (scaleX a b c d u v).2.2.1 (scaleX a b c d u v).2.2.2.1 (two mulT p q u v).1 (two mulT p q u v).2.1 = true
  wh : (makeT z 1).2.2 = 0 → hasB a b c d (makeT z 1).1 (makeT z 1).2.1 = ((wholeX a b c d).2.2 == 0 && (decide ((wholeX a b c d).1 ≤ z) && decide (z ≤ (wholeX a b c d).2.1)))
  nx : (partX p q z).2.2 = 0 → (partX p q z).2.1 = (partX p q z).1 ∨ (partX p q z).2.1 = (partX p q z).1 + 1
  fl : (makeT z 1).2.2 = 0 → (partX p q z).2.2 = 0 → (two mulT p q (makeT z 1).1 (makeT z 1).2.1).2.2 = 0 → floorX (two mulT p q (makeT z 1).1 (makeT z 1).2.1).1 (two mulT p q (makeT z 1).1 (makeT z 1).2.1).2.1 = (partX p q z).1
  ce : (makeT z 1).2.2 = 0 → (partX p q z).2.2 = 0 → (two mulT p q (makeT z 1).1 (makeT z 1).2.1).2.2 = 0 → ceilX (two mulT p q (makeT z 1).1 (makeT z 1).2.1).1 (two mulT p q (makeT z 1).1 (makeT z 1).2.1).2.1 = (partX p q z).2.1
  er : (makeT z 1).2.2 = 0 → (two mulT p q (makeT z 1).1 (makeT z 1).2.1).2.2 = 0 → errX (two mulT p q (makeT z 1).1 (makeT z 1).2.1).1 (two mulT p q (makeT z 1).1 (makeT z 1).2.1).2.1 = 0
theorem betweenFacts {a b c d k l m n p q u v z : Int} (hx : validR a b c d = true) (hy : validR k l m n = true) (hp : valid p q = true) (hu : valid u v = true) : BetweenFacts a b c d k l m n p q u v z := by
  obtain ⟨⟨v1, v2⟩, _⟩ := validR_iff.1 hx
  obtain ⟨⟨v3, v4⟩, _⟩ := validR_iff.1 hy
  have eM : twoR meetT a b c d k l m n = meetT a b c d k l m n := twoR_t hx hy
  have eH : twoR hullT a b c d k l m n = hullT a b c d k l m n := twoR_t hx hy
  have eS : twoR sumE a b c d k l m n = sumR a b c d k l m n := sumE_t hx hy
  have eC : scaleX a b c d u v = scaleR a b c d u v := scaleX_t hx hu
  have eA : two addT p q u v = addT p q u v := two_good (by rw [hp, hu]; rfl)
  have eU : two mulT p q u v = mulT p q u v := two_good (by rw [hp, hu]; rfl)
  have eW : wholeX a b c d = wholeT a b c d := wholeX_good hx
  have bM : Fit5 (meetT a b c d k l m n) := by
    have g1 := fit_valid (grN_valid v1 v3); have g2 := fit_valid (leN_valid v2 v4)
    unfold meetT
    split
    · exact ⟨fit0, fit0, fit0, fit0⟩
    · exact ⟨g1.1, g1.2, g2.1, g2.2⟩
  have bH : Fit5 (hullT a b c d k l m n) := by
    have g1 := fit_valid (leN_valid v1 v3); have g2 := fit_valid (grN_valid v2 v4)
    exact ⟨g1.1, g1.2, g2.1, g2.2⟩
  have bS : Fit5 (sumR a b c d k l m n) := fit_both (addOk v1 v3) (addOk v2 v4)
  have bC : Fit5 (scaleR a b c d u v) := by
    unfold scaleR
    split
    · exact fit_both (mulOk v2 hu) (mulOk v1 hu)
    · exact fit_both (mulOk v1 hu) (mulOk v2 hu)
  have bA := fit_two (T := addT) (n := p) (d := q) (m := u) (e := v) fun h h' => addOk h h'
  have bU := fit_two (T := mulT) (n := p) (d := q) (m := u) (e := v) fun h h' => mulOk h h'
  have bK : EndOk (makeT z 1) := by rw [makeT_ne (by decide)]; exact lowEnd (by decide)
  have bZ := fit_two (T := mulT) (n := p) (d := q) (m := (makeT z 1).1) (e := (makeT z 1).2.1) fun h h' => mulOk h h'
  have bP : inR .i64 ((partX p q z).1 + 1) := by
    have vp := valid_iff.1 hp
    rw [partX_good hp]
    unfold partT
    split
    · show inR .i64 (0 + 1); simp only [inR]; omega
    · rename_i g
      have h1 : -4611686014132420609 ≤ p * z ∧ p * z ≤ 4611686014132420609 := by
        have : (p * z).natAbs ≤ 2147483647 * 2147483647 := by rw [Int.natAbs_mul]; exact Nat.mul_le_mul (by omega) (by omega)
        omega
      have := div_fits (n := p * z) (show 0 < q by omega) h1
      simp only [inR]; omega
  have pf := part_facts (z := z) hp
  have kk : (makeT z 1).1 = (makeT z 1).1 := rfl
  exact {
    i0 := by rw [eM]; exact (bM.a).i
    i1 := by rw [eM]; exact (bM.b).i
    i2 := by rw [eM]; exact (bM.c).i
    i3 := by rw [eM]; exact (bM.d).i
    i4 := by rw [eH]; exact (bH.a).i
    i5 := by rw [eH]; exact (bH.b).i
    i6 := by rw [eH]; exact (bH.c).i
    i7 := by rw [eH]; exact (bH.d).i
    i8 := by rw [eS]; exact (bS.a).i
    i9 := by rw [eS]; exact (bS.b).i
    i10 := by rw [eS]; exact (bS.c).i
    i11 := by rw [eS]; exact (bS.d).i
    i12 := by rw [eC]; exact (bC.a).i
    i13 := by rw [eC]; exact (bC.b).i
    i14 := by rw [eC]; exact (bC.c).i
    i15 := by rw [eC]; exact (bC.d).i
    i16 := bA.1.i
    i17 := bA.2.i
    i18 := bU.1.i
    i19 := bU.2.i
    i20 := by have := bK.b; simp only [inR]; omega
    i21 := by have := bK.b; simp only [inR]; omega
    i22 := bZ.1.i
    i23 := bZ.2.i
    i24 := bP
    me := by rw [eM]; exact meet_has hx hy hp
    he := by rw [eH]; rfl
    hx := fun h => by rw [eH]; exact hull_has hx hy hp (by rw [h]; rfl)
    hy := fun h => by rw [eH]; exact hull_has hx hy hp (by rw [h, Bool.or_true])
    su := fun h1 h2 h3 h4 => by rw [eS] at h1 ⊢; rw [eA] at h2 ⊢; exact sum_has hx hy h1 h2 h3 h4
    sc := fun h1 h2 h3 => by rw [eC] at h1 ⊢; rw [eU] at h2 ⊢; exact scale_has hx hu h1 h2 h3
    wh := fun h => by
      obtain ⟨e, hv⟩ := make_one h
      rw [eW, e]; exact whole_has hx hv
    nx := pf.nx
    fl := fun h h1 h2 => by obtain ⟨e, hv⟩ := make_one h; rw [e] at h2 ⊢; exact pf.fl h1 h2 hv
    ce := fun h h1 h2 => by obtain ⟨e, hv⟩ := make_one h; rw [e] at h2 ⊢; exact pf.ce h1 h2 hv
    er := fun h h2 => by obtain ⟨e, hv⟩ := make_one h; rw [e] at h2 ⊢; exact pf.er h2 hv }

def c14 : Ctr := .fn fun args _ => match args with
  | [.agg [.v (.int .i64 a), .v (.int .i64 b), .v (.int .i64 c), .v (.int .i64 d)], .agg [.v (.int .i64 k), .v (.int .i64 l), .v (.int .i64 m), .v (.int .i64 n)], .agg [.v (.int .i64 p), .v (.int .i64 q)], .agg [.v (.int .i64 u), .v (.int .i64 v)], .a (.v (.int .i64 z))] => some ([inR .i64 a, inR .i64 b, inR .i64 c, inR .i64 d, inR .i64 k, inR .i64 l, inR .i64 m, inR .i64 n, inR .i64 p, inR .i64 q, inR .i64 u, inR .i64 v, inR .i64 z], bl true)
  | _ => none
set_option maxHeartbeats 4000000 in
theorem c14_ok : Ctr.Ok Tryd.prog ΓL 14 c14 := Ctr.fn_ok0 (prog_okC LRG_ok true [94, 126, 153, 185]) Tryd.func14 rfl rfl rfl (by
  intro args q t hF hq
  split at hF
  next a b c d k l m n p q u v z =>
    obtain ⟨rfl, rfl⟩ := Prod.mk.inj (Option.some.inj hF); clear hF
    obtain ⟨h1, h2, h3, h4, h5, h6, h7, h8, h9, h10, h11, h12, h13, -⟩ := hq
    refine ⟨rfl, rfl, ?_⟩
    repeat' ((conv => whnf); (first | apply And.intro | intro _))
    all_goals try (conv => whnf)
    all_goals try (first | rfl | trivial | exact LexB.mk (by kernel_rfl) | exact LexG.mk (by kernel_rfl) | exact LexT.mk (by kernel_rfl) | exact Forced.mk (by kernel_rfl))
    all_goals try subst_vars
    all_goals try (first | exact Nat.le_of_ble_eq_true rfl | exact ⟨by assumption⟩)
    all_goals try (simp_all; done)
    all_goals (have hx : validR a b c d = true := by simpa using ‹(!validR a b c d) = false›
               have hy : validR k l m n = true := by simpa using ‹(!validR k l m n) = false›
               have hn : valid p q = true ∧ valid u v = true := by simpa using ‹(!(valid p q && valid u v)) = false›
               obtain ⟨i0, i1, i2, i3, i4, i5, i6, i7, i8, i9, i10, i11, i12, i13, i14, i15, i16, i17, i18, i19, i20, i21, i22, i23, i24, me, he, fx, fy, su, sc, wh, nx, fl, ce, er⟩ := betweenFacts (z := z) hx hy hn.1 hn.2
               first
                 | exact ⟨show inR .i64 1 by simp only [inR]; omega⟩
                 | exact ⟨i0⟩
                 | exact ⟨i1⟩
                 | exact ⟨i2⟩
                 | exact ⟨i3⟩
                 | exact ⟨i4⟩
                 | exact ⟨i5⟩
                 | exact ⟨i6⟩
                 | exact ⟨i7⟩
                 | exact ⟨i8⟩
                 | exact ⟨i9⟩
                 | exact ⟨i10⟩
                 | exact ⟨i11⟩
                 | exact ⟨i12⟩
                 | exact ⟨i13⟩
                 | exact ⟨i14⟩
                 | exact ⟨i15⟩
                 | exact ⟨i16⟩
                 | exact ⟨i17⟩
                 | exact ⟨i18⟩
                 | exact ⟨i19⟩
                 | exact ⟨i20⟩
                 | exact ⟨i21⟩
                 | exact ⟨i22⟩
                 | exact ⟨i23⟩
                 | exact ⟨i24⟩
                 | (clear i0 i1 i2 i3 i4 i5 i6 i7 i8 i9 i10 i11 i12 i13 i14 i15 i16 i17 i18 i19 i20 i21 i22 i23 i24 h1 h2 h3 h4 h5 h6 h7 h8 h9 h10 h11 h12 h13
                    try simp only [beq_iff_eq, beq_eq_false_iff_ne, bne_iff_ne, bne_eq_false_iff_eq, ne_eq, decide_eq_true_eq, decide_eq_false_iff_not] at *
                    first
                      | (simp_all; done)
                      | (simp_all; omega)
                      | (rcases nx ‹_› with h | h <;> simp_all <;> done)
                      | skip))
  next => cases hF)

end Go.Proofs.YtoggkjobihlohaaDoor
