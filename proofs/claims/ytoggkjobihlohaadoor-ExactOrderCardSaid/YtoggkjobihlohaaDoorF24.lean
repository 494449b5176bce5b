/-
  Chapter 1: ExactField and ExactOrder, walked.
-/
import Derived.Test.YtoggkjobihlohaaDoorF22
import Derived.Test.YtoggkjobihlohaaDoorF23
namespace Go.Proofs.YtoggkjobihlohaaDoor
open Go Go.Sx
set_option maxRecDepth 100000

theorem add_inR {n d m e : Int} (ha : valid n d = true) (hb : valid m e = true) : inR .i64 (addT n d m e).1 ∧ inR .i64 (addT n d m e).2.1 := low_inR (Int.mul_pos (vpos ha) (vpos hb))
theorem mul_inR {n d m e : Int} (ha : valid n d = true) (hb : valid m e = true) : inR .i64 (mulT n d m e).1 ∧ inR .i64 (mulT n d m e).2.1 := low_inR (Int.mul_pos (vpos ha) (vpos hb))
theorem med_inR {n d m e : Int} (ha : valid n d = true) (hb : valid m e = true) : inR .i64 (medT n d m e).1 ∧ inR .i64 (medT n d m e).2.1 := low_inR (by have := vpos ha; have := vpos hb; omega)
theorem two_of {T : Int → Int → Int → Int → Int × Int × Int} {n d m e : Int} (h1 : valid n d = true) (h2 : valid m e = true) : two T n d m e = T n d m e := two_good (by rw [h1, h2]; rfl)
theorem cmpX_of {n d m e : Int} (h1 : valid n d = true) (h2 : valid m e = true) : cmpX n d m e = (cmpI n d m e, 0) := cmpX_good (by rw [h1, h2]; rfl)

/-- What ExactField looks at. -/
structure FieldFacts (n d m e k l : Int) : Prop where
  ab : two addT n d m e = addT n d m e
  ba : two addT m e n d = addT n d m e
  bc : two addT m e k l = addT m e k l
  mab : two mulT n d m e = mulT n d m e
  mba : two mulT m e n d = mulT n d m e
  mbc : two mulT m e k l = mulT m e k l
  mac : two mulT n d k l = mulT n d k l
  i1 : inR .i64 (addT n d m e).1
  i2 : inR .i64 (addT n d m e).2.1
  i3 : inR .i64 (addT m e k l).1
  i4 : inR .i64 (addT m e k l).2.1
  i5 : inR .i64 (mulT n d m e).1
  i6 : inR .i64 (mulT n d m e).2.1
  i7 : inR .i64 (mulT m e k l).1
  i8 : inR .i64 (mulT m e k l).2.1
  i9 : inR .i64 (mulT n d k l).1
  i0 : inR .i64 (mulT n d k l).2.1
  e1 : (addT n d m e).2.2 = 0 ∨ (addT n d m e).2.2 = 3
  e2 : (mulT n d m e).2.2 = 0 ∨ (mulT n d m e).2.2 = 3
  s : (addT n d m e).2.2 = 0 → two subT (addT n d m e).1 (addT n d m e).2.1 m e = (n, d, 0)
  v : (mulT n d m e).2.2 = 0 → m ≠ 0 → two divT (mulT n d m e).1 (mulT n d m e).2.1 m e = (n, d, 0)
  aa : (addT n d m e).2.2 = 0 → (addT m e k l).2.2 = 0 → two addT (addT n d m e).1 (addT n d m e).2.1 k l = two addT n d (addT m e k l).1 (addT m e k l).2.1
  mm : (mulT n d m e).2.2 = 0 → (mulT m e k l).2.2 = 0 → two mulT (mulT n d m e).1 (mulT n d m e).2.1 k l = two mulT n d (mulT m e k l).1 (mulT m e k l).2.1
  ds : (addT m e k l).2.2 = 0 → (mulT n d m e).2.2 = 0 → (mulT n d k l).2.2 = 0 → two mulT n d (addT m e k l).1 (addT m e k l).2.1 = two addT (mulT n d m e).1 (mulT n d m e).2.1 (mulT n d k l).1 (mulT n d k l).2.1
theorem fieldFacts {n d m e k l : Int} (ha : valid n d = true) (hb : valid m e = true) (hc : valid k l = true) : FieldFacts n d m e k l where
  ab := two_of ha hb
  ba := (two_of hb ha).trans (add_comm' ..)
  bc := two_of hb hc
  mab := two_of ha hb
  mba := (two_of hb ha).trans (mul_comm' ..)
  mbc := two_of hb hc
  mac := two_of ha hc
  i1 := (add_inR ha hb).1
  i2 := (add_inR ha hb).2
  i3 := (add_inR hb hc).1
  i4 := (add_inR hb hc).2
  i5 := (mul_inR ha hb).1
  i6 := (mul_inR ha hb).2
  i7 := (mul_inR hb hc).1
  i8 := (mul_inR hb hc).2
  i9 := (mul_inR ha hc).1
  i0 := (mul_inR ha hc).2
  e1 := add_err ha hb
  e2 := mul_err ha hb
  s h := (two_of (add_ok ha hb h).v hb).trans (add_sub ha hb h)
  v h hm := (two_of (mul_ok ha hb h).v hb).trans (mul_div' ha hb h hm)
  aa h h' := by rw [two_of (add_ok ha hb h).v hc, two_of ha (add_ok hb hc h').v]; exact add_assoc' ha hb hc h h'
  mm h h' := by rw [two_of (mul_ok ha hb h).v hc, two_of ha (mul_ok hb hc h').v]; exact mul_assoc' ha hb hc h h'
  ds h h1 h2 := by rw [two_of ha (add_ok hb hc h).v, two_of (mul_ok ha hb h1).v (mul_ok ha hc h2).v]; exact mul_dist ha hb hc h h1 h2

def c10 : Ctr := .fn fun args _ => match args with
  | [.agg [.v (.int .i64 n), .v (.int .i64 d)], .agg [.v (.int .i64 m), .v (.int .i64 e)], .agg [.v (.int .i64 k), .v (.int .i64 l)]] => some ([inR .i64 n, inR .i64 d, inR .i64 m, inR .i64 e, inR .i64 k, inR .i64 l], bl true)
  | _ => none
set_option maxHeartbeats 4000000 in
theorem c10_ok : Ctr.Ok Tryd.prog ΓL 10 c10 := Ctr.fn_ok0 (prog_okC LS_ok true [79, 81, 100, 148, 155, 180, 216]) Tryd.func10 rfl rfl rfl (by
  intro args q t hF hq
  split at hF
  next n d m e k l =>
    obtain ⟨rfl, rfl⟩ := Prod.mk.inj (Option.some.inj hF); clear hF
    obtain ⟨h1, h2, h3, h4, h5, h6, -⟩ := hq
    refine ⟨rfl, rfl, ?_⟩
    repeat' ((conv => whnf); (first | apply And.intro | intro _))
    all_goals try (conv => whnf)
    all_goals try (first | rfl | trivial | exact LexB.mk (by kernel_rfl) | exact LexG.mk (by kernel_rfl) | exact Forced.mk (by kernel_rfl))
    all_goals try subst_vars
    all_goals try (first | exact Nat.le_of_ble_eq_true rfl | exact ⟨by assumption⟩)
    all_goals try (simp_all; done)
    all_goals (have hab : valid n d = true ∧ valid m e = true := by simpa using ‹(!(valid n d && valid m e)) = false›
               have hc : valid k l = true := by simpa using ‹(!valid k l) = false›
               obtain ⟨ab, ba, bc, mab, mba, mbc, mac, i1, i2, i3, i4, i5, i6, i7, i8, i9, i0, e1, e2, s, v, aa, mm, ds⟩ := fieldFacts hab.1 hab.2 hc
               simp only [ab, ba, bc, mab, mba, mbc, mac] at *)
    all_goals try exact ⟨by assumption⟩
    all_goals try (clear i1 i2 i3 i4 i5 i6 i7 i8 i9 i0 h1 h2 h3 h4 h5 h6 ab ba bc mab mba mbc mac; simp_all; done)
  next => cases hF)

end Go.Proofs.YtoggkjobihlohaaDoor
