/-
  Chapter 1: ExactOrder, walked.
-/
import Derived.Test.YtoggkjobihlohaaDoorF24
namespace Go.Proofs.YtoggkjobihlohaaDoor
open Go Go.Sx
set_option maxRecDepth 100000

/-- What ExactOrder looks at. -/
structure OrderFacts (n d m e k l : Int) : Prop where
  ab : cmpX n d m e = (cmpI n d m e, 0)
  ba : cmpX m e n d = (cmpI m e n d, 0)
  bc : cmpX m e k l = (cmpI m e k l, 0)
  ac : cmpX n d k l = (cmpI n d k l, 0)
  sac : two addT n d k l = addT n d k l
  sbc : two addT m e k l = addT m e k l
  mac : two mulT n d k l = mulT n d k l
  mbc : two mulT m e k l = mulT m e k l
  dab : two medT n d m e = medT n d m e
  i1 : inR .i64 (addT n d k l).1
  i2 : inR .i64 (addT n d k l).2.1
  i3 : inR .i64 (addT m e k l).1
  i4 : inR .i64 (addT m e k l).2.1
  i5 : inR .i64 (mulT n d k l).1
  i6 : inR .i64 (mulT n d k l).2.1
  i7 : inR .i64 (mulT m e k l).1
  i8 : inR .i64 (mulT m e k l).2.1
  i9 : inR .i64 (medT n d m e).1
  i0 : inR .i64 (medT n d m e).2.1
  an : cmpI n d m e = 0 - cmpI m e n d
  bo : -1 ≤ cmpI m e n d ∧ cmpI m e n d ≤ 1
  zo : cmpI n d m e = 0 ↔ n = m ∧ d = e
  zb : (cmpI n d m e == 0) = (n == m && (d == e && true))
  tr : cmpI n d m e ≤ 0 → cmpI m e k l ≤ 0 → cmpI n d k l ≤ 0
  ad : (addT n d k l).2.2 = 0 → (addT m e k l).2.2 = 0 → cmpX (addT n d k l).1 (addT n d k l).2.1 (addT m e k l).1 (addT m e k l).2.1 = (cmpI n d m e, 0)
  mu : (mulT n d k l).2.2 = 0 → (mulT m e k l).2.2 = 0 → 0 < k → cmpX (mulT n d k l).1 (mulT n d k l).2.1 (mulT m e k l).1 (mulT m e k l).2.1 = (cmpI n d m e, 0)
  m1 : (medT n d m e).2.2 = 0 → cmpX n d (medT n d m e).1 (medT n d m e).2.1 = (cmpI n d m e, 0)
  m2 : (medT n d m e).2.2 = 0 → cmpX (medT n d m e).1 (medT n d m e).2.1 m e = (cmpI n d m e, 0)
theorem orderFacts {n d m e k l : Int} (ha : valid n d = true) (hb : valid m e = true) (hc : valid k l = true) : OrderFacts n d m e k l where
  ab := cmpX_of ha hb
  ba := cmpX_of hb ha
  bc := cmpX_of hb hc
  ac := cmpX_of ha hc
  sac := two_of ha hc
  sbc := two_of hb hc
  mac := two_of ha hc
  mbc := two_of hb hc
  dab := two_of ha hb
  i1 := (add_inR ha hc).1
  i2 := (add_inR ha hc).2
  i3 := (add_inR hb hc).1
  i4 := (add_inR hb hc).2
  i5 := (mul_inR ha hc).1
  i6 := (mul_inR ha hc).2
  i7 := (mul_inR hb hc).1
  i8 := (mul_inR hb hc).2
  i9 := (med_inR ha hb).1
  i0 := (med_inR ha hb).2
  an := cmp_anti ..
  bo := by unfold cmpI; split; · omega
           split <;> omega
  zo := cmp_zero ha hb
  zb := by rw [Bool.eq_iff_iff]; simpa using cmp_zero ha hb
  tr := cmp_trans ha hb hc
  ad h h' := by rw [cmpX_of (add_ok ha hc h).v (add_ok hb hc h').v, cmp_add ha hb hc h h']
  mu h h' hk := by rw [cmpX_of (mul_ok ha hc h).v (mul_ok hb hc h').v, cmp_mul ha hb hc hk h h']
  m1 h := by rw [cmpX_of ha (med_ok ha hb h).v, (cmp_med ha hb h).1]
  m2 h := by rw [cmpX_of (med_ok ha hb h).v hb, (cmp_med ha hb h).2]

def c9 : Ctr := .fn fun args _ => match args with
  | [.agg [.v (.int .i64 n), .v (.int .i64 d)], .agg [.v (.int .i64 m), .v (.int .i64 e)], .agg [.v (.int .i64 k), .v (.int .i64 l)]] => some ([inR .i64 n, inR .i64 d, inR .i64 m, inR .i64 e, inR .i64 k, inR .i64 l], bl true)
  | _ => none
set_option maxHeartbeats 4000000 in
theorem c9_ok : Ctr.Ok Tryd.prog ΓL 9 c9 := Ctr.fn_ok0 (prog_okC LS_ok true [102, 120, 156, 181]) Tryd.func9 rfl rfl rfl (by
  intro args q t hF hq
  split at hF
  next n d m e k l =>
    obtain ⟨rfl, rfl⟩ := Prod.mk.inj (Option.some.inj hF); clear hF
    obtain ⟨h1, h2, h3, h4, h5, h6, -⟩ := hq
    refine ⟨rfl, rfl, ?_⟩
    repeat' ((conv => whnf); (first | apply And.intro | intro _))
    all_goals try (conv => whnf)
    all_goals try (first | rfl | trivial | exact LexB.mk (by kernel_rfl) | exact LexG.mk (by kernel_rfl) | exact Forced.mk (by kernel_rfl))
    all_goals try subst_vars
    all_goals try (first | exact Nat.le_of_ble_eq_true rfl | exact ⟨by assumption⟩)
    all_goals try (simp_all; done)
    all_goals (have hab : valid n d = true ∧ valid m e = true := by simpa using ‹(!(valid n d && valid m e)) = false›
               have hc : valid k l = true := by simpa using ‹(!valid k l) = false›
               obtain ⟨ab, ba, bc, ac, sac, sbc, mac, mbc, dab, i1, i2, i3, i4, i5, i6, i7, i8, i9, i0, an, bo, zo, zb, tr, ad, mu, m1, m2⟩ := orderFacts hab.1 hab.2 hc
               simp only [ab, ba, bc, ac, sac, sbc, mac, mbc, dab] at *)
    all_goals try exact ⟨by assumption⟩
    all_goals try (exact ⟨by simp only [inR]; omega⟩)
    all_goals (clear i1 i2 i3 i4 i5 i6 i7 i8 i9 i0 h1 h2 h3 h4 h5 h6 ab ba bc ac sac sbc mac mbc dab)
    all_goals try (simp_all; done)
    all_goals try (simp_all; omega)
    all_goals try (rw [zb] at *; simp_all; done)
    all_goals try (simp only [decide_eq_true_eq] at *; have := tr ‹_› ‹_›; omega)
  next => cases hF)

end Go.Proofs.YtoggkjobihlohaaDoor
