/-
  Chapter 1: ExactRanges, walked.
-/
import Derived.Test.YtoggkjobihlohaaDoorF28
import Derived.Test.YtoggkjobihlohaaDoorF22
namespace Go.Proofs.YtoggkjobihlohaaDoor
open Go Go.Sx
set_option maxRecDepth 100000

def LRG : List (Nat × Ctr) := (57, c57) :: (58, c58) :: (59, c59) :: (60, c60) :: (61, c61) :: (62, c62) :: (63, c63) :: (64, c64) :: (65, c65) :: (66, c66) :: (67, c67) :: (68, c68) :: LH
theorem LRG_ok : LOk Tryd.prog ΓL LRG := (((((((((((LH_ok.cons (FnOk.of Tryd.func68 rfl rfl) c68_ok).cons (FnOk.of Tryd.func67 rfl rfl) c67_ok).cons (FnOk.of Tryd.func66 rfl rfl) c66_ok).cons (FnOk.of Tryd.func65 rfl rfl) c65_ok).cons (FnOk.of Tryd.func64 rfl rfl) c64_ok).cons (FnOk.of Tryd.func63 rfl rfl) c63_ok).cons (FnOk.of Tryd.func62 rfl rfl) c62_ok).cons (FnOk.of Tryd.func61 rfl rfl) c61_ok).cons (FnOk.of Tryd.func60 rfl rfl) c60_ok).cons (FnOk.of Tryd.func59 rfl rfl) c59_ok).cons (FnOk.of Tryd.func58 rfl rfl) c58_ok).cons (FnOk.of Tryd.func57 rfl rfl) c57_ok
theorem twoR_f1 {T : Int → Int → Int → Int → Int → Int → Int → Int → Int × Int × Int × Int × Int} {a b c d k l m n : Int} (h : validR a b c d = false) : twoR T a b c d k l m n = (0, 0, 0, 0, 1) := twoR_bad (by rw [h]; rfl)
theorem twoR_f2 {T : Int → Int → Int → Int → Int → Int → Int → Int → Int × Int × Int × Int × Int} {a b c d k l m n : Int} (h : validR k l m n = false) : twoR T a b c d k l m n = (0, 0, 0, 0, 1) := twoR_bad (by rw [h, Bool.and_false])
theorem twoR_t {T : Int → Int → Int → Int → Int → Int → Int → Int → Int × Int × Int × Int × Int} {a b c d k l m n : Int} (h : validR a b c d = true) (h' : validR k l m n = true) : twoR T a b c d k l m n = T a b c d k l m n := twoR_good (by rw [h, h']; rfl)
theorem sumE_t {a b c d k l m n : Int} (h : validR a b c d = true) (h' : validR k l m n = true) : twoR sumE a b c d k l m n = sumR a b c d k l m n := by
  have v := (validR_iff.1 h).1; have v' := (validR_iff.1 h').1
  rw [twoR_t h h', sumE, two_good (by rw [v.1, v'.1]; rfl), two_good (by rw [v.2, v'.2]; rfl)]
  exact ends_sum h h'
theorem scaleX_f1 {a b c d n m : Int} (h : validR a b c d = false) : scaleX a b c d n m = (0, 0, 0, 0, 1) := scaleX_bad (by rw [h]; rfl)
theorem scaleX_f2 {a b c d n m : Int} (h : valid n m = false) : scaleX a b c d n m = (0, 0, 0, 0, 1) := scaleX_bad (by rw [h, Bool.and_false])
theorem scaleX_t {a b c d n m : Int} (h : validR a b c d = true) (h' : valid n m = true) : scaleX a b c d n m = scaleR a b c d n m := by
  have v := (validR_iff.1 h).1
  rw [scaleX_good (by rw [h, h']; rfl), two_good (by rw [h', v.1]; rfl), two_good (by rw [h', v.2]; rfl)]
  exact ends_scale h h'
theorem asB_self (p q r s e : Int) : asB p q r s e p q r s e = true := by simp [asB]
theorem asB_hull (a b c d k l m n : Int) : asB (hullT a b c d k l m n).1 (hullT a b c d k l m n).2.1 (hullT a b c d k l m n).2.2.1 (hullT a b c d k l m n).2.2.2.1 (hullT a b c d k l m n).2.2.2.2 (leN a b k l).1 (leN a b k l).2 (grN c d m n).1 (grN c d m n).2 0 = true := asB_self ..
def c13 : Ctr := .fn fun args _ => match args with
  | [.agg [.v (.int .i64 a), .v (.int .i64 b), .v (.int .i64 c), .v (.int .i64 d)], .agg [.v (.int .i64 k), .v (.int .i64 l), .v (.int .i64 m), .v (.int .i64 n)], .agg [.v (.int .i64 p), .v (.int .i64 q)]] => some ([inR .i64 a, inR .i64 b, inR .i64 c, inR .i64 d, inR .i64 k, inR .i64 l, inR .i64 m, inR .i64 n, inR .i64 p, inR .i64 q], bl true)
  | _ => none
set_option maxHeartbeats 4000000 in
theorem c13_ok : Ctr.Ok Tryd.prog ΓL 13 c13 := Ctr.fn_ok0 (prog_okC LRG_ok true [47, 83, 134]) Tryd.func13 rfl rfl rfl (by
  intro args q t hF hq
  split at hF
  next a b c d k l m n p q =>
    obtain ⟨rfl, rfl⟩ := Prod.mk.inj (Option.some.inj hF); clear hF
    obtain ⟨h1, h2, h3, h4, h5, h6, h7, h8, h9, h10, -⟩ := hq
    refine ⟨rfl, rfl, ?_⟩
    repeat' ((conv => whnf); (first | apply And.intro | intro _))
    all_goals try (conv => whnf)
    all_goals try (first | rfl | trivial | exact LexB.mk (by kernel_rfl) | exact LexG.mk (by kernel_rfl) | exact LexT.mk (by kernel_rfl) | exact Forced.mk (by kernel_rfl))
    all_goals try subst_vars
    all_goals try (first | exact Nat.le_of_ble_eq_true rfl | exact ⟨by assumption⟩)
    all_goals (cases hX : validR a b c d <;> cases hY : validR k l m n <;> cases hZ : valid p q <;>
      (first
        | exact ⟨by assumption⟩
        | exact ⟨rfl⟩
        | (simp_all [twoR_f1, twoR_f2, sumE_t, scaleX_f1, scaleX_f2, scaleX_t, asB_self, asB_hull, wholeX_bad, wholeX_good, hasB]; done)
        | (simp_all [twoR_f1, twoR_f2, twoR_t, sumE_t, scaleX_f1, scaleX_f2, scaleX_t, asB_self, asB_hull, wholeX_bad, wholeX_good, hasB, wholeT]; done)
        | (simp_all [twoR_f1, twoR_f2, twoR_t, sumE_t, scaleX_f1, scaleX_f2, scaleX_t, asB_self, asB_hull, wholeX_bad, wholeX_good, hasB, wholeT]; omega)
        | (have hw := wholeX_good hX; simp only [wholeT] at hw; split at hw <;> simp_all <;> omega)
        | skip))
  next => cases hF)

end Go.Proofs.YtoggkjobihlohaaDoor
