/-
  Chapter 1: ExactClosest, walked.
-/
import Derived.Test.YtoggkjobihlohaaDoorP8
namespace Go.Proofs.YtoggkjobihlohaaDoor
open Go Go.Sx
set_option maxRecDepth 100000
variable {Γ : Glob}

theorem low_inR {n d : Int} (hd : 0 < d) : inR .i64 (lowT n d).1 ∧ inR .i64 (lowT n d).2.1 := by
  rcases low_spec (n := n) hd with g | g
  · have v := valid_iff.1 g.v
    simp only [inR]; omega
  · rw [g]; simp only [inR]; omega
theorem sub_inR {n d m e : Int} (ha : valid n d = true) (hb : valid m e = true) : inR .i64 (subT n d m e).1 ∧ inR .i64 (subT n d m e).2.1 := low_inR (Int.mul_pos (vpos ha) (vpos hb))
/-- What near's walk needs: of two distances that are numbers, the lesser one first. -/
structure NearFacts (n d p q u v : Int) : Prop where
  a : (subT n d p q).2.2 = 0 → valid (subT n d p q).1 (subT n d p q).2.1 = true ∧ valid (0 - (subT n d p q).1) (subT n d p q).2.1 = true
  b : (subT n d u v).2.2 = 0 → valid (subT n d u v).1 (subT n d u v).2.1 = true ∧ valid (0 - (subT n d u v).1) (subT n d u v).2.1 = true
  c : (subT n d p q).2.2 = 0 → (subT n d u v).2.2 = 0 → ((subT n d p q).1.natAbs : Int) * (subT n d u v).2.1 ≤ ((subT n d u v).1.natAbs : Int) * (subT n d p q).2.1
theorem nearFacts {n d p q u v : Int} (ha : valid n d = true) (hb : valid p q = true) (hc : valid u v = true) (h : Close n d p q u v) : NearFacts n d p q u v :=
  ⟨fun h => ⟨(sub_ok ha hb h).v, valid_neg (sub_ok ha hb h).v⟩, fun h => ⟨(sub_ok ha hc h).v, valid_neg (sub_ok ha hc h).v⟩, fun h1 h2 => near_le ha hb hc h1 h2 h⟩
theorem cmp_nonpos' (n d m e : Int) : cmpI n d m e ≤ 0 ↔ n * e ≤ m * d := by
  have := cmp_le n d m e
  rw [Bool.eq_iff_iff] at this
  simpa using this
theorem cmp_of_le {x d y e : Int} (h1 : valid x d = true) (h2 : valid y e = true) (h : x * e ≤ y * d) : cmpX x d y e = (cmpI x d y e, 0) ∧ cmpI x d y e ≤ 0 :=
  ⟨cmpX_good (by rw [h1, h2]; rfl), (cmp_nonpos' x d y e).2 h⟩

def c36 : Ctr := .fn fun args _ => match args with
  | [.agg [.v (.int .i64 n), .v (.int .i64 d)], .agg [.v (.int .i64 p), .v (.int .i64 q)], .agg [.v (.int .i64 u), .v (.int .i64 v)]] => some ([valid n d = true, valid p q = true, valid u v = true, Close n d p q u v], bl true)
  | _ => none
theorem c36_ok : Ctr.Ok Tryd.prog Γ 36 c36 := Ctr.fn_ok0 (prog_ok ((L10_ok.cons (FnOk.of Tryd.func41 rfl rfl) c41_ok).cons (FnOk.of Tryd.func37 rfl rfl) c37_ok) true) Tryd.func36 rfl rfl rfl (by
  intro args q t hF hq
  split at hF
  next n d p q u v =>
    obtain ⟨rfl, rfl⟩ := Prod.mk.inj (Option.some.inj hF); clear hF
    obtain ⟨h1, h2, h3, h4, -⟩ := hq
    refine ⟨rfl, rfl, ?_⟩
    repeat' ((conv => whnf); (first | apply And.intro | intro _))
    all_goals try (conv => whnf)
    all_goals try (first | rfl | trivial | exact LexB.mk (by kernel_rfl) | exact LexG.mk (by kernel_rfl) | exact Forced.mk (by kernel_rfl))
    all_goals try subst_vars
    all_goals (have v1 := valid_iff.1 h1; have v2 := valid_iff.1 h2; have v3 := valid_iff.1 h3)
    all_goals try exact ⟨by simp only [inR]; omega⟩
    all_goals (have t1 : two subT n d p q = subT n d p q := two_good (by rw [h1, h2]; rfl)
               have t2 : two subT n d u v = subT n d u v := two_good (by rw [h1, h3]; rfl)
               have F := nearFacts h1 h2 h3 h4
               have r1 := sub_inR h1 h2; have r2 := sub_inR h1 h3
               simp only [t1, t2] at *)
    all_goals (have z1 : (subT n d p q).2.2 = 0 := by simpa using ‹((subT n d p q).2.2 != 0) = false›
               have z2 : (subT n d u v).2.2 = 0 := by simpa using ‹((subT n d u v).2.2 != 0) = false›
               obtain ⟨a1, a2⟩ := F.a z1
               obtain ⟨b1, b2⟩ := F.b z2
               have c := F.c z1 z2
               have w1 := valid_iff.1 a1
               have w2 := valid_iff.1 b1)
    all_goals try exact ⟨by simp only [inR]; omega⟩
    all_goals (clear F z1 z2 r1 r2; generalize (subT n d p q).1 = X at *; generalize (subT n d p q).2.1 = X' at *; generalize (subT n d u v).1 = Y at *; generalize (subT n d u v).2.1 = Y' at *)
    all_goals simp only [decide_eq_true_eq, decide_eq_false_iff_not] at *
    all_goals first
      | (obtain ⟨K1, K2⟩ := cmp_of_le a2 b2 (by rw [show 0 - X = (X.natAbs : Int) by omega, show 0 - Y = (Y.natAbs : Int) by omega]; exact c)
         simp only [K1] at *
         first | exact decide_eq_true K2 | exact K2 | exact absurd ‹((0 : Int) == 0) = false› (by decide))
      | (obtain ⟨K1, K2⟩ := cmp_of_le a2 b1 (by rw [show 0 - X = (X.natAbs : Int) by omega, show Y = (Y.natAbs : Int) by omega]; exact c)
         simp only [K1] at *
         first | exact decide_eq_true K2 | exact K2 | exact absurd ‹((0 : Int) == 0) = false› (by decide))
      | (obtain ⟨K1, K2⟩ := cmp_of_le a1 b2 (by rw [show X = (X.natAbs : Int) by omega, show 0 - Y = (Y.natAbs : Int) by omega]; exact c)
         simp only [K1] at *
         first | exact decide_eq_true K2 | exact K2 | exact absurd ‹((0 : Int) == 0) = false› (by decide))
      | (obtain ⟨K1, K2⟩ := cmp_of_le a1 b1 (by rw [show X = (X.natAbs : Int) by omega, show Y = (Y.natAbs : Int) by omega]; exact c)
         simp only [K1] at *
         first | exact decide_eq_true K2 | exact K2 | exact absurd ‹((0 : Int) == 0) = false› (by decide))
  next => cases hF)

structure CloseFacts (n d m M : Int) : Prop where
  E : bestX n d m = ((bestT n d m).1, (bestT n d m).2.1, 0)
  E' : bestX n d M = ((bestT n d M).1, (bestT n d M).2.1, 0)
  v : valid (bestT n d m).1 (bestT n d m).2.1 = true
  v' : valid (bestT n d M).1 (bestT n d M).2.1 = true
  q : ¬ (bestT n d m).2.1 > m
  q' : ¬ (bestT n d M).2.1 > M
  own : d ≤ m → (bestT n d m).1 = n ∧ (bestT n d m).2.1 = d
  c : Close n d (bestT n d M).1 (bestT n d M).2.1 (bestT n d m).1 (bestT n d m).2.1
  b : ∀ u v : Int, 1 ≤ v → v ≤ m → Close n d (bestT n d m).1 (bestT n d m).2.1 u v
theorem closeFacts {n d m M : Int} (hv : valid n d = true) (h1 : 1 ≤ m) (h2 : m ≤ M) (h3 : M ≤ 3000) : CloseFacts n d m M := by
  obtain ⟨e, ⟨v, q, c⟩, o⟩ := best_ok hv (m := m) (by omega)
  obtain ⟨e', ⟨v', q', c'⟩, _⟩ := best_ok hv (m := M) (by omega)
  refine ⟨?_, ?_, v, v', by omega, by omega, o, c' _ _ (by have := vpos v; omega) (by omega), c⟩
  · rw [bestX_good hv, ← e]
  · rw [bestX_good hv, ← e']

def LC : List (Nat × Ctr) := (36, c36) :: LS
theorem LC_ok : LOk Tryd.prog ΓL LC := LS_ok.cons (FnOk.of Tryd.func36 rfl rfl) c36_ok

def c8 : Ctr := .fn fun args _ => match args with
  | [.agg [.v (.int .i64 n), .v (.int .i64 d)], .agg [.v (.int .i64 k), .v (.int .i64 l)], .a (.v (.int .i64 m)), .a (.v (.int .i64 M))] => some ([inR .i64 n, inR .i64 d, inR .i64 k, inR .i64 l, inR .i64 m, inR .i64 M], bl true)
  | _ => none
set_option maxHeartbeats 4000000 in
theorem c8_ok : Ctr.Ok Tryd.prog ΓL 8 c8 := Ctr.fn_ok0 (prog_okC LC_ok true [74]) Tryd.func8 rfl rfl rfl (by
  intro args q t hF hq
  split at hF
  next n d k l m M =>
    obtain ⟨rfl, rfl⟩ := Prod.mk.inj (Option.some.inj hF); clear hF
    obtain ⟨h1, h2, h3, h4, h5, h6, -⟩ := hq
    refine ⟨rfl, rfl, ?_⟩
    repeat' ((conv => whnf); (first | apply And.intro | intro _))
    all_goals try (conv => whnf)
    all_goals try (first | rfl | trivial | exact LexB.mk (by kernel_rfl) | exact LexG.mk (by kernel_rfl) | exact Forced.mk (by kernel_rfl))
    all_goals try subst_vars
    all_goals try (first | exact Nat.le_of_ble_eq_true rfl | exact ⟨by assumption⟩)
    all_goals try (simp_all; done)
    all_goals (have hab : valid n d = true ∧ valid k l = true := by simpa using ‹(!(valid n d && valid k l)) = false›
               simp only [decide_eq_true_eq, decide_eq_false_iff_not] at *
               obtain ⟨E, E', v, v', q, q', own, c, b⟩ := closeFacts (m := m) (M := M) hab.1 (by omega) (by omega) (by omega)
               simp only [E, E'] at *)
    all_goals try exact ⟨by assumption⟩
    all_goals try (simp_all; done)
    all_goals first | exact ⟨hab.1⟩ | exact ⟨hab.2⟩ | exact ⟨c⟩ | exact ⟨b _ _ (by have := vpos hab.2; omega) (by omega)⟩
  next => cases hF)

end Go.Proofs.YtoggkjobihlohaaDoor
