/-
  Chapter 1: Best, in the program.
-/
import Derived.Test.YtoggkjobihlohaaDoorP3
namespace Go.Proofs.YtoggkjobihlohaaDoor
open Go Go.Sx
set_option maxRecDepth 100000
variable {Γ : Glob}

def L7 : List (Nat × Ctr) := (86, c86) :: (85, c85) :: L6
theorem L7_ok : LOk Tryd.prog Γ L7 := (L6_ok.cons (FnOk.of Tryd.func85 rfl rfl) c85_ok).cons (FnOk.of Tryd.func86 rfl rfl) c86_ok

theorem bestArg_of {n d m : Int} (h : valid n d = true) (h1 : ¬ (m < 1 ∨ 100000 < m)) (h2 : ¬ d ≤ m) : BestArg n d m := by
  have v := valid_iff.1 h
  exact ⟨by omega, by omega, by omega, by omega, v.2.2.2.2⟩
/-- What closer wants. -/
theorem Nb.Sz.close {n d m : Int} {x : Nb} (h : x.Sz n d m) : inR .i64 (n * x.q) ∧ inR .i64 (x.p * d) ∧ inR .i64 (n * x.q - x.p * d) ∧ inR .i64 ((n * x.q - x.p * d) * x.s) ∧ inR .i64 (x.r * d) ∧ inR .i64 (n * x.s) ∧ inR .i64 (x.r * d - n * x.s) ∧ inR .i64 ((x.r * d - n * x.s) * x.q) := by
  obtain ⟨a, b, p, r, nq, ns, pd, rd, ab, bq, q, s⟩ := h
  simp only [inR]
  omega
theorem cmp_lt (a b c d : Int) : cmpI a b c d < 0 ↔ a * d < c * b := by
  unfold cmpI
  split
  · omega
  · split <;> omega
/-- What a product of a number of steps and a neighbour comes to. -/
theorem steps_fit {k u v : Int} (h1 : 1 ≤ k ∧ k ≤ 100000) (h2 : -2147483647 ≤ u ∧ u ≤ 2147483647) (h3 : 1 ≤ v ∧ v ≤ 100000) : -214748364700000 ≤ k * u ∧ k * u ≤ 214748364700000 ∧ 0 ≤ k * v ∧ k * v ≤ 10000000000 := by
  have a := mulB (a := k) (b := u) (A := 100000) (B := 2147483647) (by omega) (by omega) (by omega) (by omega)
  have b := mulB (a := k) (b := v) (A := 100000) (B := 100000) (by omega) (by omega) (by omega) (by omega)
  have c := Int.mul_nonneg (a := k) (b := v) (by omega) (by omega)
  omega

def c26 : Ctr := .fn fun args _ => match args with
  | [.agg [.v (.int .i64 n), .v (.int .i64 d)], .a (.v (.int .i64 m))] => some ([inR .i64 n, inR .i64 d, inR .i64 m], .tup [.agg [vI (bestX n d m).1, vI (bestX n d m).2.1], .a (vI (bestX n d m).2.2)])
  | _ => none
theorem c26_ok : Ctr.Ok Tryd.prog Γ 26 c26 := Ctr.fn_ok0 (prog_ok L7_ok true) Tryd.func26 rfl rfl rfl (by
  intro args q t hF hq
  split at hF
  next n d m =>
    obtain ⟨rfl, rfl⟩ := Prod.mk.inj (Option.some.inj hF); clear hF
    obtain ⟨h1, h2, h3, -⟩ := hq
    refine ⟨rfl, rfl, ?_⟩
    repeat' ((conv => whnf); (first | apply And.intro | intro _))
    all_goals try (conv => whnf)
    all_goals try (first | rfl | trivial | exact ⟨by kernel_rfl⟩)
    all_goals try subst_vars
    all_goals try simp only [Bool.not_eq_true', Bool.not_eq_false', decide_eq_true_eq, decide_eq_false_iff_not] at *
    all_goals try exact ⟨by assumption⟩
    all_goals try (rw [bestX_bad ‹_›]; done)
    all_goals have hX := bestX_good (m := m) ‹valid n d = true›
    all_goals try (rw [hX, bestT_bad (by omega)]; done)
    all_goals try (rw [hX, bestT_own (by omega) (by omega)]; done)
    all_goals (have hb : BestArg n d m := bestArg_of ‹valid n d = true› (by omega) (by omega)
               have h0 := Nb.start_inv hb
               have z0 := h0.sz hb
               simp only [Nb.start] at z0
               have zp := z0.p; have zr := z0.r
               obtain ⟨m1, m2⟩ := hb.hm
               have hlt := hb.lt)
    · exact ⟨by omega⟩
    · exact ⟨by simp only [inR] at *; omega⟩
    rw [hX, bestT_near (by omega) (by omega)]
    refine ⟨Nb, fun x => x.Inv n d m ∧ Nb.fin n d m x = bestN n d m, fun x => ⟨slots 73 [(0, .agg [vI n, vI d]), (1, .a (vI m)), (2, .a (.p 0 0 0)), (4, .a (.p 1 0 0)), (5, .a (vI 0)), (7, .a (.p 2 0 0)), (8, .a (.p 3 0 0))],
      [.box true [vI n, vI d], .box true [vI 0, vI 0], .box true [vI x.p, vI x.q], .box true [vI x.r, vI x.s]]⟩, fun x => (2 * m - x.q - x.s).toNat, Nb.start n d, ⟨h0, rfl⟩, ?_, ?_⟩
    · repeat' ((conv => whnf); (first | apply And.intro | intro _))
      all_goals (first | rfl | trivial | exact Nat.zero_lt_succ _ | exact Nat.lt_succ_self _ | decide)
    · rintro x ⟨hi, hf⟩
      have z := hi.sz hb
      have hcl := z.close
      have zp := z.p; have zr := z.r; have zq := z.q; have zs := z.s
      have za := z.a; have zb := z.b
      repeat' ((conv => whnf); (first | apply And.intro | intro _))
      all_goals try (conv => whnf)
      all_goals try (first | rfl | trivial | exact ⟨by kernel_rfl⟩)
      all_goals try subst_vars
      all_goals try dsimp only [CK.ty, Tup] at *
      all_goals try simp only [decide_eq_true_eq, decide_eq_false_iff_not, cmp_lt] at *
      all_goals (have e1 : (x.p + x.r) * d = x.p * d + x.r * d := Int.add_mul _ _ _
                 have e2 : n * (x.q + x.s) = n * x.q + n * x.s := Int.mul_add _ _ _
                 have y1 := z.nq; have y2 := z.ns; have y3 := z.pd; have y4 := z.rd)
      all_goals try exact ⟨by assumption⟩
      all_goals try exact ⟨by simp only [inR] at *; omega⟩
      all_goals try (have K := Nb.lo_inv hb hi ‹x.q + x.s ≤ m› ‹(x.p + x.r) * d < n * (x.q + x.s)›
                     obtain ⟨k1, k2, kI, kf, kq⟩ := K
                     have kr := steps_fit ⟨k1, k2⟩ zr ⟨zs.1, by omega⟩)
      all_goals try (have K := Nb.hi_inv hb hi ‹x.q + x.s ≤ m› ‹¬ (x.p + x.r) * d < n * (x.q + x.s)›
                     obtain ⟨k1, k2, kI, kf, kq⟩ := K
                     have kr := steps_fit ⟨k1, k2⟩ zp ⟨zq.1, by omega⟩)
      all_goals try exact ⟨by simp only [inR] at *; omega⟩
      · refine ⟨x.lo n d m, ⟨kI, by rw [← kf, hf]⟩, ?_, ?_⟩
        · repeat' ((conv => whnf); (first | apply And.intro | intro _))
          all_goals (first | rfl | trivial | exact Nat.zero_lt_succ _ | exact Nat.lt_succ_self _ | decide)
        · have s1 := kI.ok.q; have s2 := kI.ok.s
          have s3 : (x.lo n d m).s = x.s := rfl
          omega
      · refine ⟨x.hi n d m, ⟨kI, by rw [← kf, hf]⟩, ?_, ?_⟩
        · repeat' ((conv => whnf); (first | apply And.intro | intro _))
          all_goals (first | rfl | trivial | exact Nat.zero_lt_succ _ | exact Nat.lt_succ_self _ | decide)
        · have s1 := kI.ok.q; have s2 := kI.ok.s
          have s3 : (x.hi n d m).q = x.q := rfl
          omega
      all_goals (have hfin := Nb.fin_stop (n := n) (d := d) (m := m) (x := x) (by omega)
                 rw [← hf, hfin]
                 by_cases hc : closeB x.p x.q x.r x.s n d = true
                 · rw [if_pos hc]; try rw [if_pos hc]
                 · rw [if_neg hc]; try rw [if_neg hc])
  next => cases hF)
end Go.Proofs.YtoggkjobihlohaaDoor
