/-
  Chapter 1: Floor, Ceil and Best, in the reference.
-/
import Derived.Test.YtoggkjobihlohaaDoorF12
namespace Go.Proofs.YtoggkjobihlohaaDoor
open Go Go.Sx
set_option maxRecDepth 100000
variable {Γ : Glob}

def c33 : Ctr := .fn fun args _ => match args with
  | [.agg [.v (.int .i64 n), .v (.int .i64 d)]] => some ([inR .i64 n, 0 < d], .a (vI (n / d)))
  | _ => none
theorem c33_ok : Ctr.Ok Tryd.prog Γ 33 c33 := Ctr.fn_ok0 (prog_ok R6_ok true) Tryd.func33 rfl rfl rfl (by
  intro args q t hF hq
  split at hF
  next n d =>
    obtain ⟨rfl, rfl⟩ := Prod.mk.inj (Option.some.inj hF); clear hF
    obtain ⟨h1, h2, -⟩ := hq
    refine ⟨rfl, rfl, ?_⟩
    repeat' ((conv => whnf); (first | apply And.intro | intro _))
    all_goals try (conv => whnf)
    all_goals try (first | rfl | trivial | exact ⟨by kernel_rfl⟩)
    all_goals try subst_vars
    all_goals first | exact ⟨by assumption⟩ | rfl
  next => cases hF)
def c34 : Ctr := .fn fun args _ => match args with
  | [.agg [.v (.int .i64 n), .v (.int .i64 d)]] => some ([-9223372036854775808 < n, n ≤ 9223372036854775807, 0 < d], .a (vI (upI n d)))
  | _ => none
theorem c34_ok : Ctr.Ok Tryd.prog Γ 34 c34 := Ctr.fn_ok0 (prog_ok R6_ok true) Tryd.func34 rfl rfl rfl (by
  intro args q t hF hq
  split at hF
  next n d =>
    obtain ⟨rfl, rfl⟩ := Prod.mk.inj (Option.some.inj hF); clear hF
    obtain ⟨h1, h2, h3, -⟩ := hq
    refine ⟨rfl, rfl, ?_⟩
    repeat' ((conv => whnf); (first | apply And.intro | intro _))
    all_goals try (conv => whnf)
    all_goals try (first | rfl | trivial | exact ⟨by kernel_rfl⟩)
    all_goals try subst_vars
    all_goals first | exact ⟨by assumption⟩ | rfl
  next => cases hF)
def R7 : List (Nat × Ctr) := (25, c25) :: (32, c32) :: (33, c33) :: (34, c34) :: (75, c75) :: (87, c87) :: R6
theorem R7_ok : LOk Tryd.prog Γ R7 := (((((R6_ok.cons (FnOk.of Tryd.func87 rfl rfl) c87_ok).cons (FnOk.of Tryd.func75 rfl rfl) c75_ok).cons (FnOk.of Tryd.func34 rfl rfl) c34_ok).cons (FnOk.of Tryd.func33 rfl rfl) c33_ok).cons (FnOk.of Tryd.func32 rfl rfl) c32_ok).cons (FnOk.of Tryd.func25 rfl rfl) c25_ok

/-- The greater neighbour is in lowest terms. -/
theorem Nb.Inv.low {n d m : Int} {x : Nb} (hb : BestArg n d m) (h : x.Inv n d m) : lowN x.r x.s = x.r ∧ lowD x.r x.s = x.s ∧ lowE x.r x.s = 0 := by
  have z := h.sz hb
  have hv : valid x.r x.s = true := valid_iff.2 ⟨z.s.1, by have := z.s; have := hb.hm; omega, z.r.1, z.r.2, (gcd_of_un h.un).2⟩
  simp only [lowN, lowD, lowE, low_own hv, and_self]

def c27 : Ctr := .fn fun args _ => match args with
  | [.agg [.v (.int .i64 n), .v (.int .i64 d)], .a (.v (.int .i64 m))] => some ([valid n d = true, inR .i64 m], .agg [vI (bestT n d m).1, vI (bestT n d m).2.1, vI (bestT n d m).2.2])
  | _ => none
theorem c27_ok : Ctr.Ok Tryd.prog Γ 27 c27 := Ctr.fn_ok0 (prog_ok R7_ok true) Tryd.func27 rfl rfl rfl (by
  intro args q t hF hq
  split at hF
  next n d m =>
    obtain ⟨rfl, rfl⟩ := Prod.mk.inj (Option.some.inj hF); clear hF
    obtain ⟨h1, h3, -⟩ := hq
    refine ⟨rfl, rfl, ?_⟩
    have v := valid_iff.1 h1
    repeat' ((conv => whnf); (first | apply And.intro | intro _))
    all_goals try (conv => whnf)
    all_goals try (first | rfl | trivial | exact ⟨by kernel_rfl⟩)
    all_goals try subst_vars
    all_goals try simp only [Bool.not_eq_true', Bool.not_eq_false', decide_eq_true_eq, decide_eq_false_iff_not] at *
    all_goals try exact ⟨by assumption⟩
    all_goals try (rw [bestT_bad (by omega)]; done)
    all_goals try (rw [bestT_own (by omega) (by omega)]; done)
    all_goals (have hb : BestArg n d m := bestArg_of h1 (by omega) (by omega)
               have h0 := Nb.start_inv hb
               have z0 := h0.sz hb
               simp only [Nb.start] at z0
               have zp := z0.p; have zr := z0.r
               obtain ⟨m1, m2⟩ := hb.hm
               have hlt := hb.lt)
    all_goals try exact ⟨by simp only [inR] at *; omega⟩
    rw [bestT_near (by omega) (by omega)]
    refine ⟨Nb, fun x => x.Inv n d m ∧ Nb.fin n d m x = bestN n d m, fun x => ⟨slots 69 [(0, .agg [vI n, vI d]), (1, .a (vI m)), (2, .a (.p 0 0 0)), (4, .a (.p 1 0 0)), (6, .a (vI x.p)), (7, .a (vI x.q)), (8, .a (vI x.r)), (9, .a (vI x.s))],
      [.box true [vI n, vI d], .box true [vI 0, vI 0, vI 0]]⟩, fun x => (2 * m - x.q - x.s).toNat, Nb.start n d, ⟨h0, rfl⟩, ?_, ?_⟩
    · repeat' ((conv => whnf); (first | apply And.intro | intro _))
      all_goals (first | rfl | trivial | exact Nat.zero_lt_succ _ | exact Nat.lt_succ_self _ | decide)
    · rintro x ⟨hi, hf⟩
      have z := hi.sz hb
      have hcl := z.close
      have zp := z.p; have zr := z.r; have zq := z.q; have zs := z.s
      have za := z.a; have zb := z.b
      have hl := hi.low hb
      repeat' ((conv => whnf); (first | apply And.intro | intro _))
      all_goals try (conv => whnf)
      all_goals try (first | rfl | trivial | exact ⟨by kernel_rfl⟩)
      all_goals try subst_vars
      all_goals try dsimp only [CK.ty, Tup] at *
      all_goals try simp only [decide_eq_true_eq, decide_eq_false_iff_not] at *
      all_goals (have e1 : (x.p + x.r) * d = x.p * d + x.r * d := Int.add_mul _ _ _
                 have e2 : n * (x.q + x.s) = n * x.q + n * x.s := Int.mul_add _ _ _
                 have y1 := z.nq; have y2 := z.ns; have y3 := z.pd; have y4 := z.rd)
      all_goals try exact ⟨by assumption⟩
      all_goals try exact ⟨by simp only [inR] at *; omega⟩
      · have k : x.step n d = ⟨x.p + x.r, x.q + x.s, x.r, x.s⟩ := if_pos ‹_›
        have kI := Nb.step_inv hb hi ‹_›
        have kf := Nb.fin_step (n := n) (d := d) zq.1 zs.1 ‹x.q + x.s ≤ m›
        rw [k] at kI kf
        refine ⟨_, ⟨kI, by rw [← kf, hf]⟩, ?_, ?_⟩
        · repeat' ((conv => whnf); (first | apply And.intro | intro _))
          all_goals (first | rfl | trivial | exact Nat.zero_lt_succ _ | exact Nat.lt_succ_self _ | decide)
        · simp only; omega
      · have k : x.step n d = ⟨x.p, x.q, x.p + x.r, x.q + x.s⟩ := if_neg ‹_›
        have kI := Nb.step_inv hb hi ‹_›
        have kf := Nb.fin_step (n := n) (d := d) zq.1 zs.1 ‹x.q + x.s ≤ m›
        rw [k] at kI kf
        refine ⟨_, ⟨kI, by rw [← kf, hf]⟩, ?_, ?_⟩
        · repeat' ((conv => whnf); (first | apply And.intro | intro _))
          all_goals (first | rfl | trivial | exact Nat.zero_lt_succ _ | exact Nat.lt_succ_self _ | decide)
        · simp only; omega
      all_goals (have hfin := Nb.fin_stop (n := n) (d := d) (m := m) (x := x) (by omega)
                 rw [← hf, hfin])
      all_goals first
        | (rw [if_pos ‹closeB x.p x.q x.r x.s n d = true›]; done)
        | (rw [if_neg (by simp only [*]; simp)]; first | exact hl.1 | exact hl.2.1 | exact hl.2.2)
  next => cases hF)
end Go.Proofs.YtoggkjobihlohaaDoor
