/-
  Chapter 1: Part, in the program and in the reference.
-/
import Derived.Test.YtoggkjobihlohaaDoorF6
namespace Go.Proofs.YtoggkjobihlohaaDoor
open Go Go.Sx
set_option maxRecDepth 100000
variable {Γ : Glob}

/-- The integers next to a multiple of a valid number. -/
def partT (n d k : Int) : Int × Int × Int := if k < -2147483647 ∨ 2147483647 < k then (0, 0, 3) else (n * k / d, upI (n * k) d, 0)
theorem partT_bad {n d k : Int} (h : k < -2147483647 ∨ 2147483647 < k) : partT n d k = (0, 0, 3) := if_pos h
theorem partT_good {n d k : Int} (h : ¬ (k < -2147483647 ∨ 2147483647 < k)) : partT n d k = (n * k / d, upI (n * k) d, 0) := if_neg h
def partX (n d k : Int) : Int × Int × Int := if valid n d = true then partT n d k else (0, 0, 1)
theorem partX_bad {n d k : Int} (h : valid n d = false) : partX n d k = (0, 0, 1) := by simp only [partX, h, Bool.false_eq_true, if_false]
theorem partX_good {n d k : Int} (h : valid n d = true) : partX n d k = partT n d k := if_pos h
theorem div_fits {n d : Int} (hd : 0 < d) (hn : -4611686014132420609 ≤ n ∧ n ≤ 4611686014132420609) : -4611686014132420609 ≤ n / d ∧ n / d ≤ 4611686014132420609 := by
  refine ⟨(Int.le_ediv_iff_mul_le hd).2 ?_, ?_⟩
  · have : 4611686014132420609 * 1 ≤ 4611686014132420609 * d := Int.mul_le_mul_of_nonneg_left (by omega) (by omega)
    omega
  · rcases Int.lt_or_le n 0 with h | h
    · have := Int.ediv_neg_of_neg_of_pos h hd; omega
    · have := Int.ediv_le_self d h; omega

def L6 : List (Nat × Ctr) := (23, c23) :: L5
theorem L6_ok : LOk Tryd.prog Γ L6 := L5_ok.cons (FnOk.of Tryd.func23 rfl rfl) c23_ok

def c31 : Ctr := .fn fun args _ => match args with
  | [.agg [.v (.int .i64 n), .v (.int .i64 d)], .a (.v (.int .i64 k))] => some ([inR .i64 n, inR .i64 d, inR .i64 k], .tup [.agg [vI (partX n d k).1, vI (partX n d k).2.1], .a (vI (partX n d k).2.2)])
  | _ => none
theorem c31_ok : Ctr.Ok Tryd.prog Γ 31 c31 := Ctr.fn_ok0 (prog_ok L6_ok true) Tryd.func31 rfl rfl rfl (by
  intro args q t hF hq
  split at hF
  next n d k =>
    obtain ⟨rfl, rfl⟩ := Prod.mk.inj (Option.some.inj hF); clear hF
    obtain ⟨h1, h2, h3, -⟩ := hq
    refine ⟨rfl, rfl, ?_⟩
    repeat' ((conv => whnf); (first | apply And.intro | intro _))
    all_goals try (conv => whnf)
    all_goals try (first | rfl | trivial | exact ⟨by kernel_rfl⟩)
    all_goals try subst_vars
    all_goals try dsimp only [CK.ty, Tup, kII] at *
    all_goals try simp only [allValid, List.all_cons, List.all_nil, Bool.and_true, beq_iff_eq, beq_eq_false_iff_ne, bne_iff_ne, bne_eq_false_iff_eq, ite_ok, ite_err, decide_eq_true_eq, decide_eq_false_iff_not] at *
    all_goals try (refine ⟨?_⟩; first | decide | (simp; done))
    all_goals try exact ⟨⟨h1, h2⟩, trivial⟩
    all_goals try (first | (rw [partX_bad ‹_›]; done) | (rw [partX_bad ‹_›, ‹valid n d = false›]; rfl))
    all_goals try (rw [partX_good ‹_›, partT_bad (by omega)]; done)
    all_goals (have v := valid_iff.1 ‹valid n d = true›
               have m := mul_small (a := k) (b := n) (by omega) (by omega)
               have e : (0 - k) * n = -(k * n) := by rw [Int.zero_sub, Int.neg_mul]
               have hd : 0 < d := by omega
               have f1 := div_fits (n := k * n) hd (by omega)
               have f2 := div_fits (n := -(k * n)) hd (by omega)
               have g := partX_good (k := k) ‹valid n d = true›)
    all_goals rw [partT_good (by omega), upI, Int.mul_comm n k] at g
    all_goals try rw [e]
    all_goals first
      | exact ⟨by omega⟩
      | exact ⟨by simp only [inR]; omega⟩
      | (rw [g]; first | done | (simp only; omega))
  next => cases hF)

def c32 : Ctr := .fn fun args _ => match args with
  | [.agg [.v (.int .i64 n), .v (.int .i64 d)], .a (.v (.int .i64 k))] => some ([valid n d = true, inR .i64 k], .tup [.agg [vI (partT n d k).1, vI (partT n d k).2.1], .a (vI (partT n d k).2.2)])
  | _ => none
theorem c32_ok : Ctr.Ok Tryd.prog Γ 32 c32 := Ctr.fn_ok0 (prog_ok R6_ok true) Tryd.func32 rfl rfl rfl (by
  intro args q t hF hq
  split at hF
  next n d k =>
    obtain ⟨rfl, rfl⟩ := Prod.mk.inj (Option.some.inj hF); clear hF
    obtain ⟨h1, h3, -⟩ := hq
    refine ⟨rfl, rfl, ?_⟩
    have v := valid_iff.1 h1
    repeat' ((conv => whnf); (first | apply And.intro | intro _))
    all_goals try (conv => whnf)
    all_goals try (first | rfl | trivial | exact ⟨by kernel_rfl⟩)
    all_goals try subst_vars
    all_goals try simp only [decide_eq_true_eq, decide_eq_false_iff_not] at *
    all_goals try (rw [partT_bad (by omega)]; done)
    all_goals (have m := mul_small (a := n) (b := k) (by omega) (by omega))
    all_goals first
      | exact ⟨by omega⟩
      | exact ⟨by simp only [inR]; omega⟩
      | (rw [partT_good (by omega)]; done)
  next => cases hF)
end Go.Proofs.YtoggkjobihlohaaDoor
