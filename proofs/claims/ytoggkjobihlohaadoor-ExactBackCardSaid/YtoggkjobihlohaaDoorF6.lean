/-
  Chapter 1: the reference's Simplest.
-/
import Derived.Test.YtoggkjobihlohaaDoorF5
namespace Go.Proofs.YtoggkjobihlohaaDoor
open Go Go.Sx
set_option maxRecDepth 100000
variable {Γ : Glob}

def c81 : Ctr := .fn fun args _ => match args with
  | [.agg [.v (.int .i64 n), .v (.int .i64 d)], .agg [.v (.int .i64 n'), .v (.int .i64 d')]] => some ([inR .i64 (n * d'), inR .i64 (n' * d)], bl (decide (n * d' < n' * d)))
  | _ => none
theorem c81_ok : Ctr.Ok Tryd.prog Γ 81 c81 := Ctr.fn_ok0 (prog_ok L0_ok true) Tryd.func81 rfl rfl rfl (by
  intro args q t hF hq
  split at hF
  next n d n' d' =>
    obtain ⟨rfl, rfl⟩ := Prod.mk.inj (Option.some.inj hF); clear hF
    obtain ⟨h1, h2, -⟩ := hq
    refine ⟨rfl, rfl, ?_⟩
    repeat' ((conv => whnf); (first | apply And.intro | intro _))
    all_goals try (conv => whnf)
    all_goals try (first | rfl | trivial | exact ⟨by kernel_rfl⟩)
    all_goals try subst_vars
    all_goals first | exact ⟨by assumption⟩ | rfl
  next => cases hF)

def R4 : List (Nat × Ctr) := (22, c22) :: (81, c81) :: (20, c20) :: R2
theorem R4_ok : LOk Tryd.prog Γ R4 := ((R2_ok.cons (FnOk.of Tryd.func20 rfl rfl) c20_ok).cons (FnOk.of Tryd.func81 rfl rfl) c81_ok).cons (FnOk.of Tryd.func22 rfl rfl) c22_ok

def c24 : Ctr := .fn fun args _ => match args with
  | [.agg [.v (.int .i64 a), .v (.int .i64 b), .v (.int .i64 c), .v (.int .i64 d)]] => some ([inR .i64 a, inR .i64 b, inR .i64 c, inR .i64 d], bl (validR a b c d))
  | _ => none
theorem c24_ok : Ctr.Ok Tryd.prog Γ 24 c24 := Ctr.fn_ok0 (prog_ok R4_ok true) Tryd.func24 rfl rfl rfl (by
  intro args q t hF hq
  split at hF
  next a b c d =>
    obtain ⟨rfl, rfl⟩ := Prod.mk.inj (Option.some.inj hF); clear hF
    obtain ⟨h1, h2, h3, h4, -⟩ := hq
    refine ⟨rfl, rfl, ?_⟩
    repeat' ((conv => whnf); (first | apply And.intro | intro _))
    all_goals try (conv => whnf)
    all_goals try (first | rfl | trivial | exact ⟨by kernel_rfl⟩)
    all_goals try subst_vars
    all_goals try simp only [Bool.not_eq_true', Bool.not_eq_false'] at *
    all_goals try exact ⟨by assumption⟩
    all_goals try (rw [validR, ‹valid a b = false›]; rfl)
    all_goals try (rw [validR, ‹valid c d = false›, Bool.and_false]; rfl)
    all_goals (have v1 := valid_iff.1 ‹valid a b = true›; have v2 := valid_iff.1 ‹valid c d = true›)
    all_goals try exact ⟨mul_fits (by omega) (by omega)⟩
    · rw [validR, ‹valid a b = true›, ‹valid c d = true›, Bool.true_and, Bool.true_and, Bool.eq_iff_iff]; simp
  next => cases hF)

def c89 : Ctr := .fn fun args _ => match args with
  | [.a (.v (.int .i64 n)), .a (.v (.int .i64 d))] => some ([inR .i64 n, 0 < d], .a (vI (n / d)))
  | _ => none
theorem c89_ok : Ctr.Ok Tryd.prog Γ 89 c89 := Ctr.fn_ok0 (prog_ok L0_ok true) Tryd.func89 rfl rfl rfl (by
  intro args q t hF hq
  split at hF
  next n d =>
    obtain ⟨rfl, rfl⟩ := Prod.mk.inj (Option.some.inj hF); clear hF
    obtain ⟨h1, h2, -⟩ := hq
    refine ⟨rfl, rfl, ?_⟩
    obtain ⟨b1, b2, b3⟩ := tdiv_le h2 h1
    have e := @fdiv_of_tdiv n d h2
    repeat' ((conv => whnf); (first | apply And.intro | intro _))
    all_goals try (conv => whnf)
    all_goals try (first | rfl | trivial | exact ⟨by kernel_rfl⟩)
    all_goals try subst_vars
    all_goals simp only [decide_eq_true_eq, decide_eq_false_iff_not, inR] at *
    all_goals first
      | exact ⟨by omega⟩
      | (rw [e, if_pos ‹n.tmod d < 0›]; done)
      | (rw [e, if_neg ‹¬ n.tmod d < 0›]; done)
  next => cases hF)

/-- The quotient rounded up. -/
def upI (n d : Int) : Int := -((-n) / d)
theorem up_of_tdiv {n d : Int} (hd : 0 < d) : upI n d = if n.tmod d > 0 then n.tdiv d + 1 else n.tdiv d := by
  unfold upI
  rw [fdiv_of_tdiv hd, Int.neg_tmod, Int.neg_tdiv]
  by_cases h : n.tmod d > 0
  · rw [if_pos h, if_pos (by omega)]; omega
  · rw [if_neg h, if_neg (by omega)]; omega

def c90 : Ctr := .fn fun args _ => match args with
  | [.a (.v (.int .i64 n)), .a (.v (.int .i64 d))] => some ([-9223372036854775808 < n, n ≤ 9223372036854775807, 0 < d], .a (vI (upI n d)))
  | _ => none
theorem c90_ok : Ctr.Ok Tryd.prog Γ 90 c90 := Ctr.fn_ok0 (prog_ok L0_ok true) Tryd.func90 rfl rfl rfl (by
  intro args q t hF hq
  split at hF
  next n d =>
    obtain ⟨rfl, rfl⟩ := Prod.mk.inj (Option.some.inj hF); clear hF
    obtain ⟨h0, h1, h2, -⟩ := hq
    refine ⟨rfl, rfl, ?_⟩
    obtain ⟨b1, b2, -⟩ := tdiv_le (n := n) h2 (by omega)
    obtain ⟨-, -, b3⟩ := tdiv_le (n := -n) h2 (by omega)
    rw [Int.neg_tmod, Int.neg_tdiv] at b3
    have e := @up_of_tdiv n d h2
    repeat' ((conv => whnf); (first | apply And.intro | intro _))
    all_goals try (conv => whnf)
    all_goals try (first | rfl | trivial | exact ⟨by kernel_rfl⟩)
    all_goals try subst_vars
    all_goals try simp only [decide_eq_true_eq, decide_eq_false_iff_not, inR] at *
    all_goals first
      | exact ⟨by omega⟩
      | (rw [e, if_pos ‹n.tmod d > 0›]; done)
      | (rw [e, if_neg ‹¬ n.tmod d > 0›]; done)
  next => cases hF)

def R5 : List (Nat × Ctr) := (89, c89) :: (90, c90) :: R4
theorem R5_ok : LOk Tryd.prog Γ R5 := (R4_ok.cons (FnOk.of Tryd.func90 rfl rfl) c90_ok).cons (FnOk.of Tryd.func89 rfl rfl) c89_ok

def c82k (k : Nat) : Ctr := .fn fun args _ => match args with
  | [.a (.v (.int .i64 a)), .a (.v (.int .i64 b)), .a (.v (.int .i64 c)), .a (.v (.int .i64 d))] =>
    some ([Between a b c d, a ≤ 2147483647 ∧ b ≤ 2147483647 ∧ c ≤ 2147483647 ∧ d ≤ 2147483647, (b + d).toNat ≤ k], .tup [.a (vI (spl a b c d).1), .a (vI (spl a b c d).2)])
  | _ => none
/-- Rounded up, and whether it is still in the interval. -/
structure UpFacts (a b c d : Int) : Prop where
  n1 : 0 ≤ upI a b ∧ upI a b ≤ a ∧ 0 ≤ upI a b * d
  mx : upI a b * d ≤ a * d
  yes : upI a b * d ≤ c → spl a b c d = (upI a b, 1)
  no : ¬ upI a b * d ≤ c → a / b * b ≠ a ∧ ¬ a / b < c / d
theorem upFacts {a b c d : Int} (h : Between a b c d) : UpFacts a b c d := by
  have ha := h.pa; have hb := h.pb; have hc := h.pc; have hd := h.pd
  have ea : a / b * b + a % b = a := Int.ediv_mul_add_emod a b
  have ec : c / d * d + c % d = c := Int.ediv_mul_add_emod c d
  have ra := Int.emod_nonneg a (show b ≠ 0 by omega)
  have la := Int.emod_lt_of_pos a hb
  have rc := Int.emod_nonneg c (show d ≠ 0 by omega)
  have lc := Int.emod_lt_of_pos c hd
  have na : 0 ≤ a / b := Int.ediv_nonneg (by omega) (by omega)
  have nb : a / b ≤ a := Int.ediv_le_self _ (by omega)
  have F := splFacts h
  have hle := h.div_le
  have hu : upI a b = if a % b = 0 then a / b else a / b + 1 := by
    unfold upI
    split
    · rename_i h0
      have : (-a) / b = -(a / b) := by
        refine ((Int.ediv_emod_unique hb (r := 0) (q := -(a / b))).2 ⟨?_, by omega, by omega⟩).1
        rw [Int.mul_neg, Int.mul_comm b]; omega
      omega
    · rename_i h0
      have : (-a) / b = -(a / b) - 1 := by
        refine ((Int.ediv_emod_unique hb (r := b - a % b) (q := -(a / b) - 1)).2 ⟨?_, by omega, by omega⟩).1
        rw [Int.mul_sub, Int.mul_neg, Int.mul_comm b]; omega
      omega
  have hlt : a % b ≠ 0 → a / b + 1 ≤ a := fun h0 => by
    rcases Int.lt_or_le (a / b) a with h5 | h5
    · omega
    · exfalso
      have h6 : a / b = a := by omega
      have h7 : a * 1 ≤ a * b := Int.mul_le_mul_of_nonneg_left (by omega) (by omega)
      rw [h6] at ea; omega
  have hu2 : 0 ≤ upI a b ∧ upI a b ≤ a := by
    rw [hu]; split
    · exact ⟨na, nb⟩
    · rename_i h0; exact ⟨by omega, hlt h0⟩
  refine ⟨⟨hu2.1, hu2.2, Int.mul_nonneg hu2.1 (by omega)⟩, Int.mul_le_mul_of_nonneg_right hu2.2 (by omega), fun h1 => ?_, fun h1 => ?_⟩
  · by_cases h0 : a % b = 0
    · rw [hu, if_pos h0]; exact F.one (by omega)
    · rw [hu, if_neg h0] at h1 ⊢
      exact F.two (by omega) ((Int.le_ediv_iff_mul_le hd).2 h1)
  · by_cases h0 : a % b = 0
    · rw [hu, if_pos h0] at h1
      exact absurd ((Int.le_ediv_iff_mul_le hd).1 hle) h1
    · rw [hu, if_neg h0] at h1
      exact ⟨by omega, fun h2 => h1 ((Int.le_ediv_iff_mul_le hd).1 h2)⟩

theorem c82k_ok : ∀ k, Ctr.Ok Tryd.prog Γ 82 (c82k k) := by
  intro k
  induction k with
  | zero =>
    intro args rg q t hF hq
    simp only at hF
    split at hF
    · obtain ⟨rfl, rfl⟩ := Prod.mk.inj (Option.some.inj hF)
      obtain ⟨h1, h2, h3, -⟩ := hq
      have := h1.pb; have := h1.pd; omega
    · cases hF
  | succ k ih => exact Ctr.fn_ok0 (prog_ok (R5_ok.cons (FnOk.of Tryd.func82 rfl rfl) ih) true) Tryd.func82 rfl rfl rfl (by
      intro args q t hF hq
      split at hF
      next a b c d =>
        obtain ⟨rfl, rfl⟩ := Prod.mk.inj (Option.some.inj hF); clear hF
        obtain ⟨h1, h2, h3, -⟩ := hq
        refine ⟨rfl, rfl, ?_⟩
        have pa := h1.pa; have pb := h1.pb; have pc := h1.pc; have pd := h1.pd
        have F := splFacts h1
        have U := upFacts h1
        have n0 := F.n0
        have n1 := U.n1
        have n2 : upI a b * d ≤ 4611686014132420609 := Int.le_trans U.mx (mul_small (a := a) (b := d) (by omega) (by omega)).2
        have F3 := F.nxt; have F4 := F.res
        have q1 : c / d ≤ c := Int.ediv_le_self _ (by omega)
        have U1 := U.yes; have U2 := U.no
        repeat' ((conv => whnf); (first | apply And.intro | intro _))
        all_goals try (conv => whnf)
        all_goals try (first | rfl | trivial | exact ⟨by kernel_rfl⟩)
        all_goals try subst_vars
        all_goals try simp only [decide_eq_true_eq, decide_eq_false_iff_not, beq_iff_eq, beq_eq_false_iff_ne, inR] at *
        all_goals try (have G1 := U1 ‹_›)
        all_goals try (have G2 := U2 ‹_›; have G3 := F3 G2.1 G2.2; have G3b := G3.1.pb; have G3d := G3.1.pd; have G4 := F4 G2.1 G2.2)
        all_goals (first | exact ⟨by omega⟩ | exact ⟨G3.1⟩ | (rw [G1]; done) | (rw [G4.2.2.2.2]; done))
      next => cases hF)

def c82 : Ctr := .fn fun args _ => match args with
  | [.a (.v (.int .i64 a)), .a (.v (.int .i64 b)), .a (.v (.int .i64 c)), .a (.v (.int .i64 d))] =>
    some ([Between a b c d, a ≤ 2147483647 ∧ b ≤ 2147483647 ∧ c ≤ 2147483647 ∧ d ≤ 2147483647], .tup [.a (vI (spl a b c d).1), .a (vI (spl a b c d).2)])
  | _ => none
theorem c82_ok : Ctr.Ok Tryd.prog Γ 82 c82 := by
  intro args rg q t hF hq
  simp only at hF
  split at hF
  next a b c d =>
    obtain ⟨rfl, rfl⟩ := Prod.mk.inj (Option.some.inj hF)
    obtain ⟨h1, h2, -⟩ := hq
    exact c82k_ok (b + d).toNat _ rg _ _ rfl ⟨h1, h2, Nat.le_refl _, trivial⟩
  next => cases hF

def R6 : List (Nat × Ctr) := (24, c24) :: (82, c82) :: R5
theorem R6_ok : LOk Tryd.prog Γ R6 := (R5_ok.cons (FnOk.of Tryd.func82 rfl rfl) c82_ok).cons (FnOk.of Tryd.func24 rfl rfl) c24_ok

def c25 : Ctr := .fn fun args _ => match args with
  | [.agg [.v (.int .i64 a), .v (.int .i64 b), .v (.int .i64 c), .v (.int .i64 d)]] => some ([validR a b c d = true], .agg [vI (simT a b c d).1, vI (simT a b c d).2])
  | _ => none
theorem c25_ok : Ctr.Ok Tryd.prog Γ 25 c25 := Ctr.fn_ok0 (prog_ok R6_ok true) Tryd.func25 rfl rfl rfl (by
  intro args q t hF hq
  split at hF
  next a b c d =>
    obtain ⟨rfl, rfl⟩ := Prod.mk.inj (Option.some.inj hF); clear hF
    obtain ⟨h1, -⟩ := hq
    refine ⟨rfl, rfl, ?_⟩
    have F := simFacts h1
    have hb := F.bd
    have F1 := F.pos; have F2 := F.neg; have F3 := F.nul
    have F1b : ¬ 0 < a ∨ 0 < c := (Int.lt_or_le 0 a).elim (fun h => .inr (F1 h).2.1) (fun h => .inl (by omega))
    have F2b : 0 ≤ c ∨ 0 < a ∨ a < 0 := (Int.lt_or_le c 0).elim (fun h => (Int.lt_or_le 0 a).elim (fun h2 => .inr (.inl h2)) (fun h2 => .inr (.inr (F2 (by omega) h).2.1))) (fun h => .inl h)
    repeat' ((conv => whnf); (first | apply And.intro | intro _))
    all_goals try (conv => whnf)
    all_goals try (first | rfl | trivial | exact ⟨by kernel_rfl⟩)
    all_goals try subst_vars
    all_goals try simp only [decide_eq_true_eq, decide_eq_false_iff_not] at *
    all_goals try (have G1 := F1 (by omega))
    all_goals try (have G2 := F2 (by omega) (by omega))
    all_goals try (have G3 := F3 (by omega) (by omega))
    all_goals first
      | exact ⟨G1.1⟩
      | exact ⟨G2.1⟩
      | exact ⟨by omega⟩
      | exact ⟨by simp only [inR]; omega⟩
      | (rw [G1.2.2]; done)
      | (rw [G2.2.2.1]; done)
      | (rw [G3]; done)
  next => cases hF)
end Go.Proofs.YtoggkjobihlohaaDoor
