/-
  Chapter 1: sizes, common divisors, validity, quotients: the walks and what they compute.
-/
import Derived.Test.YtoggkjobihlohaaDoorEnv
namespace Go.Proofs.YtoggkjobihlohaaDoor
open Go Go.Sx
set_option maxRecDepth 100000
variable {Γ : Glob}

theorem L0_ok : LOk Tryd.prog Γ [] := LOk.nil

theorem u64_wrap (n : Int) (h : 0 ≤ n ∧ n ≤ 18446744073709551615) : IntKind.u64.wrap n = n := IntWalk.u64_in n h
theorem size_neg (n : Int) (h : -9223372036854775808 ≤ n ∧ n < 0) : IntKind.u64.wrap (0 - IntKind.u64.wrap n) = (n.natAbs : Int) := by
  simp only [IntKind.wrap, IntKind.bits, IntKind.signed, Bool.false_and, Bool.false_eq_true, if_false]
  omega
theorem gcd_step (x y : Int) (hx : 0 ≤ x) (hy : 0 ≤ y) : Int.gcd y (x % y) = Int.gcd x y := by
  obtain ⟨m, rfl⟩ := Int.eq_ofNat_of_zero_le hx
  obtain ⟨n, rfl⟩ := Int.eq_ofNat_of_zero_le hy
  rw [← Int.natCast_emod, Int.gcd_natCast_natCast, Int.gcd_natCast_natCast, Nat.gcd_comm m n]
  rw [Nat.gcd_rec n m, Nat.gcd_comm]

def c76 : Ctr := .fn fun args _ => match args with
  | [.a (.v (.int .i64 n))] => some ([inR .i64 n], .a (.v (.int .u64 (n.natAbs : Int))))
  | _ => none
theorem c76_ok : Ctr.Ok Tryd.prog Γ 76 c76 := Ctr.fn_ok0 (prog_ok L0_ok false) Tryd.func76 rfl rfl rfl (by
  intro args q t hF hq
  split at hF
  next n =>
    obtain ⟨rfl, rfl⟩ := Prod.mk.inj (Option.some.inj hF); clear hF
    obtain ⟨h1, -⟩ := hq
    refine ⟨rfl, rfl, ?_⟩
    repeat' ((conv => whnf); (first | apply And.intro | intro _))
    all_goals try (conv => whnf)
    all_goals try (first | rfl | trivial | exact ⟨by kernel_rfl⟩)
    all_goals subst_vars
    all_goals simp only [decide_eq_true_eq, decide_eq_false_iff_not, inR] at *
    · exact size_neg n (by omega)
    · rw [u64_wrap n (by omega)]; omega
  next => cases hF)

def c77 : Ctr := .fn fun args _ => match args with
  | [.a (.v (.int .u64 a)), .a (.v (.int .u64 b))] => some ([inR .u64 a, inR .u64 b], .a (.v (.int .u64 (Int.gcd a b : Int))))
  | _ => none
theorem c77_ok : Ctr.Ok Tryd.prog Γ 77 c77 := Ctr.fn_ok0 (prog_ok L0_ok true) Tryd.func77 rfl rfl rfl (by
  intro args q t hF hq
  split at hF
  next a b =>
    obtain ⟨rfl, rfl⟩ := Prod.mk.inj (Option.some.inj hF); clear hF
    obtain ⟨h1, h2, -⟩ := hq
    refine ⟨rfl, rfl, ?_⟩
    conv => whnf
    refine ⟨Int × Int, fun x => 0 ≤ x.1 ∧ 0 ≤ x.2 ∧ Int.gcd x.1 x.2 = Int.gcd a b, fun x => ⟨slots 12 [(0, .a (.v (.int .u64 x.1))), (1, .a (.v (.int .u64 x.2)))], []⟩, fun x => x.2.toNat, (a, b), ?_, ?_, ?_⟩
    · simp only [inR] at *; simp; omega
    · repeat' ((conv => whnf); (first | apply And.intro | intro _))
      all_goals (first | rfl | trivial)
    · rintro ⟨x, y⟩ ⟨g1, g2, g3⟩
      simp only at g1 g2 g3
      repeat' ((conv => whnf); (first | apply And.intro | intro _))
      all_goals try (first | rfl | trivial | exact ⟨by kernel_rfl⟩)
      all_goals try subst_vars
      · exact ⟨by simpa using ‹((x, y).snd != 0) = true›⟩
      · have hy : y ≠ 0 := by simpa using ‹((x, y).snd != 0) = true›
        conv => whnf
        refine ⟨(y, x.tmod y), ⟨g2, ?_, ?_⟩, ?_, ?_⟩
        · exact Int.tmod_nonneg _ g1
        · simp only; rw [← g3, IntWalk.rem_in _ _ g1, gcd_step x y g1 g2]
        · repeat' ((conv => whnf); (first | apply And.intro | intro _))
          all_goals (first | rfl | trivial)
        · simp only; rw [IntWalk.rem_in _ _ g1]
          have := Int.emod_lt_of_pos x (show 0 < y by omega)
          have := Int.emod_nonneg x hy
          omega
      · have hy : y = 0 := by simpa using ‹((x, y).snd != 0) = false›
        subst hy
        rw [← g3]
        simp only [Int.gcd_zero_right]
        omega
  next => cases hF)

/-- A number is valid. -/
def valid (n d : Int) : Bool := decide (1 ≤ d ∧ d ≤ 2147483647 ∧ -2147483647 ≤ n ∧ n ≤ 2147483647 ∧ Int.gcd n d = 1)
theorem valid_iff {n d : Int} : valid n d = true ↔ 1 ≤ d ∧ d ≤ 2147483647 ∧ -2147483647 ≤ n ∧ n ≤ 2147483647 ∧ Int.gcd n d = 1 := by simp [valid]

def L1 : List (Nat × Ctr) := [(76, c76), (77, c77)]
theorem L1_ok : LOk Tryd.prog Γ L1 := (LOk.nil.cons (FnOk.of Tryd.func77 rfl rfl) c77_ok).cons (FnOk.of Tryd.func76 rfl rfl) c76_ok

def c21 : Ctr := .fn fun args _ => match args with
  | [.agg [.v (.int .i64 n), .v (.int .i64 d)]] => some ([inR .i64 n, inR .i64 d], bl (valid n d))
  | _ => none
theorem c21_ok : Ctr.Ok Tryd.prog Γ 21 c21 := Ctr.fn_ok0 (prog_ok L1_ok true) Tryd.func21 rfl rfl rfl (by
  intro args q t hF hq
  split at hF
  next n d =>
    obtain ⟨rfl, rfl⟩ := Prod.mk.inj (Option.some.inj hF); clear hF
    obtain ⟨h1, h2, -⟩ := hq
    refine ⟨rfl, rfl, ?_⟩
    repeat' ((conv => whnf); (first | apply And.intro | intro _))
    all_goals try (conv => whnf)
    all_goals try (first | rfl | trivial | exact ⟨by kernel_rfl⟩)
    all_goals try subst_vars
    all_goals try rw [Bool.eq_iff_iff, valid_iff, beq_iff_eq]
    all_goals try rw [← Bool.not_eq_true, valid_iff]
    all_goals simp only [decide_eq_true_eq, decide_eq_false_iff_not, inR, Int.gcd, Int.natAbs_natCast] at *
    all_goals (first | omega | exact ⟨by omega⟩)
  next => cases hF)

/-- A quotient of integers in lowest terms, or an error: out of both sizes without what they have in common. -/
def lowC (n d A B : Int) : Int × Int × Int :=
  if 2147483647 < A ∨ 2147483647 < B then (0, 0, 3) else (if decide (n < 0) = decide (d < 0) then A else -A, B, 0)
theorem lowC_bad {n d A B : Int} (h : 2147483647 < A ∨ 2147483647 < B) : lowC n d A B = (0, 0, 3) := if_pos h
theorem lowC_pos {n d A B : Int} (h : ¬ (2147483647 < A ∨ 2147483647 < B)) (hs : decide (n < 0) = decide (d < 0)) : lowC n d A B = (A, B, 0) := by simp only [lowC, if_neg h, if_pos hs]
theorem lowC_neg {n d A B : Int} (h : ¬ (2147483647 < A ∨ 2147483647 < B)) (hs : ¬ decide (n < 0) = decide (d < 0)) : lowC n d A B = (-A, B, 0) := by simp only [lowC, if_neg h, if_neg hs]
def lowT (n d : Int) : Int × Int × Int := lowC n d ((n.natAbs : Int) / (Int.gcd n d : Int)) ((d.natAbs : Int) / (Int.gcd n d : Int))
def lowN (n d : Int) : Int := (lowT n d).1
def lowD (n d : Int) : Int := (lowT n d).2.1
def lowE (n d : Int) : Int := (lowT n d).2.2

theorem div_le_nat (a b : Int) (ha : 0 ≤ a) (hb : 0 ≤ b) : 0 ≤ a / b ∧ a / b ≤ a :=
  ⟨Int.ediv_nonneg ha hb, Int.ediv_le_self _ ha⟩

def vI (n : Int) : At := .v (.int .i64 n)

def c73 : Ctr := .fn fun args _ => match args with
  | [.a (.v (.int .i64 n)), .a (.v (.int .i64 d))] => some ([inR .i64 n, inR .i64 d, d ≠ 0], .tup [.agg [vI (lowN n d), vI (lowD n d)], .a (vI (lowE n d))])
  | _ => none
theorem c73_ok : Ctr.Ok Tryd.prog Γ 73 c73 := Ctr.fn_ok0 (prog_ok L1_ok true) Tryd.func73 rfl rfl rfl (by
  intro args q t hF hq
  split at hF
  next n d =>
    obtain ⟨rfl, rfl⟩ := Prod.mk.inj (Option.some.inj hF); clear hF
    obtain ⟨h1, h2, h3, -⟩ := hq
    refine ⟨rfl, rfl, ?_⟩
    have hg : 0 < Nat.gcd n.natAbs d.natAbs := Nat.gcd_pos_of_pos_right _ (by omega)
    have ha := div_le_nat (n.natAbs : Int) (Nat.gcd n.natAbs d.natAbs : Int) (by omega) (by omega)
    have hb := div_le_nat (d.natAbs : Int) (Nat.gcd n.natAbs d.natAbs : Int) (by omega) (by omega)
    have e1 : (n.natAbs : Int).tdiv (Nat.gcd n.natAbs d.natAbs : Int) = (n.natAbs : Int) / (Nat.gcd n.natAbs d.natAbs : Int) := Int.tdiv_eq_ediv_of_nonneg (by omega)
    have e2 : (d.natAbs : Int).tdiv (Nat.gcd n.natAbs d.natAbs : Int) = (d.natAbs : Int) / (Nat.gcd n.natAbs d.natAbs : Int) := Int.tdiv_eq_ediv_of_nonneg (by omega)
    repeat' ((conv => whnf); (first | apply And.intro | intro _))
    all_goals try (conv => whnf)
    all_goals try (first | rfl | trivial | exact ⟨by kernel_rfl⟩)
    all_goals try subst_vars
    all_goals simp only [decide_eq_true_eq, decide_eq_false_iff_not, inR, lowN, lowD, lowE, lowT] at *
    all_goals try simp only [Int.gcd, Int.natAbs_natCast] at *
    all_goals (try simp only [e1, e2] at *)
    all_goals (first | omega | exact ⟨by omega⟩ | skip)
    all_goals (clear e1 e2; generalize (n.natAbs : Int) / (Nat.gcd n.natAbs d.natAbs : Int) = A at *; generalize (d.natAbs : Int) / (Nat.gcd n.natAbs d.natAbs : Int) = B at *)
    all_goals try (rw [lowC_bad (by omega)]; done)
    · rw [lowC_neg (by omega) (by simpa using ‹(!decide (n < 0) == decide (d < 0)) = true›)]; simp
    · rw [lowC_neg (by omega) (by simpa using ‹(!decide (n < 0) == decide (d < 0)) = true›)]
    · rw [lowC_neg (by omega) (by simpa using ‹(!decide (n < 0) == decide (d < 0)) = true›)]
    · rw [lowC_pos (by omega) (by simpa using ‹(!decide (n < 0) == decide (d < 0)) = false›)]
    · rw [lowC_pos (by omega) (by simpa using ‹(!decide (n < 0) == decide (d < 0)) = false›)]
    · rw [lowC_pos (by omega) (by simpa using ‹(!decide (n < 0) == decide (d < 0)) = false›)]
  next => cases hF)
def L2 : List (Nat × Ctr) := (21, c21) :: (73, c73) :: L1
theorem L2_ok : LOk Tryd.prog Γ L2 := (L1_ok.cons (FnOk.of Tryd.func73 rfl rfl) c73_ok).cons (FnOk.of Tryd.func21 rfl rfl) c21_ok

/-- What Make makes. -/
def makeT (n d : Int) : Int × Int × Int := if d = 0 then (0, 0, 1) else lowT n d
theorem makeT_zero {n d : Int} (h : d = 0) : makeT n d = (0, 0, 1) := if_pos h
theorem makeT_ne {n d : Int} (h : d ≠ 0) : makeT n d = lowT n d := if_neg h
def c17 : Ctr := .fn fun args _ => match args with
  | [.a (.v (.int .i64 n)), .a (.v (.int .i64 d))] => some ([inR .i64 n, inR .i64 d], .tup [.agg [vI (makeT n d).1, vI (makeT n d).2.1], .a (vI (makeT n d).2.2)])
  | _ => none
theorem c17_ok : Ctr.Ok Tryd.prog Γ 17 c17 := Ctr.fn_ok0 (prog_ok L2_ok true) Tryd.func17 rfl rfl rfl (by
  intro args q t hF hq
  split at hF
  next n d =>
    obtain ⟨rfl, rfl⟩ := Prod.mk.inj (Option.some.inj hF); clear hF
    obtain ⟨h1, h2, -⟩ := hq
    refine ⟨rfl, rfl, ?_⟩
    repeat' ((conv => whnf); (first | apply And.intro | intro _))
    all_goals try (conv => whnf)
    all_goals try (first | rfl | trivial | exact ⟨by kernel_rfl⟩)
    all_goals try subst_vars
    all_goals simp only [beq_iff_eq, beq_eq_false_iff_ne, inR] at *
    all_goals try (exact ⟨by omega⟩)
    all_goals first | rw [makeT_zero ‹d = 0›] | rw [makeT_ne ‹d ≠ 0›]
    all_goals rfl
  next => cases hF)

def c79 : Ctr := .fn fun args _ => match args with
  | [.a (.v (.int .i64 n))] => some ([-9223372036854775808 < n, n ≤ 9223372036854775807], .a (.v (.int .i64 (n.natAbs : Int))))
  | _ => none
theorem c79_ok : Ctr.Ok Tryd.prog Γ 79 c79 := Ctr.fn_ok0 (prog_ok L0_ok true) Tryd.func79 rfl rfl rfl (by
  intro args q t hF hq
  split at hF
  next n =>
    obtain ⟨rfl, rfl⟩ := Prod.mk.inj (Option.some.inj hF); clear hF
    obtain ⟨h1, h2, -⟩ := hq
    refine ⟨rfl, rfl, ?_⟩
    repeat' ((conv => whnf); (first | apply And.intro | intro _))
    all_goals try (conv => whnf)
    all_goals try (first | rfl | trivial | exact ⟨by kernel_rfl⟩)
    all_goals try subst_vars
    all_goals simp only [decide_eq_true_eq, decide_eq_false_iff_not, inR] at *
    all_goals (first | omega | exact ⟨by omega⟩)
  next => cases hF)

def c78 : Ctr := .fn fun args _ => match args with
  | [.a (.v (.int .i64 a)), .a (.v (.int .i64 b))] => some ([0 ≤ a, 0 ≤ b, inR .i64 a, inR .i64 b], .a (.v (.int .i64 (Int.gcd a b : Int))))
  | _ => none
theorem c78_ok : Ctr.Ok Tryd.prog Γ 78 c78 := Ctr.fn_ok0 (prog_ok L0_ok true) Tryd.func78 rfl rfl rfl (by
  intro args q t hF hq
  split at hF
  next a b =>
    obtain ⟨rfl, rfl⟩ := Prod.mk.inj (Option.some.inj hF); clear hF
    obtain ⟨h1, h2, h3, h4, -⟩ := hq
    refine ⟨rfl, rfl, ?_⟩
    conv => whnf
    refine ⟨Int × Int, fun x => 0 ≤ x.1 ∧ 0 ≤ x.2 ∧ Int.gcd x.1 x.2 = Int.gcd a b, fun x => ⟨slots 14 [(0, .a (.v (.int .i64 x.1))), (1, .a (.v (.int .i64 x.2)))], []⟩, fun x => x.2.toNat, (a, b), ?_, ?_, ?_⟩
    · exact ⟨h1, h2, rfl⟩
    · repeat' ((conv => whnf); (first | apply And.intro | intro _))
      all_goals (first | rfl | trivial)
    · rintro ⟨x, y⟩ ⟨g1, g2, g3⟩
      simp only at g1 g2 g3
      repeat' ((conv => whnf); (first | apply And.intro | intro _))
      all_goals try (first | rfl | trivial | exact ⟨by kernel_rfl⟩)
      all_goals try subst_vars
      · exact ⟨by simpa using ‹((x, y).snd != 0) = true›⟩
      · have hy : y ≠ 0 := by simpa using ‹((x, y).snd != 0) = true›
        conv => whnf
        refine ⟨(y, x.tmod y), ⟨g2, ?_, ?_⟩, ?_, ?_⟩
        · exact Int.tmod_nonneg _ g1
        · simp only; rw [← g3, IntWalk.rem_in _ _ g1, gcd_step x y g1 g2]
        · repeat' ((conv => whnf); (first | apply And.intro | intro _))
          all_goals (first | rfl | trivial)
        · simp only; rw [IntWalk.rem_in _ _ g1]
          have := Int.emod_lt_of_pos x (show 0 < y by omega)
          have := Int.emod_nonneg x hy
          omega
      · have hy : y = 0 := by simpa using ‹((x, y).snd != 0) = false›
        subst hy
        rw [← g3]
        simp only [Int.gcd_zero_right]
        omega
  next => cases hF)
def c22 : Ctr := .fn fun args _ => match args with
  | [.agg [.v (.int .i64 n), .v (.int .i64 d)]] => some ([inR .i64 n, inR .i64 d], bl (valid n d))
  | _ => none
theorem c22_ok : Ctr.Ok Tryd.prog Γ 22 c22 := Ctr.fn_ok0 (prog_ok ((L0_ok.cons (FnOk.of Tryd.func78 rfl rfl) c78_ok).cons (FnOk.of Tryd.func79 rfl rfl) c79_ok) true) Tryd.func22 rfl rfl rfl (by
  intro args q t hF hq
  split at hF
  next n d =>
    obtain ⟨rfl, rfl⟩ := Prod.mk.inj (Option.some.inj hF); clear hF
    obtain ⟨h1, h2, -⟩ := hq
    refine ⟨rfl, rfl, ?_⟩
    repeat' ((conv => whnf); (first | apply And.intro | intro _))
    all_goals try (conv => whnf)
    all_goals try (first | rfl | trivial | exact ⟨by kernel_rfl⟩)
    all_goals try subst_vars
    all_goals try rw [Bool.eq_iff_iff, valid_iff, beq_iff_eq]
    all_goals try rw [← Bool.not_eq_true, valid_iff]
    all_goals try rw [eq_comm, ← Bool.not_eq_true, valid_iff]
    all_goals simp only [decide_eq_true_eq, decide_eq_false_iff_not, inR] at *
    all_goals try simp only [Int.gcd, Int.natAbs_natCast] at *
    all_goals (first | omega | exact ⟨by omega⟩)
  next => cases hF)

def R1 : List (Nat × Ctr) := (78, c78) :: (79, c79) :: []
theorem R1_ok : LOk Tryd.prog Γ R1 := (L0_ok.cons (FnOk.of Tryd.func79 rfl rfl) c79_ok).cons (FnOk.of Tryd.func78 rfl rfl) c78_ok

theorem gcd_rem (n d : Int) : Int.gcd (((n.tmod d).natAbs : Int)) d = Int.gcd n d := by
  rw [Int.gcd_eq_natAbs_gcd_natAbs, Int.gcd_eq_natAbs_gcd_natAbs, Int.natAbs_natCast, Int.natAbs_tmod, Nat.gcd_comm, Nat.gcd_comm n.natAbs]
  rw [Nat.gcd_comm d.natAbs, ← Nat.gcd_rec]
theorem tdiv_sign (n g : Int) : n.tdiv g = if n < 0 then - ((n.natAbs : Int).tdiv g) else (n.natAbs : Int).tdiv g := by
  split
  · rw [← Int.neg_tdiv]; congr 1; omega
  · congr 1; omega

/-- For a divisor greater than 0, by division rounded to 0. -/
theorem low_pos {n d : Int} (hd : 0 < d) : lowT n d = if d.tdiv (Int.gcd n d) > 2147483647 ∨ n.tdiv (Int.gcd n d) < -2147483647 ∨ n.tdiv (Int.gcd n d) > 2147483647 then (0, 0, 3) else (n.tdiv (Int.gcd n d), d.tdiv (Int.gcd n d), 0) := by
  have hg : 0 < (Int.gcd n d : Int) := by have := Int.gcd_pos_of_ne_zero_right n (show d ≠ 0 by omega); omega
  have e1 : (n.natAbs : Int).tdiv (Int.gcd n d) = (n.natAbs : Int) / (Int.gcd n d : Int) := Int.tdiv_eq_ediv_of_nonneg (by omega)
  have e2 : d.tdiv (Int.gcd n d) = (d.natAbs : Int) / (Int.gcd n d : Int) := by rw [show (d.natAbs : Int) = d by omega]; exact Int.tdiv_eq_ediv_of_nonneg (by omega)
  have h0 : 0 ≤ (n.natAbs : Int) / (Int.gcd n d : Int) := Int.ediv_nonneg (by omega) (by omega)
  have h1 : 0 ≤ (d.natAbs : Int) / (Int.gcd n d : Int) := Int.ediv_nonneg (by omega) (by omega)
  unfold lowT
  rw [tdiv_sign n, e1, e2]
  generalize (n.natAbs : Int) / (Int.gcd n d : Int) = A at *
  generalize (d.natAbs : Int) / (Int.gcd n d : Int) = B at *
  by_cases hn : n < 0
  · rw [if_pos hn]
    by_cases hb : 2147483647 < A ∨ 2147483647 < B
    · rw [lowC_bad hb, if_pos (by omega)]
    · rw [lowC_neg hb (by simp; omega), if_neg (by omega)]
  · rw [if_neg hn]
    by_cases hb : 2147483647 < A ∨ 2147483647 < B
    · rw [lowC_bad hb, if_pos (by omega)]
    · rw [lowC_pos hb (by simp; omega), if_neg (by omega)]
theorem low_bad {n d : Int} (hd : 0 < d) (h : d.tdiv (Int.gcd n d) > 2147483647 ∨ n.tdiv (Int.gcd n d) < -2147483647 ∨ n.tdiv (Int.gcd n d) > 2147483647) : 0 = lowN n d ∧ 0 = lowD n d ∧ 3 = lowE n d := by
  simp only [lowN, lowD, lowE, low_pos hd, if_pos h, and_self]
theorem low_good {n d : Int} (hd : 0 < d) (h : ¬ (d.tdiv (Int.gcd n d) > 2147483647 ∨ n.tdiv (Int.gcd n d) < -2147483647 ∨ n.tdiv (Int.gcd n d) > 2147483647)) : n.tdiv (Int.gcd n d) = lowN n d ∧ d.tdiv (Int.gcd n d) = lowD n d ∧ 0 = lowE n d := by
  simp only [lowN, lowD, lowE, low_pos hd, if_neg h, and_self]

def c75 : Ctr := .fn fun args _ => match args with
  | [.a (.v (.int .i64 n)), .a (.v (.int .i64 d))] => some ([inR .i64 n, inR .i64 d, 0 < d], .agg [vI (lowN n d), vI (lowD n d), vI (lowE n d)])
  | _ => none
theorem c75_ok : Ctr.Ok Tryd.prog Γ 75 c75 := Ctr.fn_ok0 (prog_ok R1_ok true) Tryd.func75 rfl rfl rfl (by
  intro args q t hF hq
  split at hF
  next n d =>
    obtain ⟨rfl, rfl⟩ := Prod.mk.inj (Option.some.inj hF); clear hF
    obtain ⟨h1, h2, h3, -⟩ := hq
    refine ⟨rfl, rfl, ?_⟩
    have hg : 0 < (Int.gcd n d : Int) := by have := Int.gcd_pos_of_ne_zero_right n (show d ≠ 0 by omega); omega
    have t1 : n.tmod d < d := Int.tmod_lt_of_pos n h3
    have t2 : -d < n.tmod d := by have := Int.tmod_lt_of_pos (-n) h3; rw [Int.neg_tmod] at this; omega
    have e1 : (n.natAbs : Int).tdiv (Int.gcd n d) = (n.natAbs : Int) / (Int.gcd n d : Int) := Int.tdiv_eq_ediv_of_nonneg (by omega)
    have e2 : d.tdiv (Int.gcd n d) = d / (Int.gcd n d : Int) := Int.tdiv_eq_ediv_of_nonneg (by omega)
    have ha := div_le_nat (n.natAbs : Int) (Int.gcd n d) (by omega) (by omega)
    have hb := div_le_nat d (Int.gcd n d) (by omega) (by omega)
    have hs := tdiv_sign n (Int.gcd n d)
    have h0 : n = 0 → (Int.gcd n d : Int) = d := fun h => by rw [h, Int.gcd_zero_left]; omega
    have bad := @low_bad n d h3
    have good := @low_good n d h3
    repeat' ((conv => whnf); (first | apply And.intro | intro _))
    all_goals try (conv => whnf)
    all_goals try (first | rfl | trivial | exact ⟨by kernel_rfl⟩)
    all_goals try subst_vars
    all_goals simp only [decide_eq_true_eq, decide_eq_false_iff_not, inR, bne_iff_ne, bne_eq_false_iff_eq, gcd_rem] at *
    all_goals generalize (Int.gcd n d : Int) = G at *
    all_goals try (have hGd := h0 (by assumption); subst hGd)
    all_goals (first | exact ⟨by omega⟩ | exact (bad (by omega)).1 | exact (bad (by omega)).2.1 | exact (bad (by omega)).2.2 | exact (good (by omega)).1 | exact (good (by omega)).2.1 | exact (good (by omega)).2.2)
  next => cases hF)

end Go.Proofs.YtoggkjobihlohaaDoor
