/-
  Chapter 1: rounding down, comparing, lists of valid numbers, valid intervals.
-/
import Derived.Test.YtoggkjobihlohaaDoorF2
namespace Go.Proofs.YtoggkjobihlohaaDoor
open Go Go.Sx
set_option maxRecDepth 100000
variable {Γ : Glob}

def c74 : Ctr := .fn fun args _ => match args with
  | [.a (.v (.int .i64 n)), .a (.v (.int .i64 d))] => some ([], .agg [vI n, vI d])
  | _ => none
theorem c74_ok : Ctr.Ok Tryd.prog Γ 74 c74 := Ctr.fn_ok0 (prog_ok L0_ok true) Tryd.func74 rfl rfl rfl (by
  intro args q t hF hq
  split at hF
  next n d =>
    obtain ⟨rfl, rfl⟩ := Prod.mk.inj (Option.some.inj hF); clear hF
    refine ⟨rfl, rfl, ?_⟩
    repeat' ((conv => whnf); (first | apply And.intro | intro _))
    all_goals try (conv => whnf)
    all_goals (first | rfl | trivial | exact ⟨by kernel_rfl⟩)
  next => cases hF)

/-- The quotient rounded down is Int's. -/
theorem fdiv_of_tdiv {n d : Int} (hd : 0 < d) : n / d = if n.tmod d < 0 then n.tdiv d - 1 else n.tdiv d := by
  have h1 := Int.mul_tdiv_add_tmod n d
  have h2 := Int.tmod_lt_of_pos n hd
  have h3 : -d < n.tmod d := by have := Int.tmod_lt_of_pos (-n) hd; rw [Int.neg_tmod] at this; omega
  split
  · refine (Int.ediv_emod_unique hd (r := n.tmod d + d) (q := n.tdiv d - 1)).2 ⟨?_, by omega, by omega⟩ |>.1
    rw [Int.mul_sub]; omega
  · exact ((Int.ediv_emod_unique hd (r := n.tmod d) (q := n.tdiv d)).2 ⟨by omega, by omega, by omega⟩).1
theorem tdiv_le {n d : Int} (hd : 0 < d) (hn : -9223372036854775808 ≤ n ∧ n ≤ 9223372036854775807) : -9223372036854775808 ≤ n.tdiv d ∧ n.tdiv d ≤ 9223372036854775807 ∧ (n.tmod d < 0 → n < 0 ∧ (d = 1 → False) ∧ -4611686018427387904 ≤ n.tdiv d) := by
  have h1 := Int.mul_tdiv_add_tmod n d
  have h2 := tdiv_sign n d
  have h3 : (n.natAbs : Int).tdiv d = (n.natAbs : Int) / d := Int.tdiv_eq_ediv_of_nonneg (by omega)
  have h4 := div_le_nat (n.natAbs : Int) d (by omega) (by omega)
  rw [h3] at h2
  refine ⟨by split at h2 <;> omega, by split at h2 <;> omega, fun hm => ?_⟩
  have hneg : n < 0 := by
    rcases Int.lt_or_le n 0 with h | h
    · exact h
    · have := Int.tmod_nonneg d h; omega
  have hd1 : d ≠ 1 := fun e => by subst e; simp at hm
  refine ⟨hneg, hd1, ?_⟩
  rw [if_pos hneg] at h2
  have : (n.natAbs : Int) / d ≤ (n.natAbs : Int) / 2 := by
    refine (Int.le_ediv_iff_mul_le (by omega)).2 ?_
    have h5 : (n.natAbs : Int) / d * d ≤ n.natAbs := Int.ediv_mul_le _ (by omega)
    have h6 : (n.natAbs : Int) / d * 2 ≤ (n.natAbs : Int) / d * d := Int.mul_le_mul_of_nonneg_left (by omega) h4.1
    omega
  omega

def c83 : Ctr := .fn fun args _ => match args with
  | [.a (.v (.int .i64 n)), .a (.v (.int .i64 d))] => some ([inR .i64 n, 0 < d], .a (vI (n / d)))
  | _ => none
theorem c83_ok : Ctr.Ok Tryd.prog Γ 83 c83 := Ctr.fn_ok0 (prog_ok L0_ok true) Tryd.func83 rfl rfl rfl (by
  intro args q t hF hq
  split at hF
  next n d =>
    obtain ⟨rfl, rfl⟩ := Prod.mk.inj (Option.some.inj hF); clear hF
    obtain ⟨h1, h2, -⟩ := hq
    refine ⟨rfl, rfl, ?_⟩
    obtain ⟨b1, b2, b3⟩ := tdiv_le h2 h1
    have e := @fdiv_of_tdiv n d h2
    repeat' ((conv => whnf); (first | apply And.intro | intro _))
    all_goals try (conv => whnf)
    all_goals try (first | rfl | trivial | exact ⟨by kernel_rfl⟩)
    all_goals try subst_vars
    all_goals simp only [decide_eq_true_eq, decide_eq_false_iff_not, inR] at *
    all_goals first
      | exact ⟨by omega⟩
      | (rw [e, if_pos ‹n.tmod d < 0›]; done)
      | (rw [e, if_neg ‹¬ n.tmod d < 0›]; done)
  next => cases hF)

/-- -1, 0 or 1. -/
def cmpI (n d n' d' : Int) : Int := if n * d' < n' * d then -1 else if n' * d < n * d' then 1 else 0

def c84 : Ctr := .fn fun args _ => match args with
  | [.agg [.v (.int .i64 n), .v (.int .i64 d)], .agg [.v (.int .i64 n'), .v (.int .i64 d')]] => some ([inR .i64 (n * d'), inR .i64 (n' * d)], .a (vI (cmpI n d n' d')))
  | _ => none
theorem c84_ok : Ctr.Ok Tryd.prog Γ 84 c84 := Ctr.fn_ok0 (prog_ok L0_ok true) Tryd.func84 rfl rfl rfl (by
  intro args q t hF hq
  split at hF
  next n d n' d' =>
    obtain ⟨rfl, rfl⟩ := Prod.mk.inj (Option.some.inj hF); clear hF
    obtain ⟨h1, h2, -⟩ := hq
    refine ⟨rfl, rfl, ?_⟩
    repeat' ((conv => whnf); (first | apply And.intro | intro _))
    all_goals try (conv => whnf)
    all_goals try (first | rfl | trivial | exact ⟨by kernel_rfl⟩)
    all_goals try subst_vars
    all_goals simp only [decide_eq_true_eq, decide_eq_false_iff_not, inR, Bool.and_eq_true, beq_iff_eq, Bool.true_and, Bool.and_true] at *
    all_goals try (exact ⟨by omega⟩)
    · obtain ⟨rfl, rfl⟩ := ‹n = n' ∧ d = d'›
      simp only [cmpI, Int.lt_irrefl, if_false]
    · rw [cmpI, if_pos ‹_›]
    · rw [cmpI, if_neg ‹_›, if_pos ‹n * d' > n' * d›]
    · rw [cmpI, if_neg ‹_›, if_neg ‹¬ n * d' > n' * d›]
  next => cases hF)

def inAll : List (Int × Int) → Prop
  | [] => True
  | x :: xs => (inR .i64 x.1 ∧ inR .i64 x.2) ∧ inAll xs
theorem inAll_mem : ∀ {xs : List (Int × Int)}, inAll xs → ∀ x ∈ xs, inR .i64 x.1 ∧ inR .i64 x.2
  | [], _, x, h => by simp at h
  | y :: ys, h, x, hx => by
    simp only [List.mem_cons] at hx
    rcases hx with rfl | hx
    · exact h.1
    · exact inAll_mem h.2 x hx
def allValid (xs : List (Int × Int)) : Bool := xs.all fun x => valid x.1 x.2
theorem getD_arr {rg : List Reg} {r : Nat} {g : Reg} (h : rg.getD r .dead = g) (hg : g ≠ .dead) : rg[r]? = some g := by
  cases hh : rg[r]? with
  | none => simp [List.getD, hh] at h; exact absurd h.symm hg
  | some g' => simp [List.getD, hh] at h; rw [h]

/-- A slice of numbers: all of them valid, or ErrArg. -/
def c88 : Ctr := .fn fun args rg => match args with
  | [.a (.sl r lo n)] => (match rg.getD r .dead with
    | .arr _ [.int .i64, .int .i64] xs _ => some ([lo = 0, n = xs.length, xs.length ≤ 1099511627776, inAll xs], .a (vI (if allValid xs then 0 else 1)))
    | _ => none)
  | _ => none
theorem allValid_succ {xs : List (Int × Int)} {i : Nat} (h : i < xs.length) (d : Int × Int) (hv : allValid (xs.take i) = true) (hx : valid (xs.getD i d).1 (xs.getD i d).2 = true) : allValid (xs.take (i + 1)) = true := by
  unfold allValid at *
  rw [List.take_add_one, List.all_append, hv, List.getElem?_eq_getElem h]
  have : xs.getD i d = xs[i] := by simp [List.getD, h]
  rw [this] at hx
  simp [hx]
theorem allValid_not {xs : List (Int × Int)} {i : Nat} (h : i < xs.length) (d : Int × Int) (hx : valid (xs.getD i d).1 (xs.getD i d).2 = false) : allValid xs = false := by
  have : xs.getD i d = xs[i] := by simp [List.getD, h]
  rw [this] at hx
  unfold allValid
  rw [List.all_eq_false]
  exact ⟨_, List.getElem_mem h, by simp [hx]⟩
theorem err_of {b : Bool} (h : b = false) : (1 : Int) = if b = true then 0 else 1 := by rw [h]; rfl
theorem ok_of {b : Bool} (h : b = true) : (0 : Int) = if b = true then 0 else 1 := by rw [h]; rfl
theorem ite_ok {b : Bool} : (if b = true then (0 : Int) else 1) = 0 ↔ b = true := by cases b <;> simp
theorem ite_err {b : Bool} : (if b = true then (0 : Int) else 1) ≠ 0 ↔ b = false := by cases b <;> simp
theorem getD_mem {α : Type} {xs : List α} {i : Nat} (h : i < xs.length) (d : α) : xs.getD i d ∈ xs := by
  have : xs.getD i d = xs[i] := by simp [List.getD, h]
  rw [this]; exact List.getElem_mem h

def L3 : List (Nat × Ctr) := (83, c83) :: (84, c84) :: L2
theorem L3_ok : LOk Tryd.prog Γ L3 := (L2_ok.cons (FnOk.of Tryd.func84 rfl rfl) c84_ok).cons (FnOk.of Tryd.func83 rfl rfl) c83_ok
theorem c88_ok : Ctr.Ok Tryd.prog Γ 88 c88 := Ctr.fn_ok1 (prog_ok L3_ok true) Tryd.func88 rfl rfl rfl (by
  intro args rg q t hF hq
  split at hF
  next r lo n =>
    split at hF
    next te xs o hr =>
      obtain ⟨rfl, rfl⟩ := Prod.mk.inj (Option.some.inj hF); clear hF
      obtain ⟨rfl, rfl, h3, h4, -⟩ := hq
      have hr' := getD_arr hr (by simp)
      refine ⟨rfl, [r], [.a (.sl 0 0 xs.length)], [.arr te kII xs o], ⟨rfl, rfl, fun r' g hg => ?_, rfl⟩, ?_⟩
      · cases r' with
        | zero => simp at hg; subst hg; exact ⟨rfl, .inr hr'⟩
        | succ r' => simp at hg
      have h4 := inAll_mem h4
      have l1 : @List.length (Tup kII) xs = @List.length (Int × Int) xs := rfl
      have l2 : @List.length (Tup [CK.int IntKind.i64, CK.int IntKind.i64]) xs = @List.length (Int × Int) xs := rfl
      conv => whnf
      intro m hm
      conv => whnf
      refine ⟨Nat, fun i => i ≤ xs.length ∧ allValid (xs.take i) = true, fun i => ⟨slots 15 [(2, .a (vI 0)), (5, .a (.sl 0 0 xs.length)), (6, .a (vI m)), (7, .a (vI i))], [.arr te kII xs false]⟩, fun i => xs.length - i, 0, ⟨Nat.zero_le _, rfl⟩, ?_, ?_⟩
      · repeat' ((conv => whnf); (first | apply And.intro | intro _))
        all_goals (first | rfl | trivial | exact Nat.zero_lt_one)
      · rintro i ⟨hi, hv⟩
        repeat' ((conv => whnf); (first | apply And.intro | intro _))
        all_goals try (conv => whnf)
        all_goals try (first | rfl | trivial | exact ⟨by kernel_rfl⟩)
        all_goals try subst_vars
        all_goals simp only [decide_eq_true_eq, decide_eq_false_iff_not, Nat.zero_add, Int.toNat_natCast, Bool.not_eq_true', Bool.not_eq_false'] at *
        · exact ⟨by omega⟩
        · exact ⟨by omega⟩
        · exact ⟨(h4 _ (getD_mem (by omega) _)).1⟩
        · exact ⟨(h4 _ (getD_mem (by omega) _)).2⟩
        · exact err_of (allValid_not (i := i) (by omega) _ ‹_›)
        · exact ⟨by simp only [inR]; omega⟩
        · refine ⟨i + 1, ⟨by omega, allValid_succ (by omega) _ hv ‹_›⟩, ?_, by omega⟩
          repeat' ((conv => whnf); (first | apply And.intro | intro _))
          all_goals (first | rfl | trivial | exact Nat.zero_lt_one)
        · have hi2 : i = @List.length (Int × Int) xs := by omega
          subst hi2
          exact ok_of (by rw [← hv]; exact congrArg allValid (List.take_length (l := (xs : List (Int × Int)))).symm)
    next => cases hF
  next => cases hF)

def L4 : List (Nat × Ctr) := (88, c88) :: L3
theorem L4_ok : LOk Tryd.prog Γ L4 := L3_ok.cons (FnOk.of Tryd.func88 rfl rfl) c88_ok

/-- A valid interval. -/
def validR (a b c d : Int) : Bool := valid a b && valid c d && decide (a * d ≤ c * b)
theorem mul_small {a b : Int} (ha : -2147483647 ≤ a ∧ a ≤ 2147483647) (hb : -2147483647 ≤ b ∧ b ≤ 2147483647) : -4611686014132420609 ≤ a * b ∧ a * b ≤ 4611686014132420609 := by
  have h1 : a.natAbs * b.natAbs ≤ 2147483647 * 2147483647 := Nat.mul_le_mul (by omega) (by omega)
  have h2 : (a * b).natAbs = a.natAbs * b.natAbs := Int.natAbs_mul a b
  omega

theorem mul_fits {a b : Int} (ha : -2147483647 ≤ a ∧ a ≤ 2147483647) (hb : -2147483647 ≤ b ∧ b ≤ 2147483647) : inR .i64 (a * b) := by
  have := mul_small ha hb
  simp only [inR]; omega
theorem cmp_le (a b c d : Int) : decide (cmpI a b c d ≤ 0) = decide (a * d ≤ c * b) := by
  unfold cmpI
  split
  · rw [decide_eq_true (by omega), decide_eq_true (by omega)]
  · split
    · rw [decide_eq_false (by omega), decide_eq_false (by omega)]
    · rw [decide_eq_true (by omega), decide_eq_true (by omega)]

def c56 : Ctr := .fn fun args _ => match args with
  | [.agg [.v (.int .i64 a), .v (.int .i64 b), .v (.int .i64 c), .v (.int .i64 d)]] => some ([inR .i64 a, inR .i64 b, inR .i64 c, inR .i64 d], bl (validR a b c d))
  | _ => none
theorem c56_ok : Ctr.Ok Tryd.prog Γ 56 c56 := Ctr.fn_ok0 (prog_ok L4_ok true) Tryd.func56 rfl rfl rfl (by
  intro args q t hF hq
  split at hF
  next a b c d =>
    obtain ⟨rfl, rfl⟩ := Prod.mk.inj (Option.some.inj hF); clear hF
    obtain ⟨h1, h2, h3, h4, -⟩ := hq
    refine ⟨rfl, rfl, ?_⟩
    repeat' ((conv => whnf); (first | apply And.intro | intro _))
    all_goals try (conv => whnf)
    all_goals try (first | rfl | trivial | exact ⟨by kernel_rfl⟩)
    all_goals try subst_vars
    all_goals try dsimp only [CK.ty, Tup, kII] at *
    all_goals try simp only [allValid, List.all_cons, List.all_nil, Bool.and_true, beq_iff_eq, beq_eq_false_iff_ne, ite_ok, ite_err] at *
    · exact ⟨by decide⟩
    · exact ⟨by decide⟩
    · exact ⟨by simp⟩
    · exact ⟨⟨h1, h2⟩, ⟨h3, h4⟩, trivial⟩
    · simp only [Bool.and_eq_true, valid_iff] at *; exact ⟨mul_fits (by omega) (by omega)⟩
    · simp only [Bool.and_eq_true, valid_iff] at *; exact ⟨mul_fits (by omega) (by omega)⟩
    · rw [cmp_le, validR, ‹(valid a b && valid c d) = true›]; rfl
    · rw [validR, ‹(valid a b && valid c d) = false›]; rfl
  next => cases hF)
end Go.Proofs.YtoggkjobihlohaaDoor
