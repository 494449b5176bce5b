/-
  Chapter 1: what the statements compare by.
-/
import Derived.Test.YtoggkjobihlohaaDoorF7
namespace Go.Proofs.YtoggkjobihlohaaDoor
open Go Go.Sx
set_option maxRecDepth 100000
variable {Γ : Glob}

def c19 : Ctr := .fn fun args _ => match args with
  | [.agg [.v (.int .i64 n), .v (.int .i64 d)], .a (.v (.int .i64 e)), .agg [.v (.int .i64 n'), .v (.int .i64 d'), .v (.int .i64 e')]] => some ([], bl (decide (n = n' ∧ d = d' ∧ e = e')))
  | _ => none
theorem c19_ok : Ctr.Ok Tryd.prog Γ 19 c19 := Ctr.fn_ok0 (prog_ok L0_ok true) Tryd.func19 rfl rfl rfl (by
  intro args q t hF hq
  split at hF
  next n d e n' d' e' =>
    obtain ⟨rfl, rfl⟩ := Prod.mk.inj (Option.some.inj hF); clear hF
    refine ⟨rfl, rfl, ?_⟩
    repeat' ((conv => whnf); (first | apply And.intro | intro _))
    all_goals try (conv => whnf)
    all_goals try (first | rfl | trivial | exact ⟨by kernel_rfl⟩)
    all_goals try subst_vars
    · have h := ‹(n == n' && (d == d' && true)) = true›
      simp only [Bool.and_true, Bool.and_eq_true, beq_iff_eq] at h
      rw [Bool.eq_iff_iff, beq_iff_eq, decide_eq_true_iff]
      exact ⟨fun h2 => ⟨h.1, h.2, h2⟩, fun h2 => h2.2.2⟩
    · have h := ‹(n == n' && (d == d' && true)) = false›
      simp only [Bool.and_true, Bool.and_eq_false_iff, beq_eq_false_iff_ne] at h
      have hn : ¬ (n = n' ∧ d = d' ∧ e = e') := by
        rcases h with h | h
        · exact fun h2 => h h2.1
        · exact fun h2 => h h2.2.1
      rw [decide_eq_false hn]
  next => cases hF)

def sameL (xs ys : List Int) : Bool := decide (xs = ys)
theorem take_same {xs ys : List Int} {i : Nat} (hx : i < xs.length) (hy : i < ys.length) (h : xs.take i = ys.take i) (d : Int) (he : xs.getD i d = ys.getD i d) : xs.take (i + 1) = ys.take (i + 1) := by
  have e1 : xs.getD i d = xs[i] := by simp [List.getD, hx]
  have e2 : ys.getD i d = ys[i] := by simp [List.getD, hy]
  rw [List.take_add_one, List.take_add_one, h, List.getElem?_eq_getElem hx, List.getElem?_eq_getElem hy, ← e1, ← e2, he]
theorem same_len {xs ys : List Int} (h : xs.length ≠ ys.length) : sameL xs ys = false := decide_eq_false fun e => h (by rw [e])
theorem same_all {xs ys : List Int} (hl : xs.length = ys.length) (h : xs.take xs.length = ys.take xs.length) : sameL xs ys = true := by
  refine decide_eq_true ?_
  rw [List.take_length] at h
  rw [h, hl, List.take_length]
theorem bne_true {a b : Int} (h : (a != b) = true) : a ≠ b := by simpa using h
theorem bne_false {a b : Int} (h : (a != b) = false) : a = b := by simpa using h
theorem not_same {xs ys : List Int} {i : Nat} {d : Int} (he : xs.getD i d ≠ ys.getD i d) : sameL xs ys = false := decide_eq_false fun h => he (by rw [h])
/-- Whether two slices of ints are alike. -/
def c46 : Ctr := .fn fun args rg => match args with
  | [.a (.sl r lo n), .a (.sl r' lo' n')] => (match rg.getD r .dead, rg.getD r' .dead with
    | .arr _ [.int .i64] xs _, .arr _ [.int .i64] ys _ => some ([lo = 0, n = xs.length, xs.length ≤ 1099511627776, lo' = 0, n' = ys.length, ys.length ≤ 1099511627776], bl (sameL xs ys))
    | _, _ => none)
  | _ => none
theorem c46_ok : Ctr.Ok Tryd.prog Γ 46 c46 := Ctr.fn_ok1 (prog_ok L0_ok true) Tryd.func46 rfl rfl rfl (by
  intro args rg q t hF hq
  split at hF
  next r lo n r' lo' n' =>
    split at hF
    next te xs o te' ys o' hr hr2 =>
      obtain ⟨rfl, rfl⟩ := Prod.mk.inj (Option.some.inj hF); clear hF
      obtain ⟨rfl, rfl, h3, rfl, rfl, h6, -⟩ := hq
      have hr' := getD_arr hr (by simp)
      have hr2' := getD_arr hr2 (by simp)
      refine ⟨rfl, [r, r'], [.a (.sl 0 0 xs.length), .a (.sl 1 0 ys.length)], [.arr te kI xs o, .arr te' kI ys o'], ⟨rfl, rfl, fun i g hg => ?_, rfl⟩, ?_⟩
      · match i with
        | 0 => simp at hg; subst hg; exact ⟨rfl, .inr hr'⟩
        | 1 => simp at hg; subst hg; exact ⟨rfl, .inr hr2'⟩
        | i + 2 => simp at hg
      have l1 : @List.length (Tup kI) xs = @List.length Int xs := rfl
      have l2 : @List.length (Tup [CK.int IntKind.i64]) xs = @List.length Int xs := rfl
      have l3 : @List.length (Tup kI) ys = @List.length Int ys := rfl
      have l4 : @List.length (Tup [CK.int IntKind.i64]) ys = @List.length Int ys := rfl
      repeat' ((conv => whnf); (first | apply And.intro | intro _))
      all_goals try (conv => whnf)
      all_goals try (first | rfl | trivial | exact ⟨by kernel_rfl⟩)
      all_goals try subst_vars
      · have hne := ‹((xs.length : Int) != (ys.length : Int)) = true›
        simp only [bne_iff_ne, ne_eq] at hne
        exact same_len (by omega)
      · have hle : @List.length Int xs = @List.length Int ys := by
          have hne := ‹((xs.length : Int) != (ys.length : Int)) = false›
          simp only [bne_eq_false_iff_eq] at hne
          omega
        refine ⟨Nat, fun i => i ≤ xs.length ∧ @List.take Int i xs = @List.take Int i ys, fun i => ⟨slots 26 [(0, .a (.sl 0 0 xs.length)), (1, .a (.sl 1 0 ys.length)), (5, .a (vI i))], [.arr te kI xs false, .arr te' kI ys false]⟩, fun i => xs.length - i, 0, ⟨Nat.zero_le _, rfl⟩, ?_, ?_⟩
        · repeat' ((conv => whnf); (first | apply And.intro | intro _))
          all_goals (first | rfl | trivial | exact Nat.zero_lt_succ _ | exact Nat.lt_succ_self _)
        · rintro i ⟨hi, hv⟩
          repeat' ((conv => whnf); (first | apply And.intro | intro _))
          all_goals try (conv => whnf)
          all_goals try (first | rfl | trivial | exact ⟨by kernel_rfl⟩)
          all_goals try subst_vars
          all_goals simp only [decide_eq_true_eq, decide_eq_false_iff_not, Nat.zero_add, Int.toNat_natCast, bne_iff_ne, bne_eq_false_iff_eq] at *
          · exact ⟨by omega⟩
          · exact ⟨by omega⟩
          · exact ⟨by omega⟩
          · exact ⟨by omega⟩
          · exact not_same (bne_true ‹_›)
          · exact ⟨by simp only [inR]; omega⟩
          · refine ⟨i + 1, ⟨by omega, take_same (by omega) (by omega) hv _ (bne_false ‹_›)⟩, ?_, by omega⟩
            repeat' ((conv => whnf); (first | apply And.intro | intro _))
            all_goals (first | rfl | trivial | exact Nat.zero_lt_succ _ | exact Nat.lt_succ_self _)
          · have hi2 : i = @List.length Int xs := by omega
            subst hi2
            exact same_all hle hv
    next => cases hF
  next => cases hF)
end Go.Proofs.YtoggkjobihlohaaDoor
