/-
  Chapter 1: the specification's digits, in the program.
-/
import Derived.Test.YtoggkjobihlohaaDoorF37
namespace Go.Proofs.YtoggkjobihlohaaDoor
open Go Go.Sx
set_option maxRecDepth 100000
variable {Γ : Glob}

/-- Where the reading of digits stands. -/
structure Dg where
  j : Nat
  n : Int
structure Dg.Inv (l : List UInt8) (A : Nat) (x : Dg) : Prop where
  all : dgs 10 0 (l.drop A) = ((dgs (10 - x.j) x.n (l.drop (A + x.j))).1, (dgs (10 - x.j) x.n (l.drop (A + x.j))).2 + x.j)
  j : x.j ≤ 10
  le : A + x.j ≤ l.length
  n0 : 0 ≤ x.n
  n1 : x.n < 10 ^ x.j

theorem pow_le {j : Nat} (h : j ≤ 10) : (10 : Int) ^ j ≤ 10000000000 := by
  match j, h with
  | 0, _ => decide
  | 1, _ => decide
  | 2, _ => decide
  | 3, _ => decide
  | 4, _ => decide
  | 5, _ => decide
  | 6, _ => decide
  | 7, _ => decide
  | 8, _ => decide
  | 9, _ => decide
  | 10, _ => decide
  | j + 11, h => omega
theorem dg_bound {l : List UInt8} {A : Nat} {x : Dg} (h : x.Inv l A) : x.n < 10000000000 := by
  have := h.n1
  have := pow_le h.j
  omega
theorem dg_at (s : ByteArray) (A j : Nat) : s.data.getD ((A : Int) + (j : Int)).toNat 0 = s.data.toList.getD (A + j) 0 := by
  rw [show ((A : Int) + (j : Int)).toNat = A + j by omega]
  simp [List.getD, Array.getD_eq_getD_getElem?]
theorem dg_drop {l : List UInt8} {i : Nat} (h : i < l.length) : l.drop i = l.getD i 0 :: l.drop (i + 1) := by
  rw [List.drop_eq_getElem_cons h]
  simp [List.getD, h]
theorem dg_next {l : List UInt8} {A j : Nat} {n : Int} (h : (Dg.mk j n).Inv l A) (h1 : A + j < l.length) (h2 : j < 10) (h3 : 48 ≤ (l.getD (A + j) 0).toNat) (h4 : (l.getD (A + j) 0).toNat ≤ 57) :
    (Dg.mk (j + 1) (10 * n + (((l.getD (A + j) 0).toNat : Int) - 48))).Inv l A := by
  have hd : isDig (l.getD (A + j) 0) = true := by simp only [isDig, Bool.and_eq_true, decide_eq_true_eq]; exact ⟨h3, h4⟩
  have h0 := h.n0
  have hn := h.n1
  simp only at h0 hn
  refine ⟨?_, h2, by simp only; omega, by simp only; omega, ?_⟩
  · rw [h.all]
    simp only
    rw [dg_drop h1, show 10 - j = (10 - (j + 1)) + 1 by omega]
    simp only [dgs, hd, if_true]
    rw [Nat.add_assoc A j 1]
    rw [Nat.add_assoc _ 1 j, Nat.add_comm 1 j]
  · simp only
    rw [Int.pow_succ]
    omega
theorem dg_stop {l : List UInt8} {A j : Nat} {n : Int} (h : (Dg.mk j n).Inv l A) (hs : l.length ≤ A + j ∨ 10 ≤ j ∨ (A + j < l.length ∧ ¬ (48 ≤ (l.getD (A + j) 0).toNat ∧ (l.getD (A + j) 0).toNat ≤ 57))) : dgs 10 0 (l.drop A) = (n, j) := by
  rw [h.all]
  simp only
  have key : dgs (10 - j) n (l.drop (A + j)) = (n, 0) := by
    have hj := h.j
    simp only at hj
    rcases Nat.lt_or_ge j 10 with h10 | h10
    · rw [show 10 - j = (9 - j) + 1 by omega]
      rcases hs with hs | hs | ⟨hl, hs⟩
      · rw [List.drop_eq_nil_of_le hs]; rfl
      · omega
      · have hd : isDig (l.getD (A + j) 0) = false := by
          cases hh : isDig (l.getD (A + j) 0) with
          | false => rfl
          | true => exfalso; simp only [isDig, Bool.and_eq_true, decide_eq_true_eq] at hh; exact hs hh
        rw [dg_drop hl]
        simp only [dgs, hd, Bool.false_eq_true, if_false]
    · rw [show 10 - j = 0 by omega]; rfl
  rw [key]
  simp

def c109 : Ctr := .fn fun args _ => match args with
  | [.a (.v (.string s)), .a (.v (.int .i64 a))] => some ([0 ≤ a, a ≤ (s.data.toList.length : Int), (s.data.toList.length : Int) ≤ 1099511627776], .tup [.a (vI (dgs 10 0 (s.data.toList.drop a.toNat)).1), .a (vI (a + (dgs 10 0 (s.data.toList.drop a.toNat)).2))])
  | _ => none
theorem c109_ok : Ctr.Ok Tryd.prog Γ 109 c109 := Ctr.fn_ok0 (prog_ok LOk.nil true) Tryd.func109 rfl rfl rfl (by
  intro args q t hF hq
  split at hF
  next s a =>
    obtain ⟨rfl, rfl⟩ := Prod.mk.inj (Option.some.inj hF); clear hF
    obtain ⟨h0, h1, h2, -⟩ := hq
    obtain ⟨A, rfl⟩ := Int.eq_ofNat_of_zero_le h0
    have hsz : s.data.toList.length = s.size := Array.length_toList
    refine ⟨rfl, rfl, ?_⟩
    repeat' ((conv => whnf); (first | apply And.intro | intro _))
    all_goals try (conv => whnf)
    all_goals try (first | rfl | trivial | exact LexB.mk (by kernel_rfl) | exact LexG.mk (by kernel_rfl) | exact Forced.mk (by kernel_rfl))
    all_goals try subst_vars
    refine ⟨Dg, fun x => x.Inv s.data.toList A, fun x => ⟨slots 43 [(0, .a (.v (.string s))), (1, .a (vI ((A : Int) + x.j))), (6, .a (vI x.n)), (7, .a (vI A))], []⟩, fun x => 10 - x.j, ⟨0, 0⟩, ⟨rfl, by decide, by simp only [Nat.add_zero]; omega, by decide, by decide⟩, ?_, ?_⟩
    · repeat' ((conv => whnf); (first | apply And.intro | intro _))
      all_goals (first | rfl | trivial | exact Nat.zero_lt_succ _ | exact Nat.lt_succ_self _ | exact congrArg (Value.int .i64) (Int.add_zero _).symm | trace_state)
    · rintro ⟨j, n⟩ hi
      have hb := dg_bound hi
      have e := dg_at s A j
      obtain ⟨hj, hle, hn0⟩ : j ≤ 10 ∧ A + j ≤ s.data.toList.length ∧ 0 ≤ n := ⟨hi.j, hi.le, hi.n0⟩
      have hbyte := UInt8.toNat_lt (s.data.toList.getD (A + j) 0)
      repeat' ((conv => whnf); (first | apply And.intro | intro _))
      all_goals try (conv => whnf)
      all_goals try (first | rfl | trivial | exact LexB.mk (by kernel_rfl) | exact LexG.mk (by kernel_rfl) | exact Forced.mk (by kernel_rfl))
      all_goals try subst_vars
      all_goals try dsimp only at *
      all_goals try simp only [e, decide_eq_true_eq, decide_eq_false_iff_not, Int.toNat_natCast] at *
      all_goals try exact ⟨by omega⟩
      all_goals try exact ⟨by simp only [inR]; omega⟩
      all_goals try (have hs := dg_stop hi (.inl (by omega)); rw [hs]; done)
      all_goals try (have hs := dg_stop hi (.inr (.inl (by omega))); rw [hs]; done)
      all_goals try (have hs := dg_stop hi (.inr (.inr ⟨by omega, by omega⟩)); rw [hs]; done)
      refine ⟨⟨j + 1, 10 * n + ((s.data.toList.getD (A + j) 0).toNat - 48)⟩, dg_next hi (by omega) (by omega) (by omega) (by omega), ?_, ?_⟩
      · repeat' ((conv => whnf); (first | apply And.intro | intro _))
        all_goals (first | rfl | trivial | exact Nat.zero_lt_succ _ | exact Nat.lt_succ_self _ | exact congrArg (Value.int .i64) (Int.add_assoc _ _ _))
      · show 10 - (j + 1) < 10 - j
        omega
  next => cases hF)
end Go.Proofs.YtoggkjobihlohaaDoor
