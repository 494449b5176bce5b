/-
  Chapter 1: the specification's Expand, in the program.
-/
import Derived.Test.YtoggkjobihlohaaDoorF33
import Derived.Test.YtoggkjobihlohaaDoorF6
namespace Go.Proofs.YtoggkjobihlohaaDoor
open Go Go.Sx
set_option maxRecDepth 100000
variable {Γ : Glob}

/-- Where an expansion stands. -/
structure Ex1 where
  n : Int
  d : Int
  pre : List Int
structure Ex1.Inv (n d : Int) (s : Ex1) : Prop where
  all : expand n d = s.pre ++ expand s.n s.d
  n1 : -2147483647 ≤ s.n
  n2 : s.n ≤ 2147483647
  d0 : 0 ≤ s.d
  d1 : s.d ≤ 2147483647
theorem ex1_next {n d : Int} {s : Ex1} (h : s.Inv n d) (hd : s.d ≠ 0) : (Ex1.mk s.d (s.n - s.n / s.d * s.d) (s.pre ++ [s.n / s.d])).Inv n d := by
  have h0 := h.d0; have h1 := h.d1
  have a := Int.emod_nonneg s.n hd
  have b := Int.emod_lt_of_pos s.n (show 0 < s.d by omega)
  have e : s.n - s.n / s.d * s.d = s.n % s.d := by rw [Int.emod_def, Int.mul_comm]
  refine ⟨?_, by simp only; omega, by simp only; omega, by simp only; omega, by simp only; omega⟩
  simp only
  rw [e, h.all, expand_pos (by omega), List.append_assoc]
  rfl
theorem ex1_len {n d : Int} {s : Ex1} (h : s.Inv n d) (hl : (expand n d).length ≤ 1000) : s.pre.length ≤ 1000 := by
  have := congrArg List.length h.all
  rw [List.length_append] at this
  omega
theorem ex1_end {n d : Int} {s : Ex1} (h : s.Inv n d) (hd : s.d = 0) : s.pre = expand n d := by
  rw [h.all, hd, expand_zero, List.append_nil]

theorem eq_of_not_bne {x : Int} (h : (x != 0) = false) : x = 0 := by simpa using h
theorem ne_of_bne {x : Int} (h : (x != 0) = true) : x ≠ 0 := by simpa using h

def c47 : Ctr := .rel fun args _ K => match args with
  | [.agg [.v (.int .i64 n), .v (.int .i64 d)]] => valid n d = true ∧ K ⟨[.arr 3 kI (expand n d) true], .a (.sl 0 0 (expand n d).length)⟩
  | _ => False
theorem c47_ok : Ctr.Ok Tryd.prog Γ 47 c47 := Ctr.rel_ok (prog_ok (L0_ok.cons (FnOk.of Tryd.func89 rfl rfl) c89_ok) true) Tryd.func47 rfl rfl rfl (by
  intro args rg K hC
  split at hC
  next n d =>
    obtain ⟨hv, hK⟩ := hC
    have vb := valid_iff.1 hv
    have hlen := expand_len (n := n) (d := d) ⟨by omega, by omega⟩
    refine ⟨[], [.agg [.v (.int .i64 n), .v (.int .i64 d)]], [], ⟨rfl, rfl, fun i g hg => (by simp at hg), rfl⟩, ?_⟩
    repeat' ((conv => whnf); (first | apply And.intro | intro _))
    all_goals try (conv => whnf)
    all_goals try (first | rfl | trivial | exact LexB.mk (by kernel_rfl) | exact LexG.mk (by kernel_rfl) | exact Forced.mk (by kernel_rfl))
    all_goals try subst_vars
    refine ⟨Ex1, fun x => x.Inv n d, fun x => ⟨slots 29 [(1, .a (.p 0 0 0)), (3, .a (.sl 1 0 x.pre.length)), (4, .a (vI x.n)), (5, .a (vI x.d))], [.box true [vI n, vI d], .arr 3 kI x.pre true]⟩, fun x => x.d.toNat, ⟨n, d, []⟩, ⟨rfl, vb.2.2.1, vb.2.2.2.1, Int.le_trans (by omega) vb.1, vb.2.1⟩, ?_, ?_⟩
    · repeat' ((conv => whnf); (first | apply And.intro | intro _))
      all_goals (first | rfl | trivial | exact Nat.zero_lt_succ _ | exact Nat.lt_succ_self _ | decide)
    · rintro x hi
      repeat' ((conv => whnf); (first | apply And.intro | intro _))
      all_goals try (conv => whnf)
      all_goals try (first | rfl | trivial | exact LexB.mk (by kernel_rfl) | exact LexG.mk (by kernel_rfl) | exact Forced.mk (by kernel_rfl))
      all_goals try subst_vars
      all_goals (obtain ⟨i1, i2, i3, i4, i5⟩ := hi)
      all_goals try (have hz := eq_of_not_bne (x := x.d) ‹(x.d != 0) = false›
                     refine ⟨⟨[.arr 3 kI (expand n d) true], .a (.sl 0 0 (expand n d).length)⟩, [1], hK, ?_, rfl, ?_⟩
                     · have e := ex1_end ⟨i1, i2, i3, i4, i5⟩ hz
                       refine ⟨?_, rfl, rfl, Nat.lt_succ_self 1, (fun j hj => by cases hj), trivial⟩
                       exact congrArg (fun l : List Int => Reg.arr 3 kI l true) e
                     · have e := ex1_end ⟨i1, i2, i3, i4, i5⟩ hz
                       exact ⟨rfl, rfl, congrArg List.length e⟩)
      all_goals (have hd := ne_of_bne (x := x.d) ‹(x.d != 0) = true›
                 have a := Int.emod_nonneg x.n hd
                 have b := Int.emod_lt_of_pos x.n (show 0 < x.d by omega)
                 have e : x.n - x.n / x.d * x.d = x.n % x.d := by rw [Int.emod_def, Int.mul_comm]
                 have hl := ex1_len ⟨i1, i2, i3, i4, i5⟩ (by omega)
                 have hl1 : @List.length (Tup kI) x.pre = @List.length Int x.pre := rfl
                 have hl2 : (kindOf kI).m = 1 := rfl)
      all_goals try exact ⟨by omega⟩
      all_goals try exact ⟨by simp only [inR]; omega⟩
      all_goals try exact ⟨Nat.le_of_ble_eq_true rfl⟩
      all_goals try exact ⟨by rw [hl2, Nat.mul_one]; omega⟩
      refine ⟨⟨x.d, x.n - x.n / x.d * x.d, x.pre ++ [x.n / x.d]⟩, ex1_next ⟨i1, i2, i3, i4, i5⟩ hd, ?_, ?_⟩
      · repeat' ((conv => whnf); (first | apply And.intro | intro _))
        all_goals (first | rfl | trivial | exact Nat.zero_lt_succ _ | exact Nat.lt_succ_self _ | decide)
      · show (x.n - x.n / x.d * x.d).toNat < x.d.toNat
        omega
  next => exact hC.elim)
end Go.Proofs.YtoggkjobihlohaaDoor
