/-
  Chapter 1: the specification's numerals, in the program.
-/
import Derived.Test.YtoggkjobihlohaaDoorP13
import Derived.Test.YtoggkjobihlohaaDoorF31
namespace Go.Proofs.YtoggkjobihlohaaDoor
open Go Go.Sx
set_option maxRecDepth 100000
variable {Γ : Glob}

def chr (u : Nat) : UInt8 := UInt8.ofNat (48 + u % 10)
/-- What is left to print. -/
def decPre (u : Nat) : List UInt8 := if u < 10 then [] else Lib.decDigits (u / 10)
theorem dec_split (u : Nat) : Lib.decDigits u = decPre u ++ [chr u] := by
  unfold decPre chr
  rw [Lib.decDigits]
  split
  · rename_i h; rw [Nat.mod_eq_of_lt h]; rfl
  · rfl
structure De where
  u : Nat
  s : List UInt8
structure De.Inv (N : Nat) (x : De) : Prop where
  all : Lib.decDigits N = decPre x.u ++ x.s
  le : x.u ≤ N
theorem de_start (N : Nat) : (De.mk N [chr N]).Inv N := ⟨dec_split N, Nat.le_refl _⟩
theorem de_next {N : Nat} {x : De} (h : x.Inv N) (hu : 9 < x.u) : (De.mk (x.u / 10) (chr (x.u / 10) :: x.s)).Inv N := by
  refine ⟨?_, Nat.le_trans (Nat.div_le_self _ _) h.le⟩
  rw [h.all]
  simp only
  rw [show decPre x.u = Lib.decDigits (x.u / 10) by unfold decPre; rw [if_neg (by omega)], dec_split (x.u / 10), List.append_assoc]
  rfl
theorem de_end {N : Nat} {x : De} (h : x.Inv N) (hu : ¬ 9 < x.u) : x.s = Lib.decDigits N := by
  rw [h.all, show decPre x.u = [] by unfold decPre; rw [if_pos (by omega)]]; rfl
theorem de_len {N : Nat} {x : De} (h : x.Inv N) (hN : N < 10000000000000000000000) : (bs x.s).size ≤ 22 := by
  have h1 := congrArg List.length h.all
  rw [List.length_append, Lib.decDigits_length] at h1
  have h2 := nDigits_le hN
  show x.s.toArray.size ≤ 22
  rw [List.size_toArray]
  omega
theorem chr_val (u : Nat) : strOfNums [48 + ((u : Int).tmod 10)] = bs [chr u] := by
  have e : (48 + (u : Int).tmod 10).toNat = 48 + u % 10 := by
    rw [Int.tmod_eq_emod_of_nonneg (by omega)]; omega
  show (⟨([48 + (u : Int).tmod 10].map fun n => UInt8.ofNat n.toNat).toArray⟩ : ByteArray) = _
  simp only [List.map_cons, List.map_nil, e]
  rfl

theorem tmod_bounds (u : Nat) : 0 ≤ (u : Int).tmod 10 ∧ (u : Int).tmod 10 < 10 := by rw [Int.tmod_eq_emod_of_nonneg (by omega)]; omega
theorem tdiv_ten (u : Nat) : (u : Int).tdiv 10 = ((u / 10 : Nat) : Int) := by rw [Int.tdiv_eq_ediv_of_nonneg (by omega)]; omega

theorem chr_add (u : Nat) (s : List UInt8) : strOfNums [48 + ((u : Int).tdiv 10).tmod 10] ++ bs s = bs (chr (u / 10) :: s) := by
  rw [tdiv_ten, chr_val, bs_append]; rfl

theorem chr_fits (u : Nat) {k : Nat} (h : k ≤ 22) : (strOfNums [48 + ((u : Nat) : Int).tmod 10]).size + k ≤ 9223372036854775807 := by
  rw [chr_val]; have : (bs [chr u]).size = 1 := rfl; omega

def c110 : Ctr := .fn fun args _ => match args with
  | [.a (.v (.int .i64 n))] => some ([0 ≤ n, inR .i64 n], .a (.v (.string (bs (Lib.decDigits n.toNat)))))
  | _ => none
theorem c110_ok : Ctr.Ok Tryd.prog Γ 110 c110 := Ctr.fn_ok0 (prog_ok L0_ok true) Tryd.func110 rfl rfl rfl (by
  intro args q t hF hq
  split at hF
  next n =>
    obtain ⟨rfl, rfl⟩ := Prod.mk.inj (Option.some.inj hF); clear hF
    obtain ⟨h0, h1, -⟩ := hq
    obtain ⟨N, rfl⟩ := Int.eq_ofNat_of_zero_le h0
    have hN : N < 10000000000000000000000 := by simp only [inR] at h1; omega
    refine ⟨rfl, rfl, ?_⟩
    repeat' ((conv => whnf); (first | apply And.intro | intro _))
    all_goals try (conv => whnf)
    all_goals try (first | rfl | trivial | exact LexB.mk (by kernel_rfl) | exact LexG.mk (by kernel_rfl) | exact Forced.mk (by kernel_rfl))
    all_goals try subst_vars
    · exact ⟨by decide⟩
    · exact ⟨by have t10 := tmod_bounds N; simp only [inR]; omega⟩
    · exact ⟨by have t10 := tmod_bounds N; simp only [inR]; omega⟩
    · exact ⟨by decide⟩
    · exact ⟨Nat.le_of_ble_eq_true rfl⟩
    · exact ⟨rfl⟩
    refine ⟨De, fun x => x.Inv N, fun x => ⟨slots 23 [(0, .a (vI (x.u : Int))), (3, .a (.v (.string (bs x.s))))], []⟩, fun x => x.u, ⟨N, [chr N]⟩, de_start N, ?_, ?_⟩
    · repeat' ((conv => whnf); (first | apply And.intro | intro _))
      all_goals (first | rfl | trivial | exact Nat.zero_lt_succ _ | exact Nat.lt_succ_self _ | exact congrArg Value.string (chr_val N) | trace_state)
    · rintro x hi
      repeat' ((conv => whnf); (first | apply And.intro | intro _))
      all_goals try (conv => whnf)
      all_goals try (first | rfl | trivial | exact LexB.mk (by kernel_rfl) | exact LexG.mk (by kernel_rfl) | exact Forced.mk (by kernel_rfl))
      all_goals try subst_vars
      all_goals (have hl := de_len hi hN
                 have t1 := tdiv_ten x.u
                 have t2 := tmod_bounds (x.u / 10)
                 have hx := hi.le)
      all_goals try rw [t1]
      all_goals try exact ⟨by decide⟩
      all_goals try exact ⟨rfl⟩
      all_goals try exact ⟨Nat.le_of_ble_eq_true rfl⟩
      all_goals try exact ⟨by simp only [inR] at *; omega⟩
      · exact ⟨chr_fits (x.u / 10) hl⟩
      · have hu := of_decide_eq_true (p := (x.u : Int) > 9) (by assumption)
        refine ⟨⟨x.u / 10, chr (x.u / 10) :: x.s⟩, de_next hi (by omega), ?_, ?_⟩
        · repeat' ((conv => whnf); (first | apply And.intro | intro _))
          all_goals (first | rfl | trivial | exact Nat.zero_lt_succ _ | exact Nat.lt_succ_self _ | exact congrArg (Value.int .i64) (tdiv_ten x.u) | exact congrArg Value.string (chr_add x.u x.s))
        · show x.u / 10 < x.u
          omega
      · have hu := of_decide_eq_false (p := (x.u : Int) > 9) (by assumption)
        rw [de_end hi (by omega)]; rfl
  next => cases hF)
end Go.Proofs.YtoggkjobihlohaaDoor
