/-
  Plain laws: numerals printed and read.
-/
import Derived.Lib.AtoiAllCases
import Derived.Lib.ItoaNum
import Derived.Lib.IndexBytes
import Derived.Lib.IndexMore
namespace Go.Proofs.YtoggkjobihlohaaDoor
open Go

theorem isDigit_ofNat {k : Nat} (h : k < 10) : (UInt8.ofNat (48 + k)).toNat = 48 + k := by
  rw [UInt8.toNat_ofNat']; exact Nat.mod_eq_of_lt (by omega)
/-- All bytes are digits. -/
theorem dec_digits (u : Nat) : ∀ c ∈ Lib.decDigits u, 48 ≤ c.toNat ∧ c.toNat ≤ 57 := by
  induction u using Nat.strongRecOn with
  | _ u ih =>
    intro c hc
    rw [Lib.decDigits] at hc
    split at hc
    · rename_i h
      simp only [List.mem_singleton] at hc
      subst hc
      rw [isDigit_ofNat h]; omega
    · rename_i h
      rcases List.mem_append.1 hc with hc | hc
      · exact ih (u / 10) (by omega) c hc
      · simp only [List.mem_singleton] at hc
        subst hc
        rw [isDigit_ofNat (Nat.mod_lt _ (by omega))]; omega
theorem dec_ne (u : Nat) : Lib.decDigits u ≠ [] := by
  rw [Lib.decDigits]
  split <;> simp
theorem parse_app : ∀ (l : List UInt8) (acc a : Nat) (c : UInt8), Lib.parseUint10 acc l = .ok a → (48 ≤ c.toNat ∧ c.toNat ≤ 57) → a * 10 + (c.toNat - 48) < 18446744073709551616 →
    Lib.parseUint10 acc (l ++ [c]) = .ok (a * 10 + (c.toNat - 48))
  | [], acc, a, c, h, hc, hb => by
    simp only [Lib.parseUint10] at h
    injection h with h
    subst h
    simp only [List.nil_append, Lib.parseUint10]
    rw [if_pos hc, if_neg (by omega), if_neg (by omega)]
  | x :: l, acc, a, c, h, hc, hb => by
    simp only [Lib.parseUint10] at h
    simp only [List.cons_append, Lib.parseUint10]
    split at h
    · rename_i hx
      rw [if_pos hx]
      split at h
      · cases h
      · rename_i h2
        rw [if_neg h2]
        split at h
        · cases h
        · rename_i h3
          rw [if_neg h3]
          exact parse_app l _ a c h hc hb
    · cases h
theorem parse_dec (u : Nat) (h : u < 18446744073709551616) : Lib.parseUint10 0 (Lib.decDigits u) = .ok u := by
  induction u using Nat.strongRecOn with
  | _ u ih =>
    rw [Lib.decDigits]
    split
    · rename_i h1
      simp only [Lib.parseUint10, isDigit_ofNat h1]
      rw [if_pos (by omega), if_neg (by omega), if_neg (by omega)]
      congr 1; omega
    · rename_i h1
      have h2 : u % 10 < 10 := Nat.mod_lt _ (by omega)
      have h3 := parse_app (Lib.decDigits (u / 10)) 0 (u / 10) (UInt8.ofNat (48 + u % 10)) (ih (u / 10) (by omega) (by omega)) (by rw [isDigit_ofNat h2]; omega) (by rw [isDigit_ofNat h2]; omega)
      rw [h3, isDigit_ofNat h2]
      congr 1; omega
theorem mag_dec (u : Nat) (h : u < 18446744073709551616) : Lib.parseMag (Lib.decDigits u) = .ok u := by
  rw [Lib.parseMag, if_neg (dec_ne u), parse_dec u h]
/-- Atoi of Itoa. -/
theorem atoi_itoa (n : Int) (h : -9223372036854775808 ≤ n ∧ n ≤ 9223372036854775807) : Lib.atoiAll (Lib.itoa n) = .ok n := by
  unfold Lib.itoa
  split
  · rw [Lib.atoiAll_minus, mag_dec _ (by omega)]
    simp only [Lib.signed]
    rw [if_neg (by omega)]
    congr 1; omega
  · have hd := dec_digits n.toNat
    have hm := mag_dec n.toNat (by omega)
    revert hd hm
    generalize Lib.decDigits n.toNat = l
    intro hd hm
    cases l with
    | nil => simp [Lib.parseMag] at hm
    | cons c r =>
      have hc := hd c (by simp)
      rw [Lib.atoiAll_plain c r (by omega) (by omega), hm]
      simp only [Lib.signless]
      rw [if_neg (by omega)]
      congr 1; omega

/-! ### A text taken apart at its first slash -/
theorem index_slash : ∀ (l r : List UInt8), (∀ c ∈ l, c ≠ 47) → Lib.index (l ++ 47 :: r) [47] = l.length
  | [], r, _ => by simp [Lib.index, List.isPrefixOf]
  | c :: l, r, h => by
    have h1 := index_slash l r fun x hx => h x (by simp [hx])
    have h2 : c ≠ 47 := h c (by simp)
    simp only [List.cons_append, Lib.index, h1]
    rw [if_neg (by simp [List.isPrefixOf]; exact fun e => h2 e.symm), if_neg (by simp)]
    simp
theorem index_noslash : ∀ (l : List UInt8), (∀ c ∈ l, c ≠ 47) → Lib.index l [47] = -1
  | [], _ => rfl
  | c :: l, h => by
    have h1 := index_noslash l fun x hx => h x (by simp [hx])
    have h2 : c ≠ 47 := h c (by simp)
    simp only [Lib.index, h1]
    rw [if_neg (by simp [List.isPrefixOf]; exact fun e => h2 e.symm)]
    rfl
theorem cut_slash (l r : List UInt8) (h : ∀ c ∈ l, c ≠ 47) : Lib.cut (l ++ 47 :: r) [47] = (l, r, true) := by
  unfold Lib.cut
  rw [index_slash l r h, if_pos (by omega)]
  simp
theorem cut_noslash (l : List UInt8) (h : ∀ c ∈ l, c ≠ 47) : Lib.cut l [47] = (l, [], false) := by
  unfold Lib.cut
  rw [index_noslash l h, if_neg (by omega)]
theorem itoa_noslash (n : Int) : ∀ c ∈ Lib.itoa n, c ≠ 47 := by
  intro c hc e
  subst e
  unfold Lib.itoa at hc
  split at hc
  · rcases List.mem_cons.1 hc with hc | hc
    · cases hc
    · have := dec_digits _ _ hc
      simp at this
  · have := dec_digits _ _ hc
    simp at this
end Go.Proofs.YtoggkjobihlohaaDoor
