/-
  Chapter 1: numerals and Print, in the program.
-/
import Derived.Test.YtoggkjobihlohaaDoorF15
import Derived.Test.YtoggkjobihlohaaDoorShelf
import Derived.Lib.AppendIntMem
namespace Go.Proofs.YtoggkjobihlohaaDoor
open Go Go.Sx
set_option maxRecDepth 100000

/-- What is known of the library's variables: the table of powers, and that the search's bound is an integer. -/
structure Laid (w : World) : Prop where
  tab : Lib.TabIs Tryd.prog w "internal/strconv.uint64pow10" .u64 Lib.pow10Tab
  max : ∃ m : Int, w.cell? ⟨0, 0, none⟩ = some (.int .i64 m)
theorem pow10_at : Tryd.prog.globalNamed "internal/strconv.uint64pow10" = some 3 := by kernel_rfl
theorem laid_step (w w' : World) (h : Laid w) (hb : ∀ b, b < 6 → w'.heap[b]? = w.heap[b]?) : Laid w' := by
  obtain ⟨h1, m, h2⟩ := h
  refine ⟨?_, m, ?_⟩
  · unfold Lib.TabIs World.var? at *
    rw [pow10_at] at *
    simp only [Option.bind_some] at *
    rw [hb 3 (by omega)]; exact h1
  · rw [World.cell?_of_block (hb 0 (by omega))]; exact h2
/-- The walks' knowledge of variables. -/
def ΓL : Glob := ⟨6, Laid, laid_step⟩

def bs (l : List UInt8) : ByteArray := ⟨l.toArray⟩
def c106 : Ctr := .fn fun args _ => match args with
  | [.a (.v (.int .i64 n))] => some ([inR .i64 n], .a (.v (.string (bs (Lib.itoa n)))))
  | _ => none
theorem c106_ok : Ctr.Ok Tryd.prog ΓL 106 c106 := by
  intro args rg q t hF hq N0 ρ w vs hl hgn hgl hargs hrg hdj
  simp only at hF
  split at hF
  next n =>
    obtain ⟨rfl, rfl⟩ := Prod.mk.inj (Option.some.inj hF); clear hF
    obtain ⟨h1, -⟩ := hq
    match vs, hargs with
    | [y], ⟨⟨hy, _⟩, _⟩ =>
      subst hy
      have hL : Laid w := hgl
      refine (Tryd.strconv_Itoa n h1.1 h1.2 w hL.tab).mono fun e w' ⟨he, k, os, hw⟩ => ?_
      subst hw
      exact ⟨_, he, ⟨rfl, rfl⟩, Lib.below_grow _ _ (Nat.le_refl _) _ _⟩
  next => cases hF

theorem nDigits_le {u : Nat} (h : u < 10000000000000000000000) : Lib.nDigits u ≤ 22 := by
  rcases Nat.lt_or_ge u 10 with h1 | h1
  · rw [Lib.nDigits_small h1]; omega
  · rcases Nat.lt_or_ge 22 (Lib.nDigits u) with h2 | h2
    · exfalso
      -- a number of more digits is at least a power
      have key : ∀ (k u : Nat), k + 1 < Lib.nDigits u → 10 ^ (k + 1) ≤ u := by
        intro k
        induction k with
        | zero =>
          intro u hu
          rcases Nat.lt_or_ge u 10 with h3 | h3
          · rw [Lib.nDigits_small h3] at hu; omega
          · simpa using h3
        | succ k ih =>
          intro u hu
          rcases Nat.lt_or_ge u 10 with h3 | h3
          · rw [Lib.nDigits_small h3] at hu; omega
          · rw [Lib.nDigits_big (by omega)] at hu
            have := ih (u / 10) (by omega)
            rw [Nat.pow_succ]
            omega
      have h3 := key 21 u h2
      have h4 : (10 : Nat) ^ (21 + 1) = 10000000000000000000000 := by decide
      omega
    · exact h2
theorem itoa_len {n : Int} (h : inR .i64 n) : (bs (Lib.itoa n)).size ≤ 23 := by
  show (Lib.itoa n).toArray.size ≤ 23
  simp only [inR] at h
  unfold Lib.itoa
  split
  · have := nDigits_le (u := n.natAbs) (by omega)
    simp [Lib.decDigits_length]; omega
  · have := nDigits_le (u := n.toNat) (by omega)
    simp [Lib.decDigits_length]; omega

/-- The text of a valid number. -/
def printT (n d : Int) : ByteArray := if d = 1 then bs (Lib.itoa n) else bs (Lib.itoa n) ++ (⟨#[47]⟩ ++ bs (Lib.itoa d))
theorem printT_one {n d : Int} (h : d = 1) : printT n d = bs (Lib.itoa n) := if_pos h
theorem printT_two {n d : Int} (h : d ≠ 1) : printT n d = bs (Lib.itoa n) ++ (⟨#[47]⟩ ++ bs (Lib.itoa d)) := if_neg h
def printX (n d : Int) : ByteArray := if valid n d = true then printT n d else ⟨#[]⟩
theorem printX_bad {n d : Int} (h : valid n d = false) : printX n d = ⟨#[]⟩ := by simp only [printX, h, Bool.false_eq_true, if_false]
theorem printX_good {n d : Int} (h : valid n d = true) : printX n d = printT n d := if_pos h
def errX (n d : Int) : Int := if valid n d = true then 0 else 1
theorem errX_bad {n d : Int} (h : valid n d = false) : errX n d = 1 := by simp only [errX, h, Bool.false_eq_true, if_false]
theorem errX_good {n d : Int} (h : valid n d = true) : errX n d = 0 := if_pos h
theorem allValid_one (n d : Int) : allValid [(n, d)] = valid n d := Bool.and_true _

def L8 : List (Nat × Ctr) := (106, c106) :: (43, c43) :: (31, c31) :: (26, c26) :: (23, c23) :: (17, c17) :: L7
theorem L8_ok : LOk Tryd.prog ΓL L8 := (((((L7_ok.cons (FnOk.of Tryd.func17 rfl rfl) c17_ok).cons (FnOk.of Tryd.func23 rfl rfl) c23_ok).cons (FnOk.of Tryd.func26 rfl rfl) c26_ok).cons (FnOk.of Tryd.func31 rfl rfl) c31_ok).cons (FnOk.of Tryd.func43 rfl rfl) c43_ok).cons (FnOk.of Tryd.func106 rfl rfl) c106_ok

def c69 : Ctr := .fn fun args _ => match args with
  | [.agg [.v (.int .i64 n), .v (.int .i64 d)]] => some ([inR .i64 n, inR .i64 d], .tup [.a (.v (.string (printX n d))), .a (vI (errX n d))])
  | _ => none
theorem c69_ok : Ctr.Ok Tryd.prog ΓL 69 c69 := Ctr.fn_ok0 (prog_ok L8_ok true) Tryd.func69 rfl rfl rfl (by
  intro args q t hF hq
  split at hF
  next n d =>
    obtain ⟨rfl, rfl⟩ := Prod.mk.inj (Option.some.inj hF); clear hF
    obtain ⟨h1, h2, -⟩ := hq
    refine ⟨rfl, rfl, ?_⟩
    repeat' ((conv => whnf); (first | apply And.intro | intro _))
    all_goals try (conv => whnf)
    all_goals try (first | rfl | trivial | exact ⟨by kernel_rfl⟩)
    all_goals try subst_vars
    all_goals try dsimp only [CK.ty, Tup, kII] at *
    all_goals try simp only [allValid, List.all_cons, List.all_nil, Bool.and_true, bne_iff_ne, bne_eq_false_iff_eq, ne_eq, ite_ok] at *
    all_goals try simp only [Bool.not_eq_true] at *
    all_goals try exact ⟨by decide⟩
    all_goals try exact ⟨by assumption⟩
    all_goals try exact ⟨⟨h1, h2⟩, trivial⟩
    all_goals try exact ⟨Nat.le_of_ble_eq_true rfl⟩
    all_goals (have l1 := itoa_len h1; have l2 := itoa_len h2; have l3 : (ByteArray.mk #[47]).size = 1 := rfl)
    all_goals try (rw [printX_bad ‹_›]; done)
    all_goals try (rw [errX_bad ‹_›, ‹valid n d = false›]; rfl)
    all_goals try (rw [errX_good ‹_›]; done)
    all_goals try (rw [printX_good ‹_›, printT_one ‹_›]; done)
    all_goals try (rw [printX_good ‹_›, printT_two ‹_›]; done)
    · exact ⟨by omega⟩
    · exact ⟨by rw [ByteArray.size_append]; omega⟩
  next => cases hF)
end Go.Proofs.YtoggkjobihlohaaDoor
