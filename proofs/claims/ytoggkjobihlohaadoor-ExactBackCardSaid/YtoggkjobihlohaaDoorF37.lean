/-
  Chapter 1: the specification's Print, in the program.
-/
import Derived.Test.YtoggkjobihlohaaDoorF36
namespace Go.Proofs.YtoggkjobihlohaaDoor
open Go Go.Sx
set_option maxRecDepth 100000
variable {Γ : Glob}

def R37 : List (Nat × Ctr) := [(110, c110), (79, c79)]
theorem R37_ok : LOk Tryd.prog Γ R37 := (L0_ok.cons (FnOk.of Tryd.func79 rfl rfl) c79_ok).cons (FnOk.of Tryd.func110 rfl rfl) c110_ok
theorem dec_size {u : Nat} (h : u ≤ 2147483647) : (bs (Lib.decDigits u)).size ≤ 10 := by
  have := dec_len h
  show (Lib.decDigits u).toArray.size ≤ 10
  rw [List.size_toArray]; exact this
theorem itoa_cases (n : Int) : (decide (n < 0) = true → Lib.itoa n = 45 :: Lib.decDigits ((n.natAbs : Nat) : Int).toNat) ∧ (decide (n < 0) = false → Lib.itoa n = Lib.decDigits ((n.natAbs : Nat) : Int).toNat) := by
  constructor
  · intro h
    have := of_decide_eq_true h
    unfold Lib.itoa
    rw [if_pos this, Int.toNat_natCast]
  · intro h
    have := of_decide_eq_false h
    unfold Lib.itoa
    rw [if_neg this, Int.toNat_natCast, show n.toNat = n.natAbs by omega]

def c72 : Ctr := .fn fun args _ => match args with
  | [.agg [.v (.int .i64 n), .v (.int .i64 d)]] => some ([valid n d = true], .a (.v (.string (printT n d))))
  | _ => none
theorem c72_ok : Ctr.Ok Tryd.prog Γ 72 c72 := Ctr.fn_ok0 (prog_ok R37_ok true) Tryd.func72 rfl rfl rfl (by
  intro args q t hF hq
  split at hF
  next n d =>
    obtain ⟨rfl, rfl⟩ := Prod.mk.inj (Option.some.inj hF); clear hF
    obtain ⟨hv, -⟩ := hq
    have v := valid_iff.1 hv
    refine ⟨rfl, rfl, ?_⟩
    repeat' ((conv => whnf); (first | apply And.intro | intro _))
    all_goals try (conv => whnf)
    all_goals try (first | rfl | trivial | exact LexB.mk (by kernel_rfl) | exact LexG.mk (by kernel_rfl) | exact Forced.mk (by kernel_rfl))
    all_goals try subst_vars
    all_goals (have s1 : (ByteArray.mk #[45]).size = 1 := rfl
               have s2 : (ByteArray.mk #[47]).size = 1 := rfl
               have s3 := dec_size (u := ((n.natAbs : Nat) : Int).toNat) (by omega)
               have s4 := dec_size (u := d.toNat) (by omega))
    all_goals try exact ⟨by omega⟩
    all_goals try exact ⟨by simp only [inR]; omega⟩
    all_goals try exact ⟨by simp only [ByteArray.size_append]; omega⟩
    all_goals (have hn := itoa_cases n; have hd := itoa_cases d)
    all_goals apply congrArg Value.string
    all_goals rw [printT_list]
    · rw [if_neg (by simpa using ‹(d != 1) = true›), hn.1 ‹_›, hd.2 (decide_eq_false (by omega))]
      rw [show (⟨#[45]⟩ : ByteArray) = bs [45] from rfl, show (⟨#[47]⟩ : ByteArray) = bs [47] from rfl, bs_append, bs_append, bs_append]
      simp [show d.toNat = d.natAbs by omega]
    · rw [if_pos (by simpa using ‹(d != 1) = false›), hn.1 ‹_›]
      rw [show (⟨#[45]⟩ : ByteArray) = bs [45] from rfl, bs_append]
      simp
    · rw [if_neg (by simpa using ‹(d != 1) = true›), hn.2 ‹_›, hd.2 (decide_eq_false (by omega))]
      rw [show (⟨#[47]⟩ : ByteArray) = bs [47] from rfl, bs_append, bs_append]
      simp [show d.toNat = d.natAbs by omega]
    · rw [if_pos (by simpa using ‹(d != 1) = false›), hn.2 ‹_›]
  next => cases hF)
end Go.Proofs.YtoggkjobihlohaaDoor
