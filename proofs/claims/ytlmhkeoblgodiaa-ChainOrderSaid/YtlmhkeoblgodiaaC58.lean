/-
  Texts of the claims on chapter 2: C58. No condition: lemmas and contracts.
-/
import Derived.Test.YtlmhkeoblgodiaaYe5
import Derived.Test.YtlmhkeoblgodiaaYe9
import Derived.Test.YtlmhkeoblgodiaaYe10
set_option linter.all false
section
/-
  Chapter 2: the law ChainOrder. Printed by gen58.py.
-/
namespace Go.Proofs.Ytlmhkeoblgodiaa
open Go Go.Sy Go.Chn
set_option maxRecDepth 100000
set_option maxHeartbeats 4000000
set_option linter.unusedVariables false
set_option linter.unusedSimpArgs false
variable {Γ : Glob}
def fSu (D : Int → List Lk → Int → List Duty) (F : Int → List Lk → Int → Tm) : Ctr := .fn fun args rg => match args with
  | [.agg [.v (.int .i64 N0), x0], .a (.v (.int .u8 i0))] => (match arrOf 44 kL rg x0 with | some (q0, L0) => some (q0 ++ (D N0 L0 i0), F N0 L0 i0) | _ => none)
  | _ => none
theorem fSu_ok {f : FuncId} {b : Body} {E : Env} {d : Nat} (hP : ProgOk Try.prog Γ E) (hb : BodyOk Try.prog f b) {D : Int → List Lk → Int → List Duty} {F : Int → List Lk → Int → Tm} (hp : ∀ (N0 : Int) (L0 : List Lk) (i0 : Int), (F N0 L0 i0).plain = true)
    (H : ∀ (N0 : Int) (L0 : List Lk) (i0 : Int), obl (D N0 L0 i0) → evTop E d b [.agg [vI N0, .sl 0 [] 0 L0.length], .a (.v (.int .u8 i0))] [.arr 44 kL L0 false false] (fun x _ => eqT x (F N0 L0 i0))) : Ctr.Ok Try.prog Γ f (fSu D F) := Ctr.fn_ok (d := d) hP hb (by
  intro args rg q t hF hq
  split at hF
  next N0 x0 i0 =>
    split at hF
    next q0 L0 hx0 =>
      obtain ⟨rfl, rfl⟩ := Prod.mk.inj (Option.some.inj hF); clear hF
      rw [obl_append] at hq
      obtain ⟨hq0, hD⟩ := hq
      obtain ⟨e0, he0⟩ := pas_arr (by simp [kL]) hx0 hq0
      obtain ⟨p0, r0⟩ := he0 [e0] 0 1 rfl (by omega)
      refine ⟨hp _ _ _, [e0], [.agg [vI N0, .sl 0 [] 0 L0.length], .a (.v (.int .u8 i0))], [.arr 44 kL L0 false false], ⟨⟨⟨rfl, p0, trivial⟩, rfl, trivial⟩, fun r g hg => ?_⟩, H _ _ _ hD⟩
      match r, hg with
      | 0, hg => obtain rfl := Option.some.inj hg; exact r0
    next => cases hF
  next => cases hF)
noncomputable def L7 : List (Nat × Ctr) := [(20, c20), (21, c21), (44, c44), (25, c25), (46, c46)]
theorem L7_ok : CsOk Try.prog Γ L7 := (((((CsOk.nil.cons (body_of Try.func46 rfl rfl).fn c46_ok).cons (body_of Try.func25 rfl rfl).fn c25_ok).cons (body_of Try.func44 rfl rfl).fn c44_ok).cons (body_of Try.func21 rfl rfl).fn c21_ok).cons (body_of Try.func20 rfl rfl).fn c20_ok)
def lkZ (L : List Lk) (z : Int) : Lk := @Ar.get ⟨44, kL, L⟩ (0 + Int.toNat z)
theorem lkZ_eq (L : List Lk) (k : Nat) : lkZ L (k : Int) = lk L k := by unfold lkZ; rw [Nat.zero_add, Int.toNat_natCast]; rfl
theorem tg_rows {N : Int} {L : List Lk} : (tgF N L).1.length ≤ 1000000 ∧ rowsM (tgF N L).1 := by
  by_cases h0 : askF N L [] = 0
  · obtain ⟨c1, _, c3⟩ := ask_iff.1 h0
    have ha := ask_of c1
    have hn := ha.n
    rw [tgF1 (by rw [h0]; rfl)]
    refine ⟨by show (tgL N L N.toNat).length ≤ 1000000; rw [tg_len]; omega, fun r hr => ?_⟩
    obtain ⟨u, hu, rfl⟩ := List.mem_map.1 hr
    rw [bd_len ha ⟨by omega, by have := List.mem_range.1 hu; omega⟩]
    omega
  · rw [tgF0 (by simpa using h0)]
    exact ⟨Nat.zero_le _, fun r hr => (by cases hr)⟩
attribute [local irreducible] gi lk checkF smallB clsF tgF rotL
def c7 : Ctr := fSu (fun _ _ n => [(Duty.of (0 ≤ n)), (Duty.of (n < 256))]) (fun _ _ _ => bl true)
theorem c7_ok : Ctr.Ok Try.prog Γ 7 c7 := fSu_ok (d := 0) (prog_ok L7_ok BsOk.nil false 0) (body_of Try.func7 rfl rfl) (fun _ _ _ => rfl) (by
  intro N L n ⟨u1, u2, _⟩
  simp only [Duty.of_p] at u1 u2
  by_cases hs : (!smallB N L) = true
  · repeat' ((conv => whnf); (first | apply And.intro | (intro h9; first | (have h8 : (_ : Bool) = false := h9; exfalso; clear h8; revert h9; subst_vars; intro h9; exact ft_no (h9.symm.trans (by assumption))) | (have h8 : (_ : Bool) = true := h9; exfalso; clear h8; revert h9; subst_vars; intro h9; exact tf_no (h9.symm.trans (by assumption))) | skip)))
    all_goals try (conv => whnf)
    all_goals try first
      | exact LexB.mk (by kernel_rfl)
      | exact LexG.mk (by kernel_rfl)
      | exact LexT.mk (by kernel_rfl)
      | exact Forced.mk (by kernel_rfl)
      | exact LexP.mk (by kernel_rfl)
      | exact ForcedP.mk (by kernel_rfl)
      | exact ⟨Nat.le_of_ble_eq_true rfl⟩
      | exact ⟨rfl⟩
      | exact ⟨trivial⟩
    all_goals subst_vars
    all_goals try first
      | rfl
      | contradiction
      | (refine Ob.mk ?_; simp only [inRQ, inR, Duty.of_p]; omega)
    all_goals first
      | exact ⟨show L.length ≤ 1000000 by omega⟩
  replace hs : (!smallB N L) = false := by simpa using hs
  have hL := small_len hs
  by_cases h0 : ((L.length : Int) == 0) = true
  · repeat' ((conv => whnf); (first | apply And.intro | (intro h9; first | (have h8 : (_ : Bool) = false := h9; exfalso; clear h8; revert h9; subst_vars; intro h9; exact ft_no (h9.symm.trans (by assumption))) | (have h8 : (_ : Bool) = true := h9; exfalso; clear h8; revert h9; subst_vars; intro h9; exact tf_no (h9.symm.trans (by assumption))) | skip)))
    all_goals try (conv => whnf)
    all_goals try first
      | exact LexB.mk (by kernel_rfl)
      | exact LexG.mk (by kernel_rfl)
      | exact LexT.mk (by kernel_rfl)
      | exact Forced.mk (by kernel_rfl)
      | exact LexP.mk (by kernel_rfl)
      | exact ForcedP.mk (by kernel_rfl)
      | exact ⟨Nat.le_of_ble_eq_true rfl⟩
      | exact ⟨rfl⟩
      | exact ⟨trivial⟩
    all_goals subst_vars
    all_goals try first
      | rfl
      | contradiction
      | (refine Ob.mk ?_; simp only [inRQ, inR, Duty.of_p]; omega)
    all_goals first
      | exact ⟨show L.length ≤ 1000000 by omega⟩
  replace h0 : ((L.length : Int) == 0) = false := by simpa using h0
  have hl0 : L.length ≠ 0 := by simpa using h0
  obtain ⟨t, rfl⟩ : ∃ t : Nat, n = t := ⟨n.toNat, by omega⟩
  have hz : ∀ i : Nat, Int.tmod ((i : Int) + (t : Int)) (L.length : Int) = (((i + t) % L.length : Nat) : Int) := fun i => by rw [Int.ofNat_tmod]; rfl
  repeat' ((conv => whnf); (first | apply And.intro | (intro h9; first | (have h8 : (_ : Bool) = false := h9; exfalso; clear h8; revert h9; subst_vars; intro h9; exact ft_no (h9.symm.trans (by assumption))) | (have h8 : (_ : Bool) = true := h9; exfalso; clear h8; revert h9; subst_vars; intro h9; exact tf_no (h9.symm.trans (by assumption))) | skip)))
  all_goals try (conv => whnf)
  all_goals try first
    | exact LexB.mk (by kernel_rfl)
    | exact LexG.mk (by kernel_rfl)
    | exact LexT.mk (by kernel_rfl)
    | exact Forced.mk (by kernel_rfl)
    | exact LexP.mk (by kernel_rfl)
    | exact ForcedP.mk (by kernel_rfl)
    | exact ⟨Nat.le_of_ble_eq_true rfl⟩
    | exact ⟨rfl⟩
    | exact ⟨trivial⟩
  all_goals subst_vars
  all_goals try first
    | rfl
    | contradiction
    | (refine Ob.mk ?_; simp only [inRQ, inR, Duty.of_p]; omega)
  all_goals try first
    | exact ⟨show L.length ≤ 1000000 by omega⟩
  refine ⟨Nat, fun i => i ≤ L.length, fun i => ⟨slotsT 95 [1, 2, 5, 6] [.a (.v (.int .u8 (t : Int))), .a (.p 1 [] 0 0), .a (.sl 2 [] 0 i), .a (vI i)], [], [.arr 44 kL L false false, .box true [vI N, .sl 0 [] 0 L.length], .arr 44 kL (rotL L t i) true true]⟩, fun i => L.length - i, 0, [0, 1, 1000], Nat.zero_le _, ?_, ?_⟩
  · have e0 : [] = rotL L t 0 := rot_zero
    subst_vars
    repeat' ((conv => whnf); (first | apply And.intro | intro _))
    all_goals first | rfl | trivial | exact Nat.le_of_ble_eq_true rfl | exact ⟨rfl, rfl, rfl⟩ | exact ⟨rfl, rfl, rfl, rfl⟩ | exact ⟨rfl, rfl⟩ | exact e0 | exact e0.symm | exact ⟨rfl, rfl, e0⟩
  rintro i hi
  have hrl : (rotL L t i).length = i := rot_len
  by_cases hi1 : i < L.length
  · have p0 : decide ((i : Int) < (L.length : Int)) = true := decide_eq_true (by omega)
    have hm := Nat.mod_lt (i + t) (show 0 < L.length by omega)
    have e1 : List.drop 0 (rotL L t i) ++ [lkZ L (Int.tmod ((i : Int) + (t : Int)) (L.length : Int))] = rotL L t (i + 1) := by
      rw [hz, lkZ_eq]; exact rot_succ
    repeat' ((conv => whnf); (first | apply And.intro | (intro h9; first | (have h8 : (_ : Bool) = false := h9; exfalso; clear h8; revert h9; subst_vars; intro h9; exact ft_no (h9.symm.trans (by assumption))) | (have h8 : (_ : Bool) = true := h9; exfalso; clear h8; revert h9; subst_vars; intro h9; exact tf_no (h9.symm.trans (by assumption))) | skip)))
    all_goals try (conv => whnf)
    all_goals try first
      | exact LexB.mk (by kernel_rfl)
      | exact LexG.mk (by kernel_rfl)
      | exact LexT.mk (by kernel_rfl)
      | exact Forced.mk (by kernel_rfl)
      | exact LexP.mk (by kernel_rfl)
      | exact ForcedP.mk (by kernel_rfl)
      | exact ⟨Nat.le_of_ble_eq_true rfl⟩
      | exact ⟨rfl⟩
      | exact ⟨trivial⟩
    all_goals subst_vars
    all_goals try first
      | rfl
      | contradiction
      | (refine Ob.mk ?_; simp only [inRQ, inR, Duty.of_p]; omega)
    all_goals try first
      | exact ⟨show L.length ≤ 1000000 by omega⟩
    all_goals try first
      | exact ⟨show (L.length : Int) ≠ 0 by omega⟩
      | exact ⟨show 0 ≤ Int.tmod ((i : Int) + (t : Int)) (L.length : Int) ∧ Int.tmod ((i : Int) + (t : Int)) (L.length : Int) < (L.length : Int) by rw [hz]; omega⟩
      | exact ⟨show 0 + Int.toNat (Int.tmod ((i : Int) + (t : Int)) (L.length : Int)) < L.length by rw [hz]; omega⟩
      | exact ⟨show 0 + i = (rotL L t i).length by omega⟩
      | exact ⟨show (i + 1) * 3 ≤ 1099511627776 by omega⟩
    all_goals
      refine ⟨i + 1, [0, 1, 2], hi1, ?_, by show L.length - (i + 1) < L.length - i; omega⟩
      subst_vars
      repeat' ((conv => whnf); (first | apply And.intro | intro _))
      all_goals first | rfl | trivial | exact Nat.le_of_ble_eq_true rfl | exact ⟨rfl, rfl, rfl⟩ | exact ⟨rfl, rfl, rfl, rfl⟩ | exact ⟨rfl, rfl⟩ | exact e1 | (subst_vars; rfl) | exact ⟨rfl, rfl, e1⟩
  have p0 : decide ((i : Int) < (L.length : Int)) = false := decide_eq_false (by omega)
  obtain rfl : i = L.length := by omega
  have hmem := rot_mem (t := t) hl0
  have t1 := tg_same (N := N) hrl.symm hmem
  have t2 := cls_len (N := N) hrl.symm hmem
  have v1 : ((tgF N L).2 == (tgF N (rotL L t L.length)).2) = true := by rw [← t1]; simp
  have v2 : ((clsF N L).2 == (clsF N (rotL L t L.length)).2) = true := by rw [t2.1]; simp
  have v3 : decide ((tgF N L).1 = (tgF N (rotL L t L.length)).1) = true := by rw [← t1]; simp
  have v4 : (((clsF N L).1.length : Int) == ((clsF N (rotL L t L.length)).1.length : Int)) = true := by rw [t2.2]; simp
  have r1 := tg_rows (N := N) (L := L)
  have r2 := tg_rows (N := N) (L := rotL L t L.length)
  repeat' ((conv => whnf); (first | apply And.intro | (intro h9; first | (have h8 : (_ : Bool) = false := h9; exfalso; clear h8; revert h9; subst_vars; intro h9; exact ft_no (h9.symm.trans (by assumption))) | (have h8 : (_ : Bool) = true := h9; exfalso; clear h8; revert h9; subst_vars; intro h9; exact tf_no (h9.symm.trans (by assumption))) | skip)))
  all_goals try (conv => whnf)
  all_goals try first
    | exact LexB.mk (by kernel_rfl)
    | exact LexG.mk (by kernel_rfl)
    | exact LexT.mk (by kernel_rfl)
    | exact Forced.mk (by kernel_rfl)
    | exact LexP.mk (by kernel_rfl)
    | exact ForcedP.mk (by kernel_rfl)
    | exact ⟨Nat.le_of_ble_eq_true rfl⟩
    | exact ⟨rfl⟩
    | exact ⟨trivial⟩
  all_goals subst_vars
  all_goals try first
    | rfl
    | contradiction
    | (refine Ob.mk ?_; simp only [inRQ, inR, Duty.of_p]; omega)
  all_goals first
    | exact ⟨show L.length ≤ 1000000 by omega⟩
    | exact ⟨show (rotL L t L.length).length ≤ 1000000 by omega⟩
    | exact ⟨show (tgF N L).1.length ≤ 1000000 from r1.1⟩
    | exact ⟨r1.2⟩
    | exact ⟨show (tgF N (rotL L t L.length)).1.length ≤ 1000000 from r2.1⟩
    | exact ⟨r2.2⟩
    | exact ⟨hrl.symm⟩
    | exact v4
)
end Go.Proofs.Ytlmhkeoblgodiaa
end
