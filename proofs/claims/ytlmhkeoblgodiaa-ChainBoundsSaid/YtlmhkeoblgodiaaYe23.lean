/-
  Texts of the claims on chapter 2: Ye23. No condition: lemmas and contracts.
-/
import Derived.Test.YtlmhkeoblgodiaaYe21
set_option linter.all false
section
/-
  Chapter 2: the specification's Chain. Printed by gen71.py.
-/
namespace Go.Proofs.Ytlmhkeoblgodiaa
open Go Go.Sy Go.Chn
set_option maxRecDepth 100000
set_option maxHeartbeats 4000000
set_option linter.unusedVariables false
set_option linter.unusedSimpArgs false
variable {Γ : Glob}
def newSTnn (D : Int → List Lk → List (List Int) → Int → Int → List Duty) (R : Int → List Lk → List (List Int) → Int → Int → Res) : Ctr := .new fun args rg K => match args with
  | [.agg [.v (.int .i64 N0), x0], .a x1, .a (.v (.int .i64 i0)), .a (.v (.int .i64 i1))] => (match arrOf 44 kL rg x0, arrOf 32 kT rg x1 with | some (q0, L0), some (q1, L1) => oblige false (q0 ++ (q1 ++ (D N0 L0 L1 i0 i1))) (K (R N0 L0 L1 i0 i1)) | _, _ => False)
  | _ => False
theorem newSTnn_ok {f : FuncId} {b : Body} {E : Env} {d : Nat} (hP : ProgOk Try.prog Γ E) (hb : BodyOk Try.prog f b) {D : Int → List Lk → List (List Int) → Int → Int → List Duty} {R : Int → List Lk → List (List Int) → Int → Int → Res}
    (H : ∀ (N0 : Int) (L0 : List Lk) (L1 : List (List Int)) (i0 : Int) (i1 : Int) (K : Res → Prop), obl (D N0 L0 L1 i0 i1) → K (R N0 L0 L1 i0 i1) → evTop E d b [.agg [vI N0, .sl 0 [] 0 L0.length], .a (.sl 1 [] 0 L1.length), .a (vI i0), .a (vI i1)] [.arr 44 kL L0 false false, .arr 32 kT L1 false false] (resW K)) : Ctr.Ok Try.prog Γ f (newSTnn D R) := Ctr.new_okW (d := d) hP hb (by
  intro args rg K hC
  split at hC
  next N0 x0 x1 i0 i1 =>
    split at hC
    next q0 L0 q1 L1 hx0 hx1 =>
      rw [oblige_iff, obl_append, obl_append] at hC
      obtain ⟨⟨hq0, hq1, hD⟩, hK⟩ := hC
      obtain ⟨e0, he0⟩ := pas_arr (by simp [kL]) hx0 hq0
      obtain ⟨e1, he1⟩ := pas_arr (by simp [kT]) hx1 hq1
      obtain ⟨p0, r0⟩ := he0 [e0, e1] 0 2 rfl (by omega)
      obtain ⟨p1, r1⟩ := he1 [e0, e1] 1 2 rfl (by omega)
      refine ⟨[e0, e1], [.agg [vI N0, .sl 0 [] 0 L0.length], .a (.sl 1 [] 0 L1.length), .a (vI i0), .a (vI i1)], [.arr 44 kL L0 false false, .arr 32 kT L1 false false], ⟨⟨⟨rfl, p0, trivial⟩, p1, rfl, rfl, trivial⟩, fun r g hg => ?_⟩, resW K, H _ _ _ _ _ K hD hK, fun x st h => h⟩
      match r, hg with
      | 0, hg => obtain rfl := Option.some.inj hg; exact r0
      | 1, hg => obtain rfl := Option.some.inj hg; exact r1
    next => exact hC.elim
  next => exact hC.elim)
def L42 : List (Nat × Ctr) := [(70, c70), (71, c71)]
theorem L42_ok : CsOk Try.prog Γ L42 := (CsOk.nil.cons (body_of Try.func71 rfl rfl).fn c71_ok).cons (body_of Try.func70 rfl rfl).fn c70_ok
def o42 (id : Nat) : Option (List Nat) := match Nat.beq id 6 with | true => some [0, 1, 2, 3, 4, 5, 6, 7, 8, 9, 10, 11, 12, 13] | false => none
attribute [local irreducible] gi lk exR tbT rowT wkF chnL conB dB tgL
def c42 : Ctr := newSTnn (fun N L D a b => [(Duty.of (N = N.toNat)), askD N.toNat L, (Duty.of (conB N L = true)), (Duty.of (D = tgL N L N.toNat)), (Duty.of (0 ≤ a)), (Duty.of (a < N.toNat)), (Duty.of (0 ≤ b)), (Duty.of (b < N.toNat)), (Duty.of (dB N L a b ≠ Fr))])
  (fun N L D a b => ⟨[.arr 3 kI (chnL N L a b) true true], .a (.sl 0 [] 0 (chnL N L a b).length)⟩)
theorem c42_ok : Ctr.Ok Try.prog Γ 42 c42 := newSTnn_ok (d := 0) (E := { tabs.env L42 [] false 0 with ord := o42 }) ((prog_ok L42_ok BsOk.nil false 0).ords o42) (body_of Try.func42 rfl rfl) (by
  intro N L D a b K ⟨hN, ha, hc, hD, a1, a2, b1, b2, hd, _⟩ hK
  replace ha : AskL N.toNat L := ha
  simp only [Duty.of_p] at hN hc hD a1 a2 b1 b2 hd
  have h60 := ha.n
  have hll := ha.l
  have hn := (con_iff ha).1 hc
  have na : inN N.toNat a := ⟨a1, a2⟩
  have nb : inN N.toNat b := ⟨b1, b2⟩
  obtain ⟨_, kk1, kk2, kk3⟩ := kB_ok ha hn na nb hd
  have hDl : D.length = N.toNat := by rw [hD]; exact tg_len
  have hDr : rwA D a = boundsF N.toNat L [] a := by
    rw [rwA_eq, hD, tg_get (by omega), Int.toNat_of_nonneg a1]
  have hDrl : (rwA D a).length = N.toNat := by rw [hDr]; exact bd_len ha na
  have hDc : (e1A (rwA D a) b) = dB N L a b := by rw [hDr, e1A_eq b1]; exact dB_eq
  clear hD
  have dR := d_low ha hn nb (bd_isD ha hn na nb).1 hd
  have tl : ((tbT N.toNat L (N.toNat + 1))).length = N.toNat + 1 := tbT_len
  repeat' ((conv => whnf); (first | apply And.intro | (intro h9; first | (have h8 : (_ : Bool) = false := h9; exfalso; clear h8; revert h9; subst_vars; intro h9; exact ft_no (h9.symm.trans (by assumption))) | (have h8 : (_ : Bool) = true := h9; exfalso; clear h8; revert h9; subst_vars; intro h9; exact tf_no (h9.symm.trans (by assumption))) | skip)))
  all_goals try (conv => whnf)
  all_goals try first
    | exact LexB.mk (by kernel_rfl)
    | exact LexG.mk (by kernel_rfl)
    | exact LexT.mk (by kernel_rfl)
    | exact Forced.mk (by kernel_rfl)
    | exact LexP.mk (by kernel_rfl)
    | exact ForcedP.mk (by kernel_rfl)
    | exact ⟨Nat.le_of_ble_eq_true rfl⟩
    | exact ⟨rfl⟩
    | exact ⟨trivial⟩
  all_goals subst_vars
  all_goals try first
    | rfl
    | contradiction
    | (refine Ob.mk ?_; simp only [inRQ, inR, Duty.of_p]; omega)
  all_goals try first
    | exact ⟨show L.length ≤ 1000000 by omega⟩
    | exact ⟨hN⟩
    | exact ⟨ha⟩
    | exact ⟨show N.toNat ≤ 60 by omega⟩
  refine ⟨Nat, fun k => k ≤ kB N L a b, fun k => ⟨slotsT 52 [1, 2, 3, 4, 9, 10] [.a (.sl 1 [] 0 D.length), .a (vI a), .a (vI b), .a (.p 2 [] 0 0), .a (.sl 3 [] 0 (N.toNat + 1)), .a (vI k)], [], [.arr 44 kL L false false, .arr 32 kT D false false, .box true [vI N, .sl 0 [] 0 L.length], .arr 35 kTT (tbT N.toNat L (N.toNat + 1)) true true]⟩, fun k => kB N L a b - k, 0, [], Nat.zero_le _, ?_, ?_⟩
  · repeat' ((conv => whnf); (first | apply And.intro | intro _))
    all_goals first | rfl | trivial | exact Nat.le_of_ble_eq_true rfl | exact ⟨rfl, rfl, rfl⟩ | exact ⟨rfl, rfl, rfl, rfl⟩ | exact ⟨rfl, rfl⟩
  rintro k hk
  have p0 : decide ((k : Int) ≤ N) = true := decide_eq_true (by omega)
  have hr3 : (row3 (tbT N.toNat L (N.toNat + 1)) (k : Int)) = rowT N.toNat L k := by
    unfold row3; rw [Nat.zero_add, Int.toNat_natCast]; exact tbT_get (by omega)
  have hr3l : ((row3 (tbT N.toNat L (N.toNat + 1)) (k : Int))).length = N.toNat := by rw [hr3]; exact rowT_len
  have hr2 : (rwA (row3 (tbT N.toNat L (N.toNat + 1)) (k : Int)) a) = exR N.toNat L a k := by rw [rwA_eq, hr3]; exact rowT_get na
  have hr2l : ((rwA (row3 (tbT N.toNat L (N.toNat + 1)) (k : Int)) a)).length = N.toNat := by rw [hr2]; exact exR_len
  have hE : (e1A (rwA (row3 (tbT N.toNat L (N.toNat + 1)) (k : Int)) a) b) = gi (exF N.toNat L b k) a := by rw [hr2, e1A_eq b1]; exact (exFR ha.ok na nb (by omega)).symm
  cases c1 : ((e1A (rwA (row3 (tbT N.toNat L (N.toNat + 1)) (k : Int)) a) b) == (e1A (rwA D a) b))
  · have hne : gi (exF N.toNat L b k) a ≠ dB N L a b := by rw [hE, hDc] at c1; simpa using c1
    have hk1 : k + 1 ≤ kB N L a b := by
      rcases Nat.lt_or_ge k (kB N L a b) with h | h
      · exact h
      · obtain rfl : k = kB N L a b := by omega
        exact absurd kk2 hne
    repeat' ((conv => whnf); (first | apply And.intro | (intro h9; first | (have h8 : (_ : Bool) = false := h9; exfalso; clear h8; revert h9; subst_vars; intro h9; exact ft_no (h9.symm.trans (by assumption))) | (have h8 : (_ : Bool) = true := h9; exfalso; clear h8; revert h9; subst_vars; intro h9; exact tf_no (h9.symm.trans (by assumption))) | skip)))
    all_goals try (conv => whnf)
    all_goals try first
      | exact LexB.mk (by kernel_rfl)
      | exact LexG.mk (by kernel_rfl)
      | exact LexT.mk (by kernel_rfl)
      | exact Forced.mk (by kernel_rfl)
      | exact LexP.mk (by kernel_rfl)
      | exact ForcedP.mk (by kernel_rfl)
      | exact ⟨Nat.le_of_ble_eq_true rfl⟩
      | exact ⟨rfl⟩
      | exact ⟨trivial⟩
    all_goals subst_vars
    all_goals try first
      | rfl
      | contradiction
      | (refine Ob.mk ?_; simp only [inRQ, inR, Duty.of_p]; omega)
    all_goals try first
      | exact ⟨show L.length ≤ 1000000 by omega⟩
      | exact ⟨hN⟩
      | exact ⟨ha⟩
      | exact ⟨show N.toNat ≤ 60 by omega⟩
      | exact ⟨show 0 ≤ (k : Int) ∧ (k : Int) < ((N.toNat + 1 : Nat) : Int) by omega⟩
      | exact ⟨show 0 + Int.toNat (k : Int) < ((tbT N.toNat L (N.toNat + 1))).length by omega⟩
      | exact ⟨show 0 ≤ a ∧ a < (((row3 (tbT N.toNat L (N.toNat + 1)) (k : Int))).length : Int) by omega⟩
      | exact ⟨show 0 + Int.toNat a < ((row3 (tbT N.toNat L (N.toNat + 1)) (k : Int))).length by omega⟩
      | exact ⟨show 0 ≤ b ∧ b < (((rwA (row3 (tbT N.toNat L (N.toNat + 1)) (k : Int)) a)).length : Int) by omega⟩
      | exact ⟨show 0 + Int.toNat b < ((rwA (row3 (tbT N.toNat L (N.toNat + 1)) (k : Int)) a)).length by omega⟩
      | exact ⟨show 0 ≤ a ∧ a < (D.length : Int) by omega⟩
      | exact ⟨show 0 + Int.toNat a < D.length by omega⟩
      | exact ⟨show 0 ≤ b ∧ b < ((rwA D a).length : Int) by omega⟩
      | exact ⟨show 0 + Int.toNat b < (rwA D a).length by omega⟩
    all_goals
      refine ⟨k + 1, [0, 1, 2, 3], hk1, ?_, by show kB N L a b - (k + 1) < kB N L a b - k; omega⟩
      subst_vars
      repeat' ((conv => whnf); (first | apply And.intro | intro _))
      all_goals first | rfl | trivial | exact Nat.le_of_ble_eq_true rfl | exact ⟨rfl, rfl, rfl⟩ | exact ⟨rfl, rfl, rfl, rfl⟩ | exact ⟨rfl, rfl⟩ | (subst_vars; rfl)
  · have heq : gi (exF N.toNat L b k) a = dB N L a b := by rw [hE, hDc] at c1; simpa using c1
    have hkq : k = kB N L a b := by
      rcases Nat.lt_or_ge k (kB N L a b) with h | h
      · exact absurd heq (kk3 k h)
      · omega
    have eW : wkF N.toNat L (Int.toNat (k : Int)) a b (e1A (rwA D a) b) = chnL N L a b := by rw [Int.toNat_natCast, hDc, hkq]; exact wk_chn ha hn na nb hd
    rw [← eW] at hK
    clear eW hkq heq kk2 kk3
    repeat' ((conv => whnf); (first | apply And.intro | (intro h9; first | (have h8 : (_ : Bool) = false := h9; exfalso; clear h8; revert h9; subst_vars; intro h9; exact ft_no (h9.symm.trans (by assumption))) | (have h8 : (_ : Bool) = true := h9; exfalso; clear h8; revert h9; subst_vars; intro h9; exact tf_no (h9.symm.trans (by assumption))) | skip)))
    all_goals try (conv => whnf)
    all_goals try first
      | exact LexB.mk (by kernel_rfl)
      | exact LexG.mk (by kernel_rfl)
      | exact LexT.mk (by kernel_rfl)
      | exact Forced.mk (by kernel_rfl)
      | exact LexP.mk (by kernel_rfl)
      | exact ForcedP.mk (by kernel_rfl)
      | exact ⟨Nat.le_of_ble_eq_true rfl⟩
      | exact ⟨rfl⟩
      | exact ⟨trivial⟩
    all_goals subst_vars
    all_goals try first
      | rfl
      | contradiction
      | (refine Ob.mk ?_; simp only [inRQ, inR, Duty.of_p]; omega)
    all_goals try first
      | exact ⟨show L.length ≤ 1000000 by omega⟩
      | exact ⟨hN⟩
      | exact ⟨ha⟩
      | exact ⟨show N.toNat ≤ 60 by omega⟩
      | exact ⟨show 0 ≤ (k : Int) ∧ (k : Int) < ((N.toNat + 1 : Nat) : Int) by omega⟩
      | exact ⟨show 0 + Int.toNat (k : Int) < ((tbT N.toNat L (N.toNat + 1))).length by omega⟩
      | exact ⟨show 0 ≤ a ∧ a < (((row3 (tbT N.toNat L (N.toNat + 1)) (k : Int))).length : Int) by omega⟩
      | exact ⟨show 0 + Int.toNat a < ((row3 (tbT N.toNat L (N.toNat + 1)) (k : Int))).length by omega⟩
      | exact ⟨show 0 ≤ b ∧ b < (((rwA (row3 (tbT N.toNat L (N.toNat + 1)) (k : Int)) a)).length : Int) by omega⟩
      | exact ⟨show 0 + Int.toNat b < ((rwA (row3 (tbT N.toNat L (N.toNat + 1)) (k : Int)) a)).length by omega⟩
      | exact ⟨show 0 ≤ a ∧ a < (D.length : Int) by omega⟩
      | exact ⟨show 0 + Int.toNat a < D.length by omega⟩
      | exact ⟨show 0 ≤ b ∧ b < ((rwA D a).length : Int) by omega⟩
      | exact ⟨show 0 + Int.toNat b < (rwA D a).length by omega⟩
      | exact ⟨show (tbT N.toNat L (N.toNat + 1)) = tbT N.toNat L ((tbT N.toNat L (N.toNat + 1))).length by rw [tl]⟩
      | exact ⟨show ((tbT N.toNat L (N.toNat + 1))).length ≤ 61 by omega⟩
      | exact ⟨tl.symm⟩
      | exact ⟨show (k : Int) = ((Int.toNat (k : Int) : Nat) : Int) by omega⟩
      | exact ⟨show Int.toNat (k : Int) ≤ ((tbT N.toNat L (N.toNat + 1))).length by omega⟩
      | exact ⟨a1⟩
      | exact ⟨a2⟩
      | exact ⟨b1⟩
      | exact ⟨b2⟩
      | exact ⟨show -1152921504606846976 ≤ (e1A (rwA D a) b) by rw [hDc]; omega⟩
      | exact ⟨show (e1A (rwA D a) b) ≤ 1152921504606846976 by rw [hDc]; omega⟩
    all_goals exact kl1 (i := 4) hK rfl rfl
)
end Go.Proofs.Ytlmhkeoblgodiaa
end
