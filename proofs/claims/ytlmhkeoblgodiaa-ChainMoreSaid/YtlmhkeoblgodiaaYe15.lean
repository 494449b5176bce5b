/-
  Texts of the claims on chapter 2: Ye15. No condition: lemmas and contracts.
-/
import Derived.Test.YtlmhkeoblgodiaaYe1
set_option linter.all false
section
/-
  Chapter 2: Slack. Printed by gen40.py.
-/
namespace Go.Proofs.Ytlmhkeoblgodiaa
open Go Go.Sy Go.Chn
set_option maxRecDepth 100000
set_option maxHeartbeats 1000000
set_option linter.unusedVariables false
set_option linter.unusedSimpArgs false
variable {Γ : Glob}
def slkF (N : Int) (L : List Lk) (w : Int) : Int × Int := if (checkF N L).1 ≠ 0 then (0, (checkF N L).1) else if w < 0 ∨ (L.length : Int) ≤ w then (0, 1) else if conB N L = false then (0, 9) else
  if dB N L (lk L w.toNat).2.1 (lk L w.toNat).1 = 1152921504606846976 then (0, 5) else ((lk L w.toNat).2.2 + dB N L (lk L w.toNat).2.1 (lk L w.toNat).1, 0)
section
variable {N : Int} {L : List Lk} {w : Int}
theorem sl0 (h : ((checkF N L).1 != 0) = true) : slkF N L w = (0, (checkF N L).1) := by unfold slkF; rw [if_pos (by simpa using h)]
theorem sl1 (h : ((checkF N L).1 != 0) = false) (h2 : w < 0 ∨ (L.length : Int) ≤ w) : slkF N L w = (0, 1) := by unfold slkF; rw [if_neg (by simpa using h), if_pos h2]
theorem sl2 (h : ((checkF N L).1 != 0) = false) (h2 : ¬ (w < 0 ∨ (L.length : Int) ≤ w)) (h3 : conB N L = false) : slkF N L w = (0, 9) := by unfold slkF; rw [if_neg (by simpa using h), if_neg h2, if_pos h3]
theorem sl3 (h : ((checkF N L).1 != 0) = false) (h2 : ¬ (w < 0 ∨ (L.length : Int) ≤ w)) (h3 : conB N L = true) (h4 : (dB N L (lk L w.toNat).2.1 (lk L w.toNat).1 == 1152921504606846976) = true) : slkF N L w = (0, 5) := by
  unfold slkF; rw [if_neg (by simpa using h), if_neg h2, if_neg (by simp [h3]), if_pos (by simpa using h4)]
theorem sl4 (h : ((checkF N L).1 != 0) = false) (h2 : ¬ (w < 0 ∨ (L.length : Int) ≤ w)) (h3 : conB N L = true) (h4 : (dB N L (lk L w.toNat).2.1 (lk L w.toNat).1 == 1152921504606846976) = false) : slkF N L w = ((lk L w.toNat).2.2 + dB N L (lk L w.toNat).2.1 (lk L w.toNat).1, 0) := by
  unfold slkF; rw [if_neg (by simpa using h), if_neg h2, if_neg (by simp [h3]), if_neg (by simpa using h4)]
end
def L30 : List (Nat × Ctr) := [(22, c22), (65, c65), (72, c72)]
theorem L30_ok : CsOk Try.prog Γ L30 := ((CsOk.nil.cons (body_of Try.func72 rfl rfl).fn c72_ok).cons (body_of Try.func65 rfl rfl).fn c65_ok).cons (body_of Try.func22 rfl rfl).fn c22_ok
def o30 (id : Nat) : Option (List Nat) := match Nat.beq id 10 with | true => some [0, 1, 2, 4, 5, 3, 6, 7, 8] | false => none
attribute [local irreducible] checkF gi lk boundsF dB slkF
def c30 : Ctr := fSn (fun _ L _ => [(Duty.of (L.length ≤ 1000000))]) (fun N L w => .tup [.a (vI (slkF N L w).1), .a (vI (slkF N L w).2)])
theorem c30_ok : Ctr.Ok Try.prog Γ 30 c30 := fSn_ok (d := 0) (E := { tabs.env L30 [] false 0 with ord := o30 }) ((prog_ok L30_ok BsOk.nil false 0).ords o30) (body_of Try.func30 rfl rfl) (fun _ _ _ => rfl) (by
  intro N L w ⟨hL, _⟩
  simp only [Duty.of_p] at hL
  have g0 := @sl0 N L w
  have g1 := @sl1 N L w
  have g2 := @sl2 N L w
  have g3 := @sl3 N L w
  have g4 := @sl4 N L w
  generalize slkF N L w = res at *
  repeat' ((conv => whnf); (first | apply And.intro | intro _))
  all_goals try (conv => whnf)
  all_goals try first
    | exact LexB.mk (by kernel_rfl)
    | exact LexP.mk (by kernel_rfl)
    | exact ForcedP.mk (by kernel_rfl)
  all_goals subst_vars
  all_goals try simp only [getL, getI, castLk, castIk] at *
  all_goals try first
    | exact ⟨rfl⟩
    | exact ⟨trivial⟩
    | exact ⟨show L.length ≤ 1099511627776 by omega⟩
    | rfl
  all_goals try
    (have hq : ((checkF N L).1 != 0) = true := by assumption
     first
       | (rw [g0 hq]; done)
       | exact (congrArg Prod.fst (g0 hq)).symm
       | exact (congrArg Prod.snd (g0 hq)).symm
       | exact congrArg Prod.snd (g0 hq))
  all_goals have hq : ((checkF N L).1 != 0) = false := by assumption
  all_goals have ha := ask_of (ok_of hq)
  all_goals have hN := toNat_of (ok_of hq)
  all_goals try first
    | exact hN
    | exact ha
  all_goals try
    (have hw : w < 0 ∨ (L.length : Int) ≤ w := by
       first
         | exact .inl (of_decide_eq_true (by assumption))
         | exact .inr (of_decide_eq_true (by assumption))
     first
       | (rw [g1 hq hw]; done)
       | exact (congrArg Prod.fst (g1 hq hw)).symm
       | exact (congrArg Prod.snd (g1 hq hw)).symm)
  all_goals have hw0 : ¬ w < 0 := of_decide_eq_false (by assumption)
  all_goals have hw1 : ¬ (L.length : Int) ≤ w := of_decide_eq_false (by assumption)
  all_goals have hw : ¬ (w < 0 ∨ (L.length : Int) ≤ w) := by omega
  all_goals try
    (have hc := con_f (N := N) (L := L) (by assumption)
     first
       | (rw [g2 hq hw hc]; done)
       | exact (congrArg Prod.fst (g2 hq hw hc)).symm
       | exact (congrArg Prod.snd (g2 hq hw hc)).symm)
  all_goals have hc := con_t (N := N) (L := L) (by assumption)
  all_goals have hm : lk L w.toNat ∈ L := lk_mem' (by omega)
  all_goals have hnd := ha.ok.nd _ hm
  all_goals have hms := ha.ok.ms _ hm
  all_goals have hlen := bd_len ha hnd.2
  all_goals have hrg := bd_range ha ((con_iff ha).1 hc) hnd.2 hnd.1
  all_goals try simp only [Nat.zero_add] at *
  all_goals have e1 : ((Int.toNat (lk L w.toNat).1 : Nat) : Int) = (lk L w.toNat).1 := Int.toNat_of_nonneg hnd.1.1
  all_goals have eD : gi (boundsF N.toNat L [] (lk L w.toNat).2.1) ((Int.toNat (lk L w.toNat).1 : Nat) : Int) = dB N L (lk L w.toNat).2.1 (lk L w.toNat).1 := by rw [e1]; exact dB_eq
  all_goals try first
    | exact hnd.2.1
    | exact hnd.2.2
    | exact ⟨show w.toNat < L.length by omega⟩
    | exact ⟨show Int.toNat (lk L w.toNat).1 < (boundsF N.toNat L [] (lk L w.toNat).2.1).length by rw [hlen]; have := hnd.1; omega⟩
    | (refine Ob.mk ?_; simp only [Duty.of_p]; omega)
    | (refine Ob.mk ?_; simp only [inRQ, inR, Duty.of_p]; rw [eD]; omega)
  all_goals try
    (have h4 : (dB N L (lk L w.toNat).2.1 (lk L w.toNat).1 == 1152921504606846976) = true := by rw [← eD]; assumption
     first
       | exact (congrArg Prod.fst (g3 hq hw hc h4)).symm
       | exact (congrArg Prod.snd (g3 hq hw hc h4)).symm)
  all_goals try
    (have h4 : (dB N L (lk L w.toNat).2.1 (lk L w.toNat).1 == 1152921504606846976) = false := by rw [← eD]; assumption
     first
       | (rw [eD]; exact (congrArg Prod.fst (g4 hq hw hc h4)).symm)
       | exact (congrArg Prod.snd (g4 hq hw hc h4)).symm)
  done)
end Go.Proofs.Ytlmhkeoblgodiaa
end
