/-
  Texts of the claims on chapter 2: C74. No condition: lemmas and contracts.
-/
import Derived.Test.YtlmhkeoblgodiaaYe5
import Derived.Test.YtlmhkeoblgodiaaYe21
import Derived.Test.YtlmhkeoblgodiaaYe9
import Derived.Test.YtlmhkeoblgodiaaYe13
set_option linter.all false
section
/-
  Chapter 2: the law ChainChecks. Printed by gen74.py.
-/
namespace Go.Proofs.Ytlmhkeoblgodiaa
open Go Go.Sy Go.Chn
set_option maxRecDepth 100000
set_option maxHeartbeats 4000000
set_option linter.unusedVariables false
set_option linter.unusedSimpArgs false
variable {Γ : Glob}
def fSe (D : Int → List Lk → List Duty) (F : Int → List Lk → Tm) : Ctr := .fn fun args rg => match args with
  | [.agg [.v (.int .i64 N0), x0]] => (match arrOf 44 kL rg x0 with | some (q0, L0) => some (q0 ++ (D N0 L0), F N0 L0) | _ => none)
  | _ => none
theorem fSe_ok {f : FuncId} {b : Body} {E : Env} {d : Nat} (hP : ProgOk Try.prog Γ E) (hb : BodyOk Try.prog f b) {D : Int → List Lk → List Duty} {F : Int → List Lk → Tm} (hp : ∀ (N0 : Int) (L0 : List Lk), (F N0 L0).plain = true)
    (H : ∀ (N0 : Int) (L0 : List Lk), obl (D N0 L0) → evTop E d b [.agg [vI N0, .sl 0 [] 0 L0.length]] [.arr 44 kL L0 false false] (fun x _ => eqT x (F N0 L0))) : Ctr.Ok Try.prog Γ f (fSe D F) := Ctr.fn_ok (d := d) hP hb (by
  intro args rg q t hF hq
  split at hF
  next N0 x0 =>
    split at hF
    next q0 L0 hx0 =>
      obtain ⟨rfl, rfl⟩ := Prod.mk.inj (Option.some.inj hF); clear hF
      rw [obl_append] at hq
      obtain ⟨hq0, hD⟩ := hq
      obtain ⟨e0, he0⟩ := pas_arr (by simp [kL]) hx0 hq0
      obtain ⟨p0, r0⟩ := he0 [e0] 0 1 rfl (by omega)
      refine ⟨hp _ _, [e0], [.agg [vI N0, .sl 0 [] 0 L0.length]], [.arr 44 kL L0 false false], ⟨⟨⟨rfl, p0, trivial⟩, trivial⟩, fun r g hg => ?_⟩, H _ _ hD⟩
      match r, hg with
      | 0, hg => obtain rfl := Option.some.inj hg; exact r0
    next => cases hF
  next => cases hF)
noncomputable def Lw3 : List (Nat × Ctr) := [(20, c20), (21, c21), (22, c22), (23, c23), (24, c24), (25, c25), (26, c26), (27, c27), (28, c28)]
theorem Lw3_ok : CsOk Try.prog Γ Lw3 := (((((((((CsOk.nil.cons (body_of Try.func28 rfl rfl).fn c28_ok).cons (body_of Try.func27 rfl rfl).fn c27_ok).cons (body_of Try.func26 rfl rfl).fn c26_ok).cons (body_of Try.func25 rfl rfl).fn c25_ok).cons (body_of Try.func24 rfl rfl).fn c24_ok).cons (body_of Try.func23 rfl rfl).fn c23_ok).cons (body_of Try.func22 rfl rfl).fn c22_ok).cons (body_of Try.func21 rfl rfl).fn c21_ok).cons (body_of Try.func20 rfl rfl).fn c20_ok)
attribute [local irreducible] gi lk checkF smallB conF clsF rtF rclF
def c3 : Ctr := fSe (fun _ _ => []) (fun _ _ => bl true)
theorem c3_ok : Ctr.Ok Try.prog Γ 3 c3 := fSe_ok (d := 0) (prog_ok Lw3_ok BsOk.nil false 0) (body_of Try.func3 rfl rfl) (fun _ _ => rfl) (by
  intro N L _
  by_cases hs : (!smallB N L) = true
  · repeat' ((conv => whnf); (first | apply And.intro | (intro h9; first | (have h8 : (_ : Bool) = false := h9; exfalso; clear h8; revert h9; subst_vars; intro h9; exact ft_no (h9.symm.trans (by assumption))) | (have h8 : (_ : Bool) = true := h9; exfalso; clear h8; revert h9; subst_vars; intro h9; exact tf_no (h9.symm.trans (by assumption))) | skip)))
    all_goals try (conv => whnf)
    all_goals try first
      | exact LexB.mk (by kernel_rfl)
      | exact LexG.mk (by kernel_rfl)
      | exact LexT.mk (by kernel_rfl)
      | exact Forced.mk (by kernel_rfl)
      | exact LexP.mk (by kernel_rfl)
      | exact ForcedP.mk (by kernel_rfl)
      | exact ⟨Nat.le_of_ble_eq_true rfl⟩
      | exact ⟨rfl⟩
      | exact ⟨trivial⟩
    all_goals subst_vars
    all_goals try first
      | rfl
      | contradiction
      | (refine Ob.mk ?_; simp only [inRQ, inR, Duty.of_p]; omega)
    all_goals first
      | exact ⟨show L.length ≤ 1000000 by omega⟩
      | exact ⟨show L.length ≤ 1099511627776 by omega⟩
  replace hs : (!smallB N L) = false := by simpa using hs
  have hL := small_len hs
  have v1 : ((checkF N L).1 != (checkF N L).1) = false := by simp
  have v2 : ((checkF N L).2 != (checkF N L).2) = false := by simp
  by_cases h0 : ((checkF N L).1 != 0) = true
  · have v3 : ((conF N L).2 != (checkF N L).1) = false := by rw [conF0 h0]; simp
    have v4 : ((clsF N L).2 == (checkF N L).1) = true := by rw [cls_e1 h0]; simp
    have v5 : (!(conF N L).1) = true := by rw [conF0 h0]; rfl
    have l1 : (clsF N L).1.length = 0 := by rw [cls_e1 h0]; rfl
    have z9 : (((clsF N L).1.length : Int) == 0) = true := by rw [l1]; rfl
    repeat' ((conv => whnf); (first | apply And.intro | (intro h9; first | (have h8 : (_ : Bool) = false := h9; exfalso; clear h8; revert h9; subst_vars; intro h9; exact ft_no (h9.symm.trans (by assumption))) | (have h8 : (_ : Bool) = true := h9; exfalso; clear h8; revert h9; subst_vars; intro h9; exact tf_no (h9.symm.trans (by assumption))) | skip)))
    all_goals try (conv => whnf)
    all_goals try first
      | exact LexB.mk (by kernel_rfl)
      | exact LexG.mk (by kernel_rfl)
      | exact LexT.mk (by kernel_rfl)
      | exact Forced.mk (by kernel_rfl)
      | exact LexP.mk (by kernel_rfl)
      | exact ForcedP.mk (by kernel_rfl)
      | exact ⟨Nat.le_of_ble_eq_true rfl⟩
      | exact ⟨rfl⟩
      | exact ⟨trivial⟩
    all_goals subst_vars
    all_goals try first
      | rfl
      | contradiction
      | (refine Ob.mk ?_; simp only [inRQ, inR, Duty.of_p]; omega)
    all_goals first
      | exact ⟨show L.length ≤ 1000000 by omega⟩
      | exact ⟨show L.length ≤ 1099511627776 by omega⟩
      | exact ⟨hN⟩
      | exact ⟨ha⟩
      | exact ⟨show (clsF N L).1.length ≤ 1000000 by omega⟩
      | exact z9
  replace h0 : ((checkF N L).1 != 0) = false := by simpa using h0
  have hc : (checkF N L).1 = 0 := by simpa using h0
  have ha := ask_of hc
  have hN := toNat_of hc
  have h60 := ha.n
  have v3 : ((conF N L).2 != (checkF N L).1) = false := by rw [conF1 h0, hc]; rfl
  have e1 : (conF N L).1 = conB N L := by rw [conF1 h0]
  have r2 := rt_2 (N := N) (L := L)
  cases hf : conB N L
  · have v4 : (rtF N L).2 = false := by rw [r2, hf]
    have v5 : (!(conF N L).1) = true := by rw [e1, hf]; rfl
    have s0 : clsF N L = (clF N.toNat L, 0) := cls_e0 hc hf
    have v6 : ((clsF N L).2 == 0) = true := by rw [s0]; rfl
    have l1 : (clsF N L).1.length ≤ 60 := by rw [s0]; have := (cls_ok hc hf).1; show (clF N.toNat L).length ≤ 60; omega
    have z9 : decide ((clsF N L).1 = rclF N L) = true := by rw [s0, rcl0 hf]; simp
    clear hc
    repeat' ((conv => whnf); (first | apply And.intro | (intro h9; first | (have h8 : (_ : Bool) = false := h9; exfalso; clear h8; revert h9; subst_vars; intro h9; exact ft_no (h9.symm.trans (by assumption))) | (have h8 : (_ : Bool) = true := h9; exfalso; clear h8; revert h9; subst_vars; intro h9; exact tf_no (h9.symm.trans (by assumption))) | skip)))
    all_goals try (conv => whnf)
    all_goals try first
      | exact LexB.mk (by kernel_rfl)
      | exact LexG.mk (by kernel_rfl)
      | exact LexT.mk (by kernel_rfl)
      | exact Forced.mk (by kernel_rfl)
      | exact LexP.mk (by kernel_rfl)
      | exact ForcedP.mk (by kernel_rfl)
      | exact ⟨Nat.le_of_ble_eq_true rfl⟩
      | exact ⟨rfl⟩
      | exact ⟨trivial⟩
    all_goals subst_vars
    all_goals try first
      | rfl
      | contradiction
      | (refine Ob.mk ?_; simp only [inRQ, inR, Duty.of_p]; omega)
    all_goals first
      | exact ⟨show L.length ≤ 1000000 by omega⟩
      | exact ⟨show L.length ≤ 1099511627776 by omega⟩
      | exact ⟨hN⟩
      | exact ⟨ha⟩
      | exact ⟨show (clsF N L).1.length ≤ 1000000 by omega⟩
      | exact z9
  · have v4 : (rtF N L).2 = true := by rw [r2, hf]
    have v5 : (conF N L).1 = true := by rw [e1, hf]
    have s0 : clsF N L = ([], 5) := cls_e5 hc hf
    have v6 : ((clsF N L).2 == 5) = true := by rw [s0]; rfl
    have l1 : (clsF N L).1.length = 0 := by rw [s0]; rfl
    have z9 : (((clsF N L).1.length : Int) == 0) = true := by rw [l1]; rfl
    clear hc
    repeat' ((conv => whnf); (first | apply And.intro | (intro h9; first | (have h8 : (_ : Bool) = false := h9; exfalso; clear h8; revert h9; subst_vars; intro h9; exact ft_no (h9.symm.trans (by assumption))) | (have h8 : (_ : Bool) = true := h9; exfalso; clear h8; revert h9; subst_vars; intro h9; exact tf_no (h9.symm.trans (by assumption))) | skip)))
    all_goals try (conv => whnf)
    all_goals try first
      | exact LexB.mk (by kernel_rfl)
      | exact LexG.mk (by kernel_rfl)
      | exact LexT.mk (by kernel_rfl)
      | exact Forced.mk (by kernel_rfl)
      | exact LexP.mk (by kernel_rfl)
      | exact ForcedP.mk (by kernel_rfl)
      | exact ⟨Nat.le_of_ble_eq_true rfl⟩
      | exact ⟨rfl⟩
      | exact ⟨trivial⟩
    all_goals subst_vars
    all_goals try first
      | rfl
      | contradiction
      | (refine Ob.mk ?_; simp only [inRQ, inR, Duty.of_p]; omega)
    all_goals first
      | exact ⟨show L.length ≤ 1000000 by omega⟩
      | exact ⟨show L.length ≤ 1099511627776 by omega⟩
      | exact ⟨hN⟩
      | exact ⟨ha⟩
      | exact ⟨show (clsF N L).1.length ≤ 1000000 by omega⟩
      | exact z9
)
end Go.Proofs.Ytlmhkeoblgodiaa
end
