/-
  Texts of the claims on chapter 2: C57. No condition: lemmas and contracts.
-/
import Derived.Test.YtlmhkeoblgodiaaYe5
import Derived.Test.YtlmhkeoblgodiaaYe9
import Derived.Test.YtlmhkeoblgodiaaYe2
set_option linter.all false
section
/-
  Chapter 2: the law ChainOrNot. Printed by gen57.py.
-/
namespace Go.Proofs.Ytlmhkeoblgodiaa
open Go Go.Sy Go.Chn
set_option maxRecDepth 100000
set_option maxHeartbeats 4000000
set_option linter.unusedVariables false
set_option linter.unusedSimpArgs false
variable {Γ : Glob}
def fSIIb (D : Int → List Lk → List Int → List Int → List Duty) (F : Int → List Lk → List Int → List Int → Tm) : Ctr := .fn fun args rg => match args with
  | [.agg [.v (.int .i64 N0), x0], .a x1, .a x2] => (match arrOf 44 kL rg x0, arrOf 3 kI rg x1, arrOf 3 kI rg x2 with | some (q0, L0), some (q1, L1), some (q2, L2) => some (q0 ++ (q1 ++ (q2 ++ (D N0 L0 L1 L2))), F N0 L0 L1 L2) | _, _, _ => none)
  | _ => none
theorem fSIIb_ok {f : FuncId} {b : Body} {E : Env} {d : Nat} (hP : ProgOk Try.prog Γ E) (hb : BodyOk Try.prog f b) {D : Int → List Lk → List Int → List Int → List Duty} {F : Int → List Lk → List Int → List Int → Tm} (hp : ∀ (N0 : Int) (L0 : List Lk) (L1 : List Int) (L2 : List Int), (F N0 L0 L1 L2).plain = true)
    (H : ∀ (N0 : Int) (L0 : List Lk) (L1 : List Int) (L2 : List Int), obl (D N0 L0 L1 L2) → evTop E d b [.agg [vI N0, .sl 0 [] 0 L0.length], .a (.sl 1 [] 0 L1.length), .a (.sl 2 [] 0 L2.length)] [.arr 44 kL L0 false false, .arr 3 kI L1 false false, .arr 3 kI L2 false false] (fun x _ => eqT x (F N0 L0 L1 L2))) : Ctr.Ok Try.prog Γ f (fSIIb D F) := Ctr.fn_ok (d := d) hP hb (by
  intro args rg q t hF hq
  split at hF
  next N0 x0 x1 x2 =>
    split at hF
    next q0 L0 q1 L1 q2 L2 hx0 hx1 hx2 =>
      obtain ⟨rfl, rfl⟩ := Prod.mk.inj (Option.some.inj hF); clear hF
      rw [obl_append, obl_append, obl_append] at hq
      obtain ⟨hq0, hq1, hq2, hD⟩ := hq
      obtain ⟨e0, he0⟩ := pas_arr (by simp [kL]) hx0 hq0
      obtain ⟨e1, he1⟩ := pas_arr (by simp [kI]) hx1 hq1
      obtain ⟨e2, he2⟩ := pas_arr (by simp [kI]) hx2 hq2
      obtain ⟨p0, r0⟩ := he0 [e0, e1, e2] 0 3 rfl (by omega)
      obtain ⟨p1, r1⟩ := he1 [e0, e1, e2] 1 3 rfl (by omega)
      obtain ⟨p2, r2⟩ := he2 [e0, e1, e2] 2 3 rfl (by omega)
      refine ⟨hp _ _ _ _, [e0, e1, e2], [.agg [vI N0, .sl 0 [] 0 L0.length], .a (.sl 1 [] 0 L1.length), .a (.sl 2 [] 0 L2.length)], [.arr 44 kL L0 false false, .arr 3 kI L1 false false, .arr 3 kI L2 false false], ⟨⟨⟨rfl, p0, trivial⟩, p1, p2, trivial⟩, fun r g hg => ?_⟩, H _ _ _ _ hD⟩
      match r, hg with
      | 0, hg => obtain rfl := Option.some.inj hg; exact r0
      | 1, hg => obtain rfl := Option.some.inj hg; exact r1
      | 2, hg => obtain rfl := Option.some.inj hg; exact r2
    next => cases hF
  next => cases hF)
noncomputable def L11 : List (Nat × Ctr) := [(20, c20), (21, c21), (24, c24), (25, c25), (40, c40), (47, c47), (52, c52)]
theorem L11_ok : CsOk Try.prog Γ L11 := (((((((CsOk.nil.cons (body_of Try.func52 rfl rfl).fn c52_ok).cons (body_of Try.func47 rfl rfl).fn c47_ok).cons (body_of Try.func40 rfl rfl).fn c40_ok).cons (body_of Try.func25 rfl rfl).fn c25_ok).cons (body_of Try.func24 rfl rfl).fn c24_ok).cons (body_of Try.func21 rfl rfl).fn c21_ok).cons (body_of Try.func20 rfl rfl).fn c20_ok)
theorem nonneg_of_fit {N : Int} {L : List Lk} {X : List Int} (h : (fitF N L X).1 = true) : NoNeg L := noNeg_of (gi X) (fit_iff.1 h).2.2.2.1
attribute [local irreducible] gi lk checkF fitF smallB bndF conF clsF rchF ccF
def c11 : Ctr := fSIIb (fun _ _ _ _ => []) (fun _ _ _ _ => bl true)
theorem c11_ok : Ctr.Ok Try.prog Γ 11 c11 := fSIIb_ok (d := 0) (prog_ok L11_ok BsOk.nil false 0) (body_of Try.func11 rfl rfl) (fun _ _ _ _ => rfl) (by
  intro N L X I _
  by_cases hs : (!smallB N L) = true
  · repeat' ((conv => whnf); (first | apply And.intro | (intro h9; first | (have h8 : (_ : Bool) = false := h9; exfalso; clear h8; revert h9; subst_vars; intro h9; exact ft_no (h9.symm.trans (by assumption))) | (have h8 : (_ : Bool) = true := h9; exfalso; clear h8; revert h9; subst_vars; intro h9; exact tf_no (h9.symm.trans (by assumption))) | skip)))
    all_goals try (conv => whnf)
    all_goals try first
      | exact LexB.mk (by kernel_rfl)
      | exact LexG.mk (by kernel_rfl)
      | exact LexT.mk (by kernel_rfl)
      | exact Forced.mk (by kernel_rfl)
      | exact LexP.mk (by kernel_rfl)
      | exact ForcedP.mk (by kernel_rfl)
      | exact ⟨Nat.le_of_ble_eq_true rfl⟩
      | exact ⟨rfl⟩
      | exact ⟨trivial⟩
    all_goals subst_vars
    all_goals try first
      | rfl
      | contradiction
      | (refine Ob.mk ?_; simp only [inRQ, inR, Duty.of_p]; omega)
    all_goals first
      | exact ⟨show L.length ≤ 1000000 by omega⟩
      | exact ⟨show X.length ≤ 1000000 by omega⟩
      | exact ⟨show I.length ≤ 1000000 by omega⟩
  replace hs : (!smallB N L) = false := by simpa using hs
  have hL := small_len hs
  by_cases hX : decide ((X.length : Int) > 70) = true
  · repeat' ((conv => whnf); (first | apply And.intro | (intro h9; first | (have h8 : (_ : Bool) = false := h9; exfalso; clear h8; revert h9; subst_vars; intro h9; exact ft_no (h9.symm.trans (by assumption))) | (have h8 : (_ : Bool) = true := h9; exfalso; clear h8; revert h9; subst_vars; intro h9; exact tf_no (h9.symm.trans (by assumption))) | skip)))
    all_goals try (conv => whnf)
    all_goals try first
      | exact LexB.mk (by kernel_rfl)
      | exact LexG.mk (by kernel_rfl)
      | exact LexT.mk (by kernel_rfl)
      | exact Forced.mk (by kernel_rfl)
      | exact LexP.mk (by kernel_rfl)
      | exact ForcedP.mk (by kernel_rfl)
      | exact ⟨Nat.le_of_ble_eq_true rfl⟩
      | exact ⟨rfl⟩
      | exact ⟨trivial⟩
    all_goals subst_vars
    all_goals try first
      | rfl
      | contradiction
      | (refine Ob.mk ?_; simp only [inRQ, inR, Duty.of_p]; omega)
    all_goals first
      | exact ⟨show L.length ≤ 1000000 by omega⟩
      | exact ⟨show X.length ≤ 1000000 by omega⟩
      | exact ⟨show I.length ≤ 1000000 by omega⟩
  replace hX : decide ((X.length : Int) > 70) = false := by simpa using hX
  have hX' : X.length ≤ 70 := by have := of_decide_eq_false hX; omega
  by_cases hI : decide ((I.length : Int) > 80) = true
  · repeat' ((conv => whnf); (first | apply And.intro | (intro h9; first | (have h8 : (_ : Bool) = false := h9; exfalso; clear h8; revert h9; subst_vars; intro h9; exact ft_no (h9.symm.trans (by assumption))) | (have h8 : (_ : Bool) = true := h9; exfalso; clear h8; revert h9; subst_vars; intro h9; exact tf_no (h9.symm.trans (by assumption))) | skip)))
    all_goals try (conv => whnf)
    all_goals try first
      | exact LexB.mk (by kernel_rfl)
      | exact LexG.mk (by kernel_rfl)
      | exact LexT.mk (by kernel_rfl)
      | exact Forced.mk (by kernel_rfl)
      | exact LexP.mk (by kernel_rfl)
      | exact ForcedP.mk (by kernel_rfl)
      | exact ⟨Nat.le_of_ble_eq_true rfl⟩
      | exact ⟨rfl⟩
      | exact ⟨trivial⟩
    all_goals subst_vars
    all_goals try first
      | rfl
      | contradiction
      | (refine Ob.mk ?_; simp only [inRQ, inR, Duty.of_p]; omega)
    all_goals first
      | exact ⟨show L.length ≤ 1000000 by omega⟩
      | exact ⟨show X.length ≤ 1000000 by omega⟩
      | exact ⟨show I.length ≤ 1000000 by omega⟩
  replace hI : decide ((I.length : Int) > 80) = false := by simpa using hI
  have hI' : I.length ≤ 80 := by have := of_decide_eq_false hI; omega
  by_cases h0 : ((checkF N L).1 != 0) = true
  · have e1 : ((conF N L).2 != 0) = true := by rw [conF0 h0]; exact h0
    repeat' ((conv => whnf); (first | apply And.intro | (intro h9; first | (have h8 : (_ : Bool) = false := h9; exfalso; clear h8; revert h9; subst_vars; intro h9; exact ft_no (h9.symm.trans (by assumption))) | (have h8 : (_ : Bool) = true := h9; exfalso; clear h8; revert h9; subst_vars; intro h9; exact tf_no (h9.symm.trans (by assumption))) | skip)))
    all_goals try (conv => whnf)
    all_goals try first
      | exact LexB.mk (by kernel_rfl)
      | exact LexG.mk (by kernel_rfl)
      | exact LexT.mk (by kernel_rfl)
      | exact Forced.mk (by kernel_rfl)
      | exact LexP.mk (by kernel_rfl)
      | exact ForcedP.mk (by kernel_rfl)
      | exact ⟨Nat.le_of_ble_eq_true rfl⟩
      | exact ⟨rfl⟩
      | exact ⟨trivial⟩
    all_goals subst_vars
    all_goals try first
      | rfl
      | contradiction
      | (refine Ob.mk ?_; simp only [inRQ, inR, Duty.of_p]; omega)
    all_goals first
      | exact ⟨show L.length ≤ 1000000 by omega⟩
      | exact ⟨show X.length ≤ 1000000 by omega⟩
      | exact ⟨show I.length ≤ 1000000 by omega⟩
  replace h0 : ((checkF N L).1 != 0) = false := by simpa using h0
  have hc : (checkF N L).1 = 0 := by simpa using h0
  have ha := ask_of hc
  have hN := toNat_of hc
  have hn60 := ha.n
  have e1 : ((conF N L).2 != 0) = false := by rw [conF1 h0]; rfl
  have e2 : (conF N L).1 = conB N L := by rw [conF1 h0]
  have i0 : inN N.toNat 0 := ⟨by omega, by omega⟩
  have n0 : nodeB N 0 = true := nodeB_iff.2 i0
  cases hf : conB N L
  case true =>
    have hn := (con_iff ha).1 hf
    have e3 : (conF N L).1 = true := by rw [e2, hf]
    have e3' : (!(conF N L).1) = false := by rw [e3]; rfl
    have q1 : askF N L [0, 0] = 0 := ask_iff.2 ⟨hc, by rw [nd_two, n0]; rfl, hf⟩
    have d0 : dB N L 0 0 = 0 := d_self ha hn i0
    have q2 : dB N L 0 0 ≠ Fr := by rw [d0]; decide
    have b0 : bndF N L 0 0 = (0, 0) := by rw [bnd2 (by rw [q1]; rfl) (by rw [d0]; rfl), d0]
    have z0 : rchF N L 0 0 = (rchX N L 0 0, 0) := rc1 (by rw [b0]; rfl)
    have ro := rch_ok ha hn i0 i0 q2
    have yl : (rchF N L 0 0).1.length = N.toNat := by rw [z0]; exact ro.1
    have yf : fitF N L (rchF N L 0 0).1 = (true, 0) := by rw [z0]; exact rch_fits hc hn i0 i0 q2
    have s0 : clsF N L = ([], 5) := cls_e5 hc hf
    have cl : (clsF N L).1.length = 0 := by rw [s0]; rfl
    have v0 : ((ccF N L I) == 0) = false := by simpa using cc_neg (N := N) (I := I) hn
    have v1 : ((clsF N L).2 == 5) = true := by rw [s0]; rfl
    have v2 : ((rchF N L 0 0).2 == 0) = true := by rw [z0]; rfl
    have v3 : (fitF N L (rchF N L 0 0).1).1 = true := by rw [yf]
    have z9 : ((fitF N L (rchF N L 0 0).1).2 == 0) = true := by rw [yf]; rfl
    cases f0 : ((fitF N L X).2 == 0)
    · repeat' ((conv => whnf); (first | apply And.intro | (intro h9; first | (have h8 : (_ : Bool) = false := h9; exfalso; clear h8; revert h9; subst_vars; intro h9; exact ft_no (h9.symm.trans (by assumption))) | (have h8 : (_ : Bool) = true := h9; exfalso; clear h8; revert h9; subst_vars; intro h9; exact tf_no (h9.symm.trans (by assumption))) | skip)))
      all_goals try (conv => whnf)
      all_goals try first
        | exact LexB.mk (by kernel_rfl)
        | exact LexG.mk (by kernel_rfl)
        | exact LexT.mk (by kernel_rfl)
        | exact Forced.mk (by kernel_rfl)
        | exact LexP.mk (by kernel_rfl)
        | exact ForcedP.mk (by kernel_rfl)
        | exact ⟨Nat.le_of_ble_eq_true rfl⟩
        | exact ⟨rfl⟩
        | exact ⟨trivial⟩
      all_goals subst_vars
      all_goals try first
        | rfl
        | contradiction
        | (refine Ob.mk ?_; simp only [inRQ, inR, Duty.of_p]; omega)
      all_goals first
        | exact ⟨show L.length ≤ 1000000 by omega⟩
        | exact ⟨show X.length ≤ 1000000 by omega⟩
        | exact ⟨show I.length ≤ 1000000 by omega⟩
        | exact ⟨show (clsF N L).1.length ≤ 1000000 by omega⟩
        | exact ⟨show (rchF N L 0 0).1.length ≤ 1000000 by omega⟩
        | exact z9
    · cases f1 : (fitF N L X).1
      · repeat' ((conv => whnf); (first | apply And.intro | (intro h9; first | (have h8 : (_ : Bool) = false := h9; exfalso; clear h8; revert h9; subst_vars; intro h9; exact ft_no (h9.symm.trans (by assumption))) | (have h8 : (_ : Bool) = true := h9; exfalso; clear h8; revert h9; subst_vars; intro h9; exact tf_no (h9.symm.trans (by assumption))) | skip)))
        all_goals try (conv => whnf)
        all_goals try first
          | exact LexB.mk (by kernel_rfl)
          | exact LexG.mk (by kernel_rfl)
          | exact LexT.mk (by kernel_rfl)
          | exact Forced.mk (by kernel_rfl)
          | exact LexP.mk (by kernel_rfl)
          | exact ForcedP.mk (by kernel_rfl)
          | exact ⟨Nat.le_of_ble_eq_true rfl⟩
          | exact ⟨rfl⟩
          | exact ⟨trivial⟩
        all_goals subst_vars
        all_goals try first
          | rfl
          | contradiction
          | (refine Ob.mk ?_; simp only [inRQ, inR, Duty.of_p]; omega)
        all_goals first
          | exact ⟨show L.length ≤ 1000000 by omega⟩
          | exact ⟨show X.length ≤ 1000000 by omega⟩
          | exact ⟨show I.length ≤ 1000000 by omega⟩
          | exact ⟨show (clsF N L).1.length ≤ 1000000 by omega⟩
          | exact ⟨show (rchF N L 0 0).1.length ≤ 1000000 by omega⟩
          | exact z9
      · repeat' ((conv => whnf); (first | apply And.intro | (intro h9; first | (have h8 : (_ : Bool) = false := h9; exfalso; clear h8; revert h9; subst_vars; intro h9; exact ft_no (h9.symm.trans (by assumption))) | (have h8 : (_ : Bool) = true := h9; exfalso; clear h8; revert h9; subst_vars; intro h9; exact tf_no (h9.symm.trans (by assumption))) | skip)))
        all_goals try (conv => whnf)
        all_goals try first
          | exact LexB.mk (by kernel_rfl)
          | exact LexG.mk (by kernel_rfl)
          | exact LexT.mk (by kernel_rfl)
          | exact Forced.mk (by kernel_rfl)
          | exact LexP.mk (by kernel_rfl)
          | exact ForcedP.mk (by kernel_rfl)
          | exact ⟨Nat.le_of_ble_eq_true rfl⟩
          | exact ⟨rfl⟩
          | exact ⟨trivial⟩
        all_goals subst_vars
        all_goals try first
          | rfl
          | contradiction
          | (refine Ob.mk ?_; simp only [inRQ, inR, Duty.of_p]; omega)
        all_goals first
          | exact ⟨show L.length ≤ 1000000 by omega⟩
          | exact ⟨show X.length ≤ 1000000 by omega⟩
          | exact ⟨show I.length ≤ 1000000 by omega⟩
          | exact ⟨show (clsF N L).1.length ≤ 1000000 by omega⟩
          | exact ⟨show (rchF N L 0 0).1.length ≤ 1000000 by omega⟩
          | exact z9
  have hn : ¬ NoNeg L := fun h => by rw [(con_iff ha).2 h] at hf; cases hf
  have e3 : (conF N L).1 = false := by rw [e2, hf]
  have e3' : (!(conF N L).1) = true := by rw [e3]; rfl
  have f1 : (fitF N L X).1 = false := by
    cases h : (fitF N L X).1
    · rfl
    · exact absurd (nonneg_of_fit h) hn
  have s0 : clsF N L = (clF N.toNat L, 0) := cls_e0 hc hf
  have so := cls_ok hc hf
  have q1 : askF N L [0, 0] = 9 := ask2 h0 (by rw [nd_two, n0]; rfl) hf
  have b0 : bndF N L 0 0 = (0, 9) := by rw [bnd0 (by rw [q1]; rfl), q1]
  have z0 : rchF N L 0 0 = ([], 9) := by rw [rc0 (by rw [b0]; rfl), b0]
  have yl : (rchF N L 0 0).1.length = 0 := by rw [z0]; rfl
  have cl : (clsF N L).1.length = (clF N.toNat L).length := by rw [s0]
  have so1 := so.1
  have so2 : (clF N.toNat L).length ≠ 0 := fun h => so.2.1 (List.length_eq_zero_iff.1 h)
  have v1 : ((clsF N L).2 != 0) = false := by rw [s0]; rfl
  have v2 : (((clsF N L).1.length : Int) == 0) = false := by rw [cl]; simpa using so.2.1
  have v3 : decide (((clsF N L).1.length : Int) > N) = false := by rw [cl]; exact decide_eq_false (by omega)
  have v4 : (ccF N L (clsF N L).1 != 0) = false := by rw [s0]; simpa using so.2.2.2.1
  have v5 : ((rchF N L 0 0).2 != 9) = false := by rw [z0]; rfl
  cases g0 : ((ccF N L I) == 0)
  · have g0' : ((ccF N L I) != 0) = true := by simpa using g0
    have z9 : True := trivial
    cases f0 : ((fitF N L X).2 == 0)
    · repeat' ((conv => whnf); (first | apply And.intro | (intro h9; first | (have h8 : (_ : Bool) = false := h9; exfalso; clear h8; revert h9; subst_vars; intro h9; exact ft_no (h9.symm.trans (by assumption))) | (have h8 : (_ : Bool) = true := h9; exfalso; clear h8; revert h9; subst_vars; intro h9; exact tf_no (h9.symm.trans (by assumption))) | skip)))
      all_goals try (conv => whnf)
      all_goals try first
        | exact LexB.mk (by kernel_rfl)
        | exact LexG.mk (by kernel_rfl)
        | exact LexT.mk (by kernel_rfl)
        | exact Forced.mk (by kernel_rfl)
        | exact LexP.mk (by kernel_rfl)
        | exact ForcedP.mk (by kernel_rfl)
        | exact ⟨Nat.le_of_ble_eq_true rfl⟩
        | exact ⟨rfl⟩
        | exact ⟨trivial⟩
      all_goals subst_vars
      all_goals try first
        | rfl
        | contradiction
        | (refine Ob.mk ?_; simp only [inRQ, inR, Duty.of_p]; omega)
      all_goals first
        | exact ⟨show L.length ≤ 1000000 by omega⟩
        | exact ⟨show X.length ≤ 1000000 by omega⟩
        | exact ⟨show I.length ≤ 1000000 by omega⟩
        | exact ⟨show (clsF N L).1.length ≤ 1000000 by omega⟩
        | exact ⟨show (rchF N L 0 0).1.length ≤ 1000000 by omega⟩
        | exact z9
    · repeat' ((conv => whnf); (first | apply And.intro | (intro h9; first | (have h8 : (_ : Bool) = false := h9; exfalso; clear h8; revert h9; subst_vars; intro h9; exact ft_no (h9.symm.trans (by assumption))) | (have h8 : (_ : Bool) = true := h9; exfalso; clear h8; revert h9; subst_vars; intro h9; exact tf_no (h9.symm.trans (by assumption))) | skip)))
      all_goals try (conv => whnf)
      all_goals try first
        | exact LexB.mk (by kernel_rfl)
        | exact LexG.mk (by kernel_rfl)
        | exact LexT.mk (by kernel_rfl)
        | exact Forced.mk (by kernel_rfl)
        | exact LexP.mk (by kernel_rfl)
        | exact ForcedP.mk (by kernel_rfl)
        | exact ⟨Nat.le_of_ble_eq_true rfl⟩
        | exact ⟨rfl⟩
        | exact ⟨trivial⟩
      all_goals subst_vars
      all_goals try first
        | rfl
        | contradiction
        | (refine Ob.mk ?_; simp only [inRQ, inR, Duty.of_p]; omega)
      all_goals first
        | exact ⟨show L.length ≤ 1000000 by omega⟩
        | exact ⟨show X.length ≤ 1000000 by omega⟩
        | exact ⟨show I.length ≤ 1000000 by omega⟩
        | exact ⟨show (clsF N L).1.length ≤ 1000000 by omega⟩
        | exact ⟨show (rchF N L 0 0).1.length ≤ 1000000 by omega⟩
        | exact z9
  · have g0' : ((ccF N L I) != 0) = false := by simpa using g0
    have z9 : decide ((I.length : Int) ≥ ((clsF N L).1.length : Int)) = true := by
      rw [cl]; exact decide_eq_true (by have := so.2.2.2.2 I (by simpa using g0); omega)
    cases f0 : ((fitF N L X).2 == 0)
    · repeat' ((conv => whnf); (first | apply And.intro | (intro h9; first | (have h8 : (_ : Bool) = false := h9; exfalso; clear h8; revert h9; subst_vars; intro h9; exact ft_no (h9.symm.trans (by assumption))) | (have h8 : (_ : Bool) = true := h9; exfalso; clear h8; revert h9; subst_vars; intro h9; exact tf_no (h9.symm.trans (by assumption))) | skip)))
      all_goals try (conv => whnf)
      all_goals try first
        | exact LexB.mk (by kernel_rfl)
        | exact LexG.mk (by kernel_rfl)
        | exact LexT.mk (by kernel_rfl)
        | exact Forced.mk (by kernel_rfl)
        | exact LexP.mk (by kernel_rfl)
        | exact ForcedP.mk (by kernel_rfl)
        | exact ⟨Nat.le_of_ble_eq_true rfl⟩
        | exact ⟨rfl⟩
        | exact ⟨trivial⟩
      all_goals subst_vars
      all_goals try first
        | rfl
        | contradiction
        | (refine Ob.mk ?_; simp only [inRQ, inR, Duty.of_p]; omega)
      all_goals first
        | exact ⟨show L.length ≤ 1000000 by omega⟩
        | exact ⟨show X.length ≤ 1000000 by omega⟩
        | exact ⟨show I.length ≤ 1000000 by omega⟩
        | exact ⟨show (clsF N L).1.length ≤ 1000000 by omega⟩
        | exact ⟨show (rchF N L 0 0).1.length ≤ 1000000 by omega⟩
        | exact z9
    · repeat' ((conv => whnf); (first | apply And.intro | (intro h9; first | (have h8 : (_ : Bool) = false := h9; exfalso; clear h8; revert h9; subst_vars; intro h9; exact ft_no (h9.symm.trans (by assumption))) | (have h8 : (_ : Bool) = true := h9; exfalso; clear h8; revert h9; subst_vars; intro h9; exact tf_no (h9.symm.trans (by assumption))) | skip)))
      all_goals try (conv => whnf)
      all_goals try first
        | exact LexB.mk (by kernel_rfl)
        | exact LexG.mk (by kernel_rfl)
        | exact LexT.mk (by kernel_rfl)
        | exact Forced.mk (by kernel_rfl)
        | exact LexP.mk (by kernel_rfl)
        | exact ForcedP.mk (by kernel_rfl)
        | exact ⟨Nat.le_of_ble_eq_true rfl⟩
        | exact ⟨rfl⟩
        | exact ⟨trivial⟩
      all_goals subst_vars
      all_goals try first
        | rfl
        | contradiction
        | (refine Ob.mk ?_; simp only [inRQ, inR, Duty.of_p]; omega)
      all_goals first
        | exact ⟨show L.length ≤ 1000000 by omega⟩
        | exact ⟨show X.length ≤ 1000000 by omega⟩
        | exact ⟨show I.length ≤ 1000000 by omega⟩
        | exact ⟨show (clsF N L).1.length ≤ 1000000 by omega⟩
        | exact ⟨show (rchF N L 0 0).1.length ≤ 1000000 by omega⟩
        | exact z9
)
end Go.Proofs.Ytlmhkeoblgodiaa
end
