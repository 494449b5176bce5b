/-
  Texts of the claims on chapter 2: C54. No condition: lemmas and contracts.
-/
import Derived.Test.YtlmhkeoblgodiaaYe5
import Derived.Test.YtlmhkeoblgodiaaYe2
set_option linter.all false
section
/-
  Chapter 2: the law ChainSharp. Printed by gen54.py.
-/
namespace Go.Proofs.Ytlmhkeoblgodiaa
open Go Go.Sy Go.Chn
set_option maxRecDepth 100000
set_option maxHeartbeats 4000000
set_option linter.unusedVariables false
set_option linter.unusedSimpArgs false
variable {Γ : Glob}
def fSnnIIb (D : Int → List Lk → Int → Int → List Int → List Int → List Duty) (F : Int → List Lk → Int → Int → List Int → List Int → Tm) : Ctr := .fn fun args rg => match args with
  | [.agg [.v (.int .i64 N0), x0], .a (.v (.int .i64 i0)), .a (.v (.int .i64 i1)), .a x1, .a x2] => (match arrOf 44 kL rg x0, arrOf 3 kI rg x1, arrOf 3 kI rg x2 with | some (q0, L0), some (q1, L1), some (q2, L2) => some (q0 ++ (q1 ++ (q2 ++ (D N0 L0 i0 i1 L1 L2))), F N0 L0 i0 i1 L1 L2) | _, _, _ => none)
  | _ => none
theorem fSnnIIb_ok {f : FuncId} {b : Body} {E : Env} {d : Nat} (hP : ProgOk Try.prog Γ E) (hb : BodyOk Try.prog f b) {D : Int → List Lk → Int → Int → List Int → List Int → List Duty} {F : Int → List Lk → Int → Int → List Int → List Int → Tm} (hp : ∀ (N0 : Int) (L0 : List Lk) (i0 : Int) (i1 : Int) (L1 : List Int) (L2 : List Int), (F N0 L0 i0 i1 L1 L2).plain = true)
    (H : ∀ (N0 : Int) (L0 : List Lk) (i0 : Int) (i1 : Int) (L1 : List Int) (L2 : List Int), obl (D N0 L0 i0 i1 L1 L2) → evTop E d b [.agg [vI N0, .sl 0 [] 0 L0.length], .a (vI i0), .a (vI i1), .a (.sl 1 [] 0 L1.length), .a (.sl 2 [] 0 L2.length)] [.arr 44 kL L0 false false, .arr 3 kI L1 false false, .arr 3 kI L2 false false] (fun x _ => eqT x (F N0 L0 i0 i1 L1 L2))) : Ctr.Ok Try.prog Γ f (fSnnIIb D F) := Ctr.fn_ok (d := d) hP hb (by
  intro args rg q t hF hq
  split at hF
  next N0 x0 i0 i1 x1 x2 =>
    split at hF
    next q0 L0 q1 L1 q2 L2 hx0 hx1 hx2 =>
      obtain ⟨rfl, rfl⟩ := Prod.mk.inj (Option.some.inj hF); clear hF
      rw [obl_append, obl_append, obl_append] at hq
      obtain ⟨hq0, hq1, hq2, hD⟩ := hq
      obtain ⟨e0, he0⟩ := pas_arr (by simp [kL]) hx0 hq0
      obtain ⟨e1, he1⟩ := pas_arr (by simp [kI]) hx1 hq1
      obtain ⟨e2, he2⟩ := pas_arr (by simp [kI]) hx2 hq2
      obtain ⟨p0, r0⟩ := he0 [e0, e1, e2] 0 3 rfl (by omega)
      obtain ⟨p1, r1⟩ := he1 [e0, e1, e2] 1 3 rfl (by omega)
      obtain ⟨p2, r2⟩ := he2 [e0, e1, e2] 2 3 rfl (by omega)
      refine ⟨hp _ _ _ _ _ _, [e0, e1, e2], [.agg [vI N0, .sl 0 [] 0 L0.length], .a (vI i0), .a (vI i1), .a (.sl 1 [] 0 L1.length), .a (.sl 2 [] 0 L2.length)], [.arr 44 kL L0 false false, .arr 3 kI L1 false false, .arr 3 kI L2 false false], ⟨⟨⟨rfl, p0, trivial⟩, rfl, rfl, p1, p2, trivial⟩, fun r g hg => ?_⟩, H _ _ _ _ _ _ hD⟩
      match r, hg with
      | 0, hg => obtain rfl := Option.some.inj hg; exact r0
      | 1, hg => obtain rfl := Option.some.inj hg; exact r1
      | 2, hg => obtain rfl := Option.some.inj hg; exact r2
    next => cases hF
  next => cases hF)
noncomputable def L17 : List (Nat × Ctr) := [(20, c20), (21, c21), (38, c38), (47, c47), (53, c53), (39, c39), (40, c40)]
theorem L17_ok : CsOk Try.prog Γ L17 := (((((((CsOk.nil.cons (body_of Try.func40 rfl rfl).fn c40_ok).cons (body_of Try.func39 rfl rfl).fn c39_ok).cons (body_of Try.func53 rfl rfl).fn c53_ok).cons (body_of Try.func47 rfl rfl).fn c47_ok).cons (body_of Try.func38 rfl rfl).fn c38_ok).cons (body_of Try.func21 rfl rfl).fn c21_ok).cons (body_of Try.func20 rfl rfl).fn c20_ok)
attribute [local irreducible] gi lk checkF fitF smallB bndF ckcF chnF rchF nodeB
def c17 : Ctr := fSnnIIb (fun _ _ _ _ _ _ => []) (fun _ _ _ _ _ _ => bl true)
theorem c17_ok : Ctr.Ok Try.prog Γ 17 c17 := fSnnIIb_ok (d := 0) (prog_ok L17_ok BsOk.nil false 0) (body_of Try.func17 rfl rfl) (fun _ _ _ _ _ _ => rfl) (by
  intro N L a b X I _
  by_cases hs : (!smallB N L) = true
  · repeat' ((conv => whnf); (first | apply And.intro | (intro h9; first | (have h8 : (_ : Bool) = false := h9; exfalso; clear h8; revert h9; subst_vars; intro h9; exact ft_no (h9.symm.trans (by assumption))) | (have h8 : (_ : Bool) = true := h9; exfalso; clear h8; revert h9; subst_vars; intro h9; exact tf_no (h9.symm.trans (by assumption))) | skip)))
    all_goals try (conv => whnf)
    all_goals try first
      | exact LexB.mk (by kernel_rfl)
      | exact LexG.mk (by kernel_rfl)
      | exact LexT.mk (by kernel_rfl)
      | exact Forced.mk (by kernel_rfl)
      | exact LexP.mk (by kernel_rfl)
      | exact ForcedP.mk (by kernel_rfl)
      | exact ⟨Nat.le_of_ble_eq_true rfl⟩
      | exact ⟨rfl⟩
      | exact ⟨trivial⟩
    all_goals subst_vars
    all_goals try first
      | rfl
      | contradiction
      | (refine Ob.mk ?_; simp only [inRQ, inR, Duty.of_p]; omega)
    all_goals first
      | exact ⟨show L.length ≤ 1000000 by omega⟩
      | exact ⟨show X.length ≤ 1000000 by omega⟩
      | exact ⟨show I.length ≤ 1000000 by omega⟩
  replace hs : (!smallB N L) = false := by simpa using hs
  have hL := small_len hs
  by_cases hX : decide ((X.length : Int) > 70) = true
  · repeat' ((conv => whnf); (first | apply And.intro | (intro h9; first | (have h8 : (_ : Bool) = false := h9; exfalso; clear h8; revert h9; subst_vars; intro h9; exact ft_no (h9.symm.trans (by assumption))) | (have h8 : (_ : Bool) = true := h9; exfalso; clear h8; revert h9; subst_vars; intro h9; exact tf_no (h9.symm.trans (by assumption))) | skip)))
    all_goals try (conv => whnf)
    all_goals try first
      | exact LexB.mk (by kernel_rfl)
      | exact LexG.mk (by kernel_rfl)
      | exact LexT.mk (by kernel_rfl)
      | exact Forced.mk (by kernel_rfl)
      | exact LexP.mk (by kernel_rfl)
      | exact ForcedP.mk (by kernel_rfl)
      | exact ⟨Nat.le_of_ble_eq_true rfl⟩
      | exact ⟨rfl⟩
      | exact ⟨trivial⟩
    all_goals subst_vars
    all_goals try first
      | rfl
      | contradiction
      | (refine Ob.mk ?_; simp only [inRQ, inR, Duty.of_p]; omega)
    all_goals first
      | exact ⟨show L.length ≤ 1000000 by omega⟩
      | exact ⟨show X.length ≤ 1000000 by omega⟩
      | exact ⟨show I.length ≤ 1000000 by omega⟩
  replace hX : decide ((X.length : Int) > 70) = false := by simpa using hX
  have hX' : X.length ≤ 70 := by have := of_decide_eq_false hX; omega
  by_cases hI : decide ((I.length : Int) > 80) = true
  · repeat' ((conv => whnf); (first | apply And.intro | (intro h9; first | (have h8 : (_ : Bool) = false := h9; exfalso; clear h8; revert h9; subst_vars; intro h9; exact ft_no (h9.symm.trans (by assumption))) | (have h8 : (_ : Bool) = true := h9; exfalso; clear h8; revert h9; subst_vars; intro h9; exact tf_no (h9.symm.trans (by assumption))) | skip)))
    all_goals try (conv => whnf)
    all_goals try first
      | exact LexB.mk (by kernel_rfl)
      | exact LexG.mk (by kernel_rfl)
      | exact LexT.mk (by kernel_rfl)
      | exact Forced.mk (by kernel_rfl)
      | exact LexP.mk (by kernel_rfl)
      | exact ForcedP.mk (by kernel_rfl)
      | exact ⟨Nat.le_of_ble_eq_true rfl⟩
      | exact ⟨rfl⟩
      | exact ⟨trivial⟩
    all_goals subst_vars
    all_goals try first
      | rfl
      | contradiction
      | (refine Ob.mk ?_; simp only [inRQ, inR, Duty.of_p]; omega)
    all_goals first
      | exact ⟨show L.length ≤ 1000000 by omega⟩
      | exact ⟨show X.length ≤ 1000000 by omega⟩
      | exact ⟨show I.length ≤ 1000000 by omega⟩
  replace hI : decide ((I.length : Int) > 80) = false := by simpa using hI
  have hI' : I.length ≤ 80 := by have := of_decide_eq_false hI; omega
  by_cases he : ((bndF N L a b).2 != 0) = true
  · cases h5 : ((bndF N L a b).2 == 5)
    · repeat' ((conv => whnf); (first | apply And.intro | (intro h9; first | (have h8 : (_ : Bool) = false := h9; exfalso; clear h8; revert h9; subst_vars; intro h9; exact ft_no (h9.symm.trans (by assumption))) | (have h8 : (_ : Bool) = true := h9; exfalso; clear h8; revert h9; subst_vars; intro h9; exact tf_no (h9.symm.trans (by assumption))) | skip)))
      all_goals try (conv => whnf)
      all_goals try first
        | exact LexB.mk (by kernel_rfl)
        | exact LexG.mk (by kernel_rfl)
        | exact LexT.mk (by kernel_rfl)
        | exact Forced.mk (by kernel_rfl)
        | exact LexP.mk (by kernel_rfl)
        | exact ForcedP.mk (by kernel_rfl)
        | exact ⟨Nat.le_of_ble_eq_true rfl⟩
        | exact ⟨rfl⟩
        | exact ⟨trivial⟩
      all_goals subst_vars
      all_goals try first
        | rfl
        | contradiction
        | (refine Ob.mk ?_; simp only [inRQ, inR, Duty.of_p]; omega)
      all_goals first
        | exact ⟨show L.length ≤ 1000000 by omega⟩
        | exact ⟨show X.length ≤ 1000000 by omega⟩
        | exact ⟨show I.length ≤ 1000000 by omega⟩
    · have hg : ((ckcF N L a b I).2 == 0) = false := by
        have e5 : (bndF N L a b).2 = 5 := eq_of_beq h5
        cases hc : ((ckcF N L a b I).2 == 0)
        · rfl
        · exfalso
          have e0 : (ckcF N L a b I).2 = 0 := eq_of_beq hc
          obtain ⟨q1, q2⟩ := bnd_5 e5
          obtain ⟨ha, hn, _⟩ := ask_2 q1
          exact (ckc_le ha hn (n := (ckcF N L a b I).1) (by rw [← e0])).2 q2
      repeat' ((conv => whnf); (first | apply And.intro | (intro h9; first | (have h8 : (_ : Bool) = false := h9; exfalso; clear h8; revert h9; subst_vars; intro h9; exact ft_no (h9.symm.trans (by assumption))) | (have h8 : (_ : Bool) = true := h9; exfalso; clear h8; revert h9; subst_vars; intro h9; exact tf_no (h9.symm.trans (by assumption))) | skip)))
      all_goals try (conv => whnf)
      all_goals try first
        | exact LexB.mk (by kernel_rfl)
        | exact LexG.mk (by kernel_rfl)
        | exact LexT.mk (by kernel_rfl)
        | exact Forced.mk (by kernel_rfl)
        | exact LexP.mk (by kernel_rfl)
        | exact ForcedP.mk (by kernel_rfl)
        | exact ⟨Nat.le_of_ble_eq_true rfl⟩
        | exact ⟨rfl⟩
        | exact ⟨trivial⟩
      all_goals subst_vars
      all_goals try first
        | rfl
        | contradiction
        | (refine Ob.mk ?_; simp only [inRQ, inR, Duty.of_p]; omega)
      all_goals first
        | exact ⟨show L.length ≤ 1000000 by omega⟩
        | exact ⟨show X.length ≤ 1000000 by omega⟩
        | exact ⟨show I.length ≤ 1000000 by omega⟩
  replace he : ((bndF N L a b).2 != 0) = false := by simpa using he
  have hz : (bndF N L a b).2 = 0 := by simpa using he
  have h5 : ((bndF N L a b).2 == 5) = false := by rw [hz]; rfl
  obtain ⟨q1, q2, q3⟩ := bnd_0 hz
  obtain ⟨ha, hn, h1, h2, hN, hc⟩ := ask_2 q1
  have h11 := h1.1
  have h12 := h1.2
  have h21 := h2.1
  have h22 := h2.2
  have hn60 := ha.n
  have dl := d_low ha hn h2 (bd_isD ha hn h1 h2).1 q2
  have zc : chnF N L a b = (chnL N L a b, 0) := ch1 he
  have zr : rchF N L a b = (rchX N L a b, 0) := rc1 he
  have cok := chn_ok ha hn h1 h2 q2
  have ckk := kB_ok ha hn h1 h2 q2
  have rok := rch_ok ha hn h1 h2 q2
  have cl : (chnF N L a b).1.length = kB N L a b := by rw [zc]; exact cok.1
  have yl : (rchF N L a b).1.length = N.toNat := by rw [zr]; exact rok.1
  have ck : ckcF N L a b (chnF N L a b).1 = (dB N L a b, 0) := by rw [zc]; exact chn_ckc hc hn h1 h2 q2
  have yf : fitF N L (rchF N L a b).1 = (true, 0) := by rw [zr]; exact rch_fits hc hn h1 h2 q2
  have yd : e1A (rchF N L a b).1 b - e1A (rchF N L a b).1 a = dB N L a b := by rw [e1A_eq h21, e1A_eq h11, zr]; exact rok.2.2.2.2
  have v1 : ((chnF N L a b).2 != 0) = false := by rw [zc]; rfl
  have v2 : ((rchF N L a b).2 != 0) = false := by rw [zr]; rfl
  have v3 : ((ckcF N L a b (chnF N L a b).1).2 != 0) = false := by rw [ck]; rfl
  have v4 : ((fitF N L (rchF N L a b).1).2 != 0) = false := by rw [yf]; rfl
  have v5 : (!(fitF N L (rchF N L a b).1).1) = false := by rw [yf]; rfl
  have v6 : ((ckcF N L a b (chnF N L a b).1).1 != (bndF N L a b).1) = false := by rw [ck, q3]; simp
  have v7 : decide (((chnF N L a b).1.length : Int) ≥ N) = false := by rw [cl]; exact decide_eq_false (by omega)
  have v8 : (e1A (rchF N L a b).1 b - e1A (rchF N L a b).1 a != (bndF N L a b).1) = false := by rw [yd, q3]; simp
  have xr : ((fitF N L X).2 == 0) = true → (fitF N L X).1 = true → X.length = N.toNat ∧ e1A X b - e1A X a ≤ dB N L a b ∧ -1152921504606846976 ≤ e1A X b ∧ e1A X b ≤ 1152921504606846976 ∧ -1152921504606846976 ≤ e1A X a ∧ e1A X a ≤ 1152921504606846976 := fun _ f1 => by
    obtain ⟨_, f2, f3, f4, f5⟩ := fit_iff.1 f1
    have m1 := f3 _ (gi_mem h11 (by omega))
    have m2 := f3 _ (gi_mem h21 (by omega))
    rw [e1A_eq h21, e1A_eq h11]
    exact ⟨by omega, sol_d ha hn f4 h1 h2 q2, m2.1, m2.2, m1.1, m1.2⟩
  have last : ((ckcF N L a b I).2 == 0) = true → decide ((ckcF N L a b I).1 < (bndF N L a b).1) = false ∧ (((ckcF N L a b I).1 != (bndF N L a b).1) = false → decide ((I.length : Int) ≥ ((chnF N L a b).1.length : Int)) = true) := fun hg => by
    have e0 : (ckcF N L a b I).2 = 0 := eq_of_beq hg
    have eP : ckcF N L a b I = ((ckcF N L a b I).1, 0) := by rw [← e0]
    refine ⟨decide_eq_false (by rw [q3]; have := (ckc_le ha hn eP).1; omega), fun hh => decide_eq_true ?_⟩
    have e1 : (ckcF N L a b I).1 = dB N L a b := by rw [q3] at hh; simpa using hh
    have := chn_least ha hn h1 h2 q2 (I := I) (by rw [eP, e1])
    rw [zc]
    show (I.length : Int) ≥ ((chnL N L a b).length : Int)
    omega
  cases g0 : ((ckcF N L a b I).2 == 0)
  · have g0' : ((ckcF N L a b I).2 != 0) = true := by simpa using g0
    cases f0 : ((fitF N L X).2 == 0)
    · repeat' ((conv => whnf); (first | apply And.intro | (intro h9; first | (have h8 : (_ : Bool) = false := h9; exfalso; clear h8; revert h9; subst_vars; intro h9; exact ft_no (h9.symm.trans (by assumption))) | (have h8 : (_ : Bool) = true := h9; exfalso; clear h8; revert h9; subst_vars; intro h9; exact tf_no (h9.symm.trans (by assumption))) | skip)))
      all_goals try (conv => whnf)
      all_goals try first
        | exact LexB.mk (by kernel_rfl)
        | exact LexG.mk (by kernel_rfl)
        | exact LexT.mk (by kernel_rfl)
        | exact Forced.mk (by kernel_rfl)
        | exact LexP.mk (by kernel_rfl)
        | exact ForcedP.mk (by kernel_rfl)
        | exact ⟨Nat.le_of_ble_eq_true rfl⟩
        | exact ⟨rfl⟩
        | exact ⟨trivial⟩
      all_goals subst_vars
      all_goals try first
        | rfl
        | contradiction
        | (refine Ob.mk ?_; simp only [inRQ, inR, Duty.of_p]; omega)
      all_goals first
        | exact ⟨show L.length ≤ 1000000 by omega⟩
        | exact ⟨show X.length ≤ 1000000 by omega⟩
        | exact ⟨show I.length ≤ 1000000 by omega⟩
        | exact l3
        | exact ⟨show 0 ≤ b ∧ b < (X.length : Int) by omega⟩
        | exact ⟨show 0 + b.toNat < X.length by omega⟩
        | exact ⟨show 0 ≤ a ∧ a < (X.length : Int) by omega⟩
        | exact ⟨show 0 + a.toNat < X.length by omega⟩
        | exact ⟨show (chnF N L a b).1.length ≤ 1000000 by rw [cl]; omega⟩
        | exact ⟨show (rchF N L a b).1.length ≤ 1000000 by rw [yl]; omega⟩
        | exact ⟨show 0 ≤ b ∧ b < ((rchF N L a b).1.length : Int) by rw [yl]; omega⟩
        | exact ⟨show 0 + b.toNat < (rchF N L a b).1.length by rw [yl]; omega⟩
        | exact ⟨show 0 ≤ a ∧ a < ((rchF N L a b).1.length : Int) by rw [yl]; omega⟩
        | exact ⟨show 0 + a.toNat < (rchF N L a b).1.length by rw [yl]; omega⟩
        | (refine Ob.mk ?_; show (inRQ .i64 (e1A X b - e1A X a)).p; simp only [inRQ, inR, Duty.of_p]; omega)
        | (refine Ob.mk ?_; show (inRQ .i64 (e1A (rchF N L a b).1 b - e1A (rchF N L a b).1 a)).p; rw [yd]; simp only [inRQ, inR, Duty.of_p]; omega)
    · cases f1 : (fitF N L X).1
      · repeat' ((conv => whnf); (first | apply And.intro | (intro h9; first | (have h8 : (_ : Bool) = false := h9; exfalso; clear h8; revert h9; subst_vars; intro h9; exact ft_no (h9.symm.trans (by assumption))) | (have h8 : (_ : Bool) = true := h9; exfalso; clear h8; revert h9; subst_vars; intro h9; exact tf_no (h9.symm.trans (by assumption))) | skip)))
        all_goals try (conv => whnf)
        all_goals try first
          | exact LexB.mk (by kernel_rfl)
          | exact LexG.mk (by kernel_rfl)
          | exact LexT.mk (by kernel_rfl)
          | exact Forced.mk (by kernel_rfl)
          | exact LexP.mk (by kernel_rfl)
          | exact ForcedP.mk (by kernel_rfl)
          | exact ⟨Nat.le_of_ble_eq_true rfl⟩
          | exact ⟨rfl⟩
          | exact ⟨trivial⟩
        all_goals subst_vars
        all_goals try first
          | rfl
          | contradiction
          | (refine Ob.mk ?_; simp only [inRQ, inR, Duty.of_p]; omega)
        all_goals first
          | exact ⟨show L.length ≤ 1000000 by omega⟩
          | exact ⟨show X.length ≤ 1000000 by omega⟩
          | exact ⟨show I.length ≤ 1000000 by omega⟩
          | exact l3
          | exact ⟨show 0 ≤ b ∧ b < (X.length : Int) by omega⟩
          | exact ⟨show 0 + b.toNat < X.length by omega⟩
          | exact ⟨show 0 ≤ a ∧ a < (X.length : Int) by omega⟩
          | exact ⟨show 0 + a.toNat < X.length by omega⟩
          | exact ⟨show (chnF N L a b).1.length ≤ 1000000 by rw [cl]; omega⟩
          | exact ⟨show (rchF N L a b).1.length ≤ 1000000 by rw [yl]; omega⟩
          | exact ⟨show 0 ≤ b ∧ b < ((rchF N L a b).1.length : Int) by rw [yl]; omega⟩
          | exact ⟨show 0 + b.toNat < (rchF N L a b).1.length by rw [yl]; omega⟩
          | exact ⟨show 0 ≤ a ∧ a < ((rchF N L a b).1.length : Int) by rw [yl]; omega⟩
          | exact ⟨show 0 + a.toNat < (rchF N L a b).1.length by rw [yl]; omega⟩
          | (refine Ob.mk ?_; show (inRQ .i64 (e1A X b - e1A X a)).p; simp only [inRQ, inR, Duty.of_p]; omega)
          | (refine Ob.mk ?_; show (inRQ .i64 (e1A (rchF N L a b).1 b - e1A (rchF N L a b).1 a)).p; rw [yd]; simp only [inRQ, inR, Duty.of_p]; omega)
      · have xf := xr f0 f1
        have xl := xf.1
        have v9 : decide (e1A X b - e1A X a > (bndF N L a b).1) = false := decide_eq_false (by rw [q3]; omega)
        repeat' ((conv => whnf); (first | apply And.intro | (intro h9; first | (have h8 : (_ : Bool) = false := h9; exfalso; clear h8; revert h9; subst_vars; intro h9; exact ft_no (h9.symm.trans (by assumption))) | (have h8 : (_ : Bool) = true := h9; exfalso; clear h8; revert h9; subst_vars; intro h9; exact tf_no (h9.symm.trans (by assumption))) | skip)))
        all_goals try (conv => whnf)
        all_goals try first
          | exact LexB.mk (by kernel_rfl)
          | exact LexG.mk (by kernel_rfl)
          | exact LexT.mk (by kernel_rfl)
          | exact Forced.mk (by kernel_rfl)
          | exact LexP.mk (by kernel_rfl)
          | exact ForcedP.mk (by kernel_rfl)
          | exact ⟨Nat.le_of_ble_eq_true rfl⟩
          | exact ⟨rfl⟩
          | exact ⟨trivial⟩
        all_goals subst_vars
        all_goals try first
          | rfl
          | contradiction
          | (refine Ob.mk ?_; simp only [inRQ, inR, Duty.of_p]; omega)
        all_goals first
          | exact ⟨show L.length ≤ 1000000 by omega⟩
          | exact ⟨show X.length ≤ 1000000 by omega⟩
          | exact ⟨show I.length ≤ 1000000 by omega⟩
          | exact l3
          | exact ⟨show 0 ≤ b ∧ b < (X.length : Int) by omega⟩
          | exact ⟨show 0 + b.toNat < X.length by omega⟩
          | exact ⟨show 0 ≤ a ∧ a < (X.length : Int) by omega⟩
          | exact ⟨show 0 + a.toNat < X.length by omega⟩
          | exact ⟨show (chnF N L a b).1.length ≤ 1000000 by rw [cl]; omega⟩
          | exact ⟨show (rchF N L a b).1.length ≤ 1000000 by rw [yl]; omega⟩
          | exact ⟨show 0 ≤ b ∧ b < ((rchF N L a b).1.length : Int) by rw [yl]; omega⟩
          | exact ⟨show 0 + b.toNat < (rchF N L a b).1.length by rw [yl]; omega⟩
          | exact ⟨show 0 ≤ a ∧ a < ((rchF N L a b).1.length : Int) by rw [yl]; omega⟩
          | exact ⟨show 0 + a.toNat < (rchF N L a b).1.length by rw [yl]; omega⟩
          | (refine Ob.mk ?_; show (inRQ .i64 (e1A X b - e1A X a)).p; simp only [inRQ, inR, Duty.of_p]; omega)
          | (refine Ob.mk ?_; show (inRQ .i64 (e1A (rchF N L a b).1 b - e1A (rchF N L a b).1 a)).p; rw [yd]; simp only [inRQ, inR, Duty.of_p]; omega)
  · have g0' : ((ckcF N L a b I).2 != 0) = false := by simpa using g0
    obtain ⟨l1, l2⟩ := last g0
    cases g1 : ((ckcF N L a b I).1 != (bndF N L a b).1)
    · have l3 := l2 g1
      cases f0 : ((fitF N L X).2 == 0)
      · repeat' ((conv => whnf); (first | apply And.intro | (intro h9; first | (have h8 : (_ : Bool) = false := h9; exfalso; clear h8; revert h9; subst_vars; intro h9; exact ft_no (h9.symm.trans (by assumption))) | (have h8 : (_ : Bool) = true := h9; exfalso; clear h8; revert h9; subst_vars; intro h9; exact tf_no (h9.symm.trans (by assumption))) | skip)))
        all_goals try (conv => whnf)
        all_goals try first
          | exact LexB.mk (by kernel_rfl)
          | exact LexG.mk (by kernel_rfl)
          | exact LexT.mk (by kernel_rfl)
          | exact Forced.mk (by kernel_rfl)
          | exact LexP.mk (by kernel_rfl)
          | exact ForcedP.mk (by kernel_rfl)
          | exact ⟨Nat.le_of_ble_eq_true rfl⟩
          | exact ⟨rfl⟩
          | exact ⟨trivial⟩
        all_goals subst_vars
        all_goals try first
          | rfl
          | contradiction
          | (refine Ob.mk ?_; simp only [inRQ, inR, Duty.of_p]; omega)
        all_goals first
          | exact ⟨show L.length ≤ 1000000 by omega⟩
          | exact ⟨show X.length ≤ 1000000 by omega⟩
          | exact ⟨show I.length ≤ 1000000 by omega⟩
          | exact l3
          | exact ⟨show 0 ≤ b ∧ b < (X.length : Int) by omega⟩
          | exact ⟨show 0 + b.toNat < X.length by omega⟩
          | exact ⟨show 0 ≤ a ∧ a < (X.length : Int) by omega⟩
          | exact ⟨show 0 + a.toNat < X.length by omega⟩
          | exact ⟨show (chnF N L a b).1.length ≤ 1000000 by rw [cl]; omega⟩
          | exact ⟨show (rchF N L a b).1.length ≤ 1000000 by rw [yl]; omega⟩
          | exact ⟨show 0 ≤ b ∧ b < ((rchF N L a b).1.length : Int) by rw [yl]; omega⟩
          | exact ⟨show 0 + b.toNat < (rchF N L a b).1.length by rw [yl]; omega⟩
          | exact ⟨show 0 ≤ a ∧ a < ((rchF N L a b).1.length : Int) by rw [yl]; omega⟩
          | exact ⟨show 0 + a.toNat < (rchF N L a b).1.length by rw [yl]; omega⟩
          | (refine Ob.mk ?_; show (inRQ .i64 (e1A X b - e1A X a)).p; simp only [inRQ, inR, Duty.of_p]; omega)
          | (refine Ob.mk ?_; show (inRQ .i64 (e1A (rchF N L a b).1 b - e1A (rchF N L a b).1 a)).p; rw [yd]; simp only [inRQ, inR, Duty.of_p]; omega)
      · cases f1 : (fitF N L X).1
        · repeat' ((conv => whnf); (first | apply And.intro | (intro h9; first | (have h8 : (_ : Bool) = false := h9; exfalso; clear h8; revert h9; subst_vars; intro h9; exact ft_no (h9.symm.trans (by assumption))) | (have h8 : (_ : Bool) = true := h9; exfalso; clear h8; revert h9; subst_vars; intro h9; exact tf_no (h9.symm.trans (by assumption))) | skip)))
          all_goals try (conv => whnf)
          all_goals try first
            | exact LexB.mk (by kernel_rfl)
            | exact LexG.mk (by kernel_rfl)
            | exact LexT.mk (by kernel_rfl)
            | exact Forced.mk (by kernel_rfl)
            | exact LexP.mk (by kernel_rfl)
            | exact ForcedP.mk (by kernel_rfl)
            | exact ⟨Nat.le_of_ble_eq_true rfl⟩
            | exact ⟨rfl⟩
            | exact ⟨trivial⟩
          all_goals subst_vars
          all_goals try first
            | rfl
            | contradiction
            | (refine Ob.mk ?_; simp only [inRQ, inR, Duty.of_p]; omega)
          all_goals first
            | exact ⟨show L.length ≤ 1000000 by omega⟩
            | exact ⟨show X.length ≤ 1000000 by omega⟩
            | exact ⟨show I.length ≤ 1000000 by omega⟩
            | exact l3
            | exact ⟨show 0 ≤ b ∧ b < (X.length : Int) by omega⟩
            | exact ⟨show 0 + b.toNat < X.length by omega⟩
            | exact ⟨show 0 ≤ a ∧ a < (X.length : Int) by omega⟩
            | exact ⟨show 0 + a.toNat < X.length by omega⟩
            | exact ⟨show (chnF N L a b).1.length ≤ 1000000 by rw [cl]; omega⟩
            | exact ⟨show (rchF N L a b).1.length ≤ 1000000 by rw [yl]; omega⟩
            | exact ⟨show 0 ≤ b ∧ b < ((rchF N L a b).1.length : Int) by rw [yl]; omega⟩
            | exact ⟨show 0 + b.toNat < (rchF N L a b).1.length by rw [yl]; omega⟩
            | exact ⟨show 0 ≤ a ∧ a < ((rchF N L a b).1.length : Int) by rw [yl]; omega⟩
            | exact ⟨show 0 + a.toNat < (rchF N L a b).1.length by rw [yl]; omega⟩
            | (refine Ob.mk ?_; show (inRQ .i64 (e1A X b - e1A X a)).p; simp only [inRQ, inR, Duty.of_p]; omega)
            | (refine Ob.mk ?_; show (inRQ .i64 (e1A (rchF N L a b).1 b - e1A (rchF N L a b).1 a)).p; rw [yd]; simp only [inRQ, inR, Duty.of_p]; omega)
        · have xf := xr f0 f1
          have xl := xf.1
          have v9 : decide (e1A X b - e1A X a > (bndF N L a b).1) = false := decide_eq_false (by rw [q3]; omega)
          repeat' ((conv => whnf); (first | apply And.intro | (intro h9; first | (have h8 : (_ : Bool) = false := h9; exfalso; clear h8; revert h9; subst_vars; intro h9; exact ft_no (h9.symm.trans (by assumption))) | (have h8 : (_ : Bool) = true := h9; exfalso; clear h8; revert h9; subst_vars; intro h9; exact tf_no (h9.symm.trans (by assumption))) | skip)))
          all_goals try (conv => whnf)
          all_goals try first
            | exact LexB.mk (by kernel_rfl)
            | exact LexG.mk (by kernel_rfl)
            | exact LexT.mk (by kernel_rfl)
            | exact Forced.mk (by kernel_rfl)
            | exact LexP.mk (by kernel_rfl)
            | exact ForcedP.mk (by kernel_rfl)
            | exact ⟨Nat.le_of_ble_eq_true rfl⟩
            | exact ⟨rfl⟩
            | exact ⟨trivial⟩
          all_goals subst_vars
          all_goals try first
            | rfl
            | contradiction
            | (refine Ob.mk ?_; simp only [inRQ, inR, Duty.of_p]; omega)
          all_goals first
            | exact ⟨show L.length ≤ 1000000 by omega⟩
            | exact ⟨show X.length ≤ 1000000 by omega⟩
            | exact ⟨show I.length ≤ 1000000 by omega⟩
            | exact l3
            | exact ⟨show 0 ≤ b ∧ b < (X.length : Int) by omega⟩
            | exact ⟨show 0 + b.toNat < X.length by omega⟩
            | exact ⟨show 0 ≤ a ∧ a < (X.length : Int) by omega⟩
            | exact ⟨show 0 + a.toNat < X.length by omega⟩
            | exact ⟨show (chnF N L a b).1.length ≤ 1000000 by rw [cl]; omega⟩
            | exact ⟨show (rchF N L a b).1.length ≤ 1000000 by rw [yl]; omega⟩
            | exact ⟨show 0 ≤ b ∧ b < ((rchF N L a b).1.length : Int) by rw [yl]; omega⟩
            | exact ⟨show 0 + b.toNat < (rchF N L a b).1.length by rw [yl]; omega⟩
            | exact ⟨show 0 ≤ a ∧ a < ((rchF N L a b).1.length : Int) by rw [yl]; omega⟩
            | exact ⟨show 0 + a.toNat < (rchF N L a b).1.length by rw [yl]; omega⟩
            | (refine Ob.mk ?_; show (inRQ .i64 (e1A X b - e1A X a)).p; simp only [inRQ, inR, Duty.of_p]; omega)
            | (refine Ob.mk ?_; show (inRQ .i64 (e1A (rchF N L a b).1 b - e1A (rchF N L a b).1 a)).p; rw [yd]; simp only [inRQ, inR, Duty.of_p]; omega)
    · cases f0 : ((fitF N L X).2 == 0)
      · repeat' ((conv => whnf); (first | apply And.intro | (intro h9; first | (have h8 : (_ : Bool) = false := h9; exfalso; clear h8; revert h9; subst_vars; intro h9; exact ft_no (h9.symm.trans (by assumption))) | (have h8 : (_ : Bool) = true := h9; exfalso; clear h8; revert h9; subst_vars; intro h9; exact tf_no (h9.symm.trans (by assumption))) | skip)))
        all_goals try (conv => whnf)
        all_goals try first
          | exact LexB.mk (by kernel_rfl)
          | exact LexG.mk (by kernel_rfl)
          | exact LexT.mk (by kernel_rfl)
          | exact Forced.mk (by kernel_rfl)
          | exact LexP.mk (by kernel_rfl)
          | exact ForcedP.mk (by kernel_rfl)
          | exact ⟨Nat.le_of_ble_eq_true rfl⟩
          | exact ⟨rfl⟩
          | exact ⟨trivial⟩
        all_goals subst_vars
        all_goals try first
          | rfl
          | contradiction
          | (refine Ob.mk ?_; simp only [inRQ, inR, Duty.of_p]; omega)
        all_goals first
          | exact ⟨show L.length ≤ 1000000 by omega⟩
          | exact ⟨show X.length ≤ 1000000 by omega⟩
          | exact ⟨show I.length ≤ 1000000 by omega⟩
          | exact l3
          | exact ⟨show 0 ≤ b ∧ b < (X.length : Int) by omega⟩
          | exact ⟨show 0 + b.toNat < X.length by omega⟩
          | exact ⟨show 0 ≤ a ∧ a < (X.length : Int) by omega⟩
          | exact ⟨show 0 + a.toNat < X.length by omega⟩
          | exact ⟨show (chnF N L a b).1.length ≤ 1000000 by rw [cl]; omega⟩
          | exact ⟨show (rchF N L a b).1.length ≤ 1000000 by rw [yl]; omega⟩
          | exact ⟨show 0 ≤ b ∧ b < ((rchF N L a b).1.length : Int) by rw [yl]; omega⟩
          | exact ⟨show 0 + b.toNat < (rchF N L a b).1.length by rw [yl]; omega⟩
          | exact ⟨show 0 ≤ a ∧ a < ((rchF N L a b).1.length : Int) by rw [yl]; omega⟩
          | exact ⟨show 0 + a.toNat < (rchF N L a b).1.length by rw [yl]; omega⟩
          | (refine Ob.mk ?_; show (inRQ .i64 (e1A X b - e1A X a)).p; simp only [inRQ, inR, Duty.of_p]; omega)
          | (refine Ob.mk ?_; show (inRQ .i64 (e1A (rchF N L a b).1 b - e1A (rchF N L a b).1 a)).p; rw [yd]; simp only [inRQ, inR, Duty.of_p]; omega)
      · cases f1 : (fitF N L X).1
        · repeat' ((conv => whnf); (first | apply And.intro | (intro h9; first | (have h8 : (_ : Bool) = false := h9; exfalso; clear h8; revert h9; subst_vars; intro h9; exact ft_no (h9.symm.trans (by assumption))) | (have h8 : (_ : Bool) = true := h9; exfalso; clear h8; revert h9; subst_vars; intro h9; exact tf_no (h9.symm.trans (by assumption))) | skip)))
          all_goals try (conv => whnf)
          all_goals try first
            | exact LexB.mk (by kernel_rfl)
            | exact LexG.mk (by kernel_rfl)
            | exact LexT.mk (by kernel_rfl)
            | exact Forced.mk (by kernel_rfl)
            | exact LexP.mk (by kernel_rfl)
            | exact ForcedP.mk (by kernel_rfl)
            | exact ⟨Nat.le_of_ble_eq_true rfl⟩
            | exact ⟨rfl⟩
            | exact ⟨trivial⟩
          all_goals subst_vars
          all_goals try first
            | rfl
            | contradiction
            | (refine Ob.mk ?_; simp only [inRQ, inR, Duty.of_p]; omega)
          all_goals first
            | exact ⟨show L.length ≤ 1000000 by omega⟩
            | exact ⟨show X.length ≤ 1000000 by omega⟩
            | exact ⟨show I.length ≤ 1000000 by omega⟩
            | exact l3
            | exact ⟨show 0 ≤ b ∧ b < (X.length : Int) by omega⟩
            | exact ⟨show 0 + b.toNat < X.length by omega⟩
            | exact ⟨show 0 ≤ a ∧ a < (X.length : Int) by omega⟩
            | exact ⟨show 0 + a.toNat < X.length by omega⟩
            | exact ⟨show (chnF N L a b).1.length ≤ 1000000 by rw [cl]; omega⟩
            | exact ⟨show (rchF N L a b).1.length ≤ 1000000 by rw [yl]; omega⟩
            | exact ⟨show 0 ≤ b ∧ b < ((rchF N L a b).1.length : Int) by rw [yl]; omega⟩
            | exact ⟨show 0 + b.toNat < (rchF N L a b).1.length by rw [yl]; omega⟩
            | exact ⟨show 0 ≤ a ∧ a < ((rchF N L a b).1.length : Int) by rw [yl]; omega⟩
            | exact ⟨show 0 + a.toNat < (rchF N L a b).1.length by rw [yl]; omega⟩
            | (refine Ob.mk ?_; show (inRQ .i64 (e1A X b - e1A X a)).p; simp only [inRQ, inR, Duty.of_p]; omega)
            | (refine Ob.mk ?_; show (inRQ .i64 (e1A (rchF N L a b).1 b - e1A (rchF N L a b).1 a)).p; rw [yd]; simp only [inRQ, inR, Duty.of_p]; omega)
        · have xf := xr f0 f1
          have xl := xf.1
          have v9 : decide (e1A X b - e1A X a > (bndF N L a b).1) = false := decide_eq_false (by rw [q3]; omega)
          repeat' ((conv => whnf); (first | apply And.intro | (intro h9; first | (have h8 : (_ : Bool) = false := h9; exfalso; clear h8; revert h9; subst_vars; intro h9; exact ft_no (h9.symm.trans (by assumption))) | (have h8 : (_ : Bool) = true := h9; exfalso; clear h8; revert h9; subst_vars; intro h9; exact tf_no (h9.symm.trans (by assumption))) | skip)))
          all_goals try (conv => whnf)
          all_goals try first
            | exact LexB.mk (by kernel_rfl)
            | exact LexG.mk (by kernel_rfl)
            | exact LexT.mk (by kernel_rfl)
            | exact Forced.mk (by kernel_rfl)
            | exact LexP.mk (by kernel_rfl)
            | exact ForcedP.mk (by kernel_rfl)
            | exact ⟨Nat.le_of_ble_eq_true rfl⟩
            | exact ⟨rfl⟩
            | exact ⟨trivial⟩
          all_goals subst_vars
          all_goals try first
            | rfl
            | contradiction
            | (refine Ob.mk ?_; simp only [inRQ, inR, Duty.of_p]; omega)
          all_goals first
            | exact ⟨show L.length ≤ 1000000 by omega⟩
            | exact ⟨show X.length ≤ 1000000 by omega⟩
            | exact ⟨show I.length ≤ 1000000 by omega⟩
            | exact l3
            | exact ⟨show 0 ≤ b ∧ b < (X.length : Int) by omega⟩
            | exact ⟨show 0 + b.toNat < X.length by omega⟩
            | exact ⟨show 0 ≤ a ∧ a < (X.length : Int) by omega⟩
            | exact ⟨show 0 + a.toNat < X.length by omega⟩
            | exact ⟨show (chnF N L a b).1.length ≤ 1000000 by rw [cl]; omega⟩
            | exact ⟨show (rchF N L a b).1.length ≤ 1000000 by rw [yl]; omega⟩
            | exact ⟨show 0 ≤ b ∧ b < ((rchF N L a b).1.length : Int) by rw [yl]; omega⟩
            | exact ⟨show 0 + b.toNat < (rchF N L a b).1.length by rw [yl]; omega⟩
            | exact ⟨show 0 ≤ a ∧ a < ((rchF N L a b).1.length : Int) by rw [yl]; omega⟩
            | exact ⟨show 0 + a.toNat < (rchF N L a b).1.length by rw [yl]; omega⟩
            | (refine Ob.mk ?_; show (inRQ .i64 (e1A X b - e1A X a)).p; simp only [inRQ, inR, Duty.of_p]; omega)
            | (refine Ob.mk ?_; show (inRQ .i64 (e1A (rchF N L a b).1 b - e1A (rchF N L a b).1 a)).p; rw [yd]; simp only [inRQ, inR, Duty.of_p]; omega)
)
end Go.Proofs.Ytlmhkeoblgodiaa
end
