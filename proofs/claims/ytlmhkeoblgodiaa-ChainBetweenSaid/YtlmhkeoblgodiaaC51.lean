/-
  Texts of the claims on chapter 2: C51. No condition: lemmas and contracts.
-/
import Derived.Test.YtlmhkeoblgodiaaYe1
import Derived.Test.YtlmhkeoblgodiaaYe2
set_option linter.all false
section
/-
  Chapter 2: the law ChainBetween. Printed by gen51.py.
-/
namespace Go.Proofs.Ytlmhkeoblgodiaa
open Go Go.Sy Go.Chn
set_option maxRecDepth 100000
set_option maxHeartbeats 4000000
set_option linter.unusedVariables false
set_option linter.unusedSimpArgs false
variable {Γ : Glob}
def fSnnn (D : Int → List Lk → Int → Int → Int → List Duty) (F : Int → List Lk → Int → Int → Int → Tm) : Ctr := .fn fun args rg => match args with
  | [.agg [.v (.int .i64 N0), x0], .a (.v (.int .i64 i0)), .a (.v (.int .i64 i1)), .a (.v (.int .i64 i2))] => (match arrOf 44 kL rg x0 with | some (q0, L0) => some (q0 ++ (D N0 L0 i0 i1 i2), F N0 L0 i0 i1 i2) | _ => none)
  | _ => none
theorem fSnnn_ok {f : FuncId} {b : Body} {E : Env} {d : Nat} (hP : ProgOk Try.prog Γ E) (hb : BodyOk Try.prog f b) {D : Int → List Lk → Int → Int → Int → List Duty} {F : Int → List Lk → Int → Int → Int → Tm} (hp : ∀ (N0 : Int) (L0 : List Lk) (i0 : Int) (i1 : Int) (i2 : Int), (F N0 L0 i0 i1 i2).plain = true)
    (H : ∀ (N0 : Int) (L0 : List Lk) (i0 : Int) (i1 : Int) (i2 : Int), obl (D N0 L0 i0 i1 i2) → evTop E d b [.agg [vI N0, .sl 0 [] 0 L0.length], .a (vI i0), .a (vI i1), .a (vI i2)] [.arr 44 kL L0 false false] (fun x _ => eqT x (F N0 L0 i0 i1 i2))) : Ctr.Ok Try.prog Γ f (fSnnn D F) := Ctr.fn_ok (d := d) hP hb (by
  intro args rg q t hF hq
  split at hF
  next N0 x0 i0 i1 i2 =>
    split at hF
    next q0 L0 hx0 =>
      obtain ⟨rfl, rfl⟩ := Prod.mk.inj (Option.some.inj hF); clear hF
      rw [obl_append] at hq
      obtain ⟨hq0, hD⟩ := hq
      obtain ⟨e0, he0⟩ := pas_arr (by simp [kL]) hx0 hq0
      obtain ⟨p0, r0⟩ := he0 [e0] 0 1 rfl (by omega)
      refine ⟨hp _ _ _ _ _, [e0], [.agg [vI N0, .sl 0 [] 0 L0.length], .a (vI i0), .a (vI i1), .a (vI i2)], [.arr 44 kL L0 false false], ⟨⟨⟨rfl, p0, trivial⟩, rfl, rfl, rfl, trivial⟩, fun r g hg => ?_⟩, H _ _ _ _ _ hD⟩
      match r, hg with
      | 0, hg => obtain rfl := Option.some.inj hg; exact r0
    next => cases hF
  next => cases hF)

def L13 : List (Nat × Ctr) := [(20, c20), (21, c21), (38, c38), (45, c45 false), (24, c24), (40, c40), (47, c47)]
theorem L13_ok : CsOk Try.prog Γ L13 := ((((((CsOk.nil.cons (body_of Try.func47 rfl rfl).fn c47_ok).cons (body_of Try.func40 rfl rfl).fn c40_ok).cons (body_of Try.func24 rfl rfl).fn c24_ok).cons (body_of Try.func45 rfl rfl).fn (c45_ok _)).cons (body_of Try.func38 rfl rfl).fn c38_ok).cons (body_of Try.func21 rfl rfl).fn c21_ok).cons (body_of Try.func20 rfl rfl).fn c20_ok
noncomputable def e13 : Env := tabs.env L13 [] false 0
theorem e13_ok : ProgOk Try.prog Γ e13 := prog_ok L13_ok BsOk.nil false 0
attribute [local irreducible] gi lk checkF fitF smallB bndF withF conF rchF nodeB
def c13 : Ctr := fSnnn (fun _ _ _ _ _ => []) (fun _ _ _ _ _ => bl true)
theorem c13_ok : Ctr.Ok Try.prog Γ 13 c13 := fSnnn_ok (d := 0) e13_ok (body_of Try.func13 rfl rfl) (fun _ _ _ _ _ => rfl) (by
  intro N L a b n _
  by_cases hs : (!smallB N L) = true
  · repeat' ((conv => whnf); (first | apply And.intro | (intro h9; first | (have h8 : (_ : Bool) = false := h9; exfalso; clear h8; revert h9; subst_vars; intro h9; exact ft_no (h9.symm.trans (by assumption))) | (have h8 : (_ : Bool) = true := h9; exfalso; clear h8; revert h9; subst_vars; intro h9; exact tf_no (h9.symm.trans (by assumption))) | skip)))
    all_goals try (conv => whnf)
    all_goals try first
    | exact LexB.mk (by kernel_rfl)
    | exact LexG.mk (by kernel_rfl)
    | exact LexT.mk (by kernel_rfl)
    | exact ForcedP.mk (by kernel_rfl)
    | exact LexP.mk (by kernel_rfl)
    | exact ⟨rfl⟩
    | exact ⟨trivial⟩
    | exact ⟨show L.length ≤ 1000000 by omega⟩
    | (subst_vars; rfl)
  replace hs : (!smallB N L) = false := by simpa using hs
  have hL := small_len hs
  by_cases hX : decide ((L.length : Int) > 298) = true
  · repeat' ((conv => whnf); (first | apply And.intro | (intro h9; first | (have h8 : (_ : Bool) = false := h9; exfalso; clear h8; revert h9; subst_vars; intro h9; exact ft_no (h9.symm.trans (by assumption))) | (have h8 : (_ : Bool) = true := h9; exfalso; clear h8; revert h9; subst_vars; intro h9; exact tf_no (h9.symm.trans (by assumption))) | skip)))
    all_goals try (conv => whnf)
    all_goals try first
    | exact LexB.mk (by kernel_rfl)
    | exact LexG.mk (by kernel_rfl)
    | exact LexT.mk (by kernel_rfl)
    | exact ForcedP.mk (by kernel_rfl)
    | exact LexP.mk (by kernel_rfl)
    | exact ⟨rfl⟩
    | exact ⟨trivial⟩
    | exact ⟨show L.length ≤ 1000000 by omega⟩
    | (subst_vars; rfl)
  replace hX : decide ((L.length : Int) > 298) = false := by simpa using hX
  by_cases h1 : decide (n < -4503599627370496) = true
  · repeat' ((conv => whnf); (first | apply And.intro | (intro h9; first | (have h8 : (_ : Bool) = false := h9; exfalso; clear h8; revert h9; subst_vars; intro h9; exact ft_no (h9.symm.trans (by assumption))) | (have h8 : (_ : Bool) = true := h9; exfalso; clear h8; revert h9; subst_vars; intro h9; exact tf_no (h9.symm.trans (by assumption))) | skip)))
    all_goals try (conv => whnf)
    all_goals try first
    | exact LexB.mk (by kernel_rfl)
    | exact LexG.mk (by kernel_rfl)
    | exact LexT.mk (by kernel_rfl)
    | exact ForcedP.mk (by kernel_rfl)
    | exact LexP.mk (by kernel_rfl)
    | exact ⟨rfl⟩
    | exact ⟨trivial⟩
    | exact ⟨show L.length ≤ 1000000 by omega⟩
    | (subst_vars; rfl)
  replace h1 : decide (n < -4503599627370496) = false := by simpa using h1
  by_cases h2 : decide (n > 4503599627370496) = true
  · repeat' ((conv => whnf); (first | apply And.intro | (intro h9; first | (have h8 : (_ : Bool) = false := h9; exfalso; clear h8; revert h9; subst_vars; intro h9; exact ft_no (h9.symm.trans (by assumption))) | (have h8 : (_ : Bool) = true := h9; exfalso; clear h8; revert h9; subst_vars; intro h9; exact tf_no (h9.symm.trans (by assumption))) | skip)))
    all_goals try (conv => whnf)
    all_goals try first
    | exact LexB.mk (by kernel_rfl)
    | exact LexG.mk (by kernel_rfl)
    | exact LexT.mk (by kernel_rfl)
    | exact ForcedP.mk (by kernel_rfl)
    | exact LexP.mk (by kernel_rfl)
    | exact ⟨rfl⟩
    | exact ⟨trivial⟩
    | exact ⟨show L.length ≤ 1000000 by omega⟩
    | (subst_vars; rfl)
  replace h2 : decide (n > 4503599627370496) = false := by simpa using h2
  by_cases h3 : ((bndF N L a b).2 != 0) = true
  · repeat' ((conv => whnf); (first | apply And.intro | (intro h9; first | (have h8 : (_ : Bool) = false := h9; exfalso; clear h8; revert h9; subst_vars; intro h9; exact ft_no (h9.symm.trans (by assumption))) | (have h8 : (_ : Bool) = true := h9; exfalso; clear h8; revert h9; subst_vars; intro h9; exact tf_no (h9.symm.trans (by assumption))) | skip)))
    all_goals try (conv => whnf)
    all_goals try first
    | exact LexB.mk (by kernel_rfl)
    | exact LexG.mk (by kernel_rfl)
    | exact LexT.mk (by kernel_rfl)
    | exact ForcedP.mk (by kernel_rfl)
    | exact LexP.mk (by kernel_rfl)
    | exact ⟨rfl⟩
    | exact ⟨trivial⟩
    | exact ⟨show L.length ≤ 1000000 by omega⟩
    | (subst_vars; rfl)
  replace h3 : ((bndF N L a b).2 != 0) = false := by simpa using h3
  by_cases h4 : ((bndF N L b a).2 != 0) = true
  · repeat' ((conv => whnf); (first | apply And.intro | (intro h9; first | (have h8 : (_ : Bool) = false := h9; exfalso; clear h8; revert h9; subst_vars; intro h9; exact ft_no (h9.symm.trans (by assumption))) | (have h8 : (_ : Bool) = true := h9; exfalso; clear h8; revert h9; subst_vars; intro h9; exact tf_no (h9.symm.trans (by assumption))) | skip)))
    all_goals try (conv => whnf)
    all_goals try first
    | exact LexB.mk (by kernel_rfl)
    | exact LexG.mk (by kernel_rfl)
    | exact LexT.mk (by kernel_rfl)
    | exact ForcedP.mk (by kernel_rfl)
    | exact LexP.mk (by kernel_rfl)
    | exact ⟨rfl⟩
    | exact ⟨trivial⟩
    | exact ⟨show L.length ≤ 1000000 by omega⟩
    | (subst_vars; rfl)
  replace h4 : ((bndF N L b a).2 != 0) = false := by simpa using h4
  by_cases h5 : (a == b) = true
  · repeat' ((conv => whnf); (first | apply And.intro | (intro h9; first | (have h8 : (_ : Bool) = false := h9; exfalso; clear h8; revert h9; subst_vars; intro h9; exact ft_no (h9.symm.trans (by assumption))) | (have h8 : (_ : Bool) = true := h9; exfalso; clear h8; revert h9; subst_vars; intro h9; exact tf_no (h9.symm.trans (by assumption))) | skip)))
    all_goals try (conv => whnf)
    all_goals try first
    | exact LexB.mk (by kernel_rfl)
    | exact LexG.mk (by kernel_rfl)
    | exact LexT.mk (by kernel_rfl)
    | exact ForcedP.mk (by kernel_rfl)
    | exact LexP.mk (by kernel_rfl)
    | exact ⟨rfl⟩
    | exact ⟨trivial⟩
    | exact ⟨show L.length ≤ 1000000 by omega⟩
    | (subst_vars; rfl)
  replace h5 : (a == b) = false := by simpa using h5
  obtain ⟨q1, q2, q3⟩ := bnd_0 (by simpa using h3)
  obtain ⟨_, q5, q6⟩ := bnd_0 (by simpa using h4)
  obtain ⟨ha, hn, i1, i2, hN, hc⟩ := ask_2 q1
  have hab : ¬ a = b := by simpa using h5
  have hX' : L.length ≤ 298 := by have := of_decide_eq_false hX; omega
  have hn1 : -4503599627370496 ≤ n := by have := of_decide_eq_false h1; omega
  have hn2 : n ≤ 4503599627370496 := by have := of_decide_eq_false h2; omega
  have en : (0 : Int) - n = -n := by omega
  have hc2 := two_check hc hX' i1 i2 hab hn1 hn2
  rw [← en] at hc2
  have w0 : withF N L [(a, b, n), (b, a, 0 - n)] = ((N, L ++ [(a, b, n), (b, a, 0 - n)]), 0) := wi_eq hc hc2
  have w1 : ((withF N L [(a, b, n), (b, a, 0 - n)]).2 != 0) = false := by rw [w0]; rfl
  have wl : (L ++ [(a, b, n), (b, a, 0 - n)]).length ≤ 300 := by simp; omega
  have f0 : conF N (L ++ [(a, b, n), (b, a, 0 - n)]) = (conB N (L ++ [(a, b, n), (b, a, 0 - n)]), 0) := conF1 (by rw [hc2]; rfl)
  have w2 : ((conF (withF N L [(a, b, n), (b, a, 0 - n)]).1.1 (withF N L [(a, b, n), (b, a, 0 - n)]).1.2).2 != 0) = false := by rw [w0]; show ((conF N (L ++ [(a, b, n), (b, a, 0 - n)])).2 != 0) = false; rw [f0]; rfl
  have hb := ask_of hc2
  have eA : L ++ [(a, b, n), (b, a, 0 - n)] = (L ++ [(a, b, n)]) ++ [(b, a, 0 - n)] := by simp
  have tc := two_con (n := n) ha (by rw [← en, ← eA]; exact hb) hn i1 i2 q2 q5
  rw [← en, ← eA] at tc
  have f1 : (conF (withF N L [(a, b, n), (b, a, 0 - n)]).1.1 (withF N L [(a, b, n), (b, a, 0 - n)]).1.2).1 = conB N (L ++ [(a, b, n), (b, a, 0 - n)]) := by rw [w0]; show (conF N (L ++ [(a, b, n), (b, a, 0 - n)])).1 = _; rw [f0]
  have r1 := bd_range ha hn i1 i2
  have r2 := bd_range ha hn i2 i1
  by_cases k1 : decide (n ≤ (bndF N L a b).1) = true
  · by_cases k2 : decide (n ≥ 0 - (bndF N L b a).1) = true
    · have cT : conB N (L ++ [(a, b, n), (b, a, 0 - n)]) = true := tc.2 ⟨by have := of_decide_eq_true k1; rw [q3] at this; exact this, by have := of_decide_eq_true k2; rw [q6] at this; omega⟩
      have g1 : (!((conF (withF N L [(a, b, n), (b, a, 0 - n)]).1.1 (withF N L [(a, b, n), (b, a, 0 - n)]).1.2).1 == decide (n ≥ 0 - (bndF N L b a).1))) = false := by rw [f1, cT, k2]; rfl
      have g2 : (!(conF (withF N L [(a, b, n), (b, a, 0 - n)]).1.1 (withF N L [(a, b, n), (b, a, 0 - n)]).1.2).1) = false := by rw [f1, cT]; rfl
      have d0 := two_d (n := n) (by rw [← en, ← eA]; exact hb) (by rw [← en, ← eA]; exact cT) i1 i2
      rw [← en, ← eA] at d0
      have hn' := (con_iff hb).1 cT
      have dF : dB N (L ++ [(a, b, n), (b, a, 0 - n)]) a b ≠ Fr := by rw [d0]; unfold Fr; omega
      have b0 : bndF N (L ++ [(a, b, n), (b, a, 0 - n)]) a b = (n, 0) := by rw [bnd2 (by rw [ask_iff.2 ⟨hc2, by rw [nd_two, nodeB_iff.2 i1, nodeB_iff.2 i2]; rfl, cT⟩]; rfl) (by simpa [Fr] using dF), d0]
      have ho := rch_ok hb hn' i1 i2 dF
      have z0 : rchF N (L ++ [(a, b, n), (b, a, 0 - n)]) a b = (rchX N (L ++ [(a, b, n), (b, a, 0 - n)]) a b, 0) := rc1 (by rw [b0]; rfl)
      have z1 : fitF N L (rchX N (L ++ [(a, b, n), (b, a, 0 - n)]) a b) = (true, 0) := fit_0 (fit_iff.2 ⟨hc, by rw [ho.1]; exact hN.symm, ho.2.2.1, fun l hl => ho.2.2.2.1 l (List.mem_append_left _ hl), ho.2.1⟩)
      have zz : rchF (withF N L [(a, b, n), (b, a, 0 - n)]).1.1 (withF N L [(a, b, n), (b, a, 0 - n)]).1.2 a b = (rchX N (L ++ [(a, b, n), (b, a, 0 - n)]) a b, 0) := by rw [w0]; exact z0
      have zl := ho.1
      have eb : ((0 + b.toNat : Nat) : Int) = b := by have := i2.1; omega
      have ea : ((0 + a.toNat : Nat) : Int) = a := by have := i1.1; omega
      have i1' := i1.1
      have i1'' := i1.2
      have i2' := i2.1
      have i2'' := i2.2
      have hn' := ha.n
      have zd : gi (rchX N (L ++ [(a, b, n), (b, a, 0 - n)]) a b) b - gi (rchX N (L ++ [(a, b, n), (b, a, 0 - n)]) a b) a = n := by rw [ho.2.2.2.2]; exact d0
      have v1 : ((rchF (withF N L [(a, b, n), (b, a, 0 - n)]).1.1 (withF N L [(a, b, n), (b, a, 0 - n)]).1.2 a b).2 == 0) = true := by rw [zz]; rfl
      have v2 : ((fitF N L (rchF (withF N L [(a, b, n), (b, a, 0 - n)]).1.1 (withF N L [(a, b, n), (b, a, 0 - n)]).1.2 a b).1).2 == 0) = true := by rw [zz]; show ((fitF N L (rchX N (L ++ [(a, b, n), (b, a, 0 - n)]) a b)).2 == 0) = true; rw [z1]; rfl
      have v3 : (fitF N L (rchF (withF N L [(a, b, n), (b, a, 0 - n)]).1.1 (withF N L [(a, b, n), (b, a, 0 - n)]).1.2 a b).1).1 = true := by rw [zz]; show (fitF N L (rchX N (L ++ [(a, b, n), (b, a, 0 - n)]) a b)).1 = true; rw [z1]
      repeat' ((conv => whnf); (first | apply And.intro | (intro h9; first | (have h8 : (_ : Bool) = false := h9; exfalso; clear h8; revert h9; subst_vars; intro h9; exact ft_no (h9.symm.trans (by assumption))) | (have h8 : (_ : Bool) = true := h9; exfalso; clear h8; revert h9; subst_vars; intro h9; exact tf_no (h9.symm.trans (by assumption))) | skip)))
      all_goals try (conv => whnf)
      all_goals try first
          | exact LexB.mk (by kernel_rfl)
          | exact LexG.mk (by kernel_rfl)
          | exact LexT.mk (by kernel_rfl)
          | exact ForcedP.mk (by kernel_rfl)
          | exact LexP.mk (by kernel_rfl)
          | exact ⟨rfl⟩
          | exact ⟨trivial⟩
          | exact ⟨show L.length ≤ 1000000 by omega⟩
          | (subst_vars; rfl)
      all_goals try first
          | (refine Ob.mk ?_; simp only [inRQ, inR, Duty.of_p]; omega)
          | exact ⟨show (0 : Nat) < 2 by omega⟩
          | exact ⟨Nat.le_of_ble_eq_true rfl⟩
          | exact ⟨show (withF N L [(a, b, n), (b, a, 0 - n)]).1.2.length ≤ 1000000 by rw [w0]; exact Nat.le_trans wl (by omega)⟩
          | (subst_vars; refine Ob.mk ?_; show (inRQ .i64 (0 - (bndF N L b a).1)).p; rw [q6]; simp only [inRQ, inR, Duty.of_p]; omega)
      all_goals subst_vars
      all_goals try simp only [getI]
      all_goals first
          | exact ⟨show (withF N L [(a, b, n), (b, a, 0 - n)]).1.2.length ≤ 1000000 by rw [w0]; exact Nat.le_trans wl (by omega)⟩
          | (refine Ob.mk ?_; show (inRQ .i64 (0 - (bndF N L b a).1)).p; rw [q6]; simp only [inRQ, inR, Duty.of_p]; omega)
          | (subst_vars; contradiction)
          | exact ⟨show (rchF (withF N L [(a, b, n), (b, a, 0 - n)]).1.1 (withF N L [(a, b, n), (b, a, 0 - n)]).1.2 a b).1.length ≤ 1000000 by rw [zz]; show (rchX N (L ++ [(a, b, n), (b, a, 0 - n)]) a b).length ≤ 1000000; omega⟩
          | exact ⟨show 0 ≤ b ∧ b < ((rchF (withF N L [(a, b, n), (b, a, 0 - n)]).1.1 (withF N L [(a, b, n), (b, a, 0 - n)]).1.2 a b).1.length : Int) by rw [zz]; exact ⟨i2', show b < ((rchX N (L ++ [(a, b, n), (b, a, 0 - n)]) a b).length : Int) by omega⟩⟩
          | exact ⟨show 0 ≤ a ∧ a < ((rchF (withF N L [(a, b, n), (b, a, 0 - n)]).1.1 (withF N L [(a, b, n), (b, a, 0 - n)]).1.2 a b).1.length : Int) by rw [zz]; exact ⟨i1', show a < ((rchX N (L ++ [(a, b, n), (b, a, 0 - n)]) a b).length : Int) by omega⟩⟩
          | exact ⟨show 0 + b.toNat < (rchF (withF N L [(a, b, n), (b, a, 0 - n)]).1.1 (withF N L [(a, b, n), (b, a, 0 - n)]).1.2 a b).1.length by rw [zz]; show 0 + b.toNat < (rchX N (L ++ [(a, b, n), (b, a, 0 - n)]) a b).length; omega⟩
          | exact ⟨show 0 + a.toNat < (rchF (withF N L [(a, b, n), (b, a, 0 - n)]).1.1 (withF N L [(a, b, n), (b, a, 0 - n)]).1.2 a b).1.length by rw [zz]; show 0 + a.toNat < (rchX N (L ++ [(a, b, n), (b, a, 0 - n)]) a b).length; omega⟩
          | (refine Ob.mk ?_; show (inRQ .i64 (gi (rchF (withF N L [(a, b, n), (b, a, 0 - n)]).1.1 (withF N L [(a, b, n), (b, a, 0 - n)]).1.2 a b).1 ((0 + b.toNat : Nat) : Int) - gi (rchF (withF N L [(a, b, n), (b, a, 0 - n)]).1.1 (withF N L [(a, b, n), (b, a, 0 - n)]).1.2 a b).1 ((0 + a.toNat : Nat) : Int))).p; rw [zz, eb, ea]; show (inRQ .i64 (gi (rchX N (L ++ [(a, b, n), (b, a, 0 - n)]) a b) b - gi (rchX N (L ++ [(a, b, n), (b, a, 0 - n)]) a b) a)).p; rw [zd]; simp only [inRQ, inR, Duty.of_p]; omega)
          | (show ((gi (rchF (withF N L [(a, b, n), (b, a, 0 - n)]).1.1 (withF N L [(a, b, n), (b, a, 0 - n)]).1.2 a b).1 ((0 + b.toNat : Nat) : Int) - gi (rchF (withF N L [(a, b, n), (b, a, 0 - n)]).1.1 (withF N L [(a, b, n), (b, a, 0 - n)]).1.2 a b).1 ((0 + a.toNat : Nat) : Int)) == n) = true; rw [zz, eb, ea]; show ((gi (rchX N (L ++ [(a, b, n), (b, a, 0 - n)]) a b) b - gi (rchX N (L ++ [(a, b, n), (b, a, 0 - n)]) a b) a) == n) = true; rw [zd]; simp)
    · replace k2 : decide (n ≥ 0 - (bndF N L b a).1) = false := by simpa using k2
      have cF : conB N (L ++ [(a, b, n), (b, a, 0 - n)]) = false := by
        cases h : conB N (L ++ [(a, b, n), (b, a, 0 - n)])
        · rfl
        · have := of_decide_eq_false k2; have := (tc.1 h).2; rw [q6] at *; omega
      have g1 : (!((conF (withF N L [(a, b, n), (b, a, 0 - n)]).1.1 (withF N L [(a, b, n), (b, a, 0 - n)]).1.2).1 == decide (n ≥ 0 - (bndF N L b a).1))) = false := by rw [f1, cF, k2]; rfl
      have g2 : (!(conF (withF N L [(a, b, n), (b, a, 0 - n)]).1.1 (withF N L [(a, b, n), (b, a, 0 - n)]).1.2).1) = true := by rw [f1, cF]; rfl
      repeat' ((conv => whnf); (first | apply And.intro | (intro h9; first | (have h8 : (_ : Bool) = false := h9; exfalso; clear h8; revert h9; subst_vars; intro h9; exact ft_no (h9.symm.trans (by assumption))) | (have h8 : (_ : Bool) = true := h9; exfalso; clear h8; revert h9; subst_vars; intro h9; exact tf_no (h9.symm.trans (by assumption))) | skip)))
      all_goals try (conv => whnf)
      all_goals try first
          | exact LexB.mk (by kernel_rfl)
          | exact LexG.mk (by kernel_rfl)
          | exact LexT.mk (by kernel_rfl)
          | exact ForcedP.mk (by kernel_rfl)
          | exact LexP.mk (by kernel_rfl)
          | exact ⟨rfl⟩
          | exact ⟨trivial⟩
          | exact ⟨show L.length ≤ 1000000 by omega⟩
          | (subst_vars; rfl)
      all_goals try first
          | (refine Ob.mk ?_; simp only [inRQ, inR, Duty.of_p]; omega)
          | exact ⟨show (0 : Nat) < 2 by omega⟩
          | exact ⟨Nat.le_of_ble_eq_true rfl⟩
          | exact ⟨show (withF N L [(a, b, n), (b, a, 0 - n)]).1.2.length ≤ 1000000 by rw [w0]; exact Nat.le_trans wl (by omega)⟩
          | (subst_vars; refine Ob.mk ?_; show (inRQ .i64 (0 - (bndF N L b a).1)).p; rw [q6]; simp only [inRQ, inR, Duty.of_p]; omega)
      all_goals subst_vars
      all_goals try simp only [getI]
      all_goals first
          | exact ⟨show (withF N L [(a, b, n), (b, a, 0 - n)]).1.2.length ≤ 1000000 by rw [w0]; exact Nat.le_trans wl (by omega)⟩
          | (refine Ob.mk ?_; show (inRQ .i64 (0 - (bndF N L b a).1)).p; rw [q6]; simp only [inRQ, inR, Duty.of_p]; omega)
  · replace k1 : decide (n ≤ (bndF N L a b).1) = false := by simpa using k1
    have cF : conB N (L ++ [(a, b, n), (b, a, 0 - n)]) = false := by
      cases h : conB N (L ++ [(a, b, n), (b, a, 0 - n)])
      · rfl
      · have := of_decide_eq_false k1; have := (tc.1 h).1; rw [q3] at *; omega
    have g1 : (!((conF (withF N L [(a, b, n), (b, a, 0 - n)]).1.1 (withF N L [(a, b, n), (b, a, 0 - n)]).1.2).1 == false)) = false := by rw [f1, cF]; rfl
    have g2 : (!(conF (withF N L [(a, b, n), (b, a, 0 - n)]).1.1 (withF N L [(a, b, n), (b, a, 0 - n)]).1.2).1) = true := by rw [f1, cF]; rfl
    repeat' ((conv => whnf); (first | apply And.intro | (intro h9; first | (have h8 : (_ : Bool) = false := h9; exfalso; clear h8; revert h9; subst_vars; intro h9; exact ft_no (h9.symm.trans (by assumption))) | (have h8 : (_ : Bool) = true := h9; exfalso; clear h8; revert h9; subst_vars; intro h9; exact tf_no (h9.symm.trans (by assumption))) | skip)))
    all_goals try (conv => whnf)
    all_goals try first
    | exact LexB.mk (by kernel_rfl)
    | exact LexG.mk (by kernel_rfl)
    | exact LexT.mk (by kernel_rfl)
    | exact ForcedP.mk (by kernel_rfl)
    | exact LexP.mk (by kernel_rfl)
    | exact ⟨rfl⟩
    | exact ⟨trivial⟩
    | exact ⟨show L.length ≤ 1000000 by omega⟩
    | (subst_vars; rfl)
    all_goals try first
        | (refine Ob.mk ?_; simp only [inRQ, inR, Duty.of_p]; omega)
        | exact ⟨show (0 : Nat) < 2 by omega⟩
        | exact ⟨Nat.le_of_ble_eq_true rfl⟩
        | exact ⟨show (withF N L [(a, b, n), (b, a, 0 - n)]).1.2.length ≤ 1000000 by rw [w0]; exact Nat.le_trans wl (by omega)⟩
        | (subst_vars; refine Ob.mk ?_; show (inRQ .i64 (0 - (bndF N L b a).1)).p; rw [q6]; simp only [inRQ, inR, Duty.of_p]; omega)
    all_goals subst_vars
    all_goals try simp only [getI]
    all_goals first
        | exact ⟨show (withF N L [(a, b, n), (b, a, 0 - n)]).1.2.length ≤ 1000000 by rw [w0]; exact Nat.le_trans wl (by omega)⟩
        | (refine Ob.mk ?_; show (inRQ .i64 (0 - (bndF N L b a).1)).p; rw [q6]; simp only [inRQ, inR, Duty.of_p]; omega))
end Go.Proofs.Ytlmhkeoblgodiaa
end
