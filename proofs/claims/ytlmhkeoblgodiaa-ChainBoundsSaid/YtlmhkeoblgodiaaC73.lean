/-
  Texts of the claims on chapter 2: C73. No condition: lemmas and contracts.
-/
import Derived.Test.YtlmhkeoblgodiaaYe5
import Derived.Test.YtlmhkeoblgodiaaYe23
import Derived.Test.YtlmhkeoblgodiaaYe2
import Derived.Test.YtlmhkeoblgodiaaYe13
set_option linter.all false
section
/-
  Chapter 2: the law ChainBounds. Printed by gen73.py.
-/
namespace Go.Proofs.Ytlmhkeoblgodiaa
open Go Go.Sy Go.Chn
set_option maxRecDepth 100000
set_option maxHeartbeats 4000000
set_option linter.unusedVariables false
set_option linter.unusedSimpArgs false
variable {Γ : Glob}
def fSnnd (D : Int → List Lk → Int → Int → List Duty) (F : Int → List Lk → Int → Int → Tm) : Ctr := .fn fun args rg => match args with
  | [.agg [.v (.int .i64 N0), x0], .a (.v (.int .i64 i0)), .a (.v (.int .i64 i1))] => (match arrOf 44 kL rg x0 with | some (q0, L0) => some (q0 ++ (D N0 L0 i0 i1), F N0 L0 i0 i1) | _ => none)
  | _ => none
theorem fSnnd_ok {f : FuncId} {b : Body} {E : Env} {d : Nat} (hP : ProgOk Try.prog Γ E) (hb : BodyOk Try.prog f b) {D : Int → List Lk → Int → Int → List Duty} {F : Int → List Lk → Int → Int → Tm} (hp : ∀ (N0 : Int) (L0 : List Lk) (i0 : Int) (i1 : Int), (F N0 L0 i0 i1).plain = true)
    (H : ∀ (N0 : Int) (L0 : List Lk) (i0 : Int) (i1 : Int), obl (D N0 L0 i0 i1) → evTop E d b [.agg [vI N0, .sl 0 [] 0 L0.length], .a (vI i0), .a (vI i1)] [.arr 44 kL L0 false false] (fun x _ => eqT x (F N0 L0 i0 i1))) : Ctr.Ok Try.prog Γ f (fSnnd D F) := Ctr.fn_ok (d := d) hP hb (by
  intro args rg q t hF hq
  split at hF
  next N0 x0 i0 i1 =>
    split at hF
    next q0 L0 hx0 =>
      obtain ⟨rfl, rfl⟩ := Prod.mk.inj (Option.some.inj hF); clear hF
      rw [obl_append] at hq
      obtain ⟨hq0, hD⟩ := hq
      obtain ⟨e0, he0⟩ := pas_arr (by simp [kL]) hx0 hq0
      obtain ⟨p0, r0⟩ := he0 [e0] 0 1 rfl (by omega)
      refine ⟨hp _ _ _ _, [e0], [.agg [vI N0, .sl 0 [] 0 L0.length], .a (vI i0), .a (vI i1)], [.arr 44 kL L0 false false], ⟨⟨⟨rfl, p0, trivial⟩, rfl, rfl, trivial⟩, fun r g hg => ?_⟩, H _ _ _ _ hD⟩
      match r, hg with
      | 0, hg => obtain rfl := Option.some.inj hg; exact r0
    next => cases hF
  next => cases hF)
noncomputable def Lw5 : List (Nat × Ctr) := [(20, c20), (21, c21), (38, c38), (39, c39), (40, c40), (41, c41), (26, c26), (27, c27), (42, c42), (43, c43)]
theorem Lw5_ok : CsOk Try.prog Γ Lw5 := ((((((((((CsOk.nil.cons (body_of Try.func43 rfl rfl).fn c43_ok).cons (body_of Try.func42 rfl rfl).fn c42_ok).cons (body_of Try.func27 rfl rfl).fn c27_ok).cons (body_of Try.func26 rfl rfl).fn c26_ok).cons (body_of Try.func41 rfl rfl).fn c41_ok).cons (body_of Try.func40 rfl rfl).fn c40_ok).cons (body_of Try.func39 rfl rfl).fn c39_ok).cons (body_of Try.func38 rfl rfl).fn c38_ok).cons (body_of Try.func21 rfl rfl).fn c21_ok).cons (body_of Try.func20 rfl rfl).fn c20_ok)
theorem solB_of {N : Int} {L : List Lk} {X : List Int} (h : (fitF N L X).1 = true) : solB N.toNat L X = true := by
  have hc := (fit_iff.1 h).1
  obtain ⟨_, h2, h3, _⟩ := fit_iff.1 h
  have hN := toNat_of hc
  have e1 : fitF N L X = (solL X L && (gi X 0 == 0), 0) := ft3 (by rw [hc]; rfl) (by simpa using h2) (by rw [frB_iff.2 h3]; rfl)
  rw [e1] at h
  replace h : (solL X L && (gi X 0 == 0)) = true := h
  simp only [Bool.and_eq_true] at h
  unfold solB
  rw [h.1, h.2, show (X.length == N.toNat) = true by rw [beq_iff_eq]; omega]
  rfl
def o5 (id : Nat) : Option (List Nat) := match Nat.beq id 16 with | true => some [0, 1, 2, 3, 4, 5, 6, 7, 8, 9, 10, 11, 12, 13, 14, 15, 16, 17, 18, 19, 20, 21, 22, 23, 24, 25, 26, 27, 28, 29, 30, 31, 32, 33, 34, 35, 36, 37, 38, 39] | false => none
attribute [local irreducible] gi lk checkF smallB bndF chnF rchF askF rtF solB chnL
def c5 : Ctr := fSnnd (fun _ _ _ _ => []) (fun _ _ _ _ => bl true)
theorem c5_ok : Ctr.Ok Try.prog Γ 5 c5 := fSnnd_ok (d := 0) (E := { tabs.env Lw5 [] false 0 with ord := o5 }) ((prog_ok Lw5_ok BsOk.nil false 0).ords o5) (body_of Try.func5 rfl rfl) (fun _ _ _ _ => rfl) (by
  intro N L a b _
  by_cases hs : (!smallB N L) = true
  · repeat' ((conv => whnf); (first | apply And.intro | (intro h9; first | (have h8 : (_ : Bool) = false := h9; exfalso; clear h8; revert h9; subst_vars; intro h9; exact ft_no (h9.symm.trans (by assumption))) | (have h8 : (_ : Bool) = true := h9; exfalso; clear h8; revert h9; subst_vars; intro h9; exact tf_no (h9.symm.trans (by assumption))) | skip)))
    all_goals try (conv => whnf)
    all_goals try first
      | exact LexB.mk (by kernel_rfl)
      | exact LexG.mk (by kernel_rfl)
      | exact LexT.mk (by kernel_rfl)
      | exact Forced.mk (by kernel_rfl)
      | exact LexP.mk (by kernel_rfl)
      | exact ForcedP.mk (by kernel_rfl)
      | exact ⟨Nat.le_of_ble_eq_true rfl⟩
      | exact ⟨rfl⟩
      | exact ⟨trivial⟩
    all_goals subst_vars
    all_goals try first
      | rfl
      | contradiction
      | (refine Ob.mk ?_; simp only [inRQ, inR, Duty.of_p]; omega)
    all_goals first
      | exact ⟨show L.length ≤ 1000000 by omega⟩
  replace hs : (!smallB N L) = false := by simpa using hs
  have hL := small_len hs
  by_cases h0 : askF N L [a, b] = 0
  case neg =>
    have q : (askF N L [a, b] != 0) = true := by simpa using h0
    have q' : (askF N L [a, b] == 0) = false := by simpa using h0
    have b0 := bnd0 q
    have bz : ((bndF N L a b).2 != 0) = true := by rw [b0]; exact q
    have c0 : chnF N L a b = ([], askF N L [a, b]) := by rw [ch0 bz, b0]
    have r0 : rchF N L a b = ([], askF N L [a, b]) := by rw [rc0 bz, b0]
    have v1 : ((bndF N L a b).2 != askF N L [a, b]) = false := by rw [b0]; simp
    have v2 : ((chnF N L a b).2 != askF N L [a, b]) = false := by rw [c0]; simp
    have v3 : ((rchF N L a b).2 != askF N L [a, b]) = false := by rw [r0]; simp
    have v4 : ((bndF N L a b).1 == 0) = true := by rw [b0]; rfl
    have l1 : (chnF N L a b).1.length = 0 := by rw [c0]; rfl
    have l2 : (rchF N L a b).1.length = 0 := by rw [r0]; rfl
    clear h0
    repeat' ((conv => whnf); (first | apply And.intro | (intro h9; first | (have h8 : (_ : Bool) = false := h9; exfalso; clear h8; revert h9; subst_vars; intro h9; exact ft_no (h9.symm.trans (by assumption))) | (have h8 : (_ : Bool) = true := h9; exfalso; clear h8; revert h9; subst_vars; intro h9; exact tf_no (h9.symm.trans (by assumption))) | skip)))
    all_goals try (conv => whnf)
    all_goals try first
      | exact LexB.mk (by kernel_rfl)
      | exact LexG.mk (by kernel_rfl)
      | exact LexT.mk (by kernel_rfl)
      | exact Forced.mk (by kernel_rfl)
      | exact LexP.mk (by kernel_rfl)
      | exact ForcedP.mk (by kernel_rfl)
      | exact ⟨Nat.le_of_ble_eq_true rfl⟩
      | exact ⟨rfl⟩
      | exact ⟨trivial⟩
    all_goals subst_vars
    all_goals try first
      | rfl
      | contradiction
      | (refine Ob.mk ?_; simp only [inRQ, inR, Duty.of_p]; omega)
    all_goals try first
      | exact ⟨show L.length ≤ 1000000 by omega⟩
      | exact ⟨hN⟩
      | exact ⟨ha⟩
      | exact ⟨show 0 ≤ a ∧ a < ((rtF N L).1.length : Int) by omega⟩
      | exact ⟨show 0 + a.toNat < (rtF N L).1.length by omega⟩
      | exact ⟨show 0 ≤ b ∧ b < ((rwA (rtF N L).1 a).length : Int) by omega⟩
      | exact ⟨show 0 + b.toNat < (rwA (rtF N L).1 a).length by omega⟩
    all_goals first
      | (refine Ob.mk ?_; show (inRQ .i64 (((chnF N L a b).1.length : Int) + ((rchF N L a b).1.length : Int))).p; simp only [inRQ, inR, Duty.of_p]; omega)
      | (show (((chnF N L a b).1.length : Int) + ((rchF N L a b).1.length : Int) == 0) = true; rw [l1, l2]; rfl)
  obtain ⟨ha, hn, h1, h2, hN, hc⟩ := ask_2 h0
  have h11 := h1.1
  have h12 := h1.2
  have h21 := h2.1
  have h22 := h2.2
  have h60 := ha.n
  have q : (askF N L [a, b] != 0) = false := by rw [h0]; rfl
  have q' : (askF N L [a, b] == 0) = true := by rw [h0]; rfl
  have hcon : conB N L = true := (con_iff ha).2 hn
  have r0 : rtF N L = (tgL N L N.toNat, true) := rt1 hcon
  have dl : (rtF N L).1.length = N.toNat := by rw [r0]; exact tg_len
  have dr : rwA (rtF N L).1 a = boundsF N.toNat L [] a := by
    rw [rwA_eq, r0]
    show (tgL N L N.toNat).getD a.toNat [] = _
    rw [tg_get (by omega), Int.toNat_of_nonneg h11]
  have drl : (rwA (rtF N L).1 a).length = N.toNat := by rw [dr]; exact bd_len ha h1
  have de : e1A (rwA (rtF N L).1 a) b = dB N L a b := by rw [dr, e1A_eq h21]; exact dB_eq
  cases k : (e1A (rwA (rtF N L).1 a) b == 1152921504606846976)
  case true =>
    have k' : (dB N L a b == 1152921504606846976) = true := by rw [← de]; exact k
    have b0 := bnd1 q k'
    have bz : ((bndF N L a b).2 != 0) = true := by rw [b0]; rfl
    have c0 : chnF N L a b = ([], 5) := by rw [ch0 bz, b0]
    have r1 : rchF N L a b = ([], 5) := by rw [rc0 bz, b0]
    have v1 : ((bndF N L a b).2 != 5) = false := by rw [b0]; rfl
    have v2 : ((chnF N L a b).2 != 5) = false := by rw [c0]; rfl
    have v3 : ((rchF N L a b).2 != 5) = false := by rw [r1]; rfl
    have v4 : ((bndF N L a b).1 == 0) = true := by rw [b0]; rfl
    have l1 : (chnF N L a b).1.length = 0 := by rw [c0]; rfl
    have l2 : (rchF N L a b).1.length = 0 := by rw [r1]; rfl
    clear h0
    repeat' ((conv => whnf); (first | apply And.intro | (intro h9; first | (have h8 : (_ : Bool) = false := h9; exfalso; clear h8; revert h9; subst_vars; intro h9; exact ft_no (h9.symm.trans (by assumption))) | (have h8 : (_ : Bool) = true := h9; exfalso; clear h8; revert h9; subst_vars; intro h9; exact tf_no (h9.symm.trans (by assumption))) | skip)))
    all_goals try (conv => whnf)
    all_goals try first
      | exact LexB.mk (by kernel_rfl)
      | exact LexG.mk (by kernel_rfl)
      | exact LexT.mk (by kernel_rfl)
      | exact Forced.mk (by kernel_rfl)
      | exact LexP.mk (by kernel_rfl)
      | exact ForcedP.mk (by kernel_rfl)
      | exact ⟨Nat.le_of_ble_eq_true rfl⟩
      | exact ⟨rfl⟩
      | exact ⟨trivial⟩
    all_goals subst_vars
    all_goals try first
      | rfl
      | contradiction
      | (refine Ob.mk ?_; simp only [inRQ, inR, Duty.of_p]; omega)
    all_goals try first
      | exact ⟨show L.length ≤ 1000000 by omega⟩
      | exact ⟨hN⟩
      | exact ⟨ha⟩
      | exact ⟨show 0 ≤ a ∧ a < ((rtF N L).1.length : Int) by omega⟩
      | exact ⟨show 0 + a.toNat < (rtF N L).1.length by omega⟩
      | exact ⟨show 0 ≤ b ∧ b < ((rwA (rtF N L).1 a).length : Int) by omega⟩
      | exact ⟨show 0 + b.toNat < (rwA (rtF N L).1 a).length by omega⟩
    all_goals first
      | (refine Ob.mk ?_; show (inRQ .i64 (((chnF N L a b).1.length : Int) + ((rchF N L a b).1.length : Int))).p; simp only [inRQ, inR, Duty.of_p]; omega)
      | (show (((chnF N L a b).1.length : Int) + ((rchF N L a b).1.length : Int) == 0) = true; rw [l1, l2]; rfl)
  have k' : (dB N L a b == 1152921504606846976) = false := by rw [← de]; exact k
  have hd : dB N L a b ≠ Fr := by unfold Fr; simpa using k'
  have b0 := bnd2 q k'
  have bz : ((bndF N L a b).2 != 0) = false := by rw [b0]; rfl
  have c0 : chnF N L a b = (chnL N L a b, 0) := ch1 bz
  have r1 : rchF N L a b = (rchX N L a b, 0) := rc1 bz
  have ro := rch_ok ha hn h1 h2 hd
  have dR := d_low ha hn h2 (bd_isD ha hn h1 h2).1 hd
  have cok := chn_ok ha hn h1 h2 hd
  have ckk := kB_ok ha hn h1 h2 hd
  have v1 : ((bndF N L a b).2 != askF N L [a, b]) = false := by rw [b0, h0]; rfl
  have v2 : ((chnF N L a b).2 != askF N L [a, b]) = false := by rw [c0, h0]; rfl
  have v3 : ((rchF N L a b).2 != askF N L [a, b]) = false := by rw [r1, h0]; rfl
  have v4 : ((bndF N L a b).1 == e1A (rwA (rtF N L).1 a) b) = true := by rw [b0, de]; simp
  have v5 : decide ((chnF N L a b).1 = chnL N L a b) = true := by rw [c0]; simp
  have v6 : solB N.toNat L (rchF N L a b).1 = true := by rw [r1]; exact solB_of (by rw [rch_fits hc hn h1 h2 hd])
  have l1 : (chnF N L a b).1.length ≤ 60 := by rw [c0]; show (chnL N L a b).length ≤ 60; rw [cok.1]; omega
  have l2 : (rchF N L a b).1.length = N.toNat := by rw [r1]; exact ro.1
  have yd : e1A (rchF N L a b).1 b - e1A (rchF N L a b).1 a = dB N L a b := by rw [e1A_eq h21, e1A_eq h11, r1]; exact ro.2.2.2.2
  have z9 : (e1A (rchF N L a b).1 b - e1A (rchF N L a b).1 a == (bndF N L a b).1) = true := by rw [yd, b0]; simp
  have fy : frM (rchF N L a b).1 := by rw [r1]; exact ro.2.2.1
  have hdq : (rtF N L).1 = tgL N L N.toNat := by rw [r0]
  clear h0
  repeat' ((conv => whnf); (first | apply And.intro | (intro h9; first | (have h8 : (_ : Bool) = false := h9; exfalso; clear h8; revert h9; subst_vars; intro h9; exact ft_no (h9.symm.trans (by assumption))) | (have h8 : (_ : Bool) = true := h9; exfalso; clear h8; revert h9; subst_vars; intro h9; exact tf_no (h9.symm.trans (by assumption))) | skip)))
  all_goals try (conv => whnf)
  all_goals try first
    | exact LexB.mk (by kernel_rfl)
    | exact LexG.mk (by kernel_rfl)
    | exact LexT.mk (by kernel_rfl)
    | exact Forced.mk (by kernel_rfl)
    | exact LexP.mk (by kernel_rfl)
    | exact ForcedP.mk (by kernel_rfl)
    | exact ⟨Nat.le_of_ble_eq_true rfl⟩
    | exact ⟨rfl⟩
    | exact ⟨trivial⟩
  all_goals subst_vars
  all_goals try first
    | rfl
    | contradiction
    | (refine Ob.mk ?_; simp only [inRQ, inR, Duty.of_p]; omega)
  all_goals first
    | exact ⟨show L.length ≤ 1000000 by omega⟩
    | exact ⟨hN⟩
    | exact ⟨ha⟩
    | exact ⟨show 0 ≤ a ∧ a < ((rtF N L).1.length : Int) by omega⟩
    | exact ⟨show 0 + a.toNat < (rtF N L).1.length by omega⟩
    | exact ⟨show 0 ≤ b ∧ b < ((rwA (rtF N L).1 a).length : Int) by omega⟩
    | exact ⟨show 0 + b.toNat < (rwA (rtF N L).1 a).length by omega⟩
    | exact ⟨hcon⟩
    | exact ⟨hdq⟩
    | exact ⟨h11⟩
    | exact ⟨h12⟩
    | exact ⟨h21⟩
    | exact ⟨h22⟩
    | exact ⟨hd⟩
    | exact ⟨show (chnF N L a b).1.length ≤ 1000000 by omega⟩
    | exact ⟨show (rchF N L a b).1.length ≤ 1000 by omega⟩
    | exact ⟨fy⟩
    | exact ⟨show 0 ≤ b ∧ b < ((rchF N L a b).1.length : Int) by omega⟩
    | exact ⟨show 0 + b.toNat < (rchF N L a b).1.length by omega⟩
    | exact ⟨show 0 ≤ a ∧ a < ((rchF N L a b).1.length : Int) by omega⟩
    | exact ⟨show 0 + a.toNat < (rchF N L a b).1.length by omega⟩
    | (refine Ob.mk ?_; show (inRQ .i64 (e1A (rchF N L a b).1 b - e1A (rchF N L a b).1 a)).p; rw [yd]; simp only [inRQ, inR, Duty.of_p]; omega)
    | exact z9
)
end Go.Proofs.Ytlmhkeoblgodiaa
end
