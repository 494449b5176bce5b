/-
  Texts of the claims on chapter 2: C82. No condition: lemmas and contracts.
-/
import Derived.Test.YtlmhkeoblgodiaaYk3
set_option linter.all false
section
/-
  Chapter 2: the law ChainMatters. Printed by gen82.py.
-/
namespace Go.Proofs.Ytlmhkeoblgodiaa
open Go Go.Sy Go.Chn
set_option maxRecDepth 100000
set_option maxHeartbeats 4000000
set_option linter.unusedVariables false
set_option linter.unusedSimpArgs false
variable {Γ : Glob}
noncomputable def Lw4 : List (Nat × Ctr) := [(29, c29), (21, c21), (30, c30), (31, c31), (32, c32), (33, c33), (34, c34), (35, c35), (36, c36), (37, c37), (26, c26), (27, c27)]
theorem Lw4_ok : CsOk Try.prog Γ Lw4 := ((((((((((((CsOk.nil.cons (body_of Try.func27 rfl rfl).fn c27_ok).cons (body_of Try.func26 rfl rfl).fn c26_ok).cons (body_of Try.func37 rfl rfl).fn c37_ok).cons (body_of Try.func36 rfl rfl).fn c36_ok).cons (body_of Try.func35 rfl rfl).fn c35_ok).cons (body_of Try.func34 rfl rfl).fn c34_ok).cons (body_of Try.func33 rfl rfl).fn c33_ok).cons (body_of Try.func32 rfl rfl).fn c32_ok).cons (body_of Try.func31 rfl rfl).fn c31_ok).cons (body_of Try.func30 rfl rfl).fn c30_ok).cons (body_of Try.func21 rfl rfl).fn c21_ok).cons (body_of Try.func29 rfl rfl).fn c29_ok)
def lkX (L : List Lk) (i : Nat) : Lk := @Ar.get ⟨44, kL, L⟩ (0 + Int.toNat (i : Int))
theorem lkX_eq (L : List Lk) (i : Nat) : lkX L i = lk L i := by unfold lkX; rw [Nat.zero_add, Int.toNat_natCast]; rfl
theorem rt_l {N : Int} {L : List Lk} (hc : conB N L = true) : (rtF N L).1.length = N.toNat := by rw [rt1 hc]; exact tg_len
theorem rt_r {N : Int} {L : List Lk} (ha : AskL N.toNat L) (hc : conB N L = true) {a : Int} (h1 : inN N.toNat a) : (rwA (rtF N L).1 a).length = N.toNat := by
  have k1 := h1.1
  have k2 := h1.2
  rw [rwA_eq, rt1 hc]
  show ((tgL N L N.toNat).getD a.toNat []).length = _
  rw [tg_get (by omega)]
  exact bd_len ha ⟨by omega, by omega⟩
theorem rt_e {N : Int} {L : List Lk} (hc : conB N L = true) {a b : Int} (h1 : inN N.toNat a) (h2 : inN N.toNat b) : e2A (rtF N L).1 a b = dB N L a b := by
  rw [e2A_eq h2.1, rt1 hc]; exact tg_tb h1
theorem rsF_len {N : Int} {L : List Lk} : (rsF N L).length ≤ L.length := by
  unfold rsF; split
  · exact Nat.zero_le _
  · exact rs_len
attribute [local irreducible] gi lk checkF conF conB lightB slkF suF idF rdF rsF riL rgF rtF dB askF
def c4 : Ctr := fSn (fun _ _ _ => []) (fun _ _ _ => bl true)
theorem c4_ok : Ctr.Ok Try.prog Γ 4 c4 := fSn_ok (d := 0) (prog_ok Lw4_ok BsOk.nil false 0) (body_of Try.func4 rfl rfl) (fun _ _ _ => rfl) (by
  intro N L w _
  by_cases hs : (!lightB N L) = true
  · repeat' ((conv => whnf); (first | apply And.intro | (intro h9; first | (have h8 : (_ : Bool) = false := h9; exfalso; clear h8; revert h9; subst_vars; intro h9; exact ft_no (h9.symm.trans (by assumption))) | (have h8 : (_ : Bool) = true := h9; exfalso; clear h8; revert h9; subst_vars; intro h9; exact tf_no (h9.symm.trans (by assumption))) | skip)))
    all_goals try (conv => whnf)
    all_goals try first
      | exact LexB.mk (by kernel_rfl)
      | exact LexG.mk (by kernel_rfl)
      | exact LexT.mk (by kernel_rfl)
      | exact Forced.mk (by kernel_rfl)
      | exact LexP.mk (by kernel_rfl)
      | exact ForcedP.mk (by kernel_rfl)
      | exact ⟨Nat.le_of_ble_eq_true rfl⟩
      | exact ⟨rfl⟩
      | exact ⟨trivial⟩
    all_goals subst_vars
    all_goals try first
      | rfl
      | contradiction
      | (refine Ob.mk ?_; simp only [inRQ, inR, Duty.of_p]; omega)
    all_goals try exact ⟨show L.length ≤ 1000000 by omega⟩
  replace hs : (!lightB N L) = false := by simpa using hs
  have hL := light_len hs
  by_cases h0 : (checkF N L).1 = 0
  case neg =>
    have q : ((checkF N L).1 != 0) = true := by simpa using h0
    have qa : askF N L [] = (checkF N L).1 := ask0 q
    have qb : (askF N L [] != 0) = true := by rw [qa]; exact q
    have v1 : slkF N L w = (0, (checkF N L).1) := sl0 q
    have v2 : suF N L = ([], (checkF N L).1) := by rw [su0 (by rw [conF0 q]; exact q), conF0 q]
    have v3 : idF N L = ([], (checkF N L).1) := by rw [id0 qb, qa]
    have v4 : rdF N L = ([], (checkF N L).1) := by rw [rd0 qb, qa]
    have f1 : ((slkF N L w).2 == (checkF N L).1) = true := by rw [v1]; simp
    have f2 : ((suF N L).2 == (checkF N L).1) = true := by rw [v2]; simp
    have f3 : ((idF N L).2 == (checkF N L).1) = true := by rw [v3]; simp
    have f4 : ((rdF N L).2 == (checkF N L).1) = true := by rw [v4]; simp
    have f5 : ((slkF N L w).1 == 0) = true := by rw [v1]; rfl
    have l1 : (suF N L).1.length = 0 := by rw [v2]; rfl
    have l2 : (idF N L).1.length = 0 := by rw [v3]; rfl
    have l3 : (rdF N L).1.length = 0 := by rw [v4]; rfl
    have z9 : (((suF N L).1.length : Int) + ((idF N L).1.length : Int) + ((rdF N L).1.length : Int) == 0) = true := by rw [l1, l2, l3]; rfl
    clear v1 v2 v3 v4
    repeat' ((conv => whnf); (first | apply And.intro | (intro h9; first | (have h8 : (_ : Bool) = false := h9; exfalso; clear h8; revert h9; subst_vars; intro h9; exact ft_no (h9.symm.trans (by assumption))) | (have h8 : (_ : Bool) = true := h9; exfalso; clear h8; revert h9; subst_vars; intro h9; exact tf_no (h9.symm.trans (by assumption))) | skip)))
    all_goals try (conv => whnf)
    all_goals try first
      | exact LexB.mk (by kernel_rfl)
      | exact LexG.mk (by kernel_rfl)
      | exact LexT.mk (by kernel_rfl)
      | exact Forced.mk (by kernel_rfl)
      | exact LexP.mk (by kernel_rfl)
      | exact ForcedP.mk (by kernel_rfl)
      | exact ⟨Nat.le_of_ble_eq_true rfl⟩
      | exact ⟨rfl⟩
      | exact ⟨trivial⟩
    all_goals subst_vars
    all_goals try first
      | rfl
      | contradiction
      | (refine Ob.mk ?_; simp only [inRQ, inR, Duty.of_p]; omega)
    all_goals try first
      | exact ⟨show L.length ≤ 1000000 by omega⟩
      | exact ⟨l1⟩
      | exact ⟨l2⟩
      | exact ⟨l3⟩
      | exact ⟨hN⟩
      | exact ⟨ha⟩
    all_goals try first
      | (refine Ob.mk ?_; show (inRQ .i64 (((suF N L).1.length : Int) + ((idF N L).1.length : Int))).p; simp only [inRQ, inR, Duty.of_p]; omega)
      | (refine Ob.mk ?_; show (inRQ .i64 (((suF N L).1.length : Int) + ((idF N L).1.length : Int) + ((rdF N L).1.length : Int))).p; simp only [inRQ, inR, Duty.of_p]; omega)
      | (refine Ob.mk ?_; show (inRQ .i64 (((idF N L).1.length : Int) + ((rdF N L).1.length : Int))).p; simp only [inRQ, inR, Duty.of_p]; omega)
    all_goals exact z9
  have q : ((checkF N L).1 != 0) = false := by rw [h0]; rfl
  have ha := ask_of h0
  have hN := toNat_of h0
  have hn60 := ha.n
  have su := suF_rsF (N := N) (L := L) h0
  have f2 : ((suF N L).2 != 0) = false := by rw [su]; rfl
  have f3 : (!decide ((suF N L).1 = rsF N L)) = false := by rw [su]; simp
  have l1 : (suF N L).1.length ≤ 1000000 := by rw [su]; show (rsF N L).length ≤ _; have := rsF_len (N := N) (L := L); omega
  clear su
  cases hc : conB N L
  · have rc : (!(rtF N L).2) = true := by rw [rt_2, hc]; rfl
    have qa : askF N L [] = 9 := ask2 q rfl hc
    have qb : (askF N L [] != 0) = true := by rw [qa]; rfl
    have v3 : idF N L = ([], 9) := by rw [id0 qb, qa]
    have v4 : rdF N L = ([], 9) := by rw [rd0 qb, qa]
    have f4 : ((idF N L).2 == 9) = true := by rw [v3]; rfl
    have f5 : ((rdF N L).2 == 9) = true := by rw [v4]; rfl
    have l2 : (idF N L).1.length = 0 := by rw [v3]; rfl
    have l3 : (rdF N L).1.length = 0 := by rw [v4]; rfl
    have z9 : (((idF N L).1.length : Int) + ((rdF N L).1.length : Int) == 0) = true := by rw [l2, l3]; rfl
    clear v3 v4
    by_cases w1 : w < 0
    · have p1 : decide (w < 0) = true := decide_eq_true w1
      have s := sl1 q (.inl w1)
      have g1 : ((slkF N L w).2 != 1) = false := by rw [s]; rfl
      have g2 : ((slkF N L w).1 != 0) = false := by rw [s]; rfl
      repeat' ((conv => whnf); (first | apply And.intro | (intro h9; first | (have h8 : (_ : Bool) = false := h9; exfalso; clear h8; revert h9; subst_vars; intro h9; exact ft_no (h9.symm.trans (by assumption))) | (have h8 : (_ : Bool) = true := h9; exfalso; clear h8; revert h9; subst_vars; intro h9; exact tf_no (h9.symm.trans (by assumption))) | skip)))
      all_goals try (conv => whnf)
      all_goals try first
        | exact LexB.mk (by kernel_rfl)
        | exact LexG.mk (by kernel_rfl)
        | exact LexT.mk (by kernel_rfl)
        | exact Forced.mk (by kernel_rfl)
        | exact LexP.mk (by kernel_rfl)
        | exact ForcedP.mk (by kernel_rfl)
        | exact ⟨Nat.le_of_ble_eq_true rfl⟩
        | exact ⟨rfl⟩
        | exact ⟨trivial⟩
      all_goals subst_vars
      all_goals try first
        | rfl
        | contradiction
        | (refine Ob.mk ?_; simp only [inRQ, inR, Duty.of_p]; omega)
      all_goals try first
        | exact ⟨show L.length ≤ 1000000 by omega⟩
        | exact ⟨l1⟩
        | exact ⟨l2⟩
        | exact ⟨l3⟩
        | exact ⟨hN⟩
        | exact ⟨ha⟩
      all_goals try first
        | (refine Ob.mk ?_; show (inRQ .i64 (((suF N L).1.length : Int) + ((idF N L).1.length : Int))).p; simp only [inRQ, inR, Duty.of_p]; omega)
        | (refine Ob.mk ?_; show (inRQ .i64 (((suF N L).1.length : Int) + ((idF N L).1.length : Int) + ((rdF N L).1.length : Int))).p; simp only [inRQ, inR, Duty.of_p]; omega)
        | (refine Ob.mk ?_; show (inRQ .i64 (((idF N L).1.length : Int) + ((rdF N L).1.length : Int))).p; simp only [inRQ, inR, Duty.of_p]; omega)
      all_goals exact z9
    have p1 : decide (w < 0) = false := decide_eq_false w1
    by_cases w2 : (L.length : Int) ≤ w
    · have p2 : decide (w ≥ (L.length : Int)) = true := decide_eq_true w2
      have s := sl1 q (.inr w2)
      have g1 : ((slkF N L w).2 != 1) = false := by rw [s]; rfl
      have g2 : ((slkF N L w).1 != 0) = false := by rw [s]; rfl
      repeat' ((conv => whnf); (first | apply And.intro | (intro h9; first | (have h8 : (_ : Bool) = false := h9; exfalso; clear h8; revert h9; subst_vars; intro h9; exact ft_no (h9.symm.trans (by assumption))) | (have h8 : (_ : Bool) = true := h9; exfalso; clear h8; revert h9; subst_vars; intro h9; exact tf_no (h9.symm.trans (by assumption))) | skip)))
      all_goals try (conv => whnf)
      all_goals try first
        | exact LexB.mk (by kernel_rfl)
        | exact LexG.mk (by kernel_rfl)
        | exact LexT.mk (by kernel_rfl)
        | exact Forced.mk (by kernel_rfl)
        | exact LexP.mk (by kernel_rfl)
        | exact ForcedP.mk (by kernel_rfl)
        | exact ⟨Nat.le_of_ble_eq_true rfl⟩
        | exact ⟨rfl⟩
        | exact ⟨trivial⟩
      all_goals subst_vars
      all_goals try first
        | rfl
        | contradiction
        | (refine Ob.mk ?_; simp only [inRQ, inR, Duty.of_p]; omega)
      all_goals try first
        | exact ⟨show L.length ≤ 1000000 by omega⟩
        | exact ⟨l1⟩
        | exact ⟨l2⟩
        | exact ⟨l3⟩
        | exact ⟨hN⟩
        | exact ⟨ha⟩
      all_goals try first
        | (refine Ob.mk ?_; show (inRQ .i64 (((suF N L).1.length : Int) + ((idF N L).1.length : Int))).p; simp only [inRQ, inR, Duty.of_p]; omega)
        | (refine Ob.mk ?_; show (inRQ .i64 (((suF N L).1.length : Int) + ((idF N L).1.length : Int) + ((rdF N L).1.length : Int))).p; simp only [inRQ, inR, Duty.of_p]; omega)
        | (refine Ob.mk ?_; show (inRQ .i64 (((idF N L).1.length : Int) + ((rdF N L).1.length : Int))).p; simp only [inRQ, inR, Duty.of_p]; omega)
      all_goals exact z9
    have p2 : decide (w ≥ (L.length : Int)) = false := decide_eq_false w2
    have s := sl2 q (w := w) (by omega) hc
    have g1 : ((slkF N L w).2 != 9) = false := by rw [s]; rfl
    have g2 : ((slkF N L w).1 != 0) = false := by rw [s]; rfl
    repeat' ((conv => whnf); (first | apply And.intro | (intro h9; first | (have h8 : (_ : Bool) = false := h9; exfalso; clear h8; revert h9; subst_vars; intro h9; exact ft_no (h9.symm.trans (by assumption))) | (have h8 : (_ : Bool) = true := h9; exfalso; clear h8; revert h9; subst_vars; intro h9; exact tf_no (h9.symm.trans (by assumption))) | skip)))
    all_goals try (conv => whnf)
    all_goals try first
      | exact LexB.mk (by kernel_rfl)
      | exact LexG.mk (by kernel_rfl)
      | exact LexT.mk (by kernel_rfl)
      | exact Forced.mk (by kernel_rfl)
      | exact LexP.mk (by kernel_rfl)
      | exact ForcedP.mk (by kernel_rfl)
      | exact ⟨Nat.le_of_ble_eq_true rfl⟩
      | exact ⟨rfl⟩
      | exact ⟨trivial⟩
    all_goals subst_vars
    all_goals try first
      | rfl
      | contradiction
      | (refine Ob.mk ?_; simp only [inRQ, inR, Duty.of_p]; omega)
    all_goals try first
      | exact ⟨show L.length ≤ 1000000 by omega⟩
      | exact ⟨l1⟩
      | exact ⟨l2⟩
      | exact ⟨l3⟩
      | exact ⟨hN⟩
      | exact ⟨ha⟩
    all_goals try first
      | (refine Ob.mk ?_; show (inRQ .i64 (((suF N L).1.length : Int) + ((idF N L).1.length : Int))).p; simp only [inRQ, inR, Duty.of_p]; omega)
      | (refine Ob.mk ?_; show (inRQ .i64 (((suF N L).1.length : Int) + ((idF N L).1.length : Int) + ((rdF N L).1.length : Int))).p; simp only [inRQ, inR, Duty.of_p]; omega)
      | (refine Ob.mk ?_; show (inRQ .i64 (((idF N L).1.length : Int) + ((rdF N L).1.length : Int))).p; simp only [inRQ, inR, Duty.of_p]; omega)
    all_goals exact z9
  have rc : (!(rtF N L).2) = false := by rw [rt_2, hc]; rfl
  have qa : askF N L [] = 0 := ask_iff.2 ⟨h0, rfl, hc⟩
  have qb : (askF N L [] != 0) = false := by rw [qa]; rfl
  have v3 := id1 qb
  have v4 := rd_rg qa
  have f4 : ((idF N L).2 == 0) = true := by rw [v3]; rfl
  have f5 : ((rdF N L).2 == 0) = true := by rw [rd1 qb]; rfl
  have f6 : decide ((idF N L).1 = riL N L L.length) = true := by rw [v3]; exact decide_eq_true (id_ri ha hc)
  have z9 : decide ((rdF N L).1 = rgF N L) = true := decide_eq_true v4
  have l2 : (idF N L).1.length ≤ 1000000 := by rw [v3]; show (idL N L L.length).length ≤ _; have := id_len (N := N) (L := L) (i := L.length); omega
  have l3 : (rdF N L).1.length ≤ 1000000 := by rw [v4]; unfold rgF; have := go_len (X := rgS N L L.length) (i := L.length); omega
  clear v3 v4
  by_cases w1 : w < 0
  · have p1 : decide (w < 0) = true := decide_eq_true w1
    have s := sl1 q (.inl w1)
    have g1 : ((slkF N L w).2 != 1) = false := by rw [s]; rfl
    have g2 : ((slkF N L w).1 != 0) = false := by rw [s]; rfl
    repeat' ((conv => whnf); (first | apply And.intro | (intro h9; first | (have h8 : (_ : Bool) = false := h9; exfalso; clear h8; revert h9; subst_vars; intro h9; exact ft_no (h9.symm.trans (by assumption))) | (have h8 : (_ : Bool) = true := h9; exfalso; clear h8; revert h9; subst_vars; intro h9; exact tf_no (h9.symm.trans (by assumption))) | skip)))
    all_goals try (conv => whnf)
    all_goals try first
      | exact LexB.mk (by kernel_rfl)
      | exact LexG.mk (by kernel_rfl)
      | exact LexT.mk (by kernel_rfl)
      | exact Forced.mk (by kernel_rfl)
      | exact LexP.mk (by kernel_rfl)
      | exact ForcedP.mk (by kernel_rfl)
      | exact ⟨Nat.le_of_ble_eq_true rfl⟩
      | exact ⟨rfl⟩
      | exact ⟨trivial⟩
    all_goals subst_vars
    all_goals try first
      | rfl
      | contradiction
      | (refine Ob.mk ?_; simp only [inRQ, inR, Duty.of_p]; omega)
    all_goals try first
      | exact ⟨show L.length ≤ 1000000 by omega⟩
      | exact ⟨l1⟩
      | exact ⟨l2⟩
      | exact ⟨l3⟩
      | exact ⟨hN⟩
      | exact ⟨ha⟩
    all_goals exact z9
  have p1 : decide (w < 0) = false := decide_eq_false w1
  by_cases w2 : (L.length : Int) ≤ w
  · have p2 : decide (w ≥ (L.length : Int)) = true := decide_eq_true w2
    have s := sl1 q (.inr w2)
    have g1 : ((slkF N L w).2 != 1) = false := by rw [s]; rfl
    have g2 : ((slkF N L w).1 != 0) = false := by rw [s]; rfl
    repeat' ((conv => whnf); (first | apply And.intro | (intro h9; first | (have h8 : (_ : Bool) = false := h9; exfalso; clear h8; revert h9; subst_vars; intro h9; exact ft_no (h9.symm.trans (by assumption))) | (have h8 : (_ : Bool) = true := h9; exfalso; clear h8; revert h9; subst_vars; intro h9; exact tf_no (h9.symm.trans (by assumption))) | skip)))
    all_goals try (conv => whnf)
    all_goals try first
      | exact LexB.mk (by kernel_rfl)
      | exact LexG.mk (by kernel_rfl)
      | exact LexT.mk (by kernel_rfl)
      | exact Forced.mk (by kernel_rfl)
      | exact LexP.mk (by kernel_rfl)
      | exact ForcedP.mk (by kernel_rfl)
      | exact ⟨Nat.le_of_ble_eq_true rfl⟩
      | exact ⟨rfl⟩
      | exact ⟨trivial⟩
    all_goals subst_vars
    all_goals try first
      | rfl
      | contradiction
      | (refine Ob.mk ?_; simp only [inRQ, inR, Duty.of_p]; omega)
    all_goals try first
      | exact ⟨show L.length ≤ 1000000 by omega⟩
      | exact ⟨l1⟩
      | exact ⟨l2⟩
      | exact ⟨l3⟩
      | exact ⟨hN⟩
      | exact ⟨ha⟩
    all_goals exact z9
  obtain ⟨k, rfl⟩ : ∃ k : Nat, w = k := ⟨w.toNat, by omega⟩
  have p2 : decide ((k : Int) ≥ (L.length : Int)) = false := decide_eq_false w2
  have hk : k < L.length := by omega
  have nd := ha.ok.nd _ (lk_mem' hk)
  have ms := ha.ok.ms _ (lk_mem' hk)
  have hA := lkX_eq L k
  have eE := rt_e hc nd.2 nd.1
  have tl := rt_l hc
  have tr := rt_r ha hc nd.2
  have bR := dB_rng ha hc nd.2 nd.1
  rw [← hA] at nd ms eE tr bR
  have nd1 := nd.1.1
  have nd2 := nd.1.2
  have nd3 := nd.2.1
  have nd4 := nd.2.2
  rw [← eE] at bR
  by_cases hF : (e2A (rtF N L).1 (lkX L k).2.1 (lkX L k).1 == 1152921504606846976) = true
  · have s := sl3 q (w := (k : Int)) (by omega) hc (by rw [Int.toNat_natCast, ← hA, ← eE]; exact hF)
    have g1 : ((slkF N L k).2 != 5) = false := by rw [s]; rfl
    have g2 : ((slkF N L k).1 != 0) = false := by rw [s]; rfl
    clear s eE hA
    repeat' ((conv => whnf); (first | apply And.intro | (intro h9; first | (have h8 : (_ : Bool) = false := h9; exfalso; clear h8; revert h9; subst_vars; intro h9; exact ft_no (h9.symm.trans (by assumption))) | (have h8 : (_ : Bool) = true := h9; exfalso; clear h8; revert h9; subst_vars; intro h9; exact tf_no (h9.symm.trans (by assumption))) | skip)))
    all_goals try (conv => whnf)
    all_goals try first
      | exact LexB.mk (by kernel_rfl)
      | exact LexG.mk (by kernel_rfl)
      | exact LexT.mk (by kernel_rfl)
      | exact Forced.mk (by kernel_rfl)
      | exact LexP.mk (by kernel_rfl)
      | exact ForcedP.mk (by kernel_rfl)
      | exact ⟨Nat.le_of_ble_eq_true rfl⟩
      | exact ⟨rfl⟩
      | exact ⟨trivial⟩
    all_goals subst_vars
    all_goals try first
      | rfl
      | contradiction
      | (refine Ob.mk ?_; simp only [inRQ, inR, Duty.of_p]; omega)
    all_goals try first
      | exact ⟨show L.length ≤ 1000000 by omega⟩
      | exact ⟨l1⟩
      | exact ⟨l2⟩
      | exact ⟨l3⟩
      | exact ⟨hN⟩
      | exact ⟨ha⟩
    all_goals try first
      | exact ⟨show 0 ≤ (k : Int) ∧ (k : Int) < (L.length : Int) by omega⟩
      | exact ⟨show 0 + Int.toNat (k : Int) < L.length by omega⟩
      | exact ⟨show 0 ≤ (lkX L k).2.1 ∧ (lkX L k).2.1 < ((rtF N L).1.length : Int) by omega⟩
      | exact ⟨show 0 + (lkX L k).2.1.toNat < (rtF N L).1.length by omega⟩
      | exact ⟨show 0 ≤ (lkX L k).1 ∧ (lkX L k).1 < ((rwA (rtF N L).1 (lkX L k).2.1).length : Int) by omega⟩
      | exact ⟨show 0 + (lkX L k).1.toNat < (rwA (rtF N L).1 (lkX L k).2.1).length by omega⟩
      | (refine Ob.mk ?_; show (inRQ .i64 ((lkX L k).2.2 + e2A (rtF N L).1 (lkX L k).2.1 (lkX L k).1)).p; simp only [inRQ, inR, Duty.of_p]; omega)
    all_goals exact z9
  replace hF : (e2A (rtF N L).1 (lkX L k).2.1 (lkX L k).1 == 1152921504606846976) = false := by simpa using hF
  have s := sl4 q (w := (k : Int)) (by omega) hc (by rw [Int.toNat_natCast, ← hA, ← eE]; exact hF)
  have g1 : ((slkF N L k).2 != 0) = false := by rw [s]; rfl
  have g2 : ((slkF N L k).1 != (lkX L k).2.2 + e2A (rtF N L).1 (lkX L k).2.1 (lkX L k).1) = false := by
    rw [s, Int.toNat_natCast, ← hA, ← eE]; simp
  clear s eE hA
  repeat' ((conv => whnf); (first | apply And.intro | (intro h9; first | (have h8 : (_ : Bool) = false := h9; exfalso; clear h8; revert h9; subst_vars; intro h9; exact ft_no (h9.symm.trans (by assumption))) | (have h8 : (_ : Bool) = true := h9; exfalso; clear h8; revert h9; subst_vars; intro h9; exact tf_no (h9.symm.trans (by assumption))) | skip)))
  all_goals try (conv => whnf)
  all_goals try first
    | exact LexB.mk (by kernel_rfl)
    | exact LexG.mk (by kernel_rfl)
    | exact LexT.mk (by kernel_rfl)
    | exact Forced.mk (by kernel_rfl)
    | exact LexP.mk (by kernel_rfl)
    | exact ForcedP.mk (by kernel_rfl)
    | exact ⟨Nat.le_of_ble_eq_true rfl⟩
    | exact ⟨rfl⟩
    | exact ⟨trivial⟩
  all_goals subst_vars
  all_goals try first
    | rfl
    | contradiction
    | (refine Ob.mk ?_; simp only [inRQ, inR, Duty.of_p]; omega)
  all_goals try first
    | exact ⟨show L.length ≤ 1000000 by omega⟩
    | exact ⟨l1⟩
    | exact ⟨l2⟩
    | exact ⟨l3⟩
    | exact ⟨hN⟩
    | exact ⟨ha⟩
  all_goals try first
    | exact ⟨show 0 ≤ (k : Int) ∧ (k : Int) < (L.length : Int) by omega⟩
    | exact ⟨show 0 + Int.toNat (k : Int) < L.length by omega⟩
    | exact ⟨show 0 ≤ (lkX L k).2.1 ∧ (lkX L k).2.1 < ((rtF N L).1.length : Int) by omega⟩
    | exact ⟨show 0 + (lkX L k).2.1.toNat < (rtF N L).1.length by omega⟩
    | exact ⟨show 0 ≤ (lkX L k).1 ∧ (lkX L k).1 < ((rwA (rtF N L).1 (lkX L k).2.1).length : Int) by omega⟩
    | exact ⟨show 0 + (lkX L k).1.toNat < (rwA (rtF N L).1 (lkX L k).2.1).length by omega⟩
    | (refine Ob.mk ?_; show (inRQ .i64 ((lkX L k).2.2 + e2A (rtF N L).1 (lkX L k).2.1 (lkX L k).1)).p; simp only [inRQ, inR, Duty.of_p]; omega)
  all_goals exact z9)
end Go.Proofs.Ytlmhkeoblgodiaa
end
