/-
  Texts of the claims on chapter 2: Ye17. No condition: lemmas and contracts.
-/
import Derived.Test.YtlmhkeoblgodiaaYe5
import Derived.Test.YtlmhkeoblgodiaaYe10
set_option linter.all false
section
/-
  Chapter 2: Idle. Printed by gen61.py.
-/
namespace Go.Proofs.Ytlmhkeoblgodiaa
open Go Go.Sy Go.Chn
set_option maxRecDepth 100000
set_option maxHeartbeats 4000000
set_option linter.unusedVariables false
set_option linter.unusedSimpArgs false
variable {Γ : Glob}
/-- The idle links among the first i. -/
def idL (N : Int) (L : List Lk) (i : Nat) : List Int := ((List.range i).filter fun k => idleF N.toNat L [] k).map fun (k : Nat) => (k : Int)
def idF (N : Int) (L : List Lk) : List Int × Int := if askF N L [] ≠ 0 then ([], askF N L []) else (idL N L L.length, 0)
section
variable {N : Int} {L : List Lk} {i : Nat}
theorem id_zero : [] = idL N L 0 := rfl
theorem id_skip (h : idleF N.toNat L [] i = false) : idL N L i = idL N L (i + 1) := by unfold idL; rw [List.range_succ, List.filter_append]; simp [h]
theorem id_put (h : idleF N.toNat L [] i = true) : idL N L i ++ [(i : Int)] = idL N L (i + 1) := by unfold idL; rw [List.range_succ, List.filter_append]; simp [h]
theorem id_len : (idL N L i).length ≤ i := by unfold idL; rw [List.length_map]; exact Nat.le_trans (List.length_filter_le _ _) (by simp)
theorem id0 (h : (askF N L [] != 0) = true) : idF N L = ([], askF N L []) := by unfold idF; rw [if_pos (by simpa using h)]
theorem id1 (h : (askF N L [] != 0) = false) : idF N L = (idL N L L.length, 0) := by unfold idF; rw [if_neg (by simpa using h)]
end
def L32 : List (Nat × Ctr) := [(73, c73), (74, c74)]
theorem L32_ok : CsOk Try.prog Γ L32 := (CsOk.nil.cons (body_of Try.func74 rfl rfl).fn c74_ok).cons (body_of Try.func73 rfl rfl).fn c73_ok
attribute [local irreducible] askF gi lk idleF idL idF
def c32 : Ctr := newS (fun _ L => [(Duty.of (L.length ≤ 1000000))]) (fun N L => ⟨[.arr 3 kI (idF N L).1 true true], .tup [.a (.sl 0 [] 0 (idF N L).1.length), .a (vI (idF N L).2)]⟩)
theorem c32_ok : Ctr.Ok Try.prog Γ 32 c32 := newS_ok (d := 0) (prog_ok L32_ok BsOk.nil false 0) (body_of Try.func32 rfl rfl) (by
  intro N L K ⟨hL, _⟩ hK
  simp only [Duty.of_p] at hL
  by_cases hq : (askF N L [] != 0) = true
  · repeat' ((conv => whnf); (first | apply And.intro | (intro h9; first | (have h8 : (_ : Bool) = false := h9; exfalso; clear h8; revert h9; subst_vars; intro h9; exact ft_no (h9.symm.trans (by assumption))) | (have h8 : (_ : Bool) = true := h9; exfalso; clear h8; revert h9; subst_vars; intro h9; exact tf_no (h9.symm.trans (by assumption))) | skip)))
    all_goals try (conv => whnf)
    all_goals try first
      | exact LexB.mk (by kernel_rfl)
      | exact LexG.mk (by kernel_rfl)
      | exact LexT.mk (by kernel_rfl)
      | exact Forced.mk (by kernel_rfl)
      | exact LexP.mk (by kernel_rfl)
      | exact ForcedP.mk (by kernel_rfl)
      | exact ⟨Nat.le_of_ble_eq_true rfl⟩
      | exact ⟨rfl⟩
      | exact ⟨trivial⟩
    all_goals subst_vars
    all_goals try first
      | rfl
      | contradiction
      | (refine Ob.mk ?_; simp only [inRQ, inR, Duty.of_p]; omega)
    all_goals try first
      | exact ⟨show L.length ≤ 1000000 by omega⟩
      | exact ⟨show L.length ≤ 1099511627776 by omega⟩
    all_goals (exact klE (te := 3) (tg := kI) (by simp [kI]) (by rw [id0 hq] at hK; exact hK) rfl)
  replace hq : (askF N L [] != 0) = false := by simpa using hq
  have h0 : askF N L [] = 0 := by simpa using hq
  obtain ⟨c1, _, c3⟩ := ask_iff.1 h0
  have ha := ask_of c1
  have hN := toNat_of c1
  rw [id1 hq] at hK
  repeat' ((conv => whnf); (first | apply And.intro | (intro h9; first | (have h8 : (_ : Bool) = false := h9; exfalso; clear h8; revert h9; subst_vars; intro h9; exact ft_no (h9.symm.trans (by assumption))) | (have h8 : (_ : Bool) = true := h9; exfalso; clear h8; revert h9; subst_vars; intro h9; exact tf_no (h9.symm.trans (by assumption))) | skip)))
  all_goals try (conv => whnf)
  all_goals try first
    | exact LexB.mk (by kernel_rfl)
    | exact LexG.mk (by kernel_rfl)
    | exact LexT.mk (by kernel_rfl)
    | exact Forced.mk (by kernel_rfl)
    | exact LexP.mk (by kernel_rfl)
    | exact ForcedP.mk (by kernel_rfl)
    | exact ⟨Nat.le_of_ble_eq_true rfl⟩
    | exact ⟨rfl⟩
    | exact ⟨trivial⟩
  all_goals subst_vars
  all_goals try first
    | rfl
    | contradiction
    | (refine Ob.mk ?_; simp only [inRQ, inR, Duty.of_p]; omega)
  all_goals try first
    | exact ⟨show L.length ≤ 1000000 by omega⟩
    | exact ⟨show L.length ≤ 1099511627776 by omega⟩
  refine ⟨Nat, fun i => i ≤ L.length, fun i => ⟨slotsT 27 [1, 5, 14, 15] [.a (.p 1 [] 0 0), .a (.sl 2 [] 0 (idL N L i).length), .a (vI L.length), .a (vI i)], [], [.arr 44 kL L false false, .box true [vI N, .sl 0 [] 0 L.length], .arr 3 kI (idL N L i) true true]⟩, fun i => L.length - i, 0, [0, 1, 1000], Nat.zero_le _, ?_, ?_⟩
  · have e0 : [] = idL N L 0 := by unfold idL; rfl
    have e1 : (idL N L 0).length = 0 := by rw [← e0]; rfl
    subst_vars
    repeat' ((conv => whnf); (first | apply And.intro | intro _))
    all_goals first | rfl | trivial | exact Nat.le_of_ble_eq_true rfl | exact ⟨rfl, rfl, rfl⟩ | exact ⟨rfl, rfl, rfl, rfl⟩ | exact ⟨rfl, rfl⟩ | exact e0 | exact e0.symm | exact e1 | exact e1.symm | exact ⟨rfl, rfl, e0⟩
  rintro i hi
  have il := id_len (N := N) (L := L) (i := i)
  have hll := ha.l
  by_cases hi1 : i < L.length
  · have p0 : decide ((i : Int) < (L.length : Int)) = true := decide_eq_true (by omega)
    have ei : Int.toNat (i : Int) = i := Int.toNat_natCast i
    cases k : idleF N.toNat L [] (Int.toNat (i : Int))
    · have e1 := id_skip (N := N) (L := L) (i := i) (by rw [← ei]; rw [ei]; rw [ei] at k; exact k)
      repeat' ((conv => whnf); (first | apply And.intro | (intro h9; first | (have h8 : (_ : Bool) = false := h9; exfalso; clear h8; revert h9; subst_vars; intro h9; exact ft_no (h9.symm.trans (by assumption))) | (have h8 : (_ : Bool) = true := h9; exfalso; clear h8; revert h9; subst_vars; intro h9; exact tf_no (h9.symm.trans (by assumption))) | skip)))
      all_goals try (conv => whnf)
      all_goals try first
        | exact LexB.mk (by kernel_rfl)
        | exact LexG.mk (by kernel_rfl)
        | exact LexT.mk (by kernel_rfl)
        | exact Forced.mk (by kernel_rfl)
        | exact LexP.mk (by kernel_rfl)
        | exact ForcedP.mk (by kernel_rfl)
        | exact ⟨Nat.le_of_ble_eq_true rfl⟩
        | exact ⟨rfl⟩
        | exact ⟨trivial⟩
      all_goals subst_vars
      all_goals try first
        | rfl
        | contradiction
        | (refine Ob.mk ?_; simp only [inRQ, inR, Duty.of_p]; omega)
      all_goals try first
        | exact ⟨show L.length ≤ 1000000 by omega⟩
        | exact ⟨show L.length ≤ 1099511627776 by omega⟩
      all_goals try first
        | exact ⟨hN⟩
        | exact ⟨ha⟩
        | exact ⟨show (i : Int) < (L.length : Int) by omega⟩
        | exact ⟨Nat.zero_add _⟩
        | exact ⟨show ((idL N L i).length + 1) * 1 ≤ 1099511627776 by omega⟩
      all_goals
        refine ⟨i + 1, [0, 1, 2], hi1, ?_, by show L.length - (i + 1) < L.length - i; omega⟩
        subst_vars
        repeat' ((conv => whnf); (first | apply And.intro | intro _))
        all_goals first | rfl | trivial | exact Nat.le_of_ble_eq_true rfl | exact ⟨rfl, rfl, rfl⟩ | exact ⟨rfl, rfl, rfl, rfl⟩ | exact ⟨rfl, rfl⟩ | exact e1 | exact congrArg List.length e1 | (subst_vars; rfl) | exact ⟨rfl, rfl, e1⟩
    · have e1 := id_put (N := N) (L := L) (i := i) (by rw [ei] at k; exact k)
      have e2 : (idL N L i).length + 1 = (idL N L (i + 1)).length := by rw [← e1]; simp
      repeat' ((conv => whnf); (first | apply And.intro | (intro h9; first | (have h8 : (_ : Bool) = false := h9; exfalso; clear h8; revert h9; subst_vars; intro h9; exact ft_no (h9.symm.trans (by assumption))) | (have h8 : (_ : Bool) = true := h9; exfalso; clear h8; revert h9; subst_vars; intro h9; exact tf_no (h9.symm.trans (by assumption))) | skip)))
      all_goals try (conv => whnf)
      all_goals try first
        | exact LexB.mk (by kernel_rfl)
        | exact LexG.mk (by kernel_rfl)
        | exact LexT.mk (by kernel_rfl)
        | exact Forced.mk (by kernel_rfl)
        | exact LexP.mk (by kernel_rfl)
        | exact ForcedP.mk (by kernel_rfl)
        | exact ⟨Nat.le_of_ble_eq_true rfl⟩
        | exact ⟨rfl⟩
        | exact ⟨trivial⟩
      all_goals subst_vars
      all_goals try first
        | rfl
        | contradiction
        | (refine Ob.mk ?_; simp only [inRQ, inR, Duty.of_p]; omega)
      all_goals try first
        | exact ⟨show L.length ≤ 1000000 by omega⟩
        | exact ⟨show L.length ≤ 1099511627776 by omega⟩
      all_goals try first
        | exact ⟨hN⟩
        | exact ⟨ha⟩
        | exact ⟨show (i : Int) < (L.length : Int) by omega⟩
        | exact ⟨Nat.zero_add _⟩
        | exact ⟨show ((idL N L i).length + 1) * 1 ≤ 1099511627776 by omega⟩
      all_goals
        refine ⟨i + 1, [0, 1, 2], hi1, ?_, by show L.length - (i + 1) < L.length - i; omega⟩
        subst_vars
        repeat' ((conv => whnf); (first | apply And.intro | intro _))
        all_goals first | rfl | trivial | exact Nat.le_of_ble_eq_true rfl | exact ⟨rfl, rfl, rfl⟩ | exact ⟨rfl, rfl, rfl, rfl⟩ | exact ⟨rfl, rfl⟩ | exact e1 | exact e2 | (subst_vars; rfl) | exact ⟨rfl, rfl, e1⟩
  have p0 : decide ((i : Int) < (L.length : Int)) = false := decide_eq_false (by omega)
  obtain rfl : i = L.length := by omega
  repeat' ((conv => whnf); (first | apply And.intro | (intro h9; first | (have h8 : (_ : Bool) = false := h9; exfalso; clear h8; revert h9; subst_vars; intro h9; exact ft_no (h9.symm.trans (by assumption))) | (have h8 : (_ : Bool) = true := h9; exfalso; clear h8; revert h9; subst_vars; intro h9; exact tf_no (h9.symm.trans (by assumption))) | skip)))
  all_goals try (conv => whnf)
  all_goals try first
    | exact LexB.mk (by kernel_rfl)
    | exact LexG.mk (by kernel_rfl)
    | exact LexT.mk (by kernel_rfl)
    | exact Forced.mk (by kernel_rfl)
    | exact LexP.mk (by kernel_rfl)
    | exact ForcedP.mk (by kernel_rfl)
    | exact ⟨Nat.le_of_ble_eq_true rfl⟩
    | exact ⟨rfl⟩
    | exact ⟨trivial⟩
  all_goals subst_vars
  all_goals try first
    | rfl
    | contradiction
    | (refine Ob.mk ?_; simp only [inRQ, inR, Duty.of_p]; omega)
  all_goals try first
    | exact ⟨show L.length ≤ 1000000 by omega⟩
    | exact ⟨show L.length ≤ 1099511627776 by omega⟩
  all_goals exact klC (i := 2) hK rfl rfl)
end Go.Proofs.Ytlmhkeoblgodiaa
end

section
/-
  Chapter 2: the plain law of ChainTurned: all links turned round.
-/
namespace Go.Proofs.Ytlmhkeoblgodiaa
open Go Go.Sy Go.Chn
set_option linter.unusedVariables false
set_option linter.unusedSimpArgs false
theorem tn_inj {a b : Lk} (h : tn a = tn b) : a = b := by
  have := congrArg tn h
  rwa [tn_tn, tn_tn] at this
section
variable {N : Int} {L : List Lk}
theorem lk_tn {k : Nat} (h : k < L.length) : lk (L.map tn) k = tn (lk L k) := by simp [lk, List.getD, h]
theorem used_tn (es : List (Int × Bool)) : ∀ (i : Nat) (L : List Lk), usedF es i (L.map tn) = (usedF es i L).map tn
  | _, [] => rfl
  | i, l :: L => by
    rw [List.map_cons, usedF, usedF, used_tn es (i + 1) L]
    split <;> rfl
theorem bad_tn (l : Lk) : badL N (tn l) = badL N l := by
  show (!nodeB N l.2.1 || !nodeB N l.1 || l.2.1 == l.1 || decide (l.2.2 < -4503599627370496) || decide (l.2.2 > 4503599627370496)) = (!nodeB N l.1 || !nodeB N l.2.1 || l.1 == l.2.1 || decide (l.2.2 < -4503599627370496) || decide (l.2.2 > 4503599627370496))
  rw [Bool.or_comm (!nodeB N l.2.1), show (l.2.1 == l.1) = (l.1 == l.2.1) from by rw [Bool.eq_iff_iff, beq_iff_eq, beq_iff_eq]; exact eq_comm]
theorem check_tn : (checkF N (L.map tn)).1 = (checkF N L).1 := by
  have e : (L.map tn).any (badL N) = L.any (badL N) := by
    rw [List.any_map]
    congr 1
    exact funext fun l => bad_tn l
  unfold checkF
  rw [List.length_map]
  split
  · rfl
  · split
    · rfl
    · rw [ckL_any, ckL_any, e]
theorem nd_comm {a b : Int} : ndB N [a, b] = ndB N [b, a] := by rw [nd_two, nd_two, Bool.and_comm]
theorem ask_tn {a b : Int} : askF N (L.map tn) [a, b] = askF N L [b, a] := by
  unfold askF
  rw [check_tn, nd_comm]
  by_cases h : (checkF N L).1 = 0
  · rw [rev_con (ask_of h) (ask_of (by rw [check_tn]; exact h))]
  · rw [if_pos h, if_pos h]
theorem ask_tn0 : askF N (L.map tn) [] = askF N L [] := by
  unfold askF
  rw [check_tn]
  by_cases h : (checkF N L).1 = 0
  · rw [rev_con (ask_of h) (ask_of (by rw [check_tn]; exact h))]
  · rw [if_pos h, if_pos h]
theorem bnd_tn {a b : Int} : bndF N (L.map tn) b a = bndF N L a b := by
  unfold bndF
  rw [ask_tn]
  by_cases h : askF N L [a, b] = 0
  · obtain ⟨ha, hn, h1, h2, _, hc⟩ := ask_2 h
    rw [rev_d ha (ask_of (by rw [check_tn]; exact hc)) hn h1 h2]
  · rw [if_pos h, if_pos h]
/-- The list of bounds to the node 0, turned, is the list of bounds from it. -/
theorem to_tn (h : askF N L [] = 0) : toL N (L.map tn) N.toNat = boundsF N.toNat L [] 0 := by
  obtain ⟨c1, _, c3⟩ := ask_iff.1 h
  have ha := ask_of c1
  have hb : AskL N.toNat (L.map tn) := ask_of (by rw [check_tn]; exact c1)
  have hn := (con_iff ha).1 c3
  have h60 := ha.n
  have h0 : inN N.toNat 0 := ⟨by omega, by omega⟩
  have l1 := to_len (N := N) (L := L.map tn) (i := N.toNat) (Nat.le_refl _)
  have l2 := bd_len ha h0
  refine List.ext_getElem (by omega) fun i k1 k2 => ?_
  have e1 : gi (toL N (L.map tn) N.toNat) (i : Int) = (toL N (L.map tn) N.toNat)[i] := by simp [gi, List.getD, k1]
  have e2 : gi (boundsF N.toNat L [] 0) (i : Int) = (boundsF N.toNat L [] 0)[i] := by simp [gi, List.getD, k2]
  rw [← e1, ← e2, to_get (by omega), rev_d ha hb hn h0 ⟨by omega, by omega⟩]
  rfl
theorem gl_tn : (leF N (L.map tn)).2 = (grF N L).2 ∧ (leF N (L.map tn)).1.length = (grF N L).1.length ∧ (grF N L).1.length ≤ 60 ∧ ∀ i : Nat, i < (grF N L).1.length → gi (grF N L).1 i = 0 - gi (leF N (L.map tn)).1 i ∧ -1152921504606846976 ≤ gi (leF N (L.map tn)).1 i ∧ gi (leF N (L.map tn)).1 i ≤ 1152921504606846976 := by
  by_cases h : askF N L [] = 0
  · have h' : askF N (L.map tn) [] = 0 := by rw [ask_tn0]; exact h
    have q : (askF N L [] != 0) = false := by rw [h]; rfl
    have q' : (askF N (L.map tn) [] != 0) = false := by rw [h']; rfl
    obtain ⟨c1, _, c3⟩ := ask_iff.1 h
    have ha := ask_of c1
    have hn := (con_iff ha).1 c3
    have h60 := ha.n
    have h0 : inN N.toNat 0 := ⟨by omega, by omega⟩
    have l2 := bd_len ha h0
    cases hg : hasB (boundsF N.toNat L [] 0) 1152921504606846976
    · rw [gr2 q hg, le2 q' (by rw [to_tn h]; exact hg), to_tn h]
      refine ⟨rfl, by show (ngL _ _).length = _; rw [ng_len], by show (boundsF N.toNat L [] 0).length ≤ 60; omega, fun i hi => ?_⟩
      replace hi : i < (boundsF N.toNat L [] 0).length := hi
      show gi (boundsF N.toNat L [] 0) (i : Int) = 0 - gi (ngL (boundsF N.toNat L [] 0) N.toNat) (i : Int) ∧ _
      have e : gi (ngL (boundsF N.toNat L [] 0) N.toNat) (i : Int) = - gi (boundsF N.toNat L [] 0) (i : Int) := by
        have := ng_all (X := boundsF N.toNat L [] 0) (v := (i : Int)) (by omega) (by omega)
        rwa [l2] at this
      have hv : inN N.toNat (i : Int) := ⟨by omega, by omega⟩
      have hne : dB N L 0 i ≠ Fr := has_none (n := 1152921504606846976) hg (gi (boundsF N.toNat L [] 0) i) (gi_mem hv.1 (by omega))
      have := d_low ha hn hv (bd_isD ha hn h0 hv).1 hne
      have e2 : gi (boundsF N.toNat L [] 0) (i : Int) = dB N L 0 i := rfl
      show _ ∧ (-1152921504606846976 ≤ gi (ngL (boundsF N.toNat L [] 0) N.toNat) (i : Int) ∧ gi (ngL (boundsF N.toNat L [] 0) N.toNat) (i : Int) ≤ 1152921504606846976)
      rw [e, e2]
      omega
    · rw [gr1 q hg, le1 q' (by rw [to_tn h]; exact hg)]
      exact ⟨rfl, rfl, Nat.zero_le _, fun i hi => absurd hi (Nat.not_lt_zero i)⟩
  · have q : (askF N L [] != 0) = true := by simpa using h
    have q' : (askF N (L.map tn) [] != 0) = true := by rw [ask_tn0]; exact q
    rw [gr0 q, le0 q', ask_tn0]
    exact ⟨rfl, rfl, Nat.zero_le _, fun i hi => absurd hi (Nat.not_lt_zero i)⟩
theorem cls_tn : (clsF N (L.map tn)).2 = (clsF N L).2 ∧ (clsF N (L.map tn)).1.length = (clsF N L).1.length ∧ (clsF N L).1.length ≤ 60 := by
  by_cases h : (checkF N L).1 = 0
  · have h' : (checkF N (L.map tn)).1 = 0 := by rw [check_tn]; exact h
    have ha := ask_of h
    have hb := ask_of h'
    have h60 := ha.n
    rw [cls_eq0 h, cls_eq0 h', rev_con ha hb]
    by_cases hc : conB N L = true
    · rw [if_pos hc, if_pos hc]; exact ⟨rfl, rfl, Nat.zero_le _⟩
    · rw [if_neg hc, if_neg hc]
      have hf : conB N L = false := by simpa using hc
      exact ⟨rfl, (cls_rev ha hb hf).symm, by have := (cls_ok h hf).1; show (clF N.toNat L).length ≤ 60; omega⟩
  · rw [cls_eq1 h, cls_eq1 (by rw [check_tn]; exact h), check_tn]; exact ⟨rfl, rfl, Nat.zero_le _⟩
theorem less_isD (ha : AskL N.toNat L) (hn : NoNeg L) (es : List (Int × Bool)) {u v : Int} (hu : inN N.toNat u) (hv : inN N.toNat v) : IsD (usedF es 0 L) u v (gi (boundsF N.toNat L es u) v) := by
  have hs : Sub (usedF es 0 L) L := fun l hl => usedF_sub es 0 L l hl
  have hn' := noneg_sub hn hs
  have F := relax_found (es := es) ha.ok (from0_beg hu)
  unfold boundsF
  cases h : (relaxF N.toNat L es (from0 N.toNat u)).1
  · exact absurd hn' (F.no h)
  · exact (F.yes h).1.dist (ha.ok.sub hs) hn' hu (fun v hv => from0_gi hu hv) hv
theorem hit_tn {k i : Nat} (hk : k < L.length) (hi : i < L.length) : hitP (L.map tn) [] k i ↔ hitP L [] k i := by
  unfold hitP
  rw [lk_tn hk, lk_tn hi]
  show ((lk L i).1 = (lk L k).1 ∧ _ ∧ i ≠ k ∧ (lk L i).2.1 = (lk L k).2.1 ∧ (lk L i).2.2 ≤ (lk L k).2.2) ↔ _
  constructor
  · rintro ⟨a, b, c, d, e⟩; exact ⟨d, b, c, a, e⟩
  · rintro ⟨a, b, c, d, e⟩; exact ⟨d, b, c, a, e⟩
theorem idle_tn (ha : AskL N.toNat L) (hb : AskL N.toNat (L.map tn)) (hn : NoNeg L) {k : Nat} (hk : k < L.length) : idleF N.toNat (L.map tn) [] k = idleF N.toNat L [] k := by
  unfold idleF
  rw [List.length_map]
  have e1 : ((List.range L.length).any fun i => decide (hitP (L.map tn) [] k i)) = (List.range L.length).any fun i => decide (hitP L [] k i) := by
    rw [Bool.eq_iff_iff, List.any_eq_true, List.any_eq_true]
    constructor
    · rintro ⟨i, h1, h2⟩
      exact ⟨i, h1, decide_eq_true ((hit_tn hk (List.mem_range.1 h1)).1 (of_decide_eq_true h2))⟩
    · rintro ⟨i, h1, h2⟩
      exact ⟨i, h1, decide_eq_true ((hit_tn hk (List.mem_range.1 h1)).2 (of_decide_eq_true h2))⟩
  have hm := ha.ok.nd _ (lk_mem' hk)
  have e2 : gi (boundsF N.toNat (L.map tn) (lessF [] k) (lk L k).2.1) (lk L k).1 = gi (boundsF N.toNat L (lessF [] k) (lk L k).1) (lk L k).2.1 := by
    have d1 := isD_rev (less_isD ha hn (lessF [] k) hm.1 hm.2)
    rw [← used_tn] at d1
    exact (less_isD hb (noneg_rev hn) (lessF [] k) hm.2 hm.1).uniq d1
  rw [e1, lk_tn hk]
  show (_ || decide (gi (boundsF N.toNat (L.map tn) (lessF [] k) (lk L k).2.1) (lk L k).1 ≤ (lk L k).2.2)) = _
  rw [e2]
theorem id_tn : idF N (L.map tn) = idF N L := by
  by_cases h : askF N L [] = 0
  · have h' : askF N (L.map tn) [] = 0 := by rw [ask_tn0]; exact h
    obtain ⟨c1, _, c3⟩ := ask_iff.1 h
    have ha := ask_of c1
    have hb : AskL N.toNat (L.map tn) := ask_of (by rw [check_tn]; exact c1)
    have hn := (con_iff ha).1 c3
    rw [id1 (L := L) (by rw [h]; rfl), id1 (L := L.map tn) (by rw [h']; rfl), List.length_map]
    unfold idL
    rw [List.filter_congr fun k hk => idle_tn ha hb hn (List.mem_range.1 hk)]
  · rw [id0 (L := L) (by simpa using h), id0 (L := L.map tn) (by rw [ask_tn0]; simpa using h), ask_tn0]
end
end Go.Proofs.Ytlmhkeoblgodiaa
end
