/-
  Texts of the claims on chapter 2: C63. No condition: lemmas and contracts.
-/
import Derived.Test.YtlmhkeoblgodiaaYe17
import Derived.Test.YtlmhkeoblgodiaaYe9
import Derived.Test.YtlmhkeoblgodiaaYe1
set_option linter.all false
section
/-
  Chapter 2: the law ChainTurned. Printed by gen63.py.
-/
namespace Go.Proofs.Ytlmhkeoblgodiaa
open Go Go.Sy Go.Chn
set_option maxRecDepth 100000
set_option maxHeartbeats 4000000
set_option linter.unusedVariables false
set_option linter.unusedSimpArgs false
variable {Γ : Glob}
def fSnnc (D : Int → List Lk → Int → Int → List Duty) (F : Int → List Lk → Int → Int → Tm) : Ctr := .fn fun args rg => match args with
  | [.agg [.v (.int .i64 N0), x0], .a (.v (.int .i64 i0)), .a (.v (.int .i64 i1))] => (match arrOf 44 kL rg x0 with | some (q0, L0) => some (q0 ++ (D N0 L0 i0 i1), F N0 L0 i0 i1) | _ => none)
  | _ => none
theorem fSnnc_ok {f : FuncId} {b : Body} {E : Env} {d : Nat} (hP : ProgOk Try.prog Γ E) (hb : BodyOk Try.prog f b) {D : Int → List Lk → Int → Int → List Duty} {F : Int → List Lk → Int → Int → Tm} (hp : ∀ (N0 : Int) (L0 : List Lk) (i0 : Int) (i1 : Int), (F N0 L0 i0 i1).plain = true)
    (H : ∀ (N0 : Int) (L0 : List Lk) (i0 : Int) (i1 : Int), obl (D N0 L0 i0 i1) → evTop E d b [.agg [vI N0, .sl 0 [] 0 L0.length], .a (vI i0), .a (vI i1)] [.arr 44 kL L0 false false] (fun x _ => eqT x (F N0 L0 i0 i1))) : Ctr.Ok Try.prog Γ f (fSnnc D F) := Ctr.fn_ok (d := d) hP hb (by
  intro args rg q t hF hq
  split at hF
  next N0 x0 i0 i1 =>
    split at hF
    next q0 L0 hx0 =>
      obtain ⟨rfl, rfl⟩ := Prod.mk.inj (Option.some.inj hF); clear hF
      rw [obl_append] at hq
      obtain ⟨hq0, hD⟩ := hq
      obtain ⟨e0, he0⟩ := pas_arr (by simp [kL]) hx0 hq0
      obtain ⟨p0, r0⟩ := he0 [e0] 0 1 rfl (by omega)
      refine ⟨hp _ _ _ _, [e0], [.agg [vI N0, .sl 0 [] 0 L0.length], .a (vI i0), .a (vI i1)], [.arr 44 kL L0 false false], ⟨⟨⟨rfl, p0, trivial⟩, rfl, rfl, trivial⟩, fun r g hg => ?_⟩, H _ _ _ _ hD⟩
      match r, hg with
      | 0, hg => obtain rfl := Option.some.inj hg; exact r0
    next => cases hF
  next => cases hF)
noncomputable def L15 : List (Nat × Ctr) := [(20, c20), (21, c21), (38, c38), (59, c59), (60, c60), (25, c25), (32, c32), (27, c27)]
theorem L15_ok : CsOk Try.prog Γ L15 := ((((((((CsOk.nil.cons (body_of Try.func27 rfl rfl).fn c27_ok).cons (body_of Try.func32 rfl rfl).fn c32_ok).cons (body_of Try.func25 rfl rfl).fn c25_ok).cons (body_of Try.func60 rfl rfl).fn c60_ok).cons (body_of Try.func59 rfl rfl).fn c59_ok).cons (body_of Try.func38 rfl rfl).fn c38_ok).cons (body_of Try.func21 rfl rfl).fn c21_ok).cons (body_of Try.func20 rfl rfl).fn c20_ok)
def tnT (L : List Lk) (i : Nat) : List Lk := (L.take i).map tn
theorem tnT_zero {L : List Lk} : [] = tnT L 0 := rfl
theorem tnT_len {L : List Lk} {i : Nat} (h : i ≤ L.length) : (tnT L i).length = i := by simp [tnT]; omega
theorem tnT_succ {L : List Lk} {i : Nat} (h : i < L.length) : tnT L i ++ [((lk L i).2.1, (lk L i).1, (lk L i).2.2)] = tnT L (i + 1) := by unfold tnT; rw [take_lk h, List.map_append]; rfl
theorem tnT_all {L : List Lk} : tnT L L.length = L.map tn := by unfold tnT; rw [List.take_length]
theorem id_len2 {N : Int} {L : List Lk} : (idF N L).1.length ≤ L.length := by
  unfold idF; split
  · exact Nat.zero_le _
  · exact id_len
attribute [local irreducible] gi lk checkF smallB bndF grF leF clsF idF tnT
def c15 : Ctr := fSnnc (fun _ _ _ _ => []) (fun _ _ _ _ => bl true)
theorem c15_ok : Ctr.Ok Try.prog Γ 15 c15 := fSnnc_ok (d := 0) (prog_ok L15_ok BsOk.nil false 0) (body_of Try.func15 rfl rfl) (fun _ _ _ _ => rfl) (by
  intro N L a b _
  by_cases hs : (!smallB N L) = true
  · repeat' ((conv => whnf); (first | apply And.intro | (intro h9; first | (have h8 : (_ : Bool) = false := h9; exfalso; clear h8; revert h9; subst_vars; intro h9; exact ft_no (h9.symm.trans (by assumption))) | (have h8 : (_ : Bool) = true := h9; exfalso; clear h8; revert h9; subst_vars; intro h9; exact tf_no (h9.symm.trans (by assumption))) | skip)))
    all_goals try (conv => whnf)
    all_goals try first
      | exact LexB.mk (by kernel_rfl)
      | exact LexG.mk (by kernel_rfl)
      | exact LexT.mk (by kernel_rfl)
      | exact Forced.mk (by kernel_rfl)
      | exact LexP.mk (by kernel_rfl)
      | exact ForcedP.mk (by kernel_rfl)
      | exact ⟨Nat.le_of_ble_eq_true rfl⟩
      | exact ⟨rfl⟩
      | exact ⟨trivial⟩
    all_goals subst_vars
    all_goals try first
      | rfl
      | contradiction
      | (refine Ob.mk ?_; simp only [inRQ, inR, Duty.of_p]; omega)
    all_goals first
      | exact ⟨show L.length ≤ 1000000 by omega⟩
  replace hs : (!smallB N L) = false := by simpa using hs
  have hL := small_len hs
  repeat' ((conv => whnf); (first | apply And.intro | (intro h9; first | (have h8 : (_ : Bool) = false := h9; exfalso; clear h8; revert h9; subst_vars; intro h9; exact ft_no (h9.symm.trans (by assumption))) | (have h8 : (_ : Bool) = true := h9; exfalso; clear h8; revert h9; subst_vars; intro h9; exact tf_no (h9.symm.trans (by assumption))) | skip)))
  all_goals try (conv => whnf)
  all_goals try first
    | exact LexB.mk (by kernel_rfl)
    | exact LexG.mk (by kernel_rfl)
    | exact LexT.mk (by kernel_rfl)
    | exact Forced.mk (by kernel_rfl)
    | exact LexP.mk (by kernel_rfl)
    | exact ForcedP.mk (by kernel_rfl)
    | exact ⟨Nat.le_of_ble_eq_true rfl⟩
    | exact ⟨rfl⟩
    | exact ⟨trivial⟩
  all_goals subst_vars
  all_goals try first
    | rfl
    | contradiction
    | (refine Ob.mk ?_; simp only [inRQ, inR, Duty.of_p]; omega)
  all_goals try first
    | exact ⟨show L.length ≤ 1000000 by omega⟩
  refine ⟨Nat, fun i => i ≤ L.length, fun i => ⟨slotsT 161 [1, 2, 3, 7, 8] [.a (vI a), .a (vI b), .a (.p 1 [] 0 0), .a (.p 2 [] 0 0), .a (vI i)], [], [.arr 44 kL L false false, .box true [vI N, .sl 0 [] 0 L.length], .box true [vI N, .sl 3 [] 0 i], .arr 44 kL (tnT L i) true true]⟩, fun i => L.length - i, 0, [0, 1, 2, 1000], Nat.zero_le _, ?_, ?_⟩
  · have e0 : [] = tnT L 0 := tnT_zero
    subst_vars
    repeat' ((conv => whnf); (first | apply And.intro | intro _))
    all_goals first | rfl | trivial | exact Nat.le_of_ble_eq_true rfl | exact ⟨rfl, rfl, rfl⟩ | exact ⟨rfl, rfl, rfl, rfl⟩ | exact ⟨rfl, rfl⟩ | exact e0 | exact e0.symm | exact ⟨rfl, rfl, e0⟩
  rintro i hi
  have tl := tnT_len hi
  by_cases hi1 : i < L.length
  · have p0 : decide ((i : Int) < (L.length : Int)) = true := decide_eq_true (by omega)
    have e1 : List.drop 0 (tnT L i) ++ [((lkA L i).2.1, (lkA L i).1, (lkA L i).2.2)] = tnT L (i + 1) := by rw [lkA_eq]; exact tnT_succ hi1
    repeat' ((conv => whnf); (first | apply And.intro | (intro h9; first | (have h8 : (_ : Bool) = false := h9; exfalso; clear h8; revert h9; subst_vars; intro h9; exact ft_no (h9.symm.trans (by assumption))) | (have h8 : (_ : Bool) = true := h9; exfalso; clear h8; revert h9; subst_vars; intro h9; exact tf_no (h9.symm.trans (by assumption))) | skip)))
    all_goals try (conv => whnf)
    all_goals try first
      | exact LexB.mk (by kernel_rfl)
      | exact LexG.mk (by kernel_rfl)
      | exact LexT.mk (by kernel_rfl)
      | exact Forced.mk (by kernel_rfl)
      | exact LexP.mk (by kernel_rfl)
      | exact ForcedP.mk (by kernel_rfl)
      | exact ⟨Nat.le_of_ble_eq_true rfl⟩
      | exact ⟨rfl⟩
      | exact ⟨trivial⟩
    all_goals subst_vars
    all_goals try first
      | rfl
      | contradiction
      | (refine Ob.mk ?_; simp only [inRQ, inR, Duty.of_p]; omega)
    all_goals try first
      | exact ⟨show L.length ≤ 1000000 by omega⟩
    all_goals try first
      | exact ⟨show 0 ≤ (i : Int) ∧ (i : Int) < (L.length : Int) by omega⟩
      | exact ⟨show 0 + Int.toNat (i : Int) < L.length by omega⟩
      | exact ⟨show 0 + i = (tnT L i).length by omega⟩
      | exact ⟨show (i + 1) * 3 ≤ 1099511627776 by omega⟩
    all_goals
      refine ⟨i + 1, [0, 1, 2, 3], hi1, ?_, by show L.length - (i + 1) < L.length - i; omega⟩
      subst_vars
      repeat' ((conv => whnf); (first | apply And.intro | intro _))
      all_goals first | rfl | trivial | exact Nat.le_of_ble_eq_true rfl | exact ⟨rfl, rfl, rfl⟩ | exact ⟨rfl, rfl, rfl, rfl⟩ | exact ⟨rfl, rfl⟩ | exact e1 | (subst_vars; rfl) | exact ⟨rfl, rfl, e1⟩
  have p0 : decide ((i : Int) < (L.length : Int)) = false := decide_eq_false (by omega)
  obtain rfl : i = L.length := by omega
  have bt := bnd_tn (N := N) (L := L) (a := a) (b := b)
  have gt := gl_tn (N := N) (L := L)
  have ct := cls_tn (N := N) (L := L)
  have it := id_tn (N := N) (L := L)
  rw [← tnT_all] at bt gt ct it
  have i9 := id_len2 (N := N) (L := L)
  have v1 : ((bndF N L a b).2 != (bndF N (tnT L L.length) b a).2) = false := by rw [bt]; simp
  have v2 : ((bndF N L a b).1 != (bndF N (tnT L L.length) b a).1) = false := by rw [bt]; simp
  have v3 : ((grF N L).2 != (leF N (tnT L L.length)).2) = false := by rw [gt.1]; simp
  have v4 : (((grF N L).1.length : Int) != ((leF N (tnT L L.length)).1.length : Int)) = false := by rw [gt.2.1]; simp
  have v5 : ((clsF N L).2 == (clsF N (tnT L L.length)).2) = true := by rw [ct.1]; simp
  have v6 : (((clsF N L).1.length : Int) == ((clsF N (tnT L L.length)).1.length : Int)) = true := by rw [ct.2.1]; simp
  have v7 : ((idF N L).2 == (idF N (tnT L L.length)).2) = true := by rw [it]; simp
  have v8 : decide ((idF N L).1 = (idF N (tnT L L.length)).1) = true := by rw [it]; simp
  obtain ⟨_, g2, g3, g4⟩ := gt
  repeat' ((conv => whnf); (first | apply And.intro | (intro h9; first | (have h8 : (_ : Bool) = false := h9; exfalso; clear h8; revert h9; subst_vars; intro h9; exact ft_no (h9.symm.trans (by assumption))) | (have h8 : (_ : Bool) = true := h9; exfalso; clear h8; revert h9; subst_vars; intro h9; exact tf_no (h9.symm.trans (by assumption))) | skip)))
  all_goals try (conv => whnf)
  all_goals try first
    | exact LexB.mk (by kernel_rfl)
    | exact LexG.mk (by kernel_rfl)
    | exact LexT.mk (by kernel_rfl)
    | exact Forced.mk (by kernel_rfl)
    | exact LexP.mk (by kernel_rfl)
    | exact ForcedP.mk (by kernel_rfl)
    | exact ⟨Nat.le_of_ble_eq_true rfl⟩
    | exact ⟨rfl⟩
    | exact ⟨trivial⟩
  all_goals subst_vars
  all_goals try first
    | rfl
    | contradiction
    | (refine Ob.mk ?_; simp only [inRQ, inR, Duty.of_p]; omega)
  all_goals try first
    | exact ⟨show L.length ≤ 1000000 by omega⟩
    | exact ⟨show (tnT L L.length).length ≤ 1000000 by omega⟩
    | exact ⟨tl.symm⟩
  refine ⟨Nat, fun i => i ≤ (grF N L).1.length, fun i => ⟨slotsT 161 [3, 7, 14, 16, 18] [.a (.p 1 [] 0 0), .a (.p 2 [] 0 0), .a (.sl 4 [] 0 (grF N L).1.length), .a (.sl 5 [] 0 (leF N (tnT L L.length)).1.length), .a (vI i)], [], [.arr 44 kL L false false, .box true [vI N, .sl 0 [] 0 L.length], .box true [vI N, .sl 3 [] 0 L.length], .arr 44 kL (tnT L L.length) true true, .arr 3 kI (grF N L).1 true true, .arr 3 kI (leF N (tnT L L.length)).1 true true]⟩, fun i => (grF N L).1.length - i, 0, [], Nat.zero_le _, ?_, ?_⟩
  · subst_vars
    repeat' ((conv => whnf); (first | apply And.intro | intro _))
    all_goals first | rfl | trivial | exact Nat.le_of_ble_eq_true rfl | exact ⟨rfl, rfl, rfl⟩ | exact ⟨rfl, rfl, rfl, rfl⟩ | exact ⟨rfl, rfl⟩
  rintro i hi2
  by_cases hi3 : i < (grF N L).1.length
  · have p1 : decide ((i : Int) < ((grF N L).1.length : Int)) = true := decide_eq_true (by omega)
    have g5 := g4 i hi3
    have p2 : (e1A (grF N L).1 (i : Int) != 0 - e1A (leF N (tnT L L.length)).1 (i : Int)) = false := by rw [e1A_eq (by omega), e1A_eq (by omega), g5.1]; simp
    have p3 : e1A (leF N (tnT L L.length)).1 (i : Int) = gi (leF N (tnT L L.length)).1 (i : Int) := e1A_eq (by omega)
    repeat' ((conv => whnf); (first | apply And.intro | (intro h9; first | (have h8 : (_ : Bool) = false := h9; exfalso; clear h8; revert h9; subst_vars; intro h9; exact ft_no (h9.symm.trans (by assumption))) | (have h8 : (_ : Bool) = true := h9; exfalso; clear h8; revert h9; subst_vars; intro h9; exact tf_no (h9.symm.trans (by assumption))) | skip)))
    all_goals try (conv => whnf)
    all_goals try first
      | exact LexB.mk (by kernel_rfl)
      | exact LexG.mk (by kernel_rfl)
      | exact LexT.mk (by kernel_rfl)
      | exact Forced.mk (by kernel_rfl)
      | exact LexP.mk (by kernel_rfl)
      | exact ForcedP.mk (by kernel_rfl)
      | exact ⟨Nat.le_of_ble_eq_true rfl⟩
      | exact ⟨rfl⟩
      | exact ⟨trivial⟩
    all_goals subst_vars
    all_goals try first
      | rfl
      | contradiction
      | (refine Ob.mk ?_; simp only [inRQ, inR, Duty.of_p]; omega)
    all_goals try first
      | exact ⟨show L.length ≤ 1000000 by omega⟩
      | exact ⟨show (tnT L L.length).length ≤ 1000000 by omega⟩
      | exact ⟨tl.symm⟩
    all_goals try first
      | exact ⟨show 0 ≤ (i : Int) ∧ (i : Int) < ((grF N L).1.length : Int) by omega⟩
      | exact ⟨show 0 + Int.toNat (i : Int) < (grF N L).1.length by omega⟩
      | exact ⟨show 0 ≤ (i : Int) ∧ (i : Int) < ((leF N (tnT L L.length)).1.length : Int) by omega⟩
      | exact ⟨show 0 + Int.toNat (i : Int) < (leF N (tnT L L.length)).1.length by omega⟩
      | (refine Ob.mk ?_; show (inRQ .i64 (0 - e1A (leF N (tnT L L.length)).1 (i : Int))).p; rw [p3]; simp only [inRQ, inR, Duty.of_p]; omega)
    all_goals
      refine ⟨i + 1, [], hi3, ?_, by show (grF N L).1.length - (i + 1) < (grF N L).1.length - i; omega⟩
      subst_vars
      repeat' ((conv => whnf); (first | apply And.intro | intro _))
      all_goals first | rfl | trivial | exact Nat.le_of_ble_eq_true rfl | exact ⟨rfl, rfl, rfl⟩ | exact ⟨rfl, rfl, rfl, rfl⟩ | exact ⟨rfl, rfl⟩ | (subst_vars; rfl)
  have p1 : decide ((i : Int) < ((grF N L).1.length : Int)) = false := decide_eq_false (by omega)
  repeat' ((conv => whnf); (first | apply And.intro | (intro h9; first | (have h8 : (_ : Bool) = false := h9; exfalso; clear h8; revert h9; subst_vars; intro h9; exact ft_no (h9.symm.trans (by assumption))) | (have h8 : (_ : Bool) = true := h9; exfalso; clear h8; revert h9; subst_vars; intro h9; exact tf_no (h9.symm.trans (by assumption))) | skip)))
  all_goals try (conv => whnf)
  all_goals try first
    | exact LexB.mk (by kernel_rfl)
    | exact LexG.mk (by kernel_rfl)
    | exact LexT.mk (by kernel_rfl)
    | exact Forced.mk (by kernel_rfl)
    | exact LexP.mk (by kernel_rfl)
    | exact ForcedP.mk (by kernel_rfl)
    | exact ⟨Nat.le_of_ble_eq_true rfl⟩
    | exact ⟨rfl⟩
    | exact ⟨trivial⟩
  all_goals subst_vars
  all_goals try first
    | rfl
    | contradiction
    | (refine Ob.mk ?_; simp only [inRQ, inR, Duty.of_p]; omega)
  all_goals try first
    | exact ⟨show L.length ≤ 1000000 by omega⟩
    | exact ⟨show (tnT L L.length).length ≤ 1000000 by omega⟩
    | exact ⟨tl.symm⟩
  all_goals first
    | exact ⟨show (idF N L).1.length ≤ 1000000 by omega⟩
    | exact v8
)
end Go.Proofs.Ytlmhkeoblgodiaa
end
