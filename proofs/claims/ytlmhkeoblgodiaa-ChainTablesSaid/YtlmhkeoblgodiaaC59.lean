/-
  Texts of the claims on chapter 2: C59. No condition: lemmas and contracts.
-/
import Derived.Test.YtlmhkeoblgodiaaYe5
import Derived.Test.YtlmhkeoblgodiaaYe13
import Derived.Test.YtlmhkeoblgodiaaYe1
set_option linter.all false
section
/-
  Chapter 2: the law ChainTables. Printed by gen59.py.
-/
namespace Go.Proofs.Ytlmhkeoblgodiaa
open Go Go.Sy Go.Chn
set_option maxRecDepth 100000
set_option maxHeartbeats 4000000
set_option linter.unusedVariables false
set_option linter.unusedSimpArgs false
variable {Γ : Glob}
def fSb (D : Int → List Lk → List Duty) (F : Int → List Lk → Tm) : Ctr := .fn fun args rg => match args with
  | [.agg [.v (.int .i64 N0), x0]] => (match arrOf 44 kL rg x0 with | some (q0, L0) => some (q0 ++ (D N0 L0), F N0 L0) | _ => none)
  | _ => none
theorem fSb_ok {f : FuncId} {b : Body} {E : Env} {d : Nat} (hP : ProgOk Try.prog Γ E) (hb : BodyOk Try.prog f b) {D : Int → List Lk → List Duty} {F : Int → List Lk → Tm} (hp : ∀ (N0 : Int) (L0 : List Lk), (F N0 L0).plain = true)
    (H : ∀ (N0 : Int) (L0 : List Lk), obl (D N0 L0) → evTop E d b [.agg [vI N0, .sl 0 [] 0 L0.length]] [.arr 44 kL L0 false false] (fun x _ => eqT x (F N0 L0))) : Ctr.Ok Try.prog Γ f (fSb D F) := Ctr.fn_ok (d := d) hP hb (by
  intro args rg q t hF hq
  split at hF
  next N0 x0 =>
    split at hF
    next q0 L0 hx0 =>
      obtain ⟨rfl, rfl⟩ := Prod.mk.inj (Option.some.inj hF); clear hF
      rw [obl_append] at hq
      obtain ⟨hq0, hD⟩ := hq
      obtain ⟨e0, he0⟩ := pas_arr (by simp [kL]) hx0 hq0
      obtain ⟨p0, r0⟩ := he0 [e0] 0 1 rfl (by omega)
      refine ⟨hp _ _, [e0], [.agg [vI N0, .sl 0 [] 0 L0.length]], [.arr 44 kL L0 false false], ⟨⟨⟨rfl, p0, trivial⟩, trivial⟩, fun r g hg => ?_⟩, H _ _ hD⟩
      match r, hg with
      | 0, hg => obtain rfl := Option.some.inj hg; exact r0
    next => cases hF
  next => cases hF)
noncomputable def L18 : List (Nat × Ctr) := [(20, c20), (21, c21), (44, c44), (62, c62), (59, c59), (60, c60), (41, c41), (26, c26), (46, c46), (27, c27)]
theorem L18_ok : CsOk Try.prog Γ L18 := ((((((((((CsOk.nil.cons (body_of Try.func27 rfl rfl).fn c27_ok).cons (body_of Try.func46 rfl rfl).fn c46_ok).cons (body_of Try.func26 rfl rfl).fn c26_ok).cons (body_of Try.func41 rfl rfl).fn c41_ok).cons (body_of Try.func60 rfl rfl).fn c60_ok).cons (body_of Try.func59 rfl rfl).fn c59_ok).cons (body_of Try.func62 rfl rfl).fn c62_ok).cons (body_of Try.func44 rfl rfl).fn c44_ok).cons (body_of Try.func21 rfl rfl).fn c21_ok).cons (body_of Try.func20 rfl rfl).fn c20_ok)
/-- The bounds of the first i nodes, there and back, and the errors. -/
def upL (N : Int) (L : List Lk) (i : Nat) : List Int := (boundsF N.toNat L [] 0).take i
def dnL (N : Int) (L : List Lk) (i : Nat) : List Int := ((toL N L N.toNat).take i).map fun x => 0 - x
def hiN (N : Int) (L : List Lk) (i : Nat) : Int := if hasB (upL N L i) 1152921504606846976 = true then 5 else 0
def loN (N : Int) (L : List Lk) (i : Nat) : Int := if hasB ((toL N L N.toNat).take i) 1152921504606846976 = true then 5 else 0
theorem take_gi {X : List Int} {i : Nat} (h : i < X.length) : X.take (i + 1) = X.take i ++ [gi X (i : Int)] := by
  have e : gi X (i : Int) = X[i] := by simp [gi, List.getD, h]
  rw [List.take_add_one, List.getElem?_eq_getElem h, e]; rfl
theorem hasB_snoc {n y : Int} : ∀ {X : List Int}, hasB (X ++ [y]) n = (hasB X n || (y == n))
  | [] => by
    show (if y = n then true else false) = _
    by_cases h : y = n <;> simp [hasB, h]
  | x :: X => by
    rw [List.cons_append, hasB, hasB, hasB_snoc]
    split
    · simp
    · rfl
section
variable {N : Int} {L : List Lk} {i : Nat}
theorem up_succ (h : i < (boundsF N.toNat L [] 0).length) : upL N L i ++ [dB N L 0 (i : Int)] = upL N L (i + 1) := by unfold upL; rw [take_gi h]; rfl
theorem dn_succ (h : i < N.toNat) : dnL N L i ++ [0 - dB N L (i : Int) 0] = dnL N L (i + 1) := by
  have hl := to_len (N := N) (L := L) (i := N.toNat) (Nat.le_refl _)
  unfold dnL; rw [take_gi (by omega), List.map_append, to_get h]; rfl
theorem hi_succ (h : i < (boundsF N.toNat L [] 0).length) : hiN N L (i + 1) = if (dB N L 0 (i : Int) == 1152921504606846976) = true then 5 else hiN N L i := by
  unfold hiN; rw [← up_succ h, hasB_snoc]
  cases hasB (upL N L i) 1152921504606846976 <;> cases (dB N L 0 (i : Int) == 1152921504606846976) <;> rfl
theorem lo_succ (h : i < N.toNat) : loN N L (i + 1) = if (dB N L (i : Int) 0 == 1152921504606846976) = true then 5 else loN N L i := by
  have hl := to_len (N := N) (L := L) (i := N.toNat) (Nat.le_refl _)
  unfold loN; rw [take_gi (by omega), hasB_snoc, to_get h]
  cases hasB ((toL N L N.toNat).take i) 1152921504606846976 <;> cases (dB N L (i : Int) 0 == 1152921504606846976) <;> rfl
theorem up_len (h : i ≤ (boundsF N.toNat L [] 0).length) : (upL N L i).length = i := by unfold upL; simp; omega
theorem dn_len (h : i ≤ N.toNat) : (dnL N L i).length = i := by
  have hl := to_len (N := N) (L := L) (i := N.toNat) (Nat.le_refl _)
  unfold dnL; simp; omega
theorem ask00 : askF N L [0, 0] = askF N L [] := by
  unfold askF
  by_cases h : (checkF N L).1 = 0
  · have ha := ask_of h
    have hn := ha.n
    have h0 : nodeB N 0 = true := nodeB_iff.2 ⟨by omega, by omega⟩
    rw [if_neg (not_not_intro h), if_neg (not_not_intro h), nd_two, h0]; rfl
  · rw [if_pos h, if_pos h]
end
def spA (S : List (Int × Int)) (i : Nat) : Int × Int := @Ar.get ⟨78, kS, S⟩ (0 + Int.toNat (i : Int))
theorem spA_eq {S : List (Int × Int)} {i : Nat} : spA S i = S.getD i (0, 0) := by unfold spA; rw [Nat.zero_add, Int.toNat_natCast]; rfl
theorem tg_rows2 {N : Int} {L : List Lk} (h0 : askF N L [] = 0) : (tgF N L).1.length ≤ 1000000 ∧ rowsM (tgF N L).1 := by
  obtain ⟨c1, _, c3⟩ := ask_iff.1 h0
  have ha := ask_of c1
  have hn := ha.n
  rw [tgF1 (by rw [h0]; rfl)]
  refine ⟨by show (tgL N L N.toNat).length ≤ 1000000; rw [tg_len]; omega, fun r hr => ?_⟩
  obtain ⟨u, hu, rfl⟩ := List.mem_map.1 hr
  rw [bd_len ha ⟨by omega, by have := List.mem_range.1 hu; omega⟩]
  omega
attribute [local irreducible] gi lk checkF smallB tgF spF grF leF rtF askF upL dnL hiN loN dB
def c18 : Ctr := fSb (fun _ _ => []) (fun _ _ => bl true)
theorem c18_ok : Ctr.Ok Try.prog Γ 18 c18 := fSb_ok (d := 0) (prog_ok L18_ok BsOk.nil false 0) (body_of Try.func18 rfl rfl) (fun _ _ => rfl) (by
  intro N L _
  by_cases hs : (!smallB N L) = true
  · repeat' ((conv => whnf); (first | apply And.intro | (intro h9; first | (have h8 : (_ : Bool) = false := h9; exfalso; clear h8; revert h9; subst_vars; intro h9; exact ft_no (h9.symm.trans (by assumption))) | (have h8 : (_ : Bool) = true := h9; exfalso; clear h8; revert h9; subst_vars; intro h9; exact tf_no (h9.symm.trans (by assumption))) | skip)))
    all_goals try (conv => whnf)
    all_goals try first
      | exact LexB.mk (by kernel_rfl)
      | exact LexG.mk (by kernel_rfl)
      | exact LexT.mk (by kernel_rfl)
      | exact Forced.mk (by kernel_rfl)
      | exact LexP.mk (by kernel_rfl)
      | exact ForcedP.mk (by kernel_rfl)
      | exact ⟨Nat.le_of_ble_eq_true rfl⟩
      | exact ⟨rfl⟩
      | exact ⟨trivial⟩
    all_goals subst_vars
    all_goals try first
      | rfl
      | contradiction
      | (refine Ob.mk ?_; simp only [inRQ, inR, Duty.of_p]; omega)
    all_goals first
      | exact ⟨show L.length ≤ 1000000 by omega⟩
  replace hs : (!smallB N L) = false := by simpa using hs
  have hL := small_len hs
  have a0 := ask00 (N := N) (L := L)
  by_cases h0 : (askF N L [0, 0] != 0) = true
  · have h0' : (askF N L [] != 0) = true := by rw [← a0]; exact h0
    have v1 : ((tgF N L).2 != askF N L [0, 0]) = false := by rw [tgF0 h0', a0]; simp
    have v2 : ((spF N L).2 != askF N L [0, 0]) = false := by rw [spF0 h0', a0]; simp
    have v3 : ((grF N L).2 == askF N L [0, 0]) = true := by rw [gr0 h0', a0]; simp
    have v4 : ((leF N L).2 == askF N L [0, 0]) = true := by rw [le0 h0', a0]; simp
    have l1 : (tgF N L).1.length = 0 := by rw [tgF0 h0']; rfl
    have l2 : (spF N L).1.length = 0 := by rw [spF0 h0']; rfl
    have l3 : (grF N L).1.length = 0 := by rw [gr0 h0']; rfl
    have l4 : (leF N L).1.length = 0 := by rw [le0 h0']; rfl
    clear a0
    repeat' ((conv => whnf); (first | apply And.intro | (intro h9; first | (have h8 : (_ : Bool) = false := h9; exfalso; clear h8; revert h9; subst_vars; intro h9; exact ft_no (h9.symm.trans (by assumption))) | (have h8 : (_ : Bool) = true := h9; exfalso; clear h8; revert h9; subst_vars; intro h9; exact tf_no (h9.symm.trans (by assumption))) | skip)))
    all_goals try (conv => whnf)
    all_goals try first
      | exact LexB.mk (by kernel_rfl)
      | exact LexG.mk (by kernel_rfl)
      | exact LexT.mk (by kernel_rfl)
      | exact Forced.mk (by kernel_rfl)
      | exact LexP.mk (by kernel_rfl)
      | exact ForcedP.mk (by kernel_rfl)
      | exact ⟨Nat.le_of_ble_eq_true rfl⟩
      | exact ⟨rfl⟩
      | exact ⟨trivial⟩
    all_goals subst_vars
    all_goals try first
      | rfl
      | contradiction
      | (refine Ob.mk ?_; simp only [inRQ, inR, Duty.of_p]; omega)
    all_goals try first
      | exact ⟨show L.length ≤ 1000000 by omega⟩
    all_goals first
      | (refine Ob.mk ?_; show (inRQ .i64 (((tgF N L).1.length : Int) + ((spF N L).1.length : Int))).p; simp only [inRQ, inR, Duty.of_p]; omega)
      | (refine Ob.mk ?_; show (inRQ .i64 (((tgF N L).1.length : Int) + ((spF N L).1.length : Int) + ((grF N L).1.length : Int))).p; simp only [inRQ, inR, Duty.of_p]; omega)
      | (refine Ob.mk ?_; show (inRQ .i64 (((tgF N L).1.length : Int) + ((spF N L).1.length : Int) + ((grF N L).1.length : Int) + ((leF N L).1.length : Int))).p; simp only [inRQ, inR, Duty.of_p]; omega)
      | (show ((((tgF N L).1.length : Int) + ((spF N L).1.length : Int) + ((grF N L).1.length : Int) + ((leF N L).1.length : Int)) == 0) = true; rw [l1, l2, l3, l4]; rfl)
  replace h0 : (askF N L [0, 0] != 0) = false := by simpa using h0
  have h0' : (askF N L [] != 0) = false := by rw [← a0]; exact h0
  have h00 : askF N L [] = 0 := by simpa using h0'
  obtain ⟨c1, _, c3⟩ := ask_iff.1 h00
  have ha := ask_of c1
  have hN := toNat_of c1
  have hn := (con_iff ha).1 c3
  have hn60 := ha.n
  have t0 : tgF N L = (tgL N L N.toNat, 0) := tgF1 h0'
  have s0 : spF N L = (spL N L N.toNat, 0) := spF1 h0'
  have r0 : rtF N L = (tgL N L N.toNat, true) := rt1 c3
  have v1 : ((tgF N L).2 != askF N L [0, 0]) = false := by rw [t0, a0, h00]; rfl
  have v2 : ((spF N L).2 != askF N L [0, 0]) = false := by rw [s0, a0, h00]; rfl
  repeat' ((conv => whnf); (first | apply And.intro | (intro h9; first | (have h8 : (_ : Bool) = false := h9; exfalso; clear h8; revert h9; subst_vars; intro h9; exact ft_no (h9.symm.trans (by assumption))) | (have h8 : (_ : Bool) = true := h9; exfalso; clear h8; revert h9; subst_vars; intro h9; exact tf_no (h9.symm.trans (by assumption))) | skip)))
  all_goals try (conv => whnf)
  all_goals try first
    | exact LexB.mk (by kernel_rfl)
    | exact LexG.mk (by kernel_rfl)
    | exact LexT.mk (by kernel_rfl)
    | exact Forced.mk (by kernel_rfl)
    | exact LexP.mk (by kernel_rfl)
    | exact ForcedP.mk (by kernel_rfl)
    | exact ⟨Nat.le_of_ble_eq_true rfl⟩
    | exact ⟨rfl⟩
    | exact ⟨trivial⟩
  all_goals subst_vars
  all_goals try first
    | rfl
    | contradiction
    | (refine Ob.mk ?_; simp only [inRQ, inR, Duty.of_p]; omega)
  all_goals try first
    | exact ⟨show L.length ≤ 1000000 by omega⟩
  all_goals try first
    | exact ⟨hN⟩
    | exact ⟨ha⟩
  have rl : (rtF N L).1.length = N.toNat := by rw [r0]; exact tg_len
  have tl : (tgF N L).1.length = N.toNat := by rw [t0]; exact tg_len
  have sl : (spF N L).1.length = N.toNat := by rw [s0]; exact sp_len
  have h0i : inN N.toNat 0 := ⟨by omega, by omega⟩
  have bl : (boundsF N.toNat L [] 0).length = N.toNat := bd_len ha h0i
  have rE : ∀ a b : Int, inN N.toNat a → inN N.toNat b → e2A (rtF N L).1 a b = dB N L a b := fun a b h1 h2 => by
    rw [e2A_eq h2.1, r0]; exact tg_tb h1
  have rR : ∀ a : Int, inN N.toNat a → (rwA (rtF N L).1 a).length = N.toNat := fun a h => by
    have h1 := h.1
    have h2 := h.2
    rw [rwA_eq, r0]
    show ((tgL N L N.toNat).getD a.toNat []).length = _
    rw [tg_get (by omega)]
    exact bd_len ha ⟨by omega, by omega⟩
  refine ⟨Nat, fun i => i ≤ N.toNat, fun i => ⟨slotsT 208 [1, 3, 5, 7, 8, 9, 10, 12, 14, 15, 16, 17, 18] [.a (.p 1 [] 0 0), .a (.sl 2 [] 0 (tgF N L).1.length), .a (.sl 3 [] 0 (spF N L).1.length), .a (.sl 4 [] 0 (grF N L).1.length), .a (vI (grF N L).2), .a (.sl 5 [] 0 (leF N L).1.length), .a (vI (leF N L).2), .a (.sl 6 [] 0 (rtF N L).1.length), .a (.sl 7 [] 0 i), .a (.sl 8 [] 0 i), .a (vI (hiN N L i)), .a (vI (loN N L i)), .a (vI i)], [], [.arr 44 kL L false false, .box true [vI N, .sl 0 [] 0 L.length], .arr 32 kT (tgF N L).1 true true, .arr 78 kS (spF N L).1 true true, .arr 3 kI (grF N L).1 true true, .arr 3 kI (leF N L).1 true true, .arr 32 kT (rtF N L).1 true true, .arr 3 kI (upL N L i) true true, .arr 3 kI (dnL N L i) true true]⟩, fun i => N.toNat - i, 0, [0, 1, 2, 3, 4, 5, 6, 1000, 1001], Nat.zero_le _, ?_, ?_⟩
  · have e0 : [] = upL N L 0 := by unfold upL; simp
    have e1 : [] = dnL N L 0 := by unfold dnL; simp
    have e2 : (0 : Int) = hiN N L 0 := by unfold hiN upL; simp [hasB]
    have e3 : (0 : Int) = loN N L 0 := by unfold loN; simp [hasB]
    subst_vars
    repeat' ((conv => whnf); (first | apply And.intro | intro _))
    all_goals first | rfl | trivial | exact Nat.le_of_ble_eq_true rfl | exact ⟨rfl, rfl, rfl⟩ | exact ⟨rfl, rfl, rfl, rfl⟩ | exact ⟨rfl, rfl⟩ | exact e0 | exact e1 | exact e2 | exact e3 | exact e0.symm | exact e1.symm | exact e2.symm | exact e3.symm | exact ⟨rfl, rfl, e0⟩ | exact ⟨rfl, rfl, e1⟩
  rintro i hi
  have ul : (upL N L i).length = i := up_len (by omega)
  have dl : (dnL N L i).length = i := dn_len hi
  by_cases hi1 : i < N.toNat
  · have p0 : decide ((i : Int) < N) = true := decide_eq_true (by omega)
    have hii : inN N.toNat (i : Int) := ⟨by omega, by omega⟩
    have x1 := rE 0 (i : Int) h0i hii
    have x2 := rE (i : Int) 0 hii h0i
    have y1 := rR 0 h0i
    have y2 := rR (i : Int) hii
    have b2 := dB_rng ha c3 hii h0i
    have u1 := up_succ (N := N) (L := L) (i := i) (by omega)
    have u2 := dn_succ (N := N) (L := L) hi1
    have u3 := hi_succ (N := N) (L := L) (i := i) (by omega)
    have u4 := lo_succ (N := N) (L := L) hi1
    have w0 : decide ((i : Int) ≥ ((spF N L).1.length : Int)) = false := decide_eq_false (by omega)
    have w1 : (!((spA (spF N L).1 i).1 == 0 - e2A (rtF N L).1 (i : Int) 0 && ((spA (spF N L).1 i).2 == e2A (rtF N L).1 0 (i : Int) && true))) = false := by
      rw [spA_eq, s0]
      show (!(((spL N L N.toNat).getD i (0, 0)).1 == 0 - e2A (rtF N L).1 (i : Int) 0 && (((spL N L N.toNat).getD i (0, 0)).2 == e2A (rtF N L).1 0 (i : Int) && true))) = false
      rw [sp_get hi1, x1, x2]; simp
    rw [← x1] at u1 u3
    rw [← x2] at u2 u4
    cases k1 : (e2A (rtF N L).1 0 (i : Int) == 1152921504606846976) <;> cases k2 : (e2A (rtF N L).1 (i : Int) 0 == 1152921504606846976)
    all_goals rw [k1] at u3
    all_goals rw [k2] at u4
    all_goals simp only [Bool.false_eq_true, if_false, if_true] at u3 u4
    all_goals
      repeat' ((conv => whnf); (first | apply And.intro | (intro h9; first | (have h8 : (_ : Bool) = false := h9; exfalso; clear h8; revert h9; subst_vars; intro h9; exact ft_no (h9.symm.trans (by assumption))) | (have h8 : (_ : Bool) = true := h9; exfalso; clear h8; revert h9; subst_vars; intro h9; exact tf_no (h9.symm.trans (by assumption))) | skip)))
    all_goals try (conv => whnf)
    all_goals try first
      | exact LexB.mk (by kernel_rfl)
      | exact LexG.mk (by kernel_rfl)
      | exact LexT.mk (by kernel_rfl)
      | exact Forced.mk (by kernel_rfl)
      | exact LexP.mk (by kernel_rfl)
      | exact ForcedP.mk (by kernel_rfl)
      | exact ⟨Nat.le_of_ble_eq_true rfl⟩
      | exact ⟨rfl⟩
      | exact ⟨trivial⟩
    all_goals subst_vars
    all_goals try first
      | rfl
      | contradiction
      | (refine Ob.mk ?_; simp only [inRQ, inR, Duty.of_p]; omega)
    all_goals try first
      | exact ⟨show L.length ≤ 1000000 by omega⟩
      | exact ⟨show 0 ≤ (i : Int) ∧ (i : Int) < ((rtF N L).1.length : Int) by omega⟩
      | exact ⟨show 0 + Int.toNat (i : Int) < (rtF N L).1.length by omega⟩
      | exact ⟨show (0 : Int) ≤ 0 ∧ 0 < ((rtF N L).1.length : Int) by omega⟩
      | exact ⟨show 0 + Int.toNat 0 < (rtF N L).1.length by rw [rl]; show 0 + 0 < N.toNat; omega⟩
      | exact ⟨show 0 ≤ (i : Int) ∧ (i : Int) < ((spF N L).1.length : Int) by omega⟩
      | exact ⟨show 0 + Int.toNat (i : Int) < (spF N L).1.length by omega⟩
      | exact ⟨show (0 : Int) ≤ 0 ∧ 0 < ((rwA (rtF N L).1 (i : Int)).length : Int) by omega⟩
      | exact ⟨show 0 + Int.toNat 0 < (rwA (rtF N L).1 (i : Int)).length by rw [y2]; show 0 + 0 < N.toNat; omega⟩
      | exact ⟨show 0 ≤ (i : Int) ∧ (i : Int) < ((rwA (rtF N L).1 0).length : Int) by omega⟩
      | exact ⟨show 0 + Int.toNat (i : Int) < (rwA (rtF N L).1 0).length by omega⟩
      | (refine Ob.mk ?_; show (inRQ .i64 (0 - e2A (rtF N L).1 (i : Int) 0)).p; rw [x2]; simp only [inRQ, inR, Duty.of_p]; omega)
      | exact ⟨show 0 + i = (upL N L i).length by omega⟩
      | exact ⟨show 0 + i = (dnL N L i).length by omega⟩
      | exact ⟨show (i + 1) * 1 ≤ 1099511627776 by omega⟩
    all_goals
      refine ⟨i + 1, [0, 1, 2, 3, 4, 5, 6, 7, 8], hi1, ?_, by show N.toNat - (i + 1) < N.toNat - i; omega⟩
      subst_vars
      repeat' ((conv => whnf); (first | apply And.intro | intro _))
      all_goals first | rfl | trivial | exact Nat.le_of_ble_eq_true rfl | exact ⟨rfl, rfl, rfl⟩ | exact ⟨rfl, rfl, rfl, rfl⟩ | exact ⟨rfl, rfl⟩ | exact u1 | exact u2 | exact u3 | exact u4 | exact u3.symm | exact u4.symm | (subst_vars; rfl) | exact ⟨rfl, rfl, u1⟩ | exact ⟨rfl, rfl, u2⟩
  have p0 : decide ((i : Int) < N) = false := decide_eq_false (by omega)
  obtain rfl : i = N.toNat := by omega
  have tlen := to_len (N := N) (L := L) (i := N.toNat) (Nat.le_refl _)
  have upN : upL N L N.toNat = boundsF N.toNat L [] 0 := by unfold upL; rw [List.take_of_length_le (by omega)]
  have dnN : dnL N L N.toNat = ngL (toL N L N.toNat) N.toNat := by unfold dnL ngL; rw [List.take_of_length_le (by omega), List.drop_eq_nil_of_le (by omega), List.append_nil]; simp
  have trow := tg_rows2 h00
  have tlm := trow.1
  have z1 : decide ((tgF N L).1 = (rtF N L).1) = true := by rw [t0, r0]; simp
  have z2 : (((spF N L).1.length : Int) == N) = true := by rw [sl, ← hN]; simp
  have G : ((((grF N L).2 != hiN N L N.toNat) = false) ∧ (grF N L).1.length ≤ 60) ∧ (((hiN N L N.toNat != 0) = true ∧ decide (((grF N L).1.length : Int) > 0) = false) ∨ ((hiN N L N.toNat != 0) = false ∧ decide ((grF N L).1 = upL N L N.toNat) = true)) := by
    have eh : hiN N L N.toNat = if hasB (boundsF N.toNat L [] 0) 1152921504606846976 = true then 5 else 0 := by unfold hiN; rw [upN]
    cases hg : hasB (boundsF N.toNat L [] 0) 1152921504606846976
    · rw [gr2 h0' hg, eh, hg, upN]
      exact ⟨⟨rfl, by show (boundsF N.toNat L [] 0).length ≤ 60; omega⟩, .inr ⟨rfl, by simp⟩⟩
    · rw [gr1 h0' hg, eh, hg]
      exact ⟨⟨rfl, Nat.zero_le _⟩, .inl ⟨rfl, rfl⟩⟩
  have G2 : ((((leF N L).2 != loN N L N.toNat) = false) ∧ (leF N L).1.length ≤ 60) ∧ (((loN N L N.toNat != 0) = true ∧ decide (((leF N L).1.length : Int) > 0) = false) ∨ ((loN N L N.toNat != 0) = false ∧ decide ((leF N L).1 = dnL N L N.toNat) = true)) := by
    have eh : loN N L N.toNat = if hasB (toL N L N.toNat) 1152921504606846976 = true then 5 else 0 := by unfold loN; rw [List.take_of_length_le (by omega)]
    cases hg : hasB (toL N L N.toNat) 1152921504606846976
    · rw [le2 h0' hg, eh, hg, dnN]
      exact ⟨⟨rfl, by show (ngL (toL N L N.toNat) N.toNat).length ≤ 60; rw [ng_len]; omega⟩, .inr ⟨rfl, by simp⟩⟩
    · rw [le1 h0' hg, eh, hg]
      exact ⟨⟨rfl, Nat.zero_le _⟩, .inl ⟨rfl, rfl⟩⟩
  obtain ⟨⟨g1, g2⟩, G⟩ := G
  obtain ⟨⟨g3, g4⟩, G2⟩ := G2
  rcases G with ⟨g5, g6⟩ | ⟨g5, g6⟩ <;> rcases G2 with ⟨g7, g8⟩ | ⟨g7, g8⟩
  all_goals
    repeat' ((conv => whnf); (first | apply And.intro | (intro h9; first | (have h8 : (_ : Bool) = false := h9; exfalso; clear h8; revert h9; subst_vars; intro h9; exact ft_no (h9.symm.trans (by assumption))) | (have h8 : (_ : Bool) = true := h9; exfalso; clear h8; revert h9; subst_vars; intro h9; exact tf_no (h9.symm.trans (by assumption))) | skip)))
  all_goals try (conv => whnf)
  all_goals try first
    | exact LexB.mk (by kernel_rfl)
    | exact LexG.mk (by kernel_rfl)
    | exact LexT.mk (by kernel_rfl)
    | exact Forced.mk (by kernel_rfl)
    | exact LexP.mk (by kernel_rfl)
    | exact ForcedP.mk (by kernel_rfl)
    | exact ⟨Nat.le_of_ble_eq_true rfl⟩
    | exact ⟨rfl⟩
    | exact ⟨trivial⟩
  all_goals subst_vars
  all_goals try first
    | rfl
    | contradiction
    | (refine Ob.mk ?_; simp only [inRQ, inR, Duty.of_p]; omega)
  all_goals first
    | exact ⟨show L.length ≤ 1000000 by omega⟩
    | exact ⟨show (tgF N L).1.length ≤ 1000000 by omega⟩
    | exact ⟨trow.2⟩
    | exact ⟨show (grF N L).1.length ≤ 1000000 by omega⟩
    | exact ⟨show (leF N L).1.length ≤ 1000000 by omega⟩
    | exact ⟨tl.symm⟩
    | exact ⟨ul.symm⟩
    | exact ⟨dl.symm⟩
    | exact g8
    | exact g6
)
end Go.Proofs.Ytlmhkeoblgodiaa
end
