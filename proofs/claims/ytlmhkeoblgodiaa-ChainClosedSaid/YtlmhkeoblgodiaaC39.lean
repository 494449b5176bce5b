/-
  Texts of the claims on chapter 2: C39. No condition: lemmas and contracts.
-/
import Derived.Test.YtlmhkeoblgodiaaYe1
set_option linter.all false
section
/-
  Chapter 2: the law ChainClosed. Printed by gen39.py.
-/
namespace Go.Proofs.Ytlmhkeoblgodiaa
open Go Go.Sy Go.Chn
set_option maxRecDepth 100000
set_option maxHeartbeats 4000000
set_option linter.unusedVariables false
set_option linter.unusedSimpArgs false
variable {Γ : Glob}
def fSnnnI (D : Int → List Lk → Int → Int → Int → List Int → List Duty) (F : Int → List Lk → Int → Int → Int → List Int → Tm) : Ctr := .fn fun args rg => match args with
  | [.agg [.v (.int .i64 N0), x0], .a (.v (.int .i64 i0)), .a (.v (.int .i64 i1)), .a (.v (.int .i64 i2)), .a x1] => (match arrOf 44 kL rg x0, arrOf 3 kI rg x1 with | some (q0, L0), some (q1, L1) => some (q0 ++ (q1 ++ (D N0 L0 i0 i1 i2 L1)), F N0 L0 i0 i1 i2 L1) | _, _ => none)
  | _ => none
theorem fSnnnI_ok {f : FuncId} {b : Body} {E : Env} {d : Nat} (hP : ProgOk Try.prog Γ E) (hb : BodyOk Try.prog f b) {D : Int → List Lk → Int → Int → Int → List Int → List Duty} {F : Int → List Lk → Int → Int → Int → List Int → Tm} (hp : ∀ (N0 : Int) (L0 : List Lk) (i0 : Int) (i1 : Int) (i2 : Int) (L1 : List Int), (F N0 L0 i0 i1 i2 L1).plain = true)
    (H : ∀ (N0 : Int) (L0 : List Lk) (i0 : Int) (i1 : Int) (i2 : Int) (L1 : List Int), obl (D N0 L0 i0 i1 i2 L1) → evTop E d b [.agg [vI N0, .sl 0 [] 0 L0.length], .a (vI i0), .a (vI i1), .a (vI i2), .a (.sl 1 [] 0 L1.length)] [.arr 44 kL L0 false false, .arr 3 kI L1 false false] (fun x _ => eqT x (F N0 L0 i0 i1 i2 L1))) : Ctr.Ok Try.prog Γ f (fSnnnI D F) := Ctr.fn_ok (d := d) hP hb (by
  intro args rg q t hF hq
  split at hF
  next N0 x0 i0 i1 i2 x1 =>
    split at hF
    next q0 L0 q1 L1 hx0 hx1 =>
      obtain ⟨rfl, rfl⟩ := Prod.mk.inj (Option.some.inj hF); clear hF
      rw [obl_append, obl_append] at hq
      obtain ⟨hq0, hq1, hD⟩ := hq
      obtain ⟨e0, he0⟩ := pas_arr (by simp [kL]) hx0 hq0
      obtain ⟨e1, he1⟩ := pas_arr (by simp [kI]) hx1 hq1
      obtain ⟨p0, r0⟩ := he0 [e0, e1] 0 2 rfl (by omega)
      obtain ⟨p1, r1⟩ := he1 [e0, e1] 1 2 rfl (by omega)
      refine ⟨hp _ _ _ _ _ _, [e0, e1], [.agg [vI N0, .sl 0 [] 0 L0.length], .a (vI i0), .a (vI i1), .a (vI i2), .a (.sl 1 [] 0 L1.length)], [.arr 44 kL L0 false false, .arr 3 kI L1 false false], ⟨⟨⟨rfl, p0, trivial⟩, rfl, rfl, rfl, p1, trivial⟩, fun r g hg => ?_⟩, H _ _ _ _ _ _ hD⟩
      match r, hg with
      | 0, hg => obtain rfl := Option.some.inj hg; exact r0
      | 1, hg => obtain rfl := Option.some.inj hg; exact r1
    next => cases hF
  next => cases hF)

def L19 : List (Nat × Ctr) := [(20, c20), (21, c21), (44, c44), (62, c62), (59, c59), (60, c60), (57, c57), (47, c47)]
theorem L19_ok : CsOk Try.prog Γ L19 := (((((((CsOk.nil.cons (body_of Try.func47 rfl rfl).fn c47_ok).cons (body_of Try.func57 rfl rfl).fn c57_ok).cons (body_of Try.func60 rfl rfl).fn c60_ok).cons (body_of Try.func59 rfl rfl).fn c59_ok).cons (body_of Try.func62 rfl rfl).fn c62_ok).cons (body_of Try.func44 rfl rfl).fn c44_ok).cons (body_of Try.func21 rfl rfl).fn c21_ok).cons (body_of Try.func20 rfl rfl).fn c20_ok
noncomputable def e19 : Env := { tabs.env L19 [] false 0 with cut := fun t => match Nat.beq t 1008 with | true => true | false => match Nat.beq t 95 with | true => true | false => match Nat.beq t 153 with | true => true | false => Nat.beq t 187 }
theorem e19_ok : ProgOk Try.prog Γ e19 := (prog_ok L19_ok BsOk.nil false 0).cuts _
/-- An element of a table, as the walk names it. -/
def g2 (D : List (List Int)) (i j : Nat) : Int := @Ar.get ⟨3, kI, @Ar.get ⟨32, kT, D⟩ i⟩ j
def a1 (X : List Int) (i : Nat) : Int := @Ar.get ⟨3, kI, X⟩ i
theorem a1_eq (X : List Int) (i : Nat) : a1 X (0 + Int.toNat (i : Int)) = gi X i := by rw [Nat.zero_add, Int.toNat_natCast]; rfl
def sLo (S : List (Int × Int)) (i : Nat) : Int := (@Ar.get ⟨78, kS, S⟩ i).1
def sHi (S : List (Int × Int)) (i : Nat) : Int := (@Ar.get ⟨78, kS, S⟩ i).2
theorem sLo_eq (S : List (Int × Int)) (i : Nat) : sLo S (0 + Int.toNat (i : Int)) = (S.getD i (0, 0)).1 := by rw [Nat.zero_add, Int.toNat_natCast]; rfl
theorem sHi_eq (S : List (Int × Int)) (i : Nat) : sHi S (0 + Int.toNat (i : Int)) = (S.getD i (0, 0)).2 := by rw [Nat.zero_add, Int.toNat_natCast]; rfl
theorem g2_eq (D : List (List Int)) (i j : Nat) : g2 D i j = gi (D.getD i []) j := rfl
attribute [local irreducible] gi lk checkF fitF smallB tgF spF grF leF nodeB
def c19 : Ctr := fSnnnI (fun _ _ _ _ _ _ => []) (fun _ _ _ _ _ _ => bl true)
theorem c19_ok : Ctr.Ok Try.prog Γ 19 c19 := fSnnnI_ok (d := 0) e19_ok (body_of Try.func19 rfl rfl) (fun _ _ _ _ _ _ => rfl) (by
  intro N L u v w X _
  by_cases hs : (!smallB N L) = true
  · repeat' ((conv => whnf); (first | apply And.intro | (intro h9; first | (have h8 : (_ : Bool) = false := h9; exfalso; clear h8; revert h9; subst_vars; intro h9; exact ft_no (h9.symm.trans (by assumption))) | (have h8 : (_ : Bool) = true := h9; exfalso; clear h8; revert h9; subst_vars; intro h9; exact tf_no (h9.symm.trans (by assumption))) | skip)))
    all_goals try (conv => whnf)
    all_goals try first
    | exact LexB.mk (by kernel_rfl)
    | exact LexG.mk (by kernel_rfl)
    | exact ⟨rfl⟩
    | exact ⟨trivial⟩
    | exact ⟨show L.length ≤ 1000000 by omega⟩
    | exact ⟨show (grF N L).1.length ≤ 1000000 by omega⟩
    | exact ⟨show (leF N L).1.length ≤ 1000000 by omega⟩
    | exact ⟨show X.length ≤ 1000000 by omega⟩
    | (subst_vars; rfl)
  replace hs : (!smallB N L) = false := by simpa using hs
  have hL := small_len hs
  by_cases hX : decide ((X.length : Int) > 70) = true
  · repeat' ((conv => whnf); (first | apply And.intro | (intro h9; first | (have h8 : (_ : Bool) = false := h9; exfalso; clear h8; revert h9; subst_vars; intro h9; exact ft_no (h9.symm.trans (by assumption))) | (have h8 : (_ : Bool) = true := h9; exfalso; clear h8; revert h9; subst_vars; intro h9; exact tf_no (h9.symm.trans (by assumption))) | skip)))
    all_goals try (conv => whnf)
    all_goals try first
    | exact LexB.mk (by kernel_rfl)
    | exact LexG.mk (by kernel_rfl)
    | exact ⟨rfl⟩
    | exact ⟨trivial⟩
    | exact ⟨show L.length ≤ 1000000 by omega⟩
    | exact ⟨show (grF N L).1.length ≤ 1000000 by omega⟩
    | exact ⟨show (leF N L).1.length ≤ 1000000 by omega⟩
    | exact ⟨show X.length ≤ 1000000 by omega⟩
    | (subst_vars; rfl)
  replace hX : decide ((X.length : Int) > 70) = false := by simpa using hX
  have hX' : X.length ≤ 70 := by have := of_decide_eq_false hX; omega
  by_cases h0 : ¬ askF N L [] = 0
  · have e1 : ((tgF N L).2 != 0) = true := by rw [tgF0 (by simpa using h0)]; simpa using h0
    repeat' ((conv => whnf); (first | apply And.intro | (intro h9; first | (have h8 : (_ : Bool) = false := h9; exfalso; clear h8; revert h9; subst_vars; intro h9; exact ft_no (h9.symm.trans (by assumption))) | (have h8 : (_ : Bool) = true := h9; exfalso; clear h8; revert h9; subst_vars; intro h9; exact tf_no (h9.symm.trans (by assumption))) | skip)))
    all_goals try (conv => whnf)
    all_goals try first
    | exact LexB.mk (by kernel_rfl)
    | exact LexG.mk (by kernel_rfl)
    | exact ⟨rfl⟩
    | exact ⟨trivial⟩
    | exact ⟨show L.length ≤ 1000000 by omega⟩
    | exact ⟨show (grF N L).1.length ≤ 1000000 by omega⟩
    | exact ⟨show (leF N L).1.length ≤ 1000000 by omega⟩
    | exact ⟨show X.length ≤ 1000000 by omega⟩
    | (subst_vars; rfl)
  replace h0 : askF N L [] = 0 := by simpa using h0
  obtain ⟨c1, _, c3⟩ := ask_iff.1 h0
  have ha := ask_of c1
  have hN := toNat_of c1
  have hn := ha.n
  have t0 : tgF N L = (tgL N L N.toNat, 0) := tgF1 (by simp [h0])
  have s0 : spF N L = (spL N L N.toNat, 0) := spF1 (by simp [h0])
  have e1 : ((tgF N L).2 != 0) = false := by rw [t0]; rfl
  have e2 : ((spF N L).2 != 0) = false := by rw [s0]; rfl
  have e3 : (((tgF N L).1.length : Int) != N) = false := by rw [t0]; show (((tgL N L N.toNat).length : Int) != N) = false; rw [tg_len, ← hN]; simp
  have e4 : (((spF N L).1.length : Int) != N) = false := by rw [s0]; show (((spL N L N.toNat).length : Int) != N) = false; rw [sp_len, ← hN]; simp
  have q0 : (tgF N L).1.length = N.toNat := by rw [t0]; exact tg_len
  have qr : ∀ a : Int, inN N.toNat a → ((tgF N L).1.getD a.toNat []).length = N.toNat := fun a h => by
    have h1 := h.1; have h2 := h.2
    rw [t0]
    show ((tgL N L N.toNat).getD a.toNat []).length = _
    rw [tg_get (by omega)]
    exact bd_len ha ⟨by omega, by omega⟩
  have tE : ∀ a b : Int, inN N.toNat a → inN N.toNat b → g2 (tgF N L).1 (0 + a.toNat) (0 + b.toNat) = dB N L a b := fun a b h1 h2 => by
    rw [t0, g2_eq, Nat.zero_add, Nat.zero_add, show ((b.toNat : Nat) : Int) = b from Int.toNat_of_nonneg h2.1]
    exact tg_tb h1
  have gL : (grF N L).1.length ≤ 60 := by
    by_cases hh : hasB (boundsF N.toNat L [] 0) 1152921504606846976 = true
    · rw [gr1 (by simp [h0]) hh]; exact Nat.zero_le _
    · rw [gr2 (by simp [h0]) (by simpa using hh)]
      show (boundsF N.toNat L [] 0).length ≤ 60
      rw [bd_len ha ⟨by omega, by omega⟩]; exact hn.2
  have lL : (leF N L).1.length ≤ 60 := by
    by_cases hh : hasB (toL N L N.toNat) 1152921504606846976 = true
    · rw [le1 (by simp [h0]) hh]; exact Nat.zero_le _
    · rw [le2 (by simp [h0]) (by simpa using hh)]
      show (ngL (toL N L N.toNat) N.toNat).length ≤ 60
      rw [ng_len, to_len (Nat.le_refl _)]; exact hn.2
  have gF : (grF N L).2 = 0 → (((grF N L).1.length : Int) != N) = false ∧ fitF N L (grF N L).1 = (true, 0) := fun hg => by
    have gf := gr_fits h0 hg
    exact ⟨by rw [gf.2.1, gf.2.2.1, ← hN]; simp, gf.1⟩
  have lF : (leF N L).2 = 0 → (((leF N L).1.length : Int) != N) = false ∧ fitF N L (leF N L).1 = (true, 0) := fun hh => by
    have lf := le_fits h0 hh
    exact ⟨by rw [lf.2.1, ← hN]; simp, lf.1⟩
  repeat' ((conv => whnf); (first | apply And.intro | (intro h9; first | (have h8 : (_ : Bool) = false := h9; exfalso; clear h8; revert h9; subst_vars; intro h9; exact ft_no (h9.symm.trans (by assumption))) | (have h8 : (_ : Bool) = true := h9; exfalso; clear h8; revert h9; subst_vars; intro h9; exact tf_no (h9.symm.trans (by assumption))) | skip)))
  all_goals try (conv => whnf)
  all_goals try first
    | exact LexB.mk (by kernel_rfl)
    | exact LexG.mk (by kernel_rfl)
    | exact ⟨rfl⟩
    | exact ⟨trivial⟩
    | exact ⟨show L.length ≤ 1000000 by omega⟩
    | exact ⟨show (grF N L).1.length ≤ 1000000 by omega⟩
    | exact ⟨show (leF N L).1.length ≤ 1000000 by omega⟩
    | exact ⟨show X.length ≤ 1000000 by omega⟩
    | (subst_vars; rfl)
  -- the results are there
  refine ⟨Unit, fun _ => True, fun _ => ⟨slotsT 260 [1, 2, 3, 4, 5, 11, 13, 14, 15, 16, 17, 18] [.a (vI u), .a (vI v), .a (vI w), .a (.sl 1 [] 0 X.length), .a (.p 2 [] 0 0), .a (.sl 3 [] 0 (tgF N L).1.length), .a (.sl 4 [] 0 (spF N L).1.length), .a (vI (spF N L).2), .a (.sl 5 [] 0 (grF N L).1.length), .a (vI (grF N L).2), .a (.sl 6 [] 0 (leF N L).1.length), .a (vI (leF N L).2)], [], [.arr 44 kL L false false, .arr 3 kI X false false, .box true [vI N, .sl 0 [] 0 L.length], .arr 32 kT (tgF N L).1 true true, .arr 78 kS (spF N L).1 true true, .arr 3 kI (grF N L).1 true true, .arr 3 kI (leF N L).1 true true]⟩, ?_, fun _ _ => ?_⟩
  · repeat' ((conv => whnf); (first | apply And.intro | (intro h9; first | (have h8 : (_ : Bool) = false := h9; exfalso; clear h8; revert h9; subst_vars; intro h9; exact ft_no (h9.symm.trans (by assumption))) | (have h8 : (_ : Bool) = true := h9; exfalso; clear h8; revert h9; subst_vars; intro h9; exact tf_no (h9.symm.trans (by assumption))) | skip)))
    all_goals try (conv => whnf)
    all_goals try first
    | exact LexB.mk (by kernel_rfl)
    | exact LexG.mk (by kernel_rfl)
    | exact ⟨rfl⟩
    | exact ⟨trivial⟩
    | exact ⟨show L.length ≤ 1000000 by omega⟩
    | exact ⟨show (grF N L).1.length ≤ 1000000 by omega⟩
    | exact ⟨show (leF N L).1.length ≤ 1000000 by omega⟩
    | exact ⟨show X.length ≤ 1000000 by omega⟩
    | (subst_vars; rfl)
    exact ⟨(), [], trivial, by
      repeat' ((conv => whnf); (first | apply And.intro | intro _))
      all_goals first | rfl | trivial | exact Nat.le_of_ble_eq_true rfl | exact ⟨rfl, rfl, rfl⟩ | exact ⟨rfl, rfl, rfl, rfl⟩ | exact ⟨rfl, rfl⟩⟩
  repeat' ((conv => whnf); (first | apply And.intro | (intro h9; first | (have h8 : (_ : Bool) = false := h9; exfalso; clear h8; revert h9; subst_vars; intro h9; exact ft_no (h9.symm.trans (by assumption))) | (have h8 : (_ : Bool) = true := h9; exfalso; clear h8; revert h9; subst_vars; intro h9; exact tf_no (h9.symm.trans (by assumption))) | skip)))
  all_goals try (conv => whnf)
  all_goals try first
    | exact LexB.mk (by kernel_rfl)
    | exact LexG.mk (by kernel_rfl)
    | exact ⟨rfl⟩
    | exact ⟨trivial⟩
    | exact ⟨show L.length ≤ 1000000 by omega⟩
    | exact ⟨show (grF N L).1.length ≤ 1000000 by omega⟩
    | exact ⟨show (leF N L).1.length ≤ 1000000 by omega⟩
    | exact ⟨show X.length ≤ 1000000 by omega⟩
    | (subst_vars; rfl)
  -- as many as there are nodes
  refine ⟨Unit, fun _ => True, fun _ => ⟨slotsT 260 [1, 2, 3, 4, 5, 11, 13, 14, 15, 16, 17, 18] [.a (vI u), .a (vI v), .a (vI w), .a (.sl 1 [] 0 X.length), .a (.p 2 [] 0 0), .a (.sl 3 [] 0 (tgF N L).1.length), .a (.sl 4 [] 0 (spF N L).1.length), .a (vI (spF N L).2), .a (.sl 5 [] 0 (grF N L).1.length), .a (vI (grF N L).2), .a (.sl 6 [] 0 (leF N L).1.length), .a (vI (leF N L).2)], [], [.arr 44 kL L false false, .arr 3 kI X false false, .box true [vI N, .sl 0 [] 0 L.length], .arr 32 kT (tgF N L).1 true true, .arr 78 kS (spF N L).1 true true, .arr 3 kI (grF N L).1 true true, .arr 3 kI (leF N L).1 true true]⟩, ?_, fun _ _ => ?_⟩
  · repeat' ((conv => whnf); (first | apply And.intro | (intro h9; first | (have h8 : (_ : Bool) = false := h9; exfalso; clear h8; revert h9; subst_vars; intro h9; exact ft_no (h9.symm.trans (by assumption))) | (have h8 : (_ : Bool) = true := h9; exfalso; clear h8; revert h9; subst_vars; intro h9; exact tf_no (h9.symm.trans (by assumption))) | skip)))
    all_goals try (conv => whnf)
    all_goals try first
    | exact LexB.mk (by kernel_rfl)
    | exact LexG.mk (by kernel_rfl)
    | exact ⟨rfl⟩
    | exact ⟨trivial⟩
    | exact ⟨show L.length ≤ 1000000 by omega⟩
    | exact ⟨show (grF N L).1.length ≤ 1000000 by omega⟩
    | exact ⟨show (leF N L).1.length ≤ 1000000 by omega⟩
    | exact ⟨show X.length ≤ 1000000 by omega⟩
    | (subst_vars; rfl)
    all_goals try
      exact ⟨(), [], trivial, by
        repeat' ((conv => whnf); (first | apply And.intro | intro _))
        all_goals first | rfl | trivial | exact Nat.le_of_ble_eq_true rfl | exact ⟨rfl, rfl, rfl⟩ | exact ⟨rfl, rfl, rfl, rfl⟩ | exact ⟨rfl, rfl⟩⟩
    all_goals
      (exfalso
       subst_vars
       first
         | exact tf_no ((show (((grF N L).1.length : Int) != N) = true by assumption).symm.trans (gF (eq_of_beq (by assumption))).1)
         | exact tf_no ((show (((leF N L).1.length : Int) != N) = true by assumption).symm.trans (lF (eq_of_beq (by assumption))).1))
  repeat' ((conv => whnf); (first | apply And.intro | (intro h9; first | (have h8 : (_ : Bool) = false := h9; exfalso; clear h8; revert h9; subst_vars; intro h9; exact ft_no (h9.symm.trans (by assumption))) | (have h8 : (_ : Bool) = true := h9; exfalso; clear h8; revert h9; subst_vars; intro h9; exact tf_no (h9.symm.trans (by assumption))) | skip)))
  all_goals try (conv => whnf)
  all_goals try first
    | exact LexB.mk (by kernel_rfl)
    | exact LexG.mk (by kernel_rfl)
    | exact ⟨rfl⟩
    | exact ⟨trivial⟩
    | exact ⟨show L.length ≤ 1000000 by omega⟩
    | exact ⟨show (grF N L).1.length ≤ 1000000 by omega⟩
    | exact ⟨show (leF N L).1.length ≤ 1000000 by omega⟩
    | exact ⟨show X.length ≤ 1000000 by omega⟩
    | (subst_vars; rfl)
  -- the triangle
  refine ⟨Unit, fun _ => True, fun _ => ⟨slotsT 260 [4, 5, 13, 15, 16, 17, 18] [.a (.sl 1 [] 0 X.length), .a (.p 2 [] 0 0), .a (.sl 4 [] 0 (spF N L).1.length), .a (.sl 5 [] 0 (grF N L).1.length), .a (vI (grF N L).2), .a (.sl 6 [] 0 (leF N L).1.length), .a (vI (leF N L).2)], [], [.arr 44 kL L false false, .arr 3 kI X false false, .box true [vI N, .sl 0 [] 0 L.length], .arr 32 kT (tgF N L).1 true true, .arr 78 kS (spF N L).1 true true, .arr 3 kI (grF N L).1 true true, .arr 3 kI (leF N L).1 true true]⟩, ?_, fun _ _ => ?_⟩
  · repeat' ((conv => whnf); (first | apply And.intro | (intro h9; first | (have h8 : (_ : Bool) = false := h9; exfalso; clear h8; revert h9; subst_vars; intro h9; exact ft_no (h9.symm.trans (by assumption))) | (have h8 : (_ : Bool) = true := h9; exfalso; clear h8; revert h9; subst_vars; intro h9; exact tf_no (h9.symm.trans (by assumption))) | skip)))
    all_goals try (conv => whnf)
    all_goals try first
    | exact LexB.mk (by kernel_rfl)
    | exact LexG.mk (by kernel_rfl)
    | exact ⟨rfl⟩
    | exact ⟨trivial⟩
    | exact ⟨show L.length ≤ 1000000 by omega⟩
    | exact ⟨show (grF N L).1.length ≤ 1000000 by omega⟩
    | exact ⟨show (leF N L).1.length ≤ 1000000 by omega⟩
    | exact ⟨show X.length ≤ 1000000 by omega⟩
    | (subst_vars; rfl)
    all_goals try
      exact ⟨(), [], trivial, by
        repeat' ((conv => whnf); (first | apply And.intro | intro _))
        all_goals first | rfl | trivial | exact Nat.le_of_ble_eq_true rfl | exact ⟨rfl, rfl, rfl⟩ | exact ⟨rfl, rfl, rfl, rfl⟩ | exact ⟨rfl, rfl⟩⟩
    all_goals try
      (refine Ob.mk ?_
       subst_vars
       dsimp only [kT, kL, kI, Tup, CK.ty] at *
       simp only [getT', castLk, Nat.zero_add, Duty.of_p]
       try have nu := (nodeB_iff (N := N) (v := u)).1 (by assumption)
       try have nv := (nodeB_iff (N := N) (v := v)).1 (by assumption)
       try have nw := (nodeB_iff (N := N) (v := w)).1 (by assumption)
       try have r1 := qr u nu
       try have r2 := qr v nv
       try have u1 := nu.1
       try have u2 := nu.2
       try have v1 := nv.1
       try have v2 := nv.2
       try have w1 := nw.1
       try have w2 := nw.2
       omega)
    all_goals
      (subst_vars
       have nu := (nodeB_iff (N := N) (v := u)).1 (by assumption)
       have nv := (nodeB_iff (N := N) (v := v)).1 (by assumption)
       have nw := (nodeB_iff (N := N) (v := w)).1 (by assumption)
       have r1 := dB_rng ha c3 nu nv
       have r2 := dB_rng ha c3 nv nw
       first
         | (refine Ob.mk ?_
            show (inRQ .i64 (g2 (tgF N L).1 (0 + u.toNat) (0 + v.toNat) + g2 (tgF N L).1 (0 + v.toNat) (0 + w.toNat))).p
            rw [tE u v nu nv, tE v w nv nw]
            simp only [inRQ, inR, Duty.of_p]
            omega)
         | (exfalso
            have a1 : decide (g2 (tgF N L).1 (0 + u.toNat) (0 + v.toNat) < 1152921504606846976) = true := by assumption
            have a2 : decide (g2 (tgF N L).1 (0 + v.toNat) (0 + w.toNat) < 1152921504606846976) = true := by assumption
            have a3 : decide (g2 (tgF N L).1 (0 + u.toNat) (0 + w.toNat) > g2 (tgF N L).1 (0 + u.toNat) (0 + v.toNat) + g2 (tgF N L).1 (0 + v.toNat) (0 + w.toNat)) = true := by assumption
            rw [tE u v nu nv] at a1
            rw [tE v w nv nw] at a2
            rw [tE u w nu nw, tE u v nu nv, tE v w nv nw] at a3
            have b1 := of_decide_eq_true a1
            have b2 := of_decide_eq_true a2
            have b3 := of_decide_eq_true a3
            have := (d_tri ha ((con_iff ha).1 c3) nu nv nw (by unfold Fr; omega) (by unfold Fr; omega)).1
            omega))
  repeat' ((conv => whnf); (first | apply And.intro | (intro h9; first | (have h8 : (_ : Bool) = false := h9; exfalso; clear h8; revert h9; subst_vars; intro h9; exact ft_no (h9.symm.trans (by assumption))) | (have h8 : (_ : Bool) = true := h9; exfalso; clear h8; revert h9; subst_vars; intro h9; exact tf_no (h9.symm.trans (by assumption))) | skip)))
  all_goals try (conv => whnf)
  all_goals try first
    | exact LexB.mk (by kernel_rfl)
    | exact LexG.mk (by kernel_rfl)
    | exact ⟨rfl⟩
    | exact ⟨trivial⟩
    | exact ⟨show L.length ≤ 1000000 by omega⟩
    | exact ⟨show (grF N L).1.length ≤ 1000000 by omega⟩
    | exact ⟨show (leF N L).1.length ≤ 1000000 by omega⟩
    | exact ⟨show X.length ≤ 1000000 by omega⟩
    | (subst_vars; rfl)
  -- the two solutions
  refine ⟨Unit, fun _ => True, fun _ => ⟨slotsT 260 [4, 5, 13, 15, 16, 17, 18] [.a (.sl 1 [] 0 X.length), .a (.p 2 [] 0 0), .a (.sl 4 [] 0 (spF N L).1.length), .a (.sl 5 [] 0 (grF N L).1.length), .a (vI (grF N L).2), .a (.sl 6 [] 0 (leF N L).1.length), .a (vI (leF N L).2)], [], [.arr 44 kL L false false, .arr 3 kI X false false, .box true [vI N, .sl 0 [] 0 L.length], .arr 32 kT (tgF N L).1 true true, .arr 78 kS (spF N L).1 true true, .arr 3 kI (grF N L).1 true true, .arr 3 kI (leF N L).1 true true]⟩, ?_, fun _ _ => ?_⟩
  · repeat' ((conv => whnf); (first | apply And.intro | (intro h9; first | (have h8 : (_ : Bool) = false := h9; exfalso; clear h8; revert h9; subst_vars; intro h9; exact ft_no (h9.symm.trans (by assumption))) | (have h8 : (_ : Bool) = true := h9; exfalso; clear h8; revert h9; subst_vars; intro h9; exact tf_no (h9.symm.trans (by assumption))) | skip)))
    all_goals try (conv => whnf)
    all_goals try first
    | exact LexB.mk (by kernel_rfl)
    | exact LexG.mk (by kernel_rfl)
    | exact ⟨rfl⟩
    | exact ⟨trivial⟩
    | exact ⟨show L.length ≤ 1000000 by omega⟩
    | exact ⟨show (grF N L).1.length ≤ 1000000 by omega⟩
    | exact ⟨show (leF N L).1.length ≤ 1000000 by omega⟩
    | exact ⟨show X.length ≤ 1000000 by omega⟩
    | (subst_vars; rfl)
    all_goals try
      exact ⟨(), [], trivial, by
        repeat' ((conv => whnf); (first | apply And.intro | intro _))
        all_goals first | rfl | trivial | exact Nat.le_of_ble_eq_true rfl | exact ⟨rfl, rfl, rfl⟩ | exact ⟨rfl, rfl, rfl, rfl⟩ | exact ⟨rfl, rfl⟩⟩
    all_goals try
      (exfalso
       subst_vars
       first
         | (have k := (gF (eq_of_beq (show ((grF N L).2 == 0) = true by assumption))).2
            first
              | exact tf_no ((show ((fitF N L (grF N L).1).2 != 0) = true by assumption).symm.trans (ne_t (congrArg Prod.snd k)))
              | exact tf_no ((show (!(fitF N L (grF N L).1).1) = true by assumption).symm.trans (nt_b (congrArg Prod.fst k))))
         | (have k := (lF (eq_of_beq (show ((leF N L).2 == 0) = true by assumption))).2
            first
              | exact tf_no ((show ((fitF N L (leF N L).1).2 != 0) = true by assumption).symm.trans (ne_t (congrArg Prod.snd k)))
              | exact tf_no ((show (!(fitF N L (leF N L).1).1) = true by assumption).symm.trans (nt_b (congrArg Prod.fst k)))))
    all_goals sorry
  repeat' ((conv => whnf); (first | apply And.intro | (intro h9; first | (have h8 : (_ : Bool) = false := h9; exfalso; clear h8; revert h9; subst_vars; intro h9; exact ft_no (h9.symm.trans (by assumption))) | (have h8 : (_ : Bool) = true := h9; exfalso; clear h8; revert h9; subst_vars; intro h9; exact tf_no (h9.symm.trans (by assumption))) | skip)))
  all_goals try (conv => whnf)
  all_goals try first
    | exact LexB.mk (by kernel_rfl)
    | exact LexG.mk (by kernel_rfl)
    | exact ⟨rfl⟩
    | exact ⟨trivial⟩
    | exact ⟨show L.length ≤ 1000000 by omega⟩
    | exact ⟨show (grF N L).1.length ≤ 1000000 by omega⟩
    | exact ⟨show (leF N L).1.length ≤ 1000000 by omega⟩
    | exact ⟨show X.length ≤ 1000000 by omega⟩
    | (subst_vars; rfl)
  have hx : fitF N L X = (true, 0) := by
    have x1 : (fitF N L X).1 = true := by subst_vars; simpa using ‹(!(fitF N L X).1) = false›
    have x2 : (fitF N L X).2 = 0 := by subst_vars; simpa using ‹((fitF N L X).2 != 0) = false›
    rw [← x1, ← x2]
  refine ⟨Nat, fun i => i ≤ N.toNat, fun i => ⟨slotsT 260 [4, 5, 13, 15, 16, 17, 18, 25] [.a (.sl 1 [] 0 X.length), .a (.p 2 [] 0 0), .a (.sl 4 [] 0 (spF N L).1.length), .a (.sl 5 [] 0 (grF N L).1.length), .a (vI (grF N L).2), .a (.sl 6 [] 0 (leF N L).1.length), .a (vI (leF N L).2), .a (vI i)], [], [.arr 44 kL L false false, .arr 3 kI X false false, .box true [vI N, .sl 0 [] 0 L.length], .arr 32 kT (tgF N L).1 true true, .arr 78 kS (spF N L).1 true true, .arr 3 kI (grF N L).1 true true, .arr 3 kI (leF N L).1 true true]⟩, fun i => N.toNat - i, 0, [], Nat.zero_le _, ?_, ?_⟩
  · repeat' ((conv => whnf); (first | apply And.intro | (intro h9; first | (have h8 : (_ : Bool) = false := h9; exfalso; clear h8; revert h9; subst_vars; intro h9; exact ft_no (h9.symm.trans (by assumption))) | (have h8 : (_ : Bool) = true := h9; exfalso; clear h8; revert h9; subst_vars; intro h9; exact tf_no (h9.symm.trans (by assumption))) | skip)))
    all_goals first | rfl | trivial | exact Nat.le_of_ble_eq_true rfl | exact ⟨rfl, rfl, rfl⟩ | exact ⟨rfl, rfl, rfl, rfl⟩ | exact ⟨rfl, rfl⟩
  rintro i hi
  have hX1 : X.length = N.toNat := by have := (fit_span h0 (congrArg Prod.fst hx) (v := 0) ⟨by omega, by omega⟩).2.2; omega
  have sl : (spF N L).1.length = N.toNat := by rw [s0]; exact sp_len
  by_cases hi1 : i < N.toNat
  · have q0 : decide ((i : Int) < N) = true := decide_eq_true (by omega)
    have hv : inN N.toNat (i : Int) := ⟨by omega, by omega⟩
    have fs := fit_span h0 (congrArg Prod.fst hx) hv
    have q1 : decide (a1 X (0 + Int.toNat (i : Int)) < sLo (spF N L).1 (0 + Int.toNat (i : Int))) = false := by
      rw [a1_eq, sLo_eq, s0]
      show decide (gi X i < ((spL N L N.toNat).getD i (0, 0)).1) = false
      rw [sp_get hi1]
      exact decide_eq_false (by show ¬ gi X i < - dB N L (i : Int) 0; omega)
    have q2 : decide (a1 X (0 + Int.toNat (i : Int)) > sHi (spF N L).1 (0 + Int.toNat (i : Int))) = false := by
      rw [a1_eq, sHi_eq, s0]
      show decide (gi X i > ((spL N L N.toNat).getD i (0, 0)).2) = false
      rw [sp_get hi1]
      exact decide_eq_false (by show ¬ gi X i > dB N L 0 (i : Int); omega)
    have u1 : ((grF N L).2 == 0) = false ∨ (((grF N L).2 == 0) = true ∧ decide (a1 X (0 + Int.toNat (i : Int)) > a1 (grF N L).1 (0 + Int.toNat (i : Int))) = false ∧ (grF N L).1.length = N.toNat) := by
      cases hg : ((grF N L).2 == 0)
      · exact .inl rfl
      · have gf := gr_fits h0 (eq_of_beq hg)
        refine .inr ⟨rfl, ?_, by rw [gf.2.1, gf.2.2.1]⟩
        rw [a1_eq, a1_eq, gf.2.1]
        exact decide_eq_false (by show ¬ gi X i > dB N L 0 (i : Int); omega)
    have u2 : ((leF N L).2 == 0) = false ∨ (((leF N L).2 == 0) = true ∧ decide (a1 X (0 + Int.toNat (i : Int)) < a1 (leF N L).1 (0 + Int.toNat (i : Int))) = false ∧ (leF N L).1.length = N.toNat) := by
      cases hg : ((leF N L).2 == 0)
      · exact .inl rfl
      · have lf := le_fits h0 (eq_of_beq hg)
        refine .inr ⟨rfl, ?_, lf.2.1⟩
        rw [a1_eq, a1_eq, lf.2.2.1 _ hv]
        exact decide_eq_false (by omega)
    rcases u1 with hg | ⟨hg, v1, v2⟩ <;> rcases u2 with hh | ⟨hh, v3, v4⟩
    all_goals
      repeat' ((conv => whnf); (first | apply And.intro | (intro h9; first | (have h8 : (_ : Bool) = false := h9; exfalso; clear h8; revert h9; subst_vars; intro h9; exact ft_no (h9.symm.trans (by assumption))) | (have h8 : (_ : Bool) = true := h9; exfalso; clear h8; revert h9; subst_vars; intro h9; exact tf_no (h9.symm.trans (by assumption))) | skip)))
    all_goals try (conv => whnf)
    all_goals try first
    | exact LexB.mk (by kernel_rfl)
    | exact LexG.mk (by kernel_rfl)
    | exact ⟨rfl⟩
    | exact ⟨trivial⟩
    | exact ⟨show L.length ≤ 1000000 by omega⟩
    | exact ⟨show (grF N L).1.length ≤ 1000000 by omega⟩
    | exact ⟨show (leF N L).1.length ≤ 1000000 by omega⟩
    | exact ⟨show X.length ≤ 1000000 by omega⟩
    | (subst_vars; rfl)
    all_goals try first
      | (refine Ob.mk ?_; simp only [inRQ, inR, Duty.of_p]; omega)
      | exact ⟨show 0 ≤ (i : Int) ∧ (i : Int) < (X.length : Int) by omega⟩
      | exact ⟨show 0 + Int.toNat (i : Int) < X.length by omega⟩
      | exact ⟨show 0 ≤ (i : Int) ∧ (i : Int) < ((spF N L).1.length : Int) by omega⟩
      | exact ⟨show 0 + Int.toNat (i : Int) < (spF N L).1.length by omega⟩
      | exact ⟨show 0 ≤ (i : Int) ∧ (i : Int) < ((grF N L).1.length : Int) by omega⟩
      | exact ⟨show 0 + Int.toNat (i : Int) < (grF N L).1.length by omega⟩
      | exact ⟨show 0 ≤ (i : Int) ∧ (i : Int) < ((leF N L).1.length : Int) by omega⟩
      | exact ⟨show 0 + Int.toNat (i : Int) < (leF N L).1.length by omega⟩
    all_goals
      refine ⟨i + 1, [], hi1, ?_, by show N.toNat - (i + 1) < N.toNat - i; omega⟩
      subst_vars
      repeat' ((conv => whnf); (first | apply And.intro | intro _))
      all_goals first | rfl | trivial | exact Nat.le_of_ble_eq_true rfl | exact ⟨rfl, rfl, rfl⟩ | exact ⟨rfl, rfl, rfl, rfl⟩ | exact ⟨rfl, rfl⟩ | (subst_vars; rfl)
  · have q0 : decide ((i : Int) < N) = false := decide_eq_false (by omega)
    repeat' ((conv => whnf); (first | apply And.intro | (intro h9; first | (have h8 : (_ : Bool) = false := h9; exfalso; clear h8; revert h9; subst_vars; intro h9; exact ft_no (h9.symm.trans (by assumption))) | (have h8 : (_ : Bool) = true := h9; exfalso; clear h8; revert h9; subst_vars; intro h9; exact tf_no (h9.symm.trans (by assumption))) | skip)))
    all_goals try (conv => whnf)
    all_goals try first
    | exact LexB.mk (by kernel_rfl)
    | exact LexG.mk (by kernel_rfl)
    | exact ⟨rfl⟩
    | exact ⟨trivial⟩
    | exact ⟨show L.length ≤ 1000000 by omega⟩
    | exact ⟨show (grF N L).1.length ≤ 1000000 by omega⟩
    | exact ⟨show (leF N L).1.length ≤ 1000000 by omega⟩
    | exact ⟨show X.length ≤ 1000000 by omega⟩
    | (subst_vars; rfl)
    all_goals done)
end Go.Proofs.Ytlmhkeoblgodiaa
end
