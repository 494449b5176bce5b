/-
  Texts of the claims on chapter 2: Ye21. No condition: lemmas and contracts.
-/
import Derived.Test.YtlmhkeoblgodiaaYe9
import Derived.Test.YtlmhkeoblgodiaaYe1
import Derived.Test.YtlmhkeoblgodiaaYe5
import Derived.Test.YtlmhkeoblgodiaaYe13
set_option linter.all false
section
/-
  Chapter 2: the specification's tables of sums, from the front.
-/
namespace Go.Proofs.Ytlmhkeoblgodiaa
open Go Go.Sy Go.Chn
set_option linter.unusedVariables false
set_option linter.unusedSimpArgs false
section
variable {N : Nat} {U : List Lk} {k u i m : Nat}
/-- The sums of chains of just k links, all. -/
def rowT (N : Nat) (U : List Lk) (k : Nat) : List (List Int) := (List.range N).map fun (u : Nat) => exR N U (u : Int) k
def tbT (N : Nat) (U : List Lk) (m : Nat) : List (List (List Int)) := (List.range m).map (rowT N U)
/-- The next table, of which the rows ahead of u are made, and the row u is r. -/
def nxM (N : Nat) (U : List Lk) (k u : Nat) (r : List Int) : List (List Int) := (List.range N).map fun (w : Nat) => if w < u then exR N U (w : Int) (k + 1) else if w = u then r else ex0 N (w : Int)
def nxT (N : Nat) (U : List Lk) (k u : Nat) : List (List Int) := nxM N U k u (ex0 N (u : Int))
def yR (N : Nat) (L : List Lk) (x : List Int) (i : Nat) : List Int := (L.take i).foldl (mk1 (·.2.1) (fun l => !(gi x l.1 == Fr)) (fun l => gi x l.1 + l.2.2)) (List.replicate N Fr)
theorem rowT_len : (rowT N U k).length = N := by simp [rowT]
theorem tbT_len : (tbT N U m).length = m := by simp [tbT]
theorem tbT_get (h : k < m) : (tbT N U m).getD k [] = rowT N U k := by simp [tbT, List.getD, h]
theorem tbT_succ : tbT N U m ++ [rowT N U m] = tbT N U (m + 1) := by simp [tbT, List.range_succ]
theorem rowT_get {v : Int} (h : inN N v) : (rowT N U k).getD v.toNat [] = exR N U v k := by
  have h1 : v.toNat < N := by have := h.1; have := h.2; omega
  have e : ((v.toNat : Nat) : Int) = v := Int.toNat_of_nonneg h.1
  simp [rowT, List.getD, h1, e]
theorem filR_ex0 (h : u < N) : filR N u N = ex0 N (u : Int) := by
  refine List.ext_getElem (by simp [filR, ex0]) fun i h1 h2 => ?_
  have hi : i < N := by simpa [ex0] using h2
  simp only [filR, ex0, Nat.sub_self, List.replicate_zero, List.append_nil, List.getElem_map, List.getElem_range, Int.toNat_natCast, List.getElem_set, List.getElem_replicate]
theorem fil_row : filL N N = rowT N U 0 := by
  unfold filL rowT
  exact List.map_congr_left fun u hu => filR_ex0 (List.mem_range.1 hu)
theorem fil_tb : [filL N N] = tbT N U 1 := by
  have : tbT N U 1 = [rowT N U 0] := rfl
  rw [this, fil_row (U := U)]
theorem fil_nx : filL N N = nxT N U k 0 := by
  unfold filL nxT nxM
  refine List.map_congr_left fun w hw => ?_
  rw [if_neg (Nat.not_lt_zero w), filR_ex0 (List.mem_range.1 hw)]
  split
  · rename_i h; rw [h]
  · rfl
theorem nx_all : nxT N U k N = rowT N U (k + 1) := by
  unfold nxT nxM rowT
  exact List.map_congr_left fun w hw => by rw [if_pos (List.mem_range.1 hw)]
theorem nxM_len {r : List Int} : (nxM N U k u r).length = N := by simp [nxM]
theorem nxM_get {r : List Int} (h : u < N) : (nxM N U k u r).getD u [] = r := by simp [nxM, List.getD, h]
theorem nxM_set {r r' : List Int} (h : u < N) : (nxM N U k u r).set u r' = nxM N U k u r' := by
  refine List.ext_getElem (by simp [nxM]) fun i h1 h2 => ?_
  have hi : i < N := by simpa [nxM] using h2
  rw [List.getElem_set]
  simp only [nxM, List.getElem_map, List.getElem_range]
  by_cases h : u = i
  · subst h; simp
  · rw [if_neg h]
    by_cases h2 : i < u
    · rw [if_pos h2, if_pos h2]
    · rw [if_neg h2, if_neg h2, if_neg (fun e => h e.symm), if_neg (fun e => h e.symm)]
theorem nxT_len : (nxT N U k u).length = N := nxM_len
theorem nxT_get (h : u < N) : (nxT N U k u).getD u [] = ex0 N (u : Int) := nxM_get h
theorem nxT_set {r : List Int} (h : u < N) : (nxT N U k u).set u r = nxM N U k u r := nxM_set h
theorem nxM_next : nxM N U k u (exR N U (u : Int) (k + 1)) = nxT N U k (u + 1) := by
  unfold nxT nxM
  refine List.map_congr_left fun w hw => ?_
  by_cases h1 : w < u
  · rw [if_pos h1, if_pos (by omega)]
  · by_cases h2 : w = u
    · rw [if_neg h1, if_pos h2, if_pos (by omega), h2]
    · rw [if_neg h1, if_neg h2, if_neg (by omega)]
      split
      · rename_i h; rw [h]
      · rfl
theorem ex0_fr : (ex0 N (u : Int)).set u Fr = List.replicate N Fr := by
  unfold ex0
  rw [Int.toNat_natCast, List.set_set]
  exact List.ext_getElem (by simp) fun i h1 h2 => by rw [List.getElem_set]; simp
theorem yR_zero {x : List Int} : List.replicate N Fr = yR N U x 0 := by simp [yR]
theorem yR_len {x : List Int} : (yR N U x i).length = N := by unfold yR; rw [fold_len]; simp
theorem yR_skip {x : List Int} (h : i < U.length) (hx : (gi x (lk U i).1 != 1152921504606846976) = false) : yR N U x i = yR N U x (i + 1) := by
  unfold yR; rw [take_lk h, List.foldl_append]
  have : (!(gi x (lk U i).1 == Fr)) = false := hx
  simp only [List.foldl, mk1, this]; simp
theorem yR_put {x : List Int} (h : i < U.length) (hx : (gi x (lk U i).1 != 1152921504606846976) = true) : (yR N U x i).set (lk U i).2.1.toNat (if gi x (lk U i).1 + (lk U i).2.2 < gi (yR N U x i) (lk U i).2.1 then gi x (lk U i).1 + (lk U i).2.2 else gi (yR N U x i) (lk U i).2.1) = yR N U x (i + 1) := by
  conv => rhs; unfold yR
  rw [take_lk h, List.foldl_append]
  have : (!(gi x (lk U i).1 == Fr)) = true := hx
  simp only [List.foldl, mk1, this, if_true]
  have e : ∀ a b : Int, min a b = if b < a then b else a := fun a b => by split <;> omega
  rw [e]; rfl
theorem yR_end {v : Int} (h : U.length ≤ i) : yR N U (exR N U v k) i = exR N U v (k + 1) := by
  show yR N U (exR N U v k) i = nextR N U (exR N U v k)
  unfold yR nextR; rw [List.take_of_length_le h]
theorem exR_small (hU : Lks N U) {v n : Int} (hv : inN N v) (hn : inN N n) (hk : k ≤ 60) (hf : gi (exR N U v k) n ≠ Fr) : -270215977642229760 ≤ gi (exR N U v k) n ∧ gi (exR N U v k) n ≤ 270215977642229760 := by
  have := (exR_ex hU hv hk n hn).bound hU hf
  omega
end
end Go.Proofs.Ytlmhkeoblgodiaa
end

section
/-
  Chapter 2: the specification's Tables. Printed by gen68.py.
-/
namespace Go.Proofs.Ytlmhkeoblgodiaa
open Go Go.Sy Go.Chn
set_option maxRecDepth 100000
set_option maxHeartbeats 4000000
set_option linter.unusedVariables false
set_option linter.unusedSimpArgs false
variable {Γ : Glob}
def newSn (D : Int → List Lk → Int → List Duty) (R : Int → List Lk → Int → Res) : Ctr := .new fun args rg K => match args with
  | [.agg [.v (.int .i64 N0), x0], .a (.v (.int .i64 i0))] => (match arrOf 44 kL rg x0 with | some (q0, L0) => oblige false (q0 ++ (D N0 L0 i0)) (K (R N0 L0 i0)) | _ => False)
  | _ => False
theorem newSn_ok {f : FuncId} {b : Body} {E : Env} {d : Nat} (hP : ProgOk Try.prog Γ E) (hb : BodyOk Try.prog f b) {D : Int → List Lk → Int → List Duty} {R : Int → List Lk → Int → Res}
    (H : ∀ (N0 : Int) (L0 : List Lk) (i0 : Int) (K : Res → Prop), obl (D N0 L0 i0) → K (R N0 L0 i0) → evTop E d b [.agg [vI N0, .sl 0 [] 0 L0.length], .a (vI i0)] [.arr 44 kL L0 false false] (resW K)) : Ctr.Ok Try.prog Γ f (newSn D R) := Ctr.new_okW (d := d) hP hb (by
  intro args rg K hC
  split at hC
  next N0 x0 i0 =>
    split at hC
    next q0 L0 hx0 =>
      rw [oblige_iff, obl_append] at hC
      obtain ⟨⟨hq0, hD⟩, hK⟩ := hC
      obtain ⟨e0, he0⟩ := pas_arr (by simp [kL]) hx0 hq0
      obtain ⟨p0, r0⟩ := he0 [e0] 0 1 rfl (by omega)
      refine ⟨[e0], [.agg [vI N0, .sl 0 [] 0 L0.length], .a (vI i0)], [.arr 44 kL L0 false false], ⟨⟨⟨rfl, p0, trivial⟩, rfl, trivial⟩, fun r g hg => ?_⟩, resW K, H _ _ _ K hD hK, fun x st h => h⟩
      match r, hg with
      | 0, hg => obtain rfl := Option.some.inj hg; exact r0
    next => exact hC.elim
  next => exact hC.elim)
def L70 : List (Nat × Ctr) := [(69, c69)]
theorem L70_ok : CsOk Try.prog Γ L70 := CsOk.nil.cons (body_of Try.func69 rfl rfl).fn c69_ok
attribute [local irreducible] gi lk exR yR nxM nxT tbT rowT filL
def c70 : Ctr := newSn (fun N L m => [(Duty.of (N = N.toNat)), askD N.toNat L, (Duty.of (m = m.toNat)), (Duty.of (m.toNat ≤ 60))]) (fun N L m => ⟨[.arr 35 kTT (tbT N.toNat L (m.toNat + 1)) true true], .a (.sl 0 [] 0 (m.toNat + 1))⟩)
theorem c70_ok : Ctr.Ok Try.prog Γ 70 c70 := newSn_ok (d := 0) (prog_ok L70_ok BsOk.nil false 0) (body_of Try.func70 rfl rfl) (by
  intro N L m K ⟨hN, ha, hm, hm60, _⟩ hK
  replace ha : AskL N.toNat L := ha
  simp only [Duty.of_p] at hN hm hm60
  have h60 := ha.n
  have hll := ha.l
  repeat' ((conv => whnf); (first | apply And.intro | (intro h9; first | (have h8 : (_ : Bool) = false := h9; exfalso; clear h8; revert h9; subst_vars; intro h9; exact ft_no (h9.symm.trans (by assumption))) | (have h8 : (_ : Bool) = true := h9; exfalso; clear h8; revert h9; subst_vars; intro h9; exact tf_no (h9.symm.trans (by assumption))) | skip)))
  all_goals try (conv => whnf)
  all_goals try first
    | exact LexB.mk (by kernel_rfl)
    | exact LexG.mk (by kernel_rfl)
    | exact LexT.mk (by kernel_rfl)
    | exact Forced.mk (by kernel_rfl)
    | exact LexP.mk (by kernel_rfl)
    | exact ForcedP.mk (by kernel_rfl)
    | exact ⟨Nat.le_of_ble_eq_true rfl⟩
    | exact ⟨rfl⟩
    | exact ⟨trivial⟩
  all_goals subst_vars
  all_goals try first
    | rfl
    | contradiction
    | (refine Ob.mk ?_; simp only [inRQ, inR, Duty.of_p]; omega)
  all_goals try first
    | exact ⟨show L.length ≤ 1000000 by omega⟩
    | exact ⟨hN⟩
    | exact ⟨show N.toNat ≤ 60 by omega⟩
    | exact ⟨(filL_len (N := N.toNat) (k := N.toNat)).symm⟩
    | exact ⟨show (0 : Nat) < 1 by omega⟩
  refine ⟨Nat, fun k => 1 ≤ k ∧ k ≤ m.toNat + 1, fun k => ⟨slotsT 94 [1, 2, 5, 6] [.a (vI m), .a (.p 1 [] 0 0), .a (.sl 3 [] 0 k), .a (vI k)], [], [.arr 44 kL L false false, .box true [vI N, .sl 0 [] 0 L.length], .dead, .arr 35 kTT (tbT N.toNat L k) true true]⟩, fun k => m.toNat + 1 - k, 1, [], ⟨Nat.le_refl _, by omega⟩, ?_, ?_⟩
  · have e0 : [filL N.toNat N.toNat] = tbT N.toNat L 1 := fil_tb
    repeat' ((conv => whnf); (first | apply And.intro | intro _))
    all_goals first | rfl | trivial | exact Nat.le_of_ble_eq_true rfl | exact ⟨rfl, rfl, rfl⟩ | exact ⟨rfl, rfl, rfl, rfl⟩ | exact ⟨rfl, rfl⟩ | exact e0 | exact e0.symm | exact ⟨rfl, rfl, e0⟩
  rintro k ⟨hk0, hk⟩
  have tl : (tbT N.toNat L k).length = k := tbT_len
  by_cases hk1 : k ≤ m.toNat
  case neg =>
    have p0 : decide ((k : Int) ≤ m) = false := decide_eq_false (by omega)
    obtain rfl : k = m.toNat + 1 := by omega
    repeat' ((conv => whnf); (first | apply And.intro | (intro h9; first | (have h8 : (_ : Bool) = false := h9; exfalso; clear h8; revert h9; subst_vars; intro h9; exact ft_no (h9.symm.trans (by assumption))) | (have h8 : (_ : Bool) = true := h9; exfalso; clear h8; revert h9; subst_vars; intro h9; exact tf_no (h9.symm.trans (by assumption))) | skip)))
    all_goals try (conv => whnf)
    all_goals try first
      | exact LexB.mk (by kernel_rfl)
      | exact LexG.mk (by kernel_rfl)
      | exact LexT.mk (by kernel_rfl)
      | exact Forced.mk (by kernel_rfl)
      | exact LexP.mk (by kernel_rfl)
      | exact ForcedP.mk (by kernel_rfl)
      | exact ⟨Nat.le_of_ble_eq_true rfl⟩
      | exact ⟨rfl⟩
      | exact ⟨trivial⟩
    all_goals subst_vars
    all_goals try first
      | rfl
      | contradiction
      | (refine Ob.mk ?_; simp only [inRQ, inR, Duty.of_p]; omega)
    all_goals try first
      | exact ⟨show L.length ≤ 1000000 by omega⟩
      | exact ⟨hN⟩
      | exact ⟨show N.toNat ≤ 60 by omega⟩
      | exact ⟨(filL_len (N := N.toNat) (k := N.toNat)).symm⟩
      | exact ⟨show (0 : Nat) < 1 by omega⟩
    all_goals exact kl1 (i := 3) hK rfl rfl
  have p0 : decide ((k : Int) ≤ m) = true := decide_eq_true (by omega)
  have hix : 0 + Int.toNat ((k : Int) - 1) = k - 1 := by omega
  have hold : ((row3 (tbT N.toNat L k) ((k : Int) - 1)) : List (List Int)) = rowT N.toNat L (k - 1) := by
    unfold row3; rw [hix]; exact tbT_get (by omega)
  have hol : List.length (row3 (tbT N.toNat L k) ((k : Int) - 1)) = N.toNat := by rw [hold]; exact rowT_len
  repeat' ((conv => whnf); (first | apply And.intro | (intro h9; first | (have h8 : (_ : Bool) = false := h9; exfalso; clear h8; revert h9; subst_vars; intro h9; exact ft_no (h9.symm.trans (by assumption))) | (have h8 : (_ : Bool) = true := h9; exfalso; clear h8; revert h9; subst_vars; intro h9; exact tf_no (h9.symm.trans (by assumption))) | skip)))
  all_goals try (conv => whnf)
  all_goals try first
    | exact LexB.mk (by kernel_rfl)
    | exact LexG.mk (by kernel_rfl)
    | exact LexT.mk (by kernel_rfl)
    | exact Forced.mk (by kernel_rfl)
    | exact LexP.mk (by kernel_rfl)
    | exact ForcedP.mk (by kernel_rfl)
    | exact ⟨Nat.le_of_ble_eq_true rfl⟩
    | exact ⟨rfl⟩
    | exact ⟨trivial⟩
  all_goals subst_vars
  all_goals try first
    | rfl
    | contradiction
    | (refine Ob.mk ?_; simp only [inRQ, inR, Duty.of_p]; omega)
  all_goals try first
    | exact ⟨show L.length ≤ 1000000 by omega⟩
    | exact ⟨hN⟩
    | exact ⟨show N.toNat ≤ 60 by omega⟩
    | exact ⟨(filL_len (N := N.toNat) (k := N.toNat)).symm⟩
    | exact ⟨show (0 : Nat) < 1 by omega⟩
    | exact ⟨show 0 ≤ (k : Int) - 1 ∧ (k : Int) - 1 < (k : Int) by omega⟩
    | exact ⟨show 0 + Int.toNat ((k : Int) - 1) < (tbT N.toNat L k).length by omega⟩
  refine ⟨Nat, fun u => u ≤ N.toNat, fun u => ⟨slotsT 94 [1, 2, 5, 6, 7, 8, 9] [.a (vI m), .a (.p 1 [] 0 0), .a (.sl 3 [] 0 k), .a (vI k), .a (.sl 3 [(0 + Int.toNat ((k : Int) - 1), 0)] 0 (List.length (row3 (tbT N.toNat L k) ((k : Int) - 1)))), .a (.sl 4 [] 0 N.toNat), .a (vI u)], [], [.arr 44 kL L false false, .box true [vI N, .sl 0 [] 0 L.length], .dead, .arr 35 kTT (tbT N.toNat L k) true true, .arr 32 kT (nxT N.toNat L (k - 1) u) true true]⟩, fun u => N.toNat - u, 0, [], Nat.zero_le _, ?_, ?_⟩
  · have e0 : filL N.toNat N.toNat = nxT N.toNat L (k - 1) 0 := fil_nx
    subst_vars
    repeat' ((conv => whnf); (first | apply And.intro | intro _))
    all_goals first | rfl | trivial | exact Nat.le_of_ble_eq_true rfl | exact ⟨rfl, rfl, rfl⟩ | exact ⟨rfl, rfl, rfl, rfl⟩ | exact ⟨rfl, rfl⟩ | exact e0 | exact e0.symm | exact ⟨rfl, rfl, e0⟩
  rintro u hu
  have nl : (nxT N.toNat L (k - 1) u).length = N.toNat := nxT_len
  by_cases hu1 : u < N.toNat
  case neg =>
    have p1 : decide ((u : Int) < N) = false := decide_eq_false (by omega)
    obtain rfl : u = N.toNat := by omega
    have e1 : List.drop 0 (tbT N.toNat L k) ++ [nxT N.toNat L (k - 1) N.toNat] = tbT N.toNat L (k + 1) := by
      rw [nx_all, show (k - 1) + 1 = k by omega]; exact tbT_succ
    repeat' ((conv => whnf); (first | apply And.intro | (intro h9; first | (have h8 : (_ : Bool) = false := h9; exfalso; clear h8; revert h9; subst_vars; intro h9; exact ft_no (h9.symm.trans (by assumption))) | (have h8 : (_ : Bool) = true := h9; exfalso; clear h8; revert h9; subst_vars; intro h9; exact tf_no (h9.symm.trans (by assumption))) | skip)))
    all_goals try (conv => whnf)
    all_goals try first
      | exact LexB.mk (by kernel_rfl)
      | exact LexG.mk (by kernel_rfl)
      | exact LexT.mk (by kernel_rfl)
      | exact Forced.mk (by kernel_rfl)
      | exact LexP.mk (by kernel_rfl)
      | exact ForcedP.mk (by kernel_rfl)
      | exact ⟨Nat.le_of_ble_eq_true rfl⟩
      | exact ⟨rfl⟩
      | exact ⟨trivial⟩
    all_goals subst_vars
    all_goals try first
      | rfl
      | contradiction
      | (refine Ob.mk ?_; simp only [inRQ, inR, Duty.of_p]; omega)
    all_goals try first
      | exact ⟨show L.length ≤ 1000000 by omega⟩
      | exact ⟨hN⟩
      | exact ⟨show N.toNat ≤ 60 by omega⟩
      | exact ⟨(filL_len (N := N.toNat) (k := N.toNat)).symm⟩
      | exact ⟨show (0 : Nat) < 1 by omega⟩
      | exact ⟨show 0 ≤ (k : Int) - 1 ∧ (k : Int) - 1 < (k : Int) by omega⟩
      | exact ⟨show 0 + Int.toNat ((k : Int) - 1) < (tbT N.toNat L k).length by omega⟩
      | exact ⟨show 0 ≤ (u : Int) ∧ (u : Int) < (N.toNat : Int) by omega⟩
      | exact ⟨show 0 + Int.toNat (u : Int) < (nxT N.toNat L (k - 1) u).length by omega⟩
      | exact ⟨show 0 ≤ (u : Int) ∧ (u : Int) < ((rwA (nxT N.toNat L (k - 1) u) (u : Int)).length : Int) by omega⟩
      | exact ⟨show 0 + Int.toNat (u : Int) < (rwA (nxT N.toNat L (k - 1) u) (u : Int)).length by omega⟩
      | exact ⟨nl.symm⟩
      | exact ⟨show 0 + k = (tbT N.toNat L k).length by omega⟩
      | exact ⟨show (k + 1) * 1 ≤ 1099511627776 by omega⟩
    all_goals
      refine ⟨k + 1, [0, 1, 2, 3], ⟨by omega, by omega⟩, ?_, by show m.toNat + 1 - (k + 1) < m.toNat + 1 - k; omega⟩
      subst_vars
      repeat' ((conv => whnf); (first | apply And.intro | intro _))
      all_goals first | rfl | trivial | exact Nat.le_of_ble_eq_true rfl | exact ⟨rfl, rfl, rfl⟩ | exact ⟨rfl, rfl, rfl, rfl⟩ | exact ⟨rfl, rfl⟩ | exact e1 | (subst_vars; rfl) | exact ⟨rfl, rfl, e1⟩
  have p1 : decide ((u : Int) < N) = true := decide_eq_true (by omega)
  have hui : inN N.toNat (u : Int) := ⟨by omega, by omega⟩
  have horw : ((rwA (row3 (tbT N.toNat L k) ((k : Int) - 1)) (u : Int)) : List Int) = exR N.toNat L (u : Int) (k - 1) := by
    rw [rwA_eq, hold]; exact rowT_get hui
  have hrl : List.length (rwA (row3 (tbT N.toNat L k) ((k : Int) - 1)) (u : Int)) = N.toNat := by rw [horw]; exact exR_len
  have nr : rwA (nxT N.toNat L (k - 1) u) (u : Int) = ex0 N.toNat (u : Int) := by rw [rwA_eq, Int.toNat_natCast]; exact nxT_get hu1
  have nrl : (rwA (nxT N.toNat L (k - 1) u) (u : Int)).length = N.toNat := by rw [nr]; exact ex0_len
  repeat' ((conv => whnf); (first | apply And.intro | (intro h9; first | (have h8 : (_ : Bool) = false := h9; exfalso; clear h8; revert h9; subst_vars; intro h9; exact ft_no (h9.symm.trans (by assumption))) | (have h8 : (_ : Bool) = true := h9; exfalso; clear h8; revert h9; subst_vars; intro h9; exact tf_no (h9.symm.trans (by assumption))) | skip)))
  all_goals try (conv => whnf)
  all_goals try first
    | exact LexB.mk (by kernel_rfl)
    | exact LexG.mk (by kernel_rfl)
    | exact LexT.mk (by kernel_rfl)
    | exact Forced.mk (by kernel_rfl)
    | exact LexP.mk (by kernel_rfl)
    | exact ForcedP.mk (by kernel_rfl)
    | exact ⟨Nat.le_of_ble_eq_true rfl⟩
    | exact ⟨rfl⟩
    | exact ⟨trivial⟩
  all_goals subst_vars
  all_goals try first
    | rfl
    | contradiction
    | (refine Ob.mk ?_; simp only [inRQ, inR, Duty.of_p]; omega)
  all_goals try first
    | exact ⟨show L.length ≤ 1000000 by omega⟩
    | exact ⟨hN⟩
    | exact ⟨show N.toNat ≤ 60 by omega⟩
    | exact ⟨(filL_len (N := N.toNat) (k := N.toNat)).symm⟩
    | exact ⟨show (0 : Nat) < 1 by omega⟩
    | exact ⟨show 0 ≤ (k : Int) - 1 ∧ (k : Int) - 1 < (k : Int) by omega⟩
    | exact ⟨show 0 + Int.toNat ((k : Int) - 1) < (tbT N.toNat L k).length by omega⟩
    | exact ⟨show 0 ≤ (u : Int) ∧ (u : Int) < (N.toNat : Int) by omega⟩
    | exact ⟨show 0 + Int.toNat (u : Int) < (nxT N.toNat L (k - 1) u).length by omega⟩
    | exact ⟨show 0 ≤ (u : Int) ∧ (u : Int) < ((rwA (nxT N.toNat L (k - 1) u) (u : Int)).length : Int) by omega⟩
    | exact ⟨show 0 + Int.toNat (u : Int) < (rwA (nxT N.toNat L (k - 1) u) (u : Int)).length by omega⟩
    | exact ⟨nl.symm⟩
    | exact ⟨show 0 + k = (tbT N.toNat L k).length by omega⟩
    | exact ⟨show (k + 1) * 1 ≤ 1099511627776 by omega⟩
  refine ⟨Nat, fun i => i ≤ L.length, fun i => ⟨slotsT 94 [1, 2, 5, 6, 7, 8, 9, 10] [.a (vI m), .a (.p 1 [] 0 0), .a (.sl 3 [] 0 k), .a (vI k), .a (.sl 3 [(0 + Int.toNat ((k : Int) - 1), 0)] 0 (List.length (row3 (tbT N.toNat L k) ((k : Int) - 1)))), .a (.sl 4 [] 0 N.toNat), .a (vI u), .a (vI i)], [], [.arr 44 kL L false false, .box true [vI N, .sl 0 [] 0 L.length], .dead, .arr 35 kTT (tbT N.toNat L k) true true, .arr 32 kT (nxM N.toNat L (k - 1) u (yR N.toNat L (exR N.toNat L (u : Int) (k - 1)) i)) true true]⟩, fun i => L.length - i, 0, [], Nat.zero_le _, ?_, ?_⟩
  · have e0 : (nxT N.toNat L (k - 1) u).set (0 + Int.toNat (u : Int)) ((rwA (nxT N.toNat L (k - 1) u) (u : Int)).set (0 + Int.toNat (u : Int)) 1152921504606846976) = nxM N.toNat L (k - 1) u (yR N.toNat L (exR N.toNat L (u : Int) (k - 1)) 0) := by
      rw [nr, Nat.zero_add, Int.toNat_natCast, ← yR_zero]
      exact (nxT_set hu1).trans (congrArg _ ex0_fr)
    subst_vars
    repeat' ((conv => whnf); (first | apply And.intro | intro _))
    all_goals first | rfl | trivial | exact Nat.le_of_ble_eq_true rfl | exact ⟨rfl, rfl, rfl⟩ | exact ⟨rfl, rfl, rfl, rfl⟩ | exact ⟨rfl, rfl⟩ | exact e0 | exact e0.symm | exact ⟨rfl, rfl, e0⟩
  rintro i hi
  have ml : (nxM N.toNat L (k - 1) u (yR N.toNat L (exR N.toNat L (u : Int) (k - 1)) i)).length = N.toNat := nxM_len
  have yl : ((yR N.toNat L (exR N.toNat L (u : Int) (k - 1)) i)).length = N.toNat := yR_len
  have mr : rwA (nxM N.toNat L (k - 1) u (yR N.toNat L (exR N.toNat L (u : Int) (k - 1)) i)) (u : Int) = (yR N.toNat L (exR N.toNat L (u : Int) (k - 1)) i) := by rw [rwA_eq, Int.toNat_natCast]; exact nxM_get hu1
  have mrl : (rwA (nxM N.toNat L (k - 1) u (yR N.toNat L (exR N.toNat L (u : Int) (k - 1)) i)) (u : Int)).length = N.toNat := by rw [mr]; exact yl
  by_cases hi1 : i < L.length
  case neg =>
    have p2 : decide ((i : Int) < (L.length : Int)) = false := decide_eq_false (by omega)
    have e1 : nxM N.toNat L (k - 1) u (yR N.toNat L (exR N.toNat L (u : Int) (k - 1)) i) = nxT N.toNat L (k - 1) (u + 1) := by rw [yR_end (by omega)]; exact nxM_next
    repeat' ((conv => whnf); (first | apply And.intro | (intro h9; first | (have h8 : (_ : Bool) = false := h9; exfalso; clear h8; revert h9; subst_vars; intro h9; exact ft_no (h9.symm.trans (by assumption))) | (have h8 : (_ : Bool) = true := h9; exfalso; clear h8; revert h9; subst_vars; intro h9; exact tf_no (h9.symm.trans (by assumption))) | skip)))
    all_goals try (conv => whnf)
    all_goals try first
      | exact LexB.mk (by kernel_rfl)
      | exact LexG.mk (by kernel_rfl)
      | exact LexT.mk (by kernel_rfl)
      | exact Forced.mk (by kernel_rfl)
      | exact LexP.mk (by kernel_rfl)
      | exact ForcedP.mk (by kernel_rfl)
      | exact ⟨Nat.le_of_ble_eq_true rfl⟩
      | exact ⟨rfl⟩
      | exact ⟨trivial⟩
    all_goals subst_vars
    all_goals try first
      | rfl
      | contradiction
      | (refine Ob.mk ?_; simp only [inRQ, inR, Duty.of_p]; omega)
    all_goals try first
      | exact ⟨show L.length ≤ 1000000 by omega⟩
      | exact ⟨hN⟩
      | exact ⟨show N.toNat ≤ 60 by omega⟩
      | exact ⟨(filL_len (N := N.toNat) (k := N.toNat)).symm⟩
      | exact ⟨show (0 : Nat) < 1 by omega⟩
      | exact ⟨show 0 ≤ (k : Int) - 1 ∧ (k : Int) - 1 < (k : Int) by omega⟩
      | exact ⟨show 0 + Int.toNat ((k : Int) - 1) < (tbT N.toNat L k).length by omega⟩
      | exact ⟨show 0 ≤ (u : Int) ∧ (u : Int) < (N.toNat : Int) by omega⟩
      | exact ⟨show 0 + Int.toNat (u : Int) < (nxT N.toNat L (k - 1) u).length by omega⟩
      | exact ⟨show 0 ≤ (u : Int) ∧ (u : Int) < ((rwA (nxT N.toNat L (k - 1) u) (u : Int)).length : Int) by omega⟩
      | exact ⟨show 0 + Int.toNat (u : Int) < (rwA (nxT N.toNat L (k - 1) u) (u : Int)).length by omega⟩
      | exact ⟨nl.symm⟩
      | exact ⟨show 0 + k = (tbT N.toNat L k).length by omega⟩
      | exact ⟨show (k + 1) * 1 ≤ 1099511627776 by omega⟩
    all_goals
      refine ⟨u + 1, [0, 1, 2, 3, 4], hu1, ?_, by show N.toNat - (u + 1) < N.toNat - u; omega⟩
      subst_vars
      repeat' ((conv => whnf); (first | apply And.intro | intro _))
      all_goals first | rfl | trivial | exact Nat.le_of_ble_eq_true rfl | exact ⟨rfl, rfl, rfl⟩ | exact ⟨rfl, rfl, rfl, rfl⟩ | exact ⟨rfl, rfl⟩ | exact e1 | (subst_vars; rfl) | exact ⟨rfl, rfl, e1⟩
  have p2 : decide ((i : Int) < (L.length : Int)) = true := decide_eq_true (by omega)
  have hnd := ha.ok.nd _ (lk_mem' hi1)
  have hms := ha.ok.ms _ (lk_mem' hi1)
  have hA := lkA_eq L i
  have hnA : (0 ≤ (lkA L i).1 ∧ (lkA L i).1 < N.toNat) ∧ (0 ≤ (lkA L i).2.1 ∧ (lkA L i).2.1 < N.toNat) := by rw [hA]; exact hnd
  have hmA : -4503599627370496 ≤ (lkA L i).2.2 ∧ (lkA L i).2.2 ≤ 4503599627370496 := by rw [hA]; exact hms
  have hO : e1A (rwA (row3 (tbT N.toNat L k) ((k : Int) - 1)) (u : Int)) (lkA L i).1 = gi (exR N.toNat L (u : Int) (k - 1)) (lk L i).1 := by rw [horw, e1A_eq hnA.1.1, hA]
  have hY : e1A (rwA (nxM N.toNat L (k - 1) u (yR N.toNat L (exR N.toNat L (u : Int) (k - 1)) i)) (u : Int)) (lkA L i).2.1 = gi (yR N.toNat L (exR N.toNat L (u : Int) (k - 1)) i) (lk L i).2.1 := by rw [mr, e1A_eq hnA.2.1, hA]
  cases c1 : (e1A (rwA (row3 (tbT N.toNat L k) ((k : Int) - 1)) (u : Int)) (lkA L i).1 != 1152921504606846976)
  · have c1' := c1
    rw [hO] at c1'
    have e1 : nxM N.toNat L (k - 1) u (yR N.toNat L (exR N.toNat L (u : Int) (k - 1)) i) = nxM N.toNat L (k - 1) u (yR N.toNat L (exR N.toNat L (u : Int) (k - 1)) (i + 1)) := by rw [yR_skip hi1 c1']
    repeat' ((conv => whnf); (first | apply And.intro | (intro h9; first | (have h8 : (_ : Bool) = false := h9; exfalso; clear h8; revert h9; subst_vars; intro h9; exact ft_no (h9.symm.trans (by assumption))) | (have h8 : (_ : Bool) = true := h9; exfalso; clear h8; revert h9; subst_vars; intro h9; exact tf_no (h9.symm.trans (by assumption))) | skip)))
    all_goals try (conv => whnf)
    all_goals try first
      | exact LexB.mk (by kernel_rfl)
      | exact LexG.mk (by kernel_rfl)
      | exact LexT.mk (by kernel_rfl)
      | exact Forced.mk (by kernel_rfl)
      | exact LexP.mk (by kernel_rfl)
      | exact ForcedP.mk (by kernel_rfl)
      | exact ⟨Nat.le_of_ble_eq_true rfl⟩
      | exact ⟨rfl⟩
      | exact ⟨trivial⟩
    all_goals subst_vars
    all_goals try first
      | rfl
      | contradiction
      | (refine Ob.mk ?_; simp only [inRQ, inR, Duty.of_p]; omega)
    all_goals try first
      | exact ⟨show L.length ≤ 1000000 by omega⟩
      | exact ⟨hN⟩
      | exact ⟨show N.toNat ≤ 60 by omega⟩
      | exact ⟨(filL_len (N := N.toNat) (k := N.toNat)).symm⟩
      | exact ⟨show (0 : Nat) < 1 by omega⟩
      | exact ⟨show 0 ≤ (i : Int) ∧ (i : Int) < (L.length : Int) by omega⟩
      | exact ⟨show 0 + Int.toNat (i : Int) < L.length by omega⟩
      | exact ⟨show 0 + Int.toNat ((k : Int) - 1) < (tbT N.toNat L k).length by omega⟩
      | exact ⟨show 0 ≤ (u : Int) ∧ (u : Int) < (List.length (row3 (tbT N.toNat L k) ((k : Int) - 1)) : Int) by omega⟩
      | exact ⟨show 0 + Int.toNat (u : Int) < List.length (row3 (tbT N.toNat L k) ((k : Int) - 1)) by omega⟩
      | exact ⟨show 0 ≤ (lkA L i).1 ∧ (lkA L i).1 < (((rwA (row3 (tbT N.toNat L k) ((k : Int) - 1)) (u : Int))).length : Int) by rw [hrl]; exact hnA.1⟩
      | exact ⟨show 0 + Int.toNat (lkA L i).1 < ((rwA (row3 (tbT N.toNat L k) ((k : Int) - 1)) (u : Int))).length by rw [hrl]; omega⟩
      | exact ⟨show 0 ≤ (u : Int) ∧ (u : Int) < (N.toNat : Int) by omega⟩
      | exact ⟨show 0 + Int.toNat (u : Int) < (nxM N.toNat L (k - 1) u (yR N.toNat L (exR N.toNat L (u : Int) (k - 1)) i)).length by omega⟩
      | exact ⟨show 0 ≤ (lkA L i).2.1 ∧ (lkA L i).2.1 < ((rwA (nxM N.toNat L (k - 1) u (yR N.toNat L (exR N.toNat L (u : Int) (k - 1)) i)) (u : Int)).length : Int) by rw [mrl]; exact hnA.2⟩
      | exact ⟨show 0 + Int.toNat (lkA L i).2.1 < (rwA (nxM N.toNat L (k - 1) u (yR N.toNat L (exR N.toNat L (u : Int) (k - 1)) i)) (u : Int)).length by rw [mrl]; omega⟩
      | (refine Ob.mk ?_; show (inRQ .i64 (e1A (rwA (row3 (tbT N.toNat L k) ((k : Int) - 1)) (u : Int)) (lkA L i).1 + (lkA L i).2.2)).p; rw [hO]; simp only [inRQ, inR, Duty.of_p]; omega)
    all_goals
      refine ⟨i + 1, [0, 1, 2, 3, 4], hi1, ?_, by show L.length - (i + 1) < L.length - i; omega⟩
      subst_vars
      repeat' ((conv => whnf); (first | apply And.intro | intro _))
      all_goals first | rfl | trivial | exact Nat.le_of_ble_eq_true rfl | exact ⟨rfl, rfl, rfl⟩ | exact ⟨rfl, rfl, rfl, rfl⟩ | exact ⟨rfl, rfl⟩ | exact e1 | (subst_vars; rfl) | exact ⟨rfl, rfl, e1⟩
  · have c1' := c1
    rw [hO] at c1'
    have hs := exR_small ha.ok hui hnd.1 (k := (k - 1)) (by omega) (by unfold Fr; simpa using c1')
    have e1 : (nxM N.toNat L (k - 1) u (yR N.toNat L (exR N.toNat L (u : Int) (k - 1)) i)).set (0 + Int.toNat (u : Int)) ((rwA (nxM N.toNat L (k - 1) u (yR N.toNat L (exR N.toNat L (u : Int) (k - 1)) i)) (u : Int)).set (0 + Int.toNat (lkA L i).2.1) (if e1A (rwA (row3 (tbT N.toNat L k) ((k : Int) - 1)) (u : Int)) (lkA L i).1 + (lkA L i).2.2 < e1A (rwA (nxM N.toNat L (k - 1) u (yR N.toNat L (exR N.toNat L (u : Int) (k - 1)) i)) (u : Int)) (lkA L i).2.1 then e1A (rwA (row3 (tbT N.toNat L k) ((k : Int) - 1)) (u : Int)) (lkA L i).1 + (lkA L i).2.2 else e1A (rwA (nxM N.toNat L (k - 1) u (yR N.toNat L (exR N.toNat L (u : Int) (k - 1)) i)) (u : Int)) (lkA L i).2.1)) = nxM N.toNat L (k - 1) u (yR N.toNat L (exR N.toNat L (u : Int) (k - 1)) (i + 1)) := by
      rw [hY, hO, mr, hA, Nat.zero_add, Nat.zero_add, Int.toNat_natCast]
      exact (nxM_set hu1).trans (congrArg _ (yR_put hi1 c1'))
    repeat' ((conv => whnf); (first | apply And.intro | (intro h9; first | (have h8 : (_ : Bool) = false := h9; exfalso; clear h8; revert h9; subst_vars; intro h9; exact ft_no (h9.symm.trans (by assumption))) | (have h8 : (_ : Bool) = true := h9; exfalso; clear h8; revert h9; subst_vars; intro h9; exact tf_no (h9.symm.trans (by assumption))) | skip)))
    all_goals try (conv => whnf)
    all_goals try first
      | exact LexB.mk (by kernel_rfl)
      | exact LexG.mk (by kernel_rfl)
      | exact LexT.mk (by kernel_rfl)
      | exact Forced.mk (by kernel_rfl)
      | exact LexP.mk (by kernel_rfl)
      | exact ForcedP.mk (by kernel_rfl)
      | exact ⟨Nat.le_of_ble_eq_true rfl⟩
      | exact ⟨rfl⟩
      | exact ⟨trivial⟩
    all_goals subst_vars
    all_goals try first
      | rfl
      | contradiction
      | (refine Ob.mk ?_; simp only [inRQ, inR, Duty.of_p]; omega)
    all_goals try first
      | exact ⟨show L.length ≤ 1000000 by omega⟩
      | exact ⟨hN⟩
      | exact ⟨show N.toNat ≤ 60 by omega⟩
      | exact ⟨(filL_len (N := N.toNat) (k := N.toNat)).symm⟩
      | exact ⟨show (0 : Nat) < 1 by omega⟩
      | exact ⟨show 0 ≤ (i : Int) ∧ (i : Int) < (L.length : Int) by omega⟩
      | exact ⟨show 0 + Int.toNat (i : Int) < L.length by omega⟩
      | exact ⟨show 0 + Int.toNat ((k : Int) - 1) < (tbT N.toNat L k).length by omega⟩
      | exact ⟨show 0 ≤ (u : Int) ∧ (u : Int) < (List.length (row3 (tbT N.toNat L k) ((k : Int) - 1)) : Int) by omega⟩
      | exact ⟨show 0 + Int.toNat (u : Int) < List.length (row3 (tbT N.toNat L k) ((k : Int) - 1)) by omega⟩
      | exact ⟨show 0 ≤ (lkA L i).1 ∧ (lkA L i).1 < (((rwA (row3 (tbT N.toNat L k) ((k : Int) - 1)) (u : Int))).length : Int) by rw [hrl]; exact hnA.1⟩
      | exact ⟨show 0 + Int.toNat (lkA L i).1 < ((rwA (row3 (tbT N.toNat L k) ((k : Int) - 1)) (u : Int))).length by rw [hrl]; omega⟩
      | exact ⟨show 0 ≤ (u : Int) ∧ (u : Int) < (N.toNat : Int) by omega⟩
      | exact ⟨show 0 + Int.toNat (u : Int) < (nxM N.toNat L (k - 1) u (yR N.toNat L (exR N.toNat L (u : Int) (k - 1)) i)).length by omega⟩
      | exact ⟨show 0 ≤ (lkA L i).2.1 ∧ (lkA L i).2.1 < ((rwA (nxM N.toNat L (k - 1) u (yR N.toNat L (exR N.toNat L (u : Int) (k - 1)) i)) (u : Int)).length : Int) by rw [mrl]; exact hnA.2⟩
      | exact ⟨show 0 + Int.toNat (lkA L i).2.1 < (rwA (nxM N.toNat L (k - 1) u (yR N.toNat L (exR N.toNat L (u : Int) (k - 1)) i)) (u : Int)).length by rw [mrl]; omega⟩
      | (refine Ob.mk ?_; show (inRQ .i64 (e1A (rwA (row3 (tbT N.toNat L k) ((k : Int) - 1)) (u : Int)) (lkA L i).1 + (lkA L i).2.2)).p; rw [hO]; simp only [inRQ, inR, Duty.of_p]; omega)
    all_goals
      refine ⟨i + 1, [0, 1, 2, 3, 4], hi1, ?_, by show L.length - (i + 1) < L.length - i; omega⟩
      subst_vars
      repeat' ((conv => whnf); (first | apply And.intro | intro _))
      all_goals first | rfl | trivial | exact Nat.le_of_ble_eq_true rfl | exact ⟨rfl, rfl, rfl⟩ | exact ⟨rfl, rfl, rfl, rfl⟩ | exact ⟨rfl, rfl⟩ | exact e1 | (subst_vars; rfl) | exact ⟨rfl, rfl, e1⟩
)
end Go.Proofs.Ytlmhkeoblgodiaa
end

section
/-
  Chapter 2: the specification's walk. Printed by gen69.py.
-/
namespace Go.Proofs.Ytlmhkeoblgodiaa
open Go Go.Sy Go.Chn
set_option maxRecDepth 100000
set_option maxHeartbeats 4000000
set_option linter.unusedVariables false
set_option linter.unusedSimpArgs false
variable {Γ : Glob}
def newSUnnnn (D : Int → List Lk → List (List (List Int)) → Int → Int → Int → Int → List Duty) (R : Int → List Lk → List (List (List Int)) → Int → Int → Int → Int → Res) : Ctr := .new fun args rg K => match args with
  | [.agg [.v (.int .i64 N0), x0], .a x1, .a (.v (.int .i64 i0)), .a (.v (.int .i64 i1)), .a (.v (.int .i64 i2)), .a (.v (.int .i64 i3))] => (match arrOf 44 kL rg x0, arrOf 35 kTT rg x1 with | some (q0, L0), some (q1, L1) => oblige false (q0 ++ (q1 ++ (D N0 L0 L1 i0 i1 i2 i3))) (K (R N0 L0 L1 i0 i1 i2 i3)) | _, _ => False)
  | _ => False
theorem newSUnnnn_ok {f : FuncId} {b : Body} {E : Env} {d : Nat} (hP : ProgOk Try.prog Γ E) (hb : BodyOk Try.prog f b) {D : Int → List Lk → List (List (List Int)) → Int → Int → Int → Int → List Duty} {R : Int → List Lk → List (List (List Int)) → Int → Int → Int → Int → Res}
    (H : ∀ (N0 : Int) (L0 : List Lk) (L1 : List (List (List Int))) (i0 : Int) (i1 : Int) (i2 : Int) (i3 : Int) (K : Res → Prop), obl (D N0 L0 L1 i0 i1 i2 i3) → K (R N0 L0 L1 i0 i1 i2 i3) → evTop E d b [.agg [vI N0, .sl 0 [] 0 L0.length], .a (.sl 1 [] 0 L1.length), .a (vI i0), .a (vI i1), .a (vI i2), .a (vI i3)] [.arr 44 kL L0 false false, .arr 35 kTT L1 false false] (resW K)) : Ctr.Ok Try.prog Γ f (newSUnnnn D R) := Ctr.new_okW (d := d) hP hb (by
  intro args rg K hC
  split at hC
  next N0 x0 x1 i0 i1 i2 i3 =>
    split at hC
    next q0 L0 q1 L1 hx0 hx1 =>
      rw [oblige_iff, obl_append, obl_append] at hC
      obtain ⟨⟨hq0, hq1, hD⟩, hK⟩ := hC
      obtain ⟨e0, he0⟩ := pas_arr (by simp [kL]) hx0 hq0
      obtain ⟨e1, he1⟩ := pas_arr (by simp [kTT]) hx1 hq1
      obtain ⟨p0, r0⟩ := he0 [e0, e1] 0 2 rfl (by omega)
      obtain ⟨p1, r1⟩ := he1 [e0, e1] 1 2 rfl (by omega)
      refine ⟨[e0, e1], [.agg [vI N0, .sl 0 [] 0 L0.length], .a (.sl 1 [] 0 L1.length), .a (vI i0), .a (vI i1), .a (vI i2), .a (vI i3)], [.arr 44 kL L0 false false, .arr 35 kTT L1 false false], ⟨⟨⟨rfl, p0, trivial⟩, p1, rfl, rfl, rfl, rfl, trivial⟩, fun r g hg => ?_⟩, resW K, H _ _ _ _ _ _ _ K hD hK, fun x st h => h⟩
      match r, hg with
      | 0, hg => obtain rfl := Option.some.inj hg; exact r0
      | 1, hg => obtain rfl := Option.some.inj hg; exact r1
    next => exact hC.elim
  next => exact hC.elim)
def wkF (N : Nat) (L : List Lk) (k : Nat) (f to m : Int) : List Int := folF L (fT (xT N L to 61)) (fun x => decide (x ≤ m)) k f 0
attribute [local irreducible] gi lk exR tbT rowT folF findF hitF wkF
def c71 : Ctr := newSUnnnn (fun N L T k f to m => [(Duty.of (N = N.toNat)), askD N.toNat L, (Duty.of (T = tbT N.toNat L T.length)), (Duty.of (T.length ≤ 61)), (Duty.of (k = k.toNat)), (Duty.of (k.toNat ≤ T.length)), (Duty.of (0 ≤ f)), (Duty.of (f < N.toNat)), (Duty.of (0 ≤ to)), (Duty.of (to < N.toNat)), (Duty.of (-1152921504606846976 ≤ m)), (Duty.of (m ≤ 1152921504606846976))])
  (fun N L T k f to m => ⟨[.arr 3 kI (wkF N.toNat L k.toNat f to m) true true], .a (.sl 0 [] 0 (wkF N.toNat L k.toNat f to m).length)⟩)
theorem c71_ok : Ctr.Ok Try.prog Γ 71 c71 := newSUnnnn_ok (d := 0) (prog_ok CsOk.nil BsOk.nil false 0) (body_of Try.func71 rfl rfl) (by
  intro N L T kz f to m K ⟨hN, ha, hT, hT61, hkz, hkT, hf0, hf1, ht0, ht1, hm0, hm1, _⟩ hK
  replace ha : AskL N.toNat L := ha
  simp only [Duty.of_p] at hN hT hT61 hkz hkT hf0 hf1 ht0 ht1 hm0 hm1
  obtain ⟨k, rfl⟩ : ∃ k : Nat, kz = k := ⟨_, hkz⟩
  rw [Int.toNat_natCast] at hkT hK
  have h60 := ha.n
  have hll := ha.l
  have htN : inN N.toNat to := ⟨ht0, ht1⟩
  have hTx : xtP N.toNat L (xT N.toNat L to 61) := ⟨to, htN, by rw [xT_len], by rw [xT_len]; omega⟩
  have hW : wkF N.toNat L k f to m = folF L (fT (xT N.toNat L to 61)) (fun x => decide (x ≤ m)) k f 0 := by unfold wkF; rfl
  repeat' ((conv => whnf); (first | apply And.intro | (intro h9; first | (have h8 : (_ : Bool) = false := h9; exfalso; clear h8; revert h9; subst_vars; intro h9; exact ft_no (h9.symm.trans (by assumption))) | (have h8 : (_ : Bool) = true := h9; exfalso; clear h8; revert h9; subst_vars; intro h9; exact tf_no (h9.symm.trans (by assumption))) | skip)))
  all_goals try (conv => whnf)
  all_goals try first
    | exact LexB.mk (by kernel_rfl)
    | exact LexG.mk (by kernel_rfl)
    | exact LexT.mk (by kernel_rfl)
    | exact Forced.mk (by kernel_rfl)
    | exact LexP.mk (by kernel_rfl)
    | exact ForcedP.mk (by kernel_rfl)
    | exact ⟨Nat.le_of_ble_eq_true rfl⟩
    | exact ⟨rfl⟩
    | exact ⟨trivial⟩
  all_goals subst_vars
  all_goals try first
    | rfl
    | contradiction
    | (refine Ob.mk ?_; simp only [inRQ, inR, Duty.of_p]; omega)
  all_goals try first
    | exact ⟨show L.length ≤ 1000000 by omega⟩
    | exact ⟨hN⟩
  refine ⟨Nat × Int × Int × List Int, FolI N.toNat L (xT N.toNat L to 61) (fun x => decide (x ≤ m)) k f, fun p => ⟨slotsT 74 [1, 2, 4, 5, 6, 13, 14] [.a (.sl 1 [] 0 T.length), .a (vI p.1), .a (vI to), .a (vI (m - p.2.2.1)), .a (.p 2 [] 0 0), .a (.sl 3 [] 0 p.2.2.2.length), .a (vI p.2.1)], [], [.arr 44 kL L false false, .arr 35 kTT T false false, .box true [vI N, .sl 0 [] 0 L.length], .arr 3 kI p.2.2.2 true true]⟩, fun p => p.1, (k, f, 0, []), [0, 1, 2, 1000], .zero ⟨hf0, hf1⟩, ?_, ?_⟩
  · have e0 : m = m - 0 := by omega
    repeat' ((conv => whnf); (first | apply And.intro | intro _))
    all_goals first | rfl | trivial | exact Nat.le_of_ble_eq_true rfl | exact ⟨rfl, rfl, rfl⟩ | exact ⟨rfl, rfl, rfl, rfl⟩ | exact ⟨rfl, rfl⟩ | exact e0 | exact e0.symm | (simp; done)
  rintro ⟨j, a, s, acc⟩ hI
  have hIj := hI.j
  have hIl := hI.l
  have hIs := hI.s
  simp only at hIj hIl hIs
  cases j with
  | zero =>
    have q0 : decide (((0 : Nat) : Int) > 0) = false := rfl
    rw [hW, ← hI.end] at hK
    repeat' ((conv => whnf); (first | apply And.intro | (intro h9; first | (have h8 : (_ : Bool) = false := h9; exfalso; clear h8; revert h9; subst_vars; intro h9; exact ft_no (h9.symm.trans (by assumption))) | (have h8 : (_ : Bool) = true := h9; exfalso; clear h8; revert h9; subst_vars; intro h9; exact tf_no (h9.symm.trans (by assumption))) | skip)))
    all_goals try (conv => whnf)
    all_goals try first
      | exact LexB.mk (by kernel_rfl)
      | exact LexG.mk (by kernel_rfl)
      | exact LexT.mk (by kernel_rfl)
      | exact Forced.mk (by kernel_rfl)
      | exact LexP.mk (by kernel_rfl)
      | exact ForcedP.mk (by kernel_rfl)
      | exact ⟨Nat.le_of_ble_eq_true rfl⟩
      | exact ⟨rfl⟩
      | exact ⟨trivial⟩
    all_goals subst_vars
    all_goals try first
      | rfl
      | contradiction
      | (refine Ob.mk ?_; simp only [inRQ, inR, Duty.of_p]; omega)
    all_goals try first
      | exact ⟨show L.length ≤ 1000000 by omega⟩
      | exact ⟨hN⟩
    all_goals exact kl1 (i := 3) hK rfl rfl
  | succ j =>
    have q0 : decide (((j + 1 : Nat) : Int) > 0) = true := decide_eq_true (by omega)
    have hix : 0 + Int.toNat (((j + 1 : Nat) : Int) - 1) = j := by omega
    have hr3 : (row3 T (((j + 1 : Nat) : Int) - 1)) = rowT N.toNat L j := by
      unfold row3; rw [hix, hT]; exact tbT_get (by omega)
    have hr3l : ((row3 T (((j + 1 : Nat) : Int) - 1))).length = N.toNat := by rw [hr3]; exact rowT_len
    have hrw : ∀ v, inN N.toNat v → rwA (row3 T (((j + 1 : Nat) : Int) - 1)) v = exR N.toNat L v j := fun v hv => by rw [rwA_eq, hr3]; exact rowT_get hv
    repeat' ((conv => whnf); (first | apply And.intro | (intro h9; first | (have h8 : (_ : Bool) = false := h9; exfalso; clear h8; revert h9; subst_vars; intro h9; exact ft_no (h9.symm.trans (by assumption))) | (have h8 : (_ : Bool) = true := h9; exfalso; clear h8; revert h9; subst_vars; intro h9; exact tf_no (h9.symm.trans (by assumption))) | skip)))
    all_goals try (conv => whnf)
    all_goals try first
      | exact LexB.mk (by kernel_rfl)
      | exact LexG.mk (by kernel_rfl)
      | exact LexT.mk (by kernel_rfl)
      | exact Forced.mk (by kernel_rfl)
      | exact LexP.mk (by kernel_rfl)
      | exact ForcedP.mk (by kernel_rfl)
      | exact ⟨Nat.le_of_ble_eq_true rfl⟩
      | exact ⟨rfl⟩
      | exact ⟨trivial⟩
    all_goals subst_vars
    all_goals try first
      | rfl
      | contradiction
      | (refine Ob.mk ?_; simp only [inRQ, inR, Duty.of_p]; omega)
    all_goals try first
      | exact ⟨show L.length ≤ 1000000 by omega⟩
      | exact ⟨hN⟩
    refine ⟨Nat, fun i => i ≤ L.length ∧ findF (fT (xT N.toNat L to 61) j) a s (fun x => decide (x ≤ m)) 0 L = findF (fT (xT N.toNat L to 61) j) a s (fun x => decide (x ≤ m)) i (L.drop i), fun i => ⟨slotsT 74 [1, 2, 4, 5, 6, 13, 14, 15] [.a (.sl 1 [] 0 T.length), .a (vI ((j + 1 : Nat) : Int)), .a (vI to), .a (vI (m - s)), .a (.p 2 [] 0 0), .a (.sl 3 [] 0 acc.length), .a (vI a), .a (vI i)], [], [.arr 44 kL L false false, .arr 35 kTT T false false, .box true [vI N, .sl 0 [] 0 L.length], .arr 3 kI acc true true]⟩, fun i => L.length - i, 0, [], ⟨Nat.zero_le _, rfl⟩, ?_, ?_⟩
    · subst_vars
      repeat' ((conv => whnf); (first | apply And.intro | intro _))
      all_goals first | rfl | trivial | exact Nat.le_of_ble_eq_true rfl | exact ⟨rfl, rfl, rfl⟩ | exact ⟨rfl, rfl, rfl, rfl⟩ | exact ⟨rfl, rfl⟩
    rintro i ⟨hi, hfd⟩
    by_cases hi1 : i < L.length
    · have p0 : decide ((i : Int) < (L.length : Int)) = true := decide_eq_true (by omega)
      have hnd := ha.ok.nd _ (lk_mem' hi1)
      have hms := ha.ok.ms _ (lk_mem' hi1)
      have hA := lkA_eq L i
      have hnA : (0 ≤ (lkA L i).1 ∧ (lkA L i).1 < N.toNat) ∧ (0 ≤ (lkA L i).2.1 ∧ (lkA L i).2.1 < N.toNat) := by rw [hA]; exact hnd
      have hmA : -4503599627370496 ≤ (lkA L i).2.2 ∧ (lkA L i).2.2 ≤ 4503599627370496 := by rw [hA]; exact hms
      have hr2 : ((rwA (row3 T (((j + 1 : Nat) : Int) - 1)) (lkA L i).2.1)).length = N.toNat := by rw [hrw _ hnA.2]; exact exR_len
      have hR : (e1A (rwA (row3 T (((j + 1 : Nat) : Int) - 1)) (lkA L i).2.1) to) = gi (fT (xT N.toNat L to 61) j) (lk L i).2.1 := by
        rw [e1A_eq ht0, hrw _ hnA.2, hA]
        have : fT (xT N.toNat L to 61) j = exF N.toNat L to j := xT_get (by omega)
        rw [this]; exact (exFR ha.ok hnd.2 htN (by omega)).symm
      have hRz : (e1A (rwA (row3 T (((j + 1 : Nat) : Int) - 1)) (lkA L i).2.1) to) ≠ Fr → -270215977642229760 ≤ (e1A (rwA (row3 T (((j + 1 : Nat) : Int) - 1)) (lkA L i).2.1) to) ∧ (e1A (rwA (row3 T (((j + 1 : Nat) : Int) - 1)) (lkA L i).2.1) to) ≤ 270215977642229760 := fun h => by
        rw [hR] at h ⊢
        exact (xt_row hTx ha (j := j) (by rw [xT_len]; omega)).2 _ hnd.2 h
      have hH : hitF (fT (xT N.toNat L to 61) j) a s (fun x => decide (x ≤ m)) (lk L i) = (((lkA L i).1 == a) && ((e1A (rwA (row3 T (((j + 1 : Nat) : Int) - 1)) (lkA L i).2.1) to) != 1152921504606846976) && decide ((lkA L i).2.2 + (e1A (rwA (row3 T (((j + 1 : Nat) : Int) - 1)) (lkA L i).2.1) to) ≤ m - s)) := by
        rw [hitF_eq, hR, hA]
        congr 1
        rw [Bool.eq_iff_iff, decide_eq_true_eq, decide_eq_true_eq]; omega
      cases c1 : ((lkA L i).1 == a)
      · have hgo := hfd.trans (fd_go hi1 (by rw [hH, c1]; rfl))
        repeat' ((conv => whnf); (first | apply And.intro | (intro h9; first | (have h8 : (_ : Bool) = false := h9; exfalso; clear h8; revert h9; subst_vars; intro h9; exact ft_no (h9.symm.trans (by assumption))) | (have h8 : (_ : Bool) = true := h9; exfalso; clear h8; revert h9; subst_vars; intro h9; exact tf_no (h9.symm.trans (by assumption))) | skip)))
        all_goals try (conv => whnf)
        all_goals try first
          | exact LexB.mk (by kernel_rfl)
          | exact LexG.mk (by kernel_rfl)
          | exact LexT.mk (by kernel_rfl)
          | exact Forced.mk (by kernel_rfl)
          | exact LexP.mk (by kernel_rfl)
          | exact ForcedP.mk (by kernel_rfl)
          | exact ⟨Nat.le_of_ble_eq_true rfl⟩
          | exact ⟨rfl⟩
          | exact ⟨trivial⟩
        all_goals subst_vars
        all_goals try first
          | rfl
          | contradiction
          | (refine Ob.mk ?_; simp only [inRQ, inR, Duty.of_p]; omega)
        all_goals try first
          | exact ⟨show L.length ≤ 1000000 by omega⟩
          | exact ⟨hN⟩
          | exact ⟨show 0 ≤ (i : Int) ∧ (i : Int) < (L.length : Int) by omega⟩
          | exact ⟨show 0 + Int.toNat (i : Int) < L.length by omega⟩
          | exact ⟨show 0 ≤ (((j + 1 : Nat) : Int) - 1) ∧ (((j + 1 : Nat) : Int) - 1) < (T.length : Int) by omega⟩
          | exact ⟨show 0 + Int.toNat (((j + 1 : Nat) : Int) - 1) < T.length by omega⟩
          | exact ⟨show 0 ≤ (lkA L i).2.1 ∧ (lkA L i).2.1 < (((row3 T (((j + 1 : Nat) : Int) - 1))).length : Int) by rw [hr3l]; exact hnA.2⟩
          | exact ⟨show 0 + Int.toNat (lkA L i).2.1 < ((row3 T (((j + 1 : Nat) : Int) - 1))).length by rw [hr3l]; omega⟩
          | exact ⟨show 0 ≤ to ∧ to < (((rwA (row3 T (((j + 1 : Nat) : Int) - 1)) (lkA L i).2.1)).length : Int) by rw [hr2]; exact htN⟩
          | exact ⟨show 0 + Int.toNat to < ((rwA (row3 T (((j + 1 : Nat) : Int) - 1)) (lkA L i).2.1)).length by rw [hr2]; omega⟩
          | (refine Ob.mk ?_; show (inRQ .i64 ((lkA L i).2.2 + (e1A (rwA (row3 T (((j + 1 : Nat) : Int) - 1)) (lkA L i).2.1) to))).p; simp only [inRQ, inR, Duty.of_p]; omega)
          | (refine Ob.mk ?_; show (inRQ .i64 (m - s - (lkA L i).2.2)).p; simp only [inRQ, inR, Duty.of_p]; omega)
          | exact ⟨show (acc.length + 1) * 1 ≤ 1099511627776 by omega⟩
          | exact ⟨Nat.zero_add _⟩
        all_goals
          refine ⟨i + 1, [0, 1, 2, 3], ⟨hi1, hgo⟩, ?_, by show L.length - (i + 1) < L.length - i; omega⟩
          subst_vars
          repeat' ((conv => whnf); (first | apply And.intro | intro _))
          all_goals first | rfl | trivial | exact Nat.le_of_ble_eq_true rfl | exact ⟨rfl, rfl, rfl⟩ | exact ⟨rfl, rfl, rfl, rfl⟩ | exact ⟨rfl, rfl⟩ | (subst_vars; rfl)
      · cases c2 : ((e1A (rwA (row3 T (((j + 1 : Nat) : Int) - 1)) (lkA L i).2.1) to) != 1152921504606846976)
        · have hgo := hfd.trans (fd_go hi1 (by rw [hH, c1, c2]; rfl))
          repeat' ((conv => whnf); (first | apply And.intro | (intro h9; first | (have h8 : (_ : Bool) = false := h9; exfalso; clear h8; revert h9; subst_vars; intro h9; exact ft_no (h9.symm.trans (by assumption))) | (have h8 : (_ : Bool) = true := h9; exfalso; clear h8; revert h9; subst_vars; intro h9; exact tf_no (h9.symm.trans (by assumption))) | skip)))
          all_goals try (conv => whnf)
          all_goals try first
            | exact LexB.mk (by kernel_rfl)
            | exact LexG.mk (by kernel_rfl)
            | exact LexT.mk (by kernel_rfl)
            | exact Forced.mk (by kernel_rfl)
            | exact LexP.mk (by kernel_rfl)
            | exact ForcedP.mk (by kernel_rfl)
            | exact ⟨Nat.le_of_ble_eq_true rfl⟩
            | exact ⟨rfl⟩
            | exact ⟨trivial⟩
          all_goals subst_vars
          all_goals try first
            | rfl
            | contradiction
            | (refine Ob.mk ?_; simp only [inRQ, inR, Duty.of_p]; omega)
          all_goals try first
            | exact ⟨show L.length ≤ 1000000 by omega⟩
            | exact ⟨hN⟩
            | exact ⟨show 0 ≤ (i : Int) ∧ (i : Int) < (L.length : Int) by omega⟩
            | exact ⟨show 0 + Int.toNat (i : Int) < L.length by omega⟩
            | exact ⟨show 0 ≤ (((j + 1 : Nat) : Int) - 1) ∧ (((j + 1 : Nat) : Int) - 1) < (T.length : Int) by omega⟩
            | exact ⟨show 0 + Int.toNat (((j + 1 : Nat) : Int) - 1) < T.length by omega⟩
            | exact ⟨show 0 ≤ (lkA L i).2.1 ∧ (lkA L i).2.1 < (((row3 T (((j + 1 : Nat) : Int) - 1))).length : Int) by rw [hr3l]; exact hnA.2⟩
            | exact ⟨show 0 + Int.toNat (lkA L i).2.1 < ((row3 T (((j + 1 : Nat) : Int) - 1))).length by rw [hr3l]; omega⟩
            | exact ⟨show 0 ≤ to ∧ to < (((rwA (row3 T (((j + 1 : Nat) : Int) - 1)) (lkA L i).2.1)).length : Int) by rw [hr2]; exact htN⟩
            | exact ⟨show 0 + Int.toNat to < ((rwA (row3 T (((j + 1 : Nat) : Int) - 1)) (lkA L i).2.1)).length by rw [hr2]; omega⟩
            | (refine Ob.mk ?_; show (inRQ .i64 ((lkA L i).2.2 + (e1A (rwA (row3 T (((j + 1 : Nat) : Int) - 1)) (lkA L i).2.1) to))).p; simp only [inRQ, inR, Duty.of_p]; omega)
            | (refine Ob.mk ?_; show (inRQ .i64 (m - s - (lkA L i).2.2)).p; simp only [inRQ, inR, Duty.of_p]; omega)
            | exact ⟨show (acc.length + 1) * 1 ≤ 1099511627776 by omega⟩
            | exact ⟨Nat.zero_add _⟩
          all_goals
            refine ⟨i + 1, [0, 1, 2, 3], ⟨hi1, hgo⟩, ?_, by show L.length - (i + 1) < L.length - i; omega⟩
            subst_vars
            repeat' ((conv => whnf); (first | apply And.intro | intro _))
            all_goals first | rfl | trivial | exact Nat.le_of_ble_eq_true rfl | exact ⟨rfl, rfl, rfl⟩ | exact ⟨rfl, rfl, rfl, rfl⟩ | exact ⟨rfl, rfl⟩ | (subst_vars; rfl)
        · have hR1 := hRz (by unfold Fr; simpa using c2)
          cases c3 : decide ((lkA L i).2.2 + (e1A (rwA (row3 T (((j + 1 : Nat) : Int) - 1)) (lkA L i).2.1) to) ≤ m - s)
          · have hgo := hfd.trans (fd_go hi1 (by rw [hH, c1, c2, c3]; rfl))
            repeat' ((conv => whnf); (first | apply And.intro | (intro h9; first | (have h8 : (_ : Bool) = false := h9; exfalso; clear h8; revert h9; subst_vars; intro h9; exact ft_no (h9.symm.trans (by assumption))) | (have h8 : (_ : Bool) = true := h9; exfalso; clear h8; revert h9; subst_vars; intro h9; exact tf_no (h9.symm.trans (by assumption))) | skip)))
            all_goals try (conv => whnf)
            all_goals try first
              | exact LexB.mk (by kernel_rfl)
              | exact LexG.mk (by kernel_rfl)
              | exact LexT.mk (by kernel_rfl)
              | exact Forced.mk (by kernel_rfl)
              | exact LexP.mk (by kernel_rfl)
              | exact ForcedP.mk (by kernel_rfl)
              | exact ⟨Nat.le_of_ble_eq_true rfl⟩
              | exact ⟨rfl⟩
              | exact ⟨trivial⟩
            all_goals subst_vars
            all_goals try first
              | rfl
              | contradiction
              | (refine Ob.mk ?_; simp only [inRQ, inR, Duty.of_p]; omega)
            all_goals try first
              | exact ⟨show L.length ≤ 1000000 by omega⟩
              | exact ⟨hN⟩
              | exact ⟨show 0 ≤ (i : Int) ∧ (i : Int) < (L.length : Int) by omega⟩
              | exact ⟨show 0 + Int.toNat (i : Int) < L.length by omega⟩
              | exact ⟨show 0 ≤ (((j + 1 : Nat) : Int) - 1) ∧ (((j + 1 : Nat) : Int) - 1) < (T.length : Int) by omega⟩
              | exact ⟨show 0 + Int.toNat (((j + 1 : Nat) : Int) - 1) < T.length by omega⟩
              | exact ⟨show 0 ≤ (lkA L i).2.1 ∧ (lkA L i).2.1 < (((row3 T (((j + 1 : Nat) : Int) - 1))).length : Int) by rw [hr3l]; exact hnA.2⟩
              | exact ⟨show 0 + Int.toNat (lkA L i).2.1 < ((row3 T (((j + 1 : Nat) : Int) - 1))).length by rw [hr3l]; omega⟩
              | exact ⟨show 0 ≤ to ∧ to < (((rwA (row3 T (((j + 1 : Nat) : Int) - 1)) (lkA L i).2.1)).length : Int) by rw [hr2]; exact htN⟩
              | exact ⟨show 0 + Int.toNat to < ((rwA (row3 T (((j + 1 : Nat) : Int) - 1)) (lkA L i).2.1)).length by rw [hr2]; omega⟩
              | (refine Ob.mk ?_; show (inRQ .i64 ((lkA L i).2.2 + (e1A (rwA (row3 T (((j + 1 : Nat) : Int) - 1)) (lkA L i).2.1) to))).p; simp only [inRQ, inR, Duty.of_p]; omega)
              | (refine Ob.mk ?_; show (inRQ .i64 (m - s - (lkA L i).2.2)).p; simp only [inRQ, inR, Duty.of_p]; omega)
              | exact ⟨show (acc.length + 1) * 1 ≤ 1099511627776 by omega⟩
              | exact ⟨Nat.zero_add _⟩
            all_goals
              refine ⟨i + 1, [0, 1, 2, 3], ⟨hi1, hgo⟩, ?_, by show L.length - (i + 1) < L.length - i; omega⟩
              subst_vars
              repeat' ((conv => whnf); (first | apply And.intro | intro _))
              all_goals first | rfl | trivial | exact Nat.le_of_ble_eq_true rfl | exact ⟨rfl, rfl, rfl⟩ | exact ⟨rfl, rfl, rfl, rfl⟩ | exact ⟨rfl, rfl⟩ | (subst_vars; rfl)
          · have hb : hitF (fT (xT N.toNat L to 61) j) a s (fun x => decide (x ≤ m)) (lk L i) = true := by rw [hH, c1, c2, c3]; rfl
            have eM : m - s - (lkA L i).2.2 = m - (s + (lkA L i).2.2) := by omega
            repeat' ((conv => whnf); (first | apply And.intro | (intro h9; first | (have h8 : (_ : Bool) = false := h9; exfalso; clear h8; revert h9; subst_vars; intro h9; exact ft_no (h9.symm.trans (by assumption))) | (have h8 : (_ : Bool) = true := h9; exfalso; clear h8; revert h9; subst_vars; intro h9; exact tf_no (h9.symm.trans (by assumption))) | skip)))
            all_goals try (conv => whnf)
            all_goals try first
              | exact LexB.mk (by kernel_rfl)
              | exact LexG.mk (by kernel_rfl)
              | exact LexT.mk (by kernel_rfl)
              | exact Forced.mk (by kernel_rfl)
              | exact LexP.mk (by kernel_rfl)
              | exact ForcedP.mk (by kernel_rfl)
              | exact ⟨Nat.le_of_ble_eq_true rfl⟩
              | exact ⟨rfl⟩
              | exact ⟨trivial⟩
            all_goals subst_vars
            all_goals try first
              | rfl
              | contradiction
              | (refine Ob.mk ?_; simp only [inRQ, inR, Duty.of_p]; omega)
            all_goals try first
              | exact ⟨show L.length ≤ 1000000 by omega⟩
              | exact ⟨hN⟩
              | exact ⟨show 0 ≤ (i : Int) ∧ (i : Int) < (L.length : Int) by omega⟩
              | exact ⟨show 0 + Int.toNat (i : Int) < L.length by omega⟩
              | exact ⟨show 0 ≤ (((j + 1 : Nat) : Int) - 1) ∧ (((j + 1 : Nat) : Int) - 1) < (T.length : Int) by omega⟩
              | exact ⟨show 0 + Int.toNat (((j + 1 : Nat) : Int) - 1) < T.length by omega⟩
              | exact ⟨show 0 ≤ (lkA L i).2.1 ∧ (lkA L i).2.1 < (((row3 T (((j + 1 : Nat) : Int) - 1))).length : Int) by rw [hr3l]; exact hnA.2⟩
              | exact ⟨show 0 + Int.toNat (lkA L i).2.1 < ((row3 T (((j + 1 : Nat) : Int) - 1))).length by rw [hr3l]; omega⟩
              | exact ⟨show 0 ≤ to ∧ to < (((rwA (row3 T (((j + 1 : Nat) : Int) - 1)) (lkA L i).2.1)).length : Int) by rw [hr2]; exact htN⟩
              | exact ⟨show 0 + Int.toNat to < ((rwA (row3 T (((j + 1 : Nat) : Int) - 1)) (lkA L i).2.1)).length by rw [hr2]; omega⟩
              | (refine Ob.mk ?_; show (inRQ .i64 ((lkA L i).2.2 + (e1A (rwA (row3 T (((j + 1 : Nat) : Int) - 1)) (lkA L i).2.1) to))).p; simp only [inRQ, inR, Duty.of_p]; omega)
              | (refine Ob.mk ?_; show (inRQ .i64 (m - s - (lkA L i).2.2)).p; simp only [inRQ, inR, Duty.of_p]; omega)
              | exact ⟨show (acc.length + 1) * 1 ≤ 1099511627776 by omega⟩
              | exact ⟨Nat.zero_add _⟩
            all_goals
              refine ⟨(j, (lkA L i).2.1, s + (lkA L i).2.2, acc ++ [(i : Int)]), [0, 1, 2, 3], by rw [hA]; exact hI.hit (i := i) hnd.2 hms (hfd.trans (fd_hit hi1 hb)), ?_, by show j < j + 1; omega⟩
              subst_vars
              repeat' ((conv => whnf); (first | apply And.intro | intro _))
              all_goals first | rfl | trivial | exact Nat.le_of_ble_eq_true rfl | exact ⟨rfl, rfl, rfl⟩ | exact ⟨rfl, rfl, rfl, rfl⟩ | exact ⟨rfl, rfl⟩ | exact eM | exact eM.symm | (subst_vars; rfl) | (simp; done) | (show ((j + 1 : Nat) : Int) - 1 = (j : Int); omega)
    · have p0 : decide ((i : Int) < (L.length : Int)) = false := decide_eq_false (by omega)
      have hI3 := hI.miss (hfd.trans (fd_end (by omega)))
      repeat' ((conv => whnf); (first | apply And.intro | (intro h9; first | (have h8 : (_ : Bool) = false := h9; exfalso; clear h8; revert h9; subst_vars; intro h9; exact ft_no (h9.symm.trans (by assumption))) | (have h8 : (_ : Bool) = true := h9; exfalso; clear h8; revert h9; subst_vars; intro h9; exact tf_no (h9.symm.trans (by assumption))) | skip)))
      all_goals try (conv => whnf)
      all_goals try first
        | exact LexB.mk (by kernel_rfl)
        | exact LexG.mk (by kernel_rfl)
        | exact LexT.mk (by kernel_rfl)
        | exact Forced.mk (by kernel_rfl)
        | exact LexP.mk (by kernel_rfl)
        | exact ForcedP.mk (by kernel_rfl)
        | exact ⟨Nat.le_of_ble_eq_true rfl⟩
        | exact ⟨rfl⟩
        | exact ⟨trivial⟩
      all_goals subst_vars
      all_goals try first
        | rfl
        | contradiction
        | (refine Ob.mk ?_; simp only [inRQ, inR, Duty.of_p]; omega)
      all_goals try first
        | exact ⟨show L.length ≤ 1000000 by omega⟩
        | exact ⟨hN⟩
        | exact ⟨show 0 ≤ (i : Int) ∧ (i : Int) < (L.length : Int) by omega⟩
        | exact ⟨show 0 + Int.toNat (i : Int) < L.length by omega⟩
        | exact ⟨show 0 ≤ (((j + 1 : Nat) : Int) - 1) ∧ (((j + 1 : Nat) : Int) - 1) < (T.length : Int) by omega⟩
        | exact ⟨show 0 + Int.toNat (((j + 1 : Nat) : Int) - 1) < T.length by omega⟩
        | exact ⟨show 0 ≤ (lkA L i).2.1 ∧ (lkA L i).2.1 < (((row3 T (((j + 1 : Nat) : Int) - 1))).length : Int) by rw [hr3l]; exact hnA.2⟩
        | exact ⟨show 0 + Int.toNat (lkA L i).2.1 < ((row3 T (((j + 1 : Nat) : Int) - 1))).length by rw [hr3l]; omega⟩
        | exact ⟨show 0 ≤ to ∧ to < (((rwA (row3 T (((j + 1 : Nat) : Int) - 1)) (lkA L i).2.1)).length : Int) by rw [hr2]; exact htN⟩
        | exact ⟨show 0 + Int.toNat to < ((rwA (row3 T (((j + 1 : Nat) : Int) - 1)) (lkA L i).2.1)).length by rw [hr2]; omega⟩
        | (refine Ob.mk ?_; show (inRQ .i64 ((lkA L i).2.2 + (e1A (rwA (row3 T (((j + 1 : Nat) : Int) - 1)) (lkA L i).2.1) to))).p; simp only [inRQ, inR, Duty.of_p]; omega)
        | (refine Ob.mk ?_; show (inRQ .i64 (m - s - (lkA L i).2.2)).p; simp only [inRQ, inR, Duty.of_p]; omega)
        | exact ⟨show (acc.length + 1) * 1 ≤ 1099511627776 by omega⟩
        | exact ⟨Nat.zero_add _⟩
      all_goals
        refine ⟨(j, a, s, acc), [0, 1, 2, 3], hI3, ?_, by show j < j + 1; omega⟩
        subst_vars
        repeat' ((conv => whnf); (first | apply And.intro | intro _))
        all_goals first | rfl | trivial | exact Nat.le_of_ble_eq_true rfl | exact ⟨rfl, rfl, rfl⟩ | exact ⟨rfl, rfl, rfl, rfl⟩ | exact ⟨rfl, rfl⟩ | (subst_vars; rfl) | (show ((j + 1 : Nat) : Int) - 1 = (j : Int); omega)
)
end Go.Proofs.Ytlmhkeoblgodiaa
end

section
/-
  Chapter 2: the specification's chains are those of the program.
-/
namespace Go.Proofs.Ytlmhkeoblgodiaa
open Go Go.Sy Go.Chn
set_option linter.unusedVariables false
set_option linter.unusedSimpArgs false
theorem find_good {row : List Int} {a s s' : Int} {good good' : Int → Bool} {V : List Lk} {i : Nat} (h : ∀ l ∈ V, hitF row a s good l = hitF row a s' good' l) : findF row a s good i V = findF row a s' good' i V := find_congr h
theorem fol_shift {U : List Lk} {T : Nat → List Int} {good : Int → Bool} {c : Int} : ∀ {k : Nat} {a s : Int}, folF U T good k a (s + c) = folF U T (fun x => good (x + c)) k a s
  | 0, _, _ => rfl
  | k + 1, a, s => by
    have e : findF (T k) a (s + c) good 0 U = findF (T k) a s (fun x => good (x + c)) 0 U := find_good fun l _ => by
      unfold hitF
      rw [show s + c + l.2.2 + gi (T k) l.2.1 = s + l.2.2 + gi (T k) l.2.1 + c by omega]
    rw [folF, folF, e]
    split
    · rename_i i l _
      rw [show s + c + l.2.2 = s + l.2.2 + c by omega, fol_shift]
    · rw [fol_shift]
section
variable {N : Nat} {U : List Lk}
theorem fol_le (hU : Lks N U) {a0 to d : Int} (ht : inN N to) (hd : IsD U a0 to d) : ∀ {k : Nat} {a s : Int}, k ≤ 60 → (∃ p, Ch a0 p a ∧ Sub p U ∧ sumL p = s) → folF U (exF N U to) (fun x => decide (x ≤ d)) k a s = folF U (exF N U to) (fun x => x == d) k a s
  | 0, _, _, _, _ => rfl
  | k + 1, a, s, hk, ⟨p, p1, p2, p3⟩ => by
    have key : ∀ l ∈ U, hitF (exF N U to k) a s (fun x => decide (x ≤ d)) l = hitF (exF N U to k) a s (fun x => x == d) l := fun l hl => by
      unfold hitF
      by_cases h1 : l.1 = a
      · by_cases h2 : gi (exF N U to k) l.2.1 = Fr
        · rw [h2]; simp
        · have hx := exF_ex hU ht (by omega : k ≤ 60) l.2.1 (hU.nd l hl).2
          obtain ⟨q, q1, q2, q3, q4⟩ := hx.is h2
          have hc : Ch a0 (p ++ (l :: q)) to := p1.append ⟨h1, q2⟩
          have hs : Sub (p ++ (l :: q)) U := Sub.app p2 (Sub.cons hl q3)
          have := hd.le _ hc hs
          rw [sumL_append] at this
          simp only [sumL] at this
          congr 1
          rw [Bool.eq_iff_iff, decide_eq_true_eq, beq_iff_eq]; omega
      · rw [beq_eq_false_iff_ne.2 h1]; rfl
    rw [folF, folF, find_good key]
    cases hfd : findF (exF N U to k) a s (fun x => x == d) 0 U with
    | none => exact fol_le hU ht hd (by omega) ⟨p, p1, p2, p3⟩
    | some r =>
      obtain ⟨i, l⟩ := r
      obtain ⟨_, _, hm, hh⟩ := find_some hfd
      have hl : l ∈ U := List.mem_of_getElem? hm
      have h1 : l.1 = a := by
        unfold hitF at hh
        simp only [Bool.and_eq_true, beq_iff_eq] at hh
        exact hh.1.1
      show (i : Int) :: _ = (i : Int) :: _
      rw [fol_le hU ht hd (by omega) ⟨p ++ [l], Ch.snoc (by rw [h1]; exact p1), Sub.snoc hl p2, by rw [sumL_append, p3]; simp [sumL]⟩]
theorem fT_x {to : Int} {j : Nat} (h : j < 61) : fT (xT N U to 61) j = exF N U to j := xT_get h
end
section
variable {N : Int} {L : List Lk} {a b : Int}
theorem wk_chn (ha : AskL N.toNat L) (hn : NoNeg L) (h1 : inN N.toNat a) (h2 : inN N.toNat b) (hd : dB N L a b ≠ Fr) : wkF N.toNat L (kB N L a b) a b (dB N L a b) = chnL N L a b := by
  have kk := (kB_ok ha hn h1 h2 hd).2.1
  have h60 := ha.n
  unfold wkF chnL
  rw [fol_congr (T := fT (xT N.toNat L b 61)) (U := exF N.toNat L b) fun j hj => fT_x (by omega)]
  exact fol_le ha.ok h2 (bd_isD ha hn h1 h2).1 (by omega) ⟨[], rfl, Sub.nil, rfl⟩
/-- The first link that closes a chain below 0, and the rest. -/
theorem cl_wk {k i : Nat} (ha : AskL N.toNat L) {l : Lk} (hs : srF N.toNat L N.toNat 0 = some (k, l)) (hi : i < L.length) (hl : lk L i = l) (hno : ∀ j, j < i → hitC N.toNat L k (lk L j) = false) (hit : hitC N.toNat L k l = true) : clF N.toNat L = (i : Int) :: wkF N.toNat L k l.2.1 l.1 (-1 - l.2.2) := by
  have h60 := ha.n
  obtain ⟨_, hk, _, _⟩ := sr_some hs
  rw [clF_some hs]
  have hH : ∀ x, x.1 = l.1 → hitF (exF N.toNat L l.1 k) l.1 0 (fun s => decide (s < 0)) x = hitC N.toNat L k x := fun x hx => by
    unfold hitF hitC
    rw [hx, beq_self_eq_true, Bool.true_and, show (0 : Int) + x.2.2 + gi (exF N.toNat L l.1 k) x.2.1 = x.2.2 + gi (exF N.toNat L l.1 k) x.2.1 by omega]
  have hF : ∀ j, j ≤ i → findF (exF N.toNat L l.1 k) l.1 0 (fun s => decide (s < 0)) 0 L = findF (exF N.toNat L l.1 k) l.1 0 (fun s => decide (s < 0)) j (L.drop j) := by
    intro j
    induction j with
    | zero => intro _; rfl
    | succ j ih =>
      intro hj
      rw [ih (by omega)]
      refine fd_go (by omega) ?_
      by_cases hx : (lk L j).1 = l.1
      · rw [hH _ hx]; exact hno j (by omega)
      · unfold hitF; rw [beq_eq_false_iff_ne.2 hx]; rfl
  have e : findF (exF N.toNat L l.1 k) l.1 0 (fun s => decide (s < 0)) 0 L = some (i, l) := by
    rw [hF i (Nat.le_refl _)]
    have := fd_hit (row := exF N.toNat L l.1 k) (a := l.1) (s := 0) (good := fun s => decide (s < 0)) hi (by rw [hl, hH l rfl]; exact hit)
    rw [hl] at this; exact this
  rw [folF, e]
  show (i : Int) :: folF L (exF N.toNat L l.1) (fun s => decide (s < 0)) k l.2.1 (0 + l.2.2) = _
  rw [fol_shift]
  unfold wkF
  rw [fol_congr (T := fT (xT N.toNat L l.1 61)) (U := exF N.toNat L l.1) fun j hj => fT_x (by omega)]
  congr 2
  funext x
  rw [Bool.eq_iff_iff, decide_eq_true_eq, decide_eq_true_eq]; omega
end
end Go.Proofs.Ytlmhkeoblgodiaa
end

section
/-
  Chapter 2: the specification's Clash. Printed by gen72.py.
-/
namespace Go.Proofs.Ytlmhkeoblgodiaa
open Go Go.Sy Go.Chn
set_option maxRecDepth 100000
set_option maxHeartbeats 4000000
set_option linter.unusedVariables false
set_option linter.unusedSimpArgs false
variable {Γ : Glob}
def L28 : List (Nat × Ctr) := [(26, c26), (70, c70), (71, c71)]
theorem L28_ok : CsOk Try.prog Γ L28 := ((CsOk.nil.cons (body_of Try.func71 rfl rfl).fn c71_ok).cons (body_of Try.func70 rfl rfl).fn c70_ok).cons (body_of Try.func26 rfl rfl).fn c26_ok
def rclF (N : Int) (L : List Lk) : List Int := if conB N L = true then [] else clF N.toNat L
theorem rcl1 {N : Int} {L : List Lk} (h : conB N L = true) : rclF N L = [] := by unfold rclF; rw [if_pos h]
theorem rcl0 {N : Int} {L : List Lk} (h : conB N L = false) : rclF N L = clF N.toNat L := by unfold rclF; rw [if_neg (by rw [h]; simp)]
attribute [local irreducible] gi lk exR tbT rowT wkF clF rclF rtF conB
def c28 : Ctr := newS (fun N L => [(Duty.of (N = N.toNat)), askD N.toNat L]) (fun N L => ⟨[.arr 3 kI (rclF N L) true true], .a (.sl 0 [] 0 (rclF N L).length)⟩)
theorem c28_ok : Ctr.Ok Try.prog Γ 28 c28 := newS_ok (d := 0) (prog_ok L28_ok BsOk.nil false 0) (body_of Try.func28 rfl rfl) (by
  intro N L K ⟨hN, ha, _⟩ hK
  replace ha : AskL N.toNat L := ha
  simp only [Duty.of_p] at hN
  have h60 := ha.n
  have hll := ha.l
  have r2 := rt_2 (N := N) (L := L)
  cases hc : conB N L
  case true =>
    have v1 : (rtF N L).2 = true := by rw [r2, hc]
    repeat' ((conv => whnf); (first | apply And.intro | (intro h9; first | (have h8 : (_ : Bool) = false := h9; exfalso; clear h8; revert h9; subst_vars; intro h9; exact ft_no (h9.symm.trans (by assumption))) | (have h8 : (_ : Bool) = true := h9; exfalso; clear h8; revert h9; subst_vars; intro h9; exact tf_no (h9.symm.trans (by assumption))) | skip)))
    all_goals try (conv => whnf)
    all_goals try first
      | exact LexB.mk (by kernel_rfl)
      | exact LexG.mk (by kernel_rfl)
      | exact LexT.mk (by kernel_rfl)
      | exact Forced.mk (by kernel_rfl)
      | exact LexP.mk (by kernel_rfl)
      | exact ForcedP.mk (by kernel_rfl)
      | exact ⟨Nat.le_of_ble_eq_true rfl⟩
      | exact ⟨rfl⟩
      | exact ⟨trivial⟩
    all_goals subst_vars
    all_goals try first
      | rfl
      | contradiction
      | (refine Ob.mk ?_; simp only [inRQ, inR, Duty.of_p]; omega)
    all_goals try first
      | exact ⟨show L.length ≤ 1000000 by omega⟩
      | exact ⟨hN⟩
      | exact ⟨ha⟩
      | exact ⟨show N.toNat ≤ 60 by omega⟩
    all_goals (exact kl1E (te := 3) (tg := kI) (by simp [kI]) (by rw [rcl1 hc] at hK; exact hK) rfl)
  have v1 : (rtF N L).2 = false := by rw [r2, hc]
  rw [rcl0 hc] at hK
  have hnn : ¬ NoNeg L := fun h => by rw [(con_iff ha).2 h] at hc; cases hc
  obtain ⟨kk, ll, hs1, hs2⟩ := clash_some ha.ok hnn
  have hkN := hs2.lt
  have tl : ((tbT N.toNat L (N.toNat + 1))).length = N.toNat + 1 := tbT_len
  repeat' ((conv => whnf); (first | apply And.intro | (intro h9; first | (have h8 : (_ : Bool) = false := h9; exfalso; clear h8; revert h9; subst_vars; intro h9; exact ft_no (h9.symm.trans (by assumption))) | (have h8 : (_ : Bool) = true := h9; exfalso; clear h8; revert h9; subst_vars; intro h9; exact tf_no (h9.symm.trans (by assumption))) | skip)))
  all_goals try (conv => whnf)
  all_goals try first
    | exact LexB.mk (by kernel_rfl)
    | exact LexG.mk (by kernel_rfl)
    | exact LexT.mk (by kernel_rfl)
    | exact Forced.mk (by kernel_rfl)
    | exact LexP.mk (by kernel_rfl)
    | exact ForcedP.mk (by kernel_rfl)
    | exact ⟨Nat.le_of_ble_eq_true rfl⟩
    | exact ⟨rfl⟩
    | exact ⟨trivial⟩
  all_goals subst_vars
  all_goals try first
    | rfl
    | contradiction
    | (refine Ob.mk ?_; simp only [inRQ, inR, Duty.of_p]; omega)
  all_goals try first
    | exact ⟨show L.length ≤ 1000000 by omega⟩
    | exact ⟨hN⟩
    | exact ⟨ha⟩
    | exact ⟨show N.toNat ≤ 60 by omega⟩
  refine ⟨Nat, fun k => k ≤ kk, fun k => ⟨slotsT 75 [1, 5, 6] [.a (.p 1 [] 0 0), .a (.sl 3 [] 0 (N.toNat + 1)), .a (vI ((k + 1 : Nat) : Int))], [], [.arr 44 kL L false false, .box true [vI N, .sl 0 [] 0 L.length], .dead, .arr 35 kTT (tbT N.toNat L (N.toNat + 1)) true true]⟩, fun k => kk - k, 0, [], Nat.zero_le _, ?_, ?_⟩
  · repeat' ((conv => whnf); (first | apply And.intro | intro _))
    all_goals first | rfl | trivial | exact Nat.le_of_ble_eq_true rfl | exact ⟨rfl, rfl, rfl⟩ | exact ⟨rfl, rfl, rfl, rfl⟩ | exact ⟨rfl, rfl⟩
  rintro k hk
  have p0 : decide (((k + 1 : Nat) : Int) ≤ N) = true := decide_eq_true (by omega)
  have hix : 0 + Int.toNat (((k + 1 : Nat) : Int) - 1) = k := by omega
  have hr3 : (row3 (tbT N.toNat L (N.toNat + 1)) (((k + 1 : Nat) : Int) - 1)) = rowT N.toNat L k := by unfold row3; rw [hix]; exact tbT_get (by omega)
  have hr3l : ((row3 (tbT N.toNat L (N.toNat + 1)) (((k + 1 : Nat) : Int) - 1))).length = N.toNat := by rw [hr3]; exact rowT_len
  have hrw : ∀ v, inN N.toNat v → rwA (row3 (tbT N.toNat L (N.toNat + 1)) (((k + 1 : Nat) : Int) - 1)) v = exR N.toNat L v k := fun v hv => by rw [rwA_eq, hr3]; exact rowT_get hv
  repeat' ((conv => whnf); (first | apply And.intro | (intro h9; first | (have h8 : (_ : Bool) = false := h9; exfalso; clear h8; revert h9; subst_vars; intro h9; exact ft_no (h9.symm.trans (by assumption))) | (have h8 : (_ : Bool) = true := h9; exfalso; clear h8; revert h9; subst_vars; intro h9; exact tf_no (h9.symm.trans (by assumption))) | skip)))
  all_goals try (conv => whnf)
  all_goals try first
    | exact LexB.mk (by kernel_rfl)
    | exact LexG.mk (by kernel_rfl)
    | exact LexT.mk (by kernel_rfl)
    | exact Forced.mk (by kernel_rfl)
    | exact LexP.mk (by kernel_rfl)
    | exact ForcedP.mk (by kernel_rfl)
    | exact ⟨Nat.le_of_ble_eq_true rfl⟩
    | exact ⟨rfl⟩
    | exact ⟨trivial⟩
  all_goals subst_vars
  all_goals try first
    | rfl
    | contradiction
    | (refine Ob.mk ?_; simp only [inRQ, inR, Duty.of_p]; omega)
  all_goals try first
    | exact ⟨show L.length ≤ 1000000 by omega⟩
    | exact ⟨hN⟩
    | exact ⟨ha⟩
    | exact ⟨show N.toNat ≤ 60 by omega⟩
  refine ⟨Nat, fun i => i ≤ L.length ∧ ∀ j, j < i → hitC N.toNat L k (lk L j) = false, fun i => ⟨slotsT 75 [1, 5, 6, 7] [.a (.p 1 [] 0 0), .a (.sl 3 [] 0 (N.toNat + 1)), .a (vI ((k + 1 : Nat) : Int)), .a (vI i)], [], [.arr 44 kL L false false, .box true [vI N, .sl 0 [] 0 L.length], .dead, .arr 35 kTT (tbT N.toNat L (N.toNat + 1)) true true]⟩, fun i => L.length - i, 0, [], ⟨Nat.zero_le _, fun j hj => absurd hj (Nat.not_lt_zero j)⟩, ?_, ?_⟩
  · subst_vars
    repeat' ((conv => whnf); (first | apply And.intro | intro _))
    all_goals first | rfl | trivial | exact Nat.le_of_ble_eq_true rfl | exact ⟨rfl, rfl, rfl⟩ | exact ⟨rfl, rfl, rfl, rfl⟩ | exact ⟨rfl, rfl⟩
  rintro i ⟨hi, hno⟩
  by_cases hi1 : i < L.length
  case neg =>
    have p1 : decide ((i : Int) < (L.length : Int)) = false := decide_eq_false (by omega)
    have hk1 : k + 1 ≤ kk := by
      rcases Nat.lt_or_ge k kk with h | h
      · exact h
      · obtain rfl : k = kk := by omega
        exfalso
        obtain ⟨j, hj, e⟩ := List.getElem_of_mem hs2.mem
        have e2 : lk L j = ll := by simp [lk, List.getD, hj, e]
        have := hno j (by omega)
        rw [e2, hs2.hit] at this
        cases this
    repeat' ((conv => whnf); (first | apply And.intro | (intro h9; first | (have h8 : (_ : Bool) = false := h9; exfalso; clear h8; revert h9; subst_vars; intro h9; exact ft_no (h9.symm.trans (by assumption))) | (have h8 : (_ : Bool) = true := h9; exfalso; clear h8; revert h9; subst_vars; intro h9; exact tf_no (h9.symm.trans (by assumption))) | skip)))
    all_goals try (conv => whnf)
    all_goals try first
      | exact LexB.mk (by kernel_rfl)
      | exact LexG.mk (by kernel_rfl)
      | exact LexT.mk (by kernel_rfl)
      | exact Forced.mk (by kernel_rfl)
      | exact LexP.mk (by kernel_rfl)
      | exact ForcedP.mk (by kernel_rfl)
      | exact ⟨Nat.le_of_ble_eq_true rfl⟩
      | exact ⟨rfl⟩
      | exact ⟨trivial⟩
    all_goals subst_vars
    all_goals try first
      | rfl
      | contradiction
      | (refine Ob.mk ?_; simp only [inRQ, inR, Duty.of_p]; omega)
    all_goals try first
      | exact ⟨show L.length ≤ 1000000 by omega⟩
      | exact ⟨hN⟩
      | exact ⟨ha⟩
      | exact ⟨show N.toNat ≤ 60 by omega⟩
    all_goals
      refine ⟨k + 1, [0, 1, 2, 3], hk1, ?_, by show kk - (k + 1) < kk - k; omega⟩
      subst_vars
      repeat' ((conv => whnf); (first | apply And.intro | intro _))
      all_goals first | rfl | trivial | exact Nat.le_of_ble_eq_true rfl | exact ⟨rfl, rfl, rfl⟩ | exact ⟨rfl, rfl, rfl, rfl⟩ | exact ⟨rfl, rfl⟩ | (subst_vars; rfl)
  have p1 : decide ((i : Int) < (L.length : Int)) = true := decide_eq_true (by omega)
  have hnd := ha.ok.nd _ (lk_mem' hi1)
  have hms := ha.ok.ms _ (lk_mem' hi1)
  have hA := lkA_eq L i
  have hnA : (0 ≤ (lkA L i).1 ∧ (lkA L i).1 < N.toNat) ∧ (0 ≤ (lkA L i).2.1 ∧ (lkA L i).2.1 < N.toNat) := by rw [hA]; exact hnd
  have hmA : -4503599627370496 ≤ (lkA L i).2.2 ∧ (lkA L i).2.2 ≤ 4503599627370496 := by rw [hA]; exact hms
  have hr2 : ((rwA (row3 (tbT N.toNat L (N.toNat + 1)) (((k + 1 : Nat) : Int) - 1)) (lkA L i).2.1)).length = N.toNat := by rw [hrw _ hnA.2]; exact exR_len
  have hR : (e1A (rwA (row3 (tbT N.toNat L (N.toNat + 1)) (((k + 1 : Nat) : Int) - 1)) (lkA L i).2.1) (lkA L i).1) = gi (exF N.toNat L (lk L i).1 k) (lk L i).2.1 := by
    rw [e1A_eq hnA.1.1, hrw _ hnA.2, hA]; exact (exFR ha.ok hnd.2 hnd.1 (by omega)).symm
  have hH : hitC N.toNat L k (lk L i) = (!((e1A (rwA (row3 (tbT N.toNat L (N.toNat + 1)) (((k + 1 : Nat) : Int) - 1)) (lkA L i).2.1) (lkA L i).1) == 1152921504606846976) && decide ((lkA L i).2.2 + (e1A (rwA (row3 (tbT N.toNat L (N.toNat + 1)) (((k + 1 : Nat) : Int) - 1)) (lkA L i).2.1) (lkA L i).1) < 0)) := by
    have h1 := hitC_eq (l := lk L i) hR.symm
    have h2 : (lkA L i).2.2 = (lk L i).2.2 := by rw [hA]
    rw [h2]; exact h1
  have go : hitC N.toNat L k (lk L i) = false → ∀ j, j < i + 1 → hitC N.toNat L k (lk L j) = false := fun h j hj => by
    rcases Nat.lt_or_ge j i with h2 | h2
    · exact hno j h2
    · obtain rfl : j = i := by omega
      exact h
  cases c1 : ((e1A (rwA (row3 (tbT N.toNat L (N.toNat + 1)) (((k + 1 : Nat) : Int) - 1)) (lkA L i).2.1) (lkA L i).1) != 1152921504606846976)
  · have hgo := go (by rw [hH, show ((e1A (rwA (row3 (tbT N.toNat L (N.toNat + 1)) (((k + 1 : Nat) : Int) - 1)) (lkA L i).2.1) (lkA L i).1) == 1152921504606846976) = true by simpa using c1]; rfl)
    repeat' ((conv => whnf); (first | apply And.intro | (intro h9; first | (have h8 : (_ : Bool) = false := h9; exfalso; clear h8; revert h9; subst_vars; intro h9; exact ft_no (h9.symm.trans (by assumption))) | (have h8 : (_ : Bool) = true := h9; exfalso; clear h8; revert h9; subst_vars; intro h9; exact tf_no (h9.symm.trans (by assumption))) | skip)))
    all_goals try (conv => whnf)
    all_goals try first
      | exact LexB.mk (by kernel_rfl)
      | exact LexG.mk (by kernel_rfl)
      | exact LexT.mk (by kernel_rfl)
      | exact Forced.mk (by kernel_rfl)
      | exact LexP.mk (by kernel_rfl)
      | exact ForcedP.mk (by kernel_rfl)
      | exact ⟨Nat.le_of_ble_eq_true rfl⟩
      | exact ⟨rfl⟩
      | exact ⟨trivial⟩
    all_goals subst_vars
    all_goals try first
      | rfl
      | contradiction
      | (refine Ob.mk ?_; simp only [inRQ, inR, Duty.of_p]; omega)
    all_goals try first
      | exact ⟨show L.length ≤ 1000000 by omega⟩
      | exact ⟨hN⟩
      | exact ⟨ha⟩
      | exact ⟨show N.toNat ≤ 60 by omega⟩
      | exact ⟨show 0 ≤ (i : Int) ∧ (i : Int) < (L.length : Int) by omega⟩
      | exact ⟨show 0 + Int.toNat (i : Int) < L.length by omega⟩
      | exact ⟨show 0 ≤ (((k + 1 : Nat) : Int) - 1) ∧ (((k + 1 : Nat) : Int) - 1) < ((N.toNat + 1 : Nat) : Int) by omega⟩
      | exact ⟨show 0 + Int.toNat (((k + 1 : Nat) : Int) - 1) < ((tbT N.toNat L (N.toNat + 1))).length by omega⟩
      | exact ⟨show 0 ≤ (lkA L i).2.1 ∧ (lkA L i).2.1 < (((row3 (tbT N.toNat L (N.toNat + 1)) (((k + 1 : Nat) : Int) - 1))).length : Int) by rw [hr3l]; exact hnA.2⟩
      | exact ⟨show 0 + Int.toNat (lkA L i).2.1 < ((row3 (tbT N.toNat L (N.toNat + 1)) (((k + 1 : Nat) : Int) - 1))).length by rw [hr3l]; omega⟩
      | exact ⟨show 0 ≤ (lkA L i).1 ∧ (lkA L i).1 < (((rwA (row3 (tbT N.toNat L (N.toNat + 1)) (((k + 1 : Nat) : Int) - 1)) (lkA L i).2.1)).length : Int) by rw [hr2]; exact hnA.1⟩
      | exact ⟨show 0 + Int.toNat (lkA L i).1 < ((rwA (row3 (tbT N.toNat L (N.toNat + 1)) (((k + 1 : Nat) : Int) - 1)) (lkA L i).2.1)).length by rw [hr2]; omega⟩
      | (refine Ob.mk ?_; show (inRQ .i64 ((lkA L i).2.2 + (e1A (rwA (row3 (tbT N.toNat L (N.toNat + 1)) (((k + 1 : Nat) : Int) - 1)) (lkA L i).2.1) (lkA L i).1))).p; simp only [inRQ, inR, Duty.of_p]; omega)
    all_goals
      refine ⟨i + 1, [0, 1, 2, 3], ⟨hi1, hgo⟩, ?_, by show L.length - (i + 1) < L.length - i; omega⟩
      subst_vars
      repeat' ((conv => whnf); (first | apply And.intro | intro _))
      all_goals first | rfl | trivial | exact Nat.le_of_ble_eq_true rfl | exact ⟨rfl, rfl, rfl⟩ | exact ⟨rfl, rfl, rfl, rfl⟩ | exact ⟨rfl, rfl⟩ | (subst_vars; rfl)
  have hRR : -270215977642229760 ≤ (e1A (rwA (row3 (tbT N.toNat L (N.toNat + 1)) (((k + 1 : Nat) : Int) - 1)) (lkA L i).2.1) (lkA L i).1) ∧ (e1A (rwA (row3 (tbT N.toNat L (N.toNat + 1)) (((k + 1 : Nat) : Int) - 1)) (lkA L i).2.1) (lkA L i).1) ≤ 270215977642229760 := by
    have h5 : gi (exF N.toNat L (lk L i).1 k) (lk L i).2.1 ≠ Fr := by rw [← hR]; unfold Fr; simpa using c1
    have := (exF_ex ha.ok hnd.1 (k := k) (by omega) _ hnd.2).bound ha.ok h5
    rw [hR]; omega
  cases c2 : decide ((lkA L i).2.2 + (e1A (rwA (row3 (tbT N.toNat L (N.toNat + 1)) (((k + 1 : Nat) : Int) - 1)) (lkA L i).2.1) (lkA L i).1) < 0)
  · have hgo := go (by rw [hH, c2, Bool.and_false])
    repeat' ((conv => whnf); (first | apply And.intro | (intro h9; first | (have h8 : (_ : Bool) = false := h9; exfalso; clear h8; revert h9; subst_vars; intro h9; exact ft_no (h9.symm.trans (by assumption))) | (have h8 : (_ : Bool) = true := h9; exfalso; clear h8; revert h9; subst_vars; intro h9; exact tf_no (h9.symm.trans (by assumption))) | skip)))
    all_goals try (conv => whnf)
    all_goals try first
      | exact LexB.mk (by kernel_rfl)
      | exact LexG.mk (by kernel_rfl)
      | exact LexT.mk (by kernel_rfl)
      | exact Forced.mk (by kernel_rfl)
      | exact LexP.mk (by kernel_rfl)
      | exact ForcedP.mk (by kernel_rfl)
      | exact ⟨Nat.le_of_ble_eq_true rfl⟩
      | exact ⟨rfl⟩
      | exact ⟨trivial⟩
    all_goals subst_vars
    all_goals try first
      | rfl
      | contradiction
      | (refine Ob.mk ?_; simp only [inRQ, inR, Duty.of_p]; omega)
    all_goals try first
      | exact ⟨show L.length ≤ 1000000 by omega⟩
      | exact ⟨hN⟩
      | exact ⟨ha⟩
      | exact ⟨show N.toNat ≤ 60 by omega⟩
      | exact ⟨show 0 ≤ (i : Int) ∧ (i : Int) < (L.length : Int) by omega⟩
      | exact ⟨show 0 + Int.toNat (i : Int) < L.length by omega⟩
      | exact ⟨show 0 ≤ (((k + 1 : Nat) : Int) - 1) ∧ (((k + 1 : Nat) : Int) - 1) < ((N.toNat + 1 : Nat) : Int) by omega⟩
      | exact ⟨show 0 + Int.toNat (((k + 1 : Nat) : Int) - 1) < ((tbT N.toNat L (N.toNat + 1))).length by omega⟩
      | exact ⟨show 0 ≤ (lkA L i).2.1 ∧ (lkA L i).2.1 < (((row3 (tbT N.toNat L (N.toNat + 1)) (((k + 1 : Nat) : Int) - 1))).length : Int) by rw [hr3l]; exact hnA.2⟩
      | exact ⟨show 0 + Int.toNat (lkA L i).2.1 < ((row3 (tbT N.toNat L (N.toNat + 1)) (((k + 1 : Nat) : Int) - 1))).length by rw [hr3l]; omega⟩
      | exact ⟨show 0 ≤ (lkA L i).1 ∧ (lkA L i).1 < (((rwA (row3 (tbT N.toNat L (N.toNat + 1)) (((k + 1 : Nat) : Int) - 1)) (lkA L i).2.1)).length : Int) by rw [hr2]; exact hnA.1⟩
      | exact ⟨show 0 + Int.toNat (lkA L i).1 < ((rwA (row3 (tbT N.toNat L (N.toNat + 1)) (((k + 1 : Nat) : Int) - 1)) (lkA L i).2.1)).length by rw [hr2]; omega⟩
      | (refine Ob.mk ?_; show (inRQ .i64 ((lkA L i).2.2 + (e1A (rwA (row3 (tbT N.toNat L (N.toNat + 1)) (((k + 1 : Nat) : Int) - 1)) (lkA L i).2.1) (lkA L i).1))).p; simp only [inRQ, inR, Duty.of_p]; omega)
    all_goals
      refine ⟨i + 1, [0, 1, 2, 3], ⟨hi1, hgo⟩, ?_, by show L.length - (i + 1) < L.length - i; omega⟩
      subst_vars
      repeat' ((conv => whnf); (first | apply And.intro | intro _))
      all_goals first | rfl | trivial | exact Nat.le_of_ble_eq_true rfl | exact ⟨rfl, rfl, rfl⟩ | exact ⟨rfl, rfl, rfl, rfl⟩ | exact ⟨rfl, rfl⟩ | (subst_vars; rfl)
  have hit : hitC N.toNat L k (lk L i) = true := by rw [hH, c2, show ((e1A (rwA (row3 (tbT N.toNat L (N.toNat + 1)) (((k + 1 : Nat) : Int) - 1)) (lkA L i).2.1) (lkA L i).1) == 1152921504606846976) = false by simpa using c1]; rfl
  have hkq : k = kk := by
    rcases Nat.lt_or_ge k kk with h | h
    · have := hs2.no k h
      rw [List.find?_eq_none] at this
      exact absurd hit (this _ (lk_mem' hi1))
    · omega
  have hlq : lk L i = ll := by
    have h1 := hs2.fd
    rw [← hkq] at h1
    have hF : ∀ j, j ≤ i → L.find? (hitC N.toNat L k) = (L.drop j).find? (hitC N.toNat L k) := by
      intro j
      induction j with
      | zero => intro _; rfl
      | succ j ih => intro hj; rw [ih (by omega)]; exact fi_go (by omega) (hno j (by omega))
    rw [hF i (Nat.le_refl _), fi_hit hi1 hit] at h1
    exact Option.some.inj h1
  have eC : [(i : Int)] ++ wkF N.toNat L (Int.toNat (((k + 1 : Nat) : Int) - 1)) (lkA L i).2.1 (lkA L i).1 (-1 - (lkA L i).2.2) = clF N.toNat L := by
    rw [cl_wk ha (show srF N.toNat L N.toNat 0 = some (k, lk L i) by rw [hs1, hkq, hlq]) hi1 rfl hno hit, hA, show Int.toNat (((k + 1 : Nat) : Int) - 1) = k by omega]; rfl
  have eL : 1 + (wkF N.toNat L (Int.toNat (((k + 1 : Nat) : Int) - 1)) (lkA L i).2.1 (lkA L i).1 (-1 - (lkA L i).2.2)).length = (clF N.toNat L).length := by rw [← eC, List.length_append]; rfl
  have cl60 : (clF N.toNat L).length ≤ 60 := by
    obtain ⟨J, j1, j2, _⟩ := hs2.chain ha.ok
    rw [clF_some hs1, ← j1, j2]; omega
  have eT : List.take (wkF N.toNat L (Int.toNat (((k + 1 : Nat) : Int) - 1)) (lkA L i).2.1 (lkA L i).1 (-1 - (lkA L i).2.2)).length (List.drop 0 (wkF N.toNat L (Int.toNat (((k + 1 : Nat) : Int) - 1)) (lkA L i).2.1 (lkA L i).1 (-1 - (lkA L i).2.2))) = (wkF N.toNat L (Int.toNat (((k + 1 : Nat) : Int) - 1)) (lkA L i).2.1 (lkA L i).1 (-1 - (lkA L i).2.2)) := by rw [List.drop_zero, List.take_length]
  have hK' : K ⟨[.arr 3 kI (List.drop 0 [(i : Int)] ++ List.take (wkF N.toNat L (Int.toNat (((k + 1 : Nat) : Int) - 1)) (lkA L i).2.1 (lkA L i).1 (-1 - (lkA L i).2.2)).length (List.drop 0 (wkF N.toNat L (Int.toNat (((k + 1 : Nat) : Int) - 1)) (lkA L i).2.1 (lkA L i).1 (-1 - (lkA L i).2.2)))) true true], .a (.sl 0 [] 0 (1 + (wkF N.toNat L (Int.toNat (((k + 1 : Nat) : Int) - 1)) (lkA L i).2.1 (lkA L i).1 (-1 - (lkA L i).2.2)).length))⟩ := by
    rw [eT, eL]
    show K ⟨[.arr 3 kI ([(i : Int)] ++ (wkF N.toNat L (Int.toNat (((k + 1 : Nat) : Int) - 1)) (lkA L i).2.1 (lkA L i).1 (-1 - (lkA L i).2.2))) true true], _⟩
    rw [eC]; exact hK
  clear hlq hkq eC eT
  repeat' ((conv => whnf); (first | apply And.intro | (intro h9; first | (have h8 : (_ : Bool) = false := h9; exfalso; clear h8; revert h9; subst_vars; intro h9; exact ft_no (h9.symm.trans (by assumption))) | (have h8 : (_ : Bool) = true := h9; exfalso; clear h8; revert h9; subst_vars; intro h9; exact tf_no (h9.symm.trans (by assumption))) | skip)))
  all_goals try (conv => whnf)
  all_goals try first
    | exact LexB.mk (by kernel_rfl)
    | exact LexG.mk (by kernel_rfl)
    | exact LexT.mk (by kernel_rfl)
    | exact Forced.mk (by kernel_rfl)
    | exact LexP.mk (by kernel_rfl)
    | exact ForcedP.mk (by kernel_rfl)
    | exact ⟨Nat.le_of_ble_eq_true rfl⟩
    | exact ⟨rfl⟩
    | exact ⟨trivial⟩
  all_goals subst_vars
  all_goals try first
    | rfl
    | contradiction
    | (refine Ob.mk ?_; simp only [inRQ, inR, Duty.of_p]; omega)
  all_goals try first
    | exact ⟨show L.length ≤ 1000000 by omega⟩
    | exact ⟨hN⟩
    | exact ⟨ha⟩
    | exact ⟨show N.toNat ≤ 60 by omega⟩
    | exact ⟨show 0 ≤ (i : Int) ∧ (i : Int) < (L.length : Int) by omega⟩
    | exact ⟨show 0 + Int.toNat (i : Int) < L.length by omega⟩
    | exact ⟨show 0 ≤ (((k + 1 : Nat) : Int) - 1) ∧ (((k + 1 : Nat) : Int) - 1) < ((N.toNat + 1 : Nat) : Int) by omega⟩
    | exact ⟨show 0 + Int.toNat (((k + 1 : Nat) : Int) - 1) < ((tbT N.toNat L (N.toNat + 1))).length by omega⟩
    | exact ⟨show 0 ≤ (lkA L i).2.1 ∧ (lkA L i).2.1 < (((row3 (tbT N.toNat L (N.toNat + 1)) (((k + 1 : Nat) : Int) - 1))).length : Int) by rw [hr3l]; exact hnA.2⟩
    | exact ⟨show 0 + Int.toNat (lkA L i).2.1 < ((row3 (tbT N.toNat L (N.toNat + 1)) (((k + 1 : Nat) : Int) - 1))).length by rw [hr3l]; omega⟩
    | exact ⟨show 0 ≤ (lkA L i).1 ∧ (lkA L i).1 < (((rwA (row3 (tbT N.toNat L (N.toNat + 1)) (((k + 1 : Nat) : Int) - 1)) (lkA L i).2.1)).length : Int) by rw [hr2]; exact hnA.1⟩
    | exact ⟨show 0 + Int.toNat (lkA L i).1 < ((rwA (row3 (tbT N.toNat L (N.toNat + 1)) (((k + 1 : Nat) : Int) - 1)) (lkA L i).2.1)).length by rw [hr2]; omega⟩
    | (refine Ob.mk ?_; show (inRQ .i64 ((lkA L i).2.2 + (e1A (rwA (row3 (tbT N.toNat L (N.toNat + 1)) (((k + 1 : Nat) : Int) - 1)) (lkA L i).2.1) (lkA L i).1))).p; simp only [inRQ, inR, Duty.of_p]; omega)
    | (refine Ob.mk ?_; show (inRQ .i64 (-1 - (lkA L i).2.2)).p; simp only [inRQ, inR, Duty.of_p]; omega)
    | exact ⟨show (0 : Nat) < 1 by omega⟩
    | exact ⟨show (tbT N.toNat L (N.toNat + 1)) = tbT N.toNat L ((tbT N.toNat L (N.toNat + 1))).length by rw [tl]⟩
    | exact ⟨show ((tbT N.toNat L (N.toNat + 1))).length ≤ 61 by omega⟩
    | exact ⟨tl.symm⟩
    | exact ⟨show (((k + 1 : Nat) : Int) - 1) = ((Int.toNat (((k + 1 : Nat) : Int) - 1) : Nat) : Int) by omega⟩
    | exact ⟨show Int.toNat (((k + 1 : Nat) : Int) - 1) ≤ ((tbT N.toNat L (N.toNat + 1))).length by omega⟩
    | exact ⟨hnA.2.1⟩
    | exact ⟨hnA.2.2⟩
    | exact ⟨hnA.1.1⟩
    | exact ⟨hnA.1.2⟩
    | exact ⟨show -1152921504606846976 ≤ -1 - (lkA L i).2.2 by omega⟩
    | exact ⟨show -1 - (lkA L i).2.2 ≤ 1152921504606846976 by omega⟩
  all_goals try first
    | exact ⟨Nat.le_of_eq (Nat.zero_add _)⟩
    | exact ⟨show (1 + (wkF N.toNat L (Int.toNat (((k + 1 : Nat) : Int) - 1)) (lkA L i).2.1 (lkA L i).1 (-1 - (lkA L i).2.2)).length) * 1 ≤ 1099511627776 by omega⟩
  all_goals first
    | exact kl1 (i := 5) hK' rfl rfl
    | exact kl1 (i := 6) hK' rfl rfl
    | exact kl1 (i := 7) hK' rfl rfl
    | exact kl1 (i := 4) hK' rfl rfl
)
end Go.Proofs.Ytlmhkeoblgodiaa
end
