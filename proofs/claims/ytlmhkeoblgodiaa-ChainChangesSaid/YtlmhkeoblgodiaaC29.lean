/-
  Texts of the claims on chapter 2: C29. No condition: lemmas and contracts.
-/
import Derived.Test.YtlmhkeoblgodiaaC28b
set_option linter.all false
section
/-
  Chapter 2: lists of indices, systems compared. Printed by gen29.py.
-/
namespace Go.Proofs.Ytlmhkeoblgodiaa
open Go Go.Sy Go.Chn
set_option maxRecDepth 100000
set_option maxHeartbeats 1000000
set_option linter.unusedVariables false
set_option linter.unusedSimpArgs false
variable {Γ : Glob}
def ixF : List Int → Int → Int → Int
  | [], _, _ => -1
  | x :: I, n, k => if n = x then k else ixF I n (k + 1)
def hasB : List Int → Int → Bool
  | [], _ => false
  | x :: I, n => if x = n then true else hasB I n
theorem ix_hit {I : List Int} {i : Nat} {n k : Int} (h : i < I.length) (hb : (n == gi I i) = true) : ixF (I.drop i) n k = k := by
  rw [drop_gi h, ixF, if_pos (by simpa using hb)]
theorem ix_miss {I : List Int} {i : Nat} {n k : Int} (h : i < I.length) (hb : (n == gi I i) = false) : ixF (I.drop i) n k = ixF (I.drop (i + 1)) n (k + 1) := by
  rw [drop_gi h]; conv => lhs; rw [ixF]
  rw [if_neg (by simpa using hb)]
theorem ix_end {I : List Int} {i : Nat} {n k : Int} (h : I.length ≤ i) : ixF (I.drop i) n k = -1 := by
  rw [List.drop_eq_nil_of_le h]; rfl
theorem ix_has : ∀ {I : List Int} {n k : Int}, 0 ≤ k → decide (0 ≤ ixF I n k) = hasB I n
  | [], _, _, _ => rfl
  | x :: I, n, k, h => by
    rw [ixF, hasB]
    by_cases hx : n = x
    · rw [if_pos hx, if_pos hx.symm, decide_eq_true h]
    · rw [if_neg hx, if_neg (fun e => hx e.symm), ix_has (by omega)]
theorem has_hit {I : List Int} {i : Nat} {n : Int} (h : i < I.length) (hb : (gi I i == n) = true) : hasB (I.drop i) n = true := by
  rw [drop_gi h, hasB, if_pos (by simpa using hb)]
theorem has_miss {I : List Int} {i : Nat} {n : Int} (h : i < I.length) (hb : (gi I i == n) = false) : hasB (I.drop i) n = hasB (I.drop (i + 1)) n := by
  rw [drop_gi h]; conv => lhs; rw [hasB]
  rw [if_neg (by simpa using hb)]
theorem has_end {I : List Int} {i : Nat} {n : Int} (h : I.length ≤ i) : hasB (I.drop i) n = false := by
  rw [List.drop_eq_nil_of_le h]; rfl
def c91 : Ctr := fIn (fun I _ => [(Duty.of (I.length ≤ 1000000))]) (fun I n => .a (vI (ixF I n 0)))
theorem c91_ok : Ctr.Ok Try.prog Γ 91 c91 := fIn_ok (d := 0) (prog_ok CsOk.nil BsOk.nil false 0) (body_of Try.func91 rfl rfl) (fun _ _ => rfl) (by
  intro I n ⟨hI, _⟩
  simp only [Duty.of_p] at hI
  generalize hres : ixF I n 0 = res
  repeat' ((conv => whnf); (first | apply And.intro | intro _))
  all_goals try (conv => whnf)
  all_goals subst_vars
  refine ⟨Nat, fun i => i ≤ I.length ∧ ixF I n 0 = ixF (I.drop i) n i, fun i => ⟨slotsT 19 [0, 1, 7, 8] [.a (.sl 0 [] 0 I.length), .a (vI n), .a (vI I.length), .a (vI i)], [], [.arr 3 kI I false false]⟩, fun i => I.length - i, 0, [], ⟨Nat.zero_le _, rfl⟩, ?_, ?_⟩
  · repeat' ((conv => whnf); (first | apply And.intro | intro _))
    all_goals first | rfl | trivial | exact Nat.le_of_ble_eq_true rfl | exact ⟨rfl, rfl, rfl⟩ | exact ⟨rfl, rfl, rfl, rfl⟩
  rintro i ⟨hi, hv⟩
  repeat' ((conv => whnf); (first | apply And.intro | intro _))
  all_goals try (conv => whnf)
  all_goals try exact LexB.mk (by kernel_rfl)
  all_goals try exact ⟨Nat.le_of_ble_eq_true rfl⟩
  all_goals try exact ⟨rfl⟩
  all_goals try (refine Ob.mk ?_; (try simp only [Duty.of_p, inRQ]); subst_vars; (try simp only [getL, getI, getB, castL_rfl] at *); (try dsimp only [kL, kI, Tup, CK.ty] at *); (try simp only [getL, getI, getB, gi_nn, castL_rfl, Nat.zero_add, Nat.add_zero, Nat.sub_zero, Int.toNat_natCast, List.length_set, List.length_replicate, List.length_cons, List.length_nil, decide_eq_true_eq, decide_eq_false_iff_not, cap40, inR] at *); (all_goals first | omega | (split <;> omega)))
  all_goals subst_vars
  all_goals try simp only [getL, getI, Nat.zero_add, Int.toNat_natCast, decide_eq_true_eq, decide_eq_false_iff_not] at *
  all_goals try first
    | exact (hv.trans (ix_hit (by omega) (by assumption))).symm
    | exact (hv.trans (ix_end (by omega))).symm
    | exact hv.trans (ix_hit (by omega) (by assumption))
    | exact hv.trans (ix_end (by omega))
  refine ⟨i + 1, [], ⟨by omega, hv.trans (ix_miss (by omega) (by assumption))⟩, ?_, by omega⟩
  repeat' ((conv => whnf); (first | apply And.intro | intro _))
  all_goals first | rfl | trivial | exact Nat.le_of_ble_eq_true rfl | exact ⟨rfl, rfl, rfl⟩ | exact ⟨rfl, rfl, rfl, rfl⟩)
def c61 : Ctr := fIn (fun I _ => [(Duty.of (I.length ≤ 1000000))]) (fun I n => bl (hasB I n))
theorem c61_ok : Ctr.Ok Try.prog Γ 61 c61 := fIn_ok (d := 0) (prog_ok CsOk.nil BsOk.nil false 0) (body_of Try.func61 rfl rfl) (fun _ _ => rfl) (by
  intro I n ⟨hI, _⟩
  simp only [Duty.of_p] at hI
  generalize hres : hasB I n = res
  repeat' ((conv => whnf); (first | apply And.intro | intro _))
  all_goals try (conv => whnf)
  all_goals subst_vars
  refine ⟨Nat, fun i => i ≤ I.length ∧ hasB I n = hasB (I.drop i) n, fun i => ⟨slotsT 18 [0, 1, 5] [.a (.sl 0 [] 0 I.length), .a (vI n), .a (vI i)], [], [.arr 3 kI I false false]⟩, fun i => I.length - i, 0, [], ⟨Nat.zero_le _, rfl⟩, ?_, ?_⟩
  · repeat' ((conv => whnf); (first | apply And.intro | intro _))
    all_goals first | rfl | trivial | exact Nat.le_of_ble_eq_true rfl | exact ⟨rfl, rfl, rfl⟩ | exact ⟨rfl, rfl, rfl, rfl⟩
  rintro i ⟨hi, hv⟩
  repeat' ((conv => whnf); (first | apply And.intro | intro _))
  all_goals try (conv => whnf)
  all_goals try exact LexB.mk (by kernel_rfl)
  all_goals try exact ⟨Nat.le_of_ble_eq_true rfl⟩
  all_goals try exact ⟨rfl⟩
  all_goals try (refine Ob.mk ?_; (try simp only [Duty.of_p, inRQ]); subst_vars; (try simp only [getL, getI, getB, castL_rfl] at *); (try dsimp only [kL, kI, Tup, CK.ty] at *); (try simp only [getL, getI, getB, gi_nn, castL_rfl, Nat.zero_add, Nat.add_zero, Nat.sub_zero, Int.toNat_natCast, List.length_set, List.length_replicate, List.length_cons, List.length_nil, decide_eq_true_eq, decide_eq_false_iff_not, cap40, inR] at *); (all_goals first | omega | (split <;> omega)))
  all_goals subst_vars
  all_goals try simp only [getL, getI, Nat.zero_add, Int.toNat_natCast, decide_eq_true_eq, decide_eq_false_iff_not] at *
  all_goals try first
    | exact (hv.trans (has_hit (by omega) (by assumption))).symm
    | exact (hv.trans (has_end (by omega))).symm
    | exact hv.trans (has_hit (by omega) (by assumption))
    | exact hv.trans (has_end (by omega))
  refine ⟨i + 1, [], ⟨by omega, hv.trans (has_miss (by omega) (by assumption))⟩, ?_, by omega⟩
  repeat' ((conv => whnf); (first | apply And.intro | intro _))
  all_goals first | rfl | trivial | exact Nat.le_of_ble_eq_true rfl | exact ⟨rfl, rfl, rfl⟩ | exact ⟨rfl, rfl, rfl, rfl⟩)
def L83 : List (Nat × Ctr) := [(91, c91)]
theorem L83_ok : CsOk Try.prog Γ L83 := CsOk.nil.cons (body_of Try.func91 rfl rfl).fn c91_ok
attribute [local irreducible] hasB ixF
def c83 : Ctr := fIn (fun I _ => [(Duty.of (I.length ≤ 1000000))]) (fun I n => bl (hasB I n))
theorem c83_ok : Ctr.Ok Try.prog Γ 83 c83 := fIn_ok (d := 0) (prog_ok L83_ok BsOk.nil false 0) (body_of Try.func83 rfl rfl) (fun _ _ => rfl) (by
  intro I n ⟨hI, _⟩
  simp only [Duty.of_p] at hI
  have hg := ix_has (I := I) (n := n) (k := 0) (Int.le_refl 0)
  generalize hasB I n = res at *
  repeat' ((conv => whnf); (first | apply And.intro | intro _))
  all_goals try (conv => whnf)
  all_goals try exact LexB.mk (by kernel_rfl)
  all_goals subst_vars
  all_goals try simp only [castIk] at *
  all_goals try first
    | exact ⟨rfl⟩
    | exact ⟨trivial⟩
    | exact ⟨show I.length ≤ 1000000 from hI⟩
    | rfl
    | exact hg
    | exact hg.symm)
def sameB (N : Int) (L : List Lk) (M : Int) (K : List Lk) : Bool := decide (N = M) && decide (L = K)
theorem same_n {N M : Int} {L K : List Lk} (h : (N != M) = true) : sameB N L M K = false := by
  unfold sameB; rw [decide_eq_false (by simpa using h)]; rfl
theorem same_l {N M : Int} {L K : List Lk} (h : ((L.length : Int) != (K.length : Int)) = true) : sameB N L M K = false := by
  unfold sameB; rw [decide_eq_false (p := L = K) (fun e => by subst e; simp at h), Bool.and_false]
theorem same_y {N M : Int} {L K : List Lk} (h : (N != M) = false) : sameB N L M K = decide (L = K) := by
  unfold sameB; rw [decide_eq_true (by simpa using h), Bool.true_and]
theorem same_end {L K : List Lk} {i : Nat} (h : L.length ≤ i) (h2 : L.length = K.length) : decide (L.drop i = K.drop i) = true := by
  rw [List.drop_eq_nil_of_le h, List.drop_eq_nil_of_le (by omega)]; rfl
theorem same_no {L K : List Lk} {i : Nat} (h : i < L.length) (h2 : L.length = K.length) (hb : ¬ (lk L i = lk K i)) : decide (L.drop i = K.drop i) = false := by
  rw [drop_lk h, drop_lk (L := K) (by omega)]
  exact decide_eq_false fun e => hb (List.cons.inj e).1
theorem same_go {L K : List Lk} {i : Nat} (h : i < L.length) (h2 : L.length = K.length) (hb : lk L i = lk K i) : decide (L.drop i = K.drop i) = decide (L.drop (i + 1) = K.drop (i + 1)) := by
  rw [drop_lk h, drop_lk (L := K) (by omega), hb]
  exact decide_eq_decide.2 ⟨fun e => (List.cons.inj e).2, fun e => by rw [e]⟩
theorem ne_link {a b : Lk} (h : (!(a.1 == b.1 && (a.2.1 == b.2.1 && (a.2.2 == b.2.2 && true)))) = true) : ¬ a = b := fun e => by subst e; simp at h
theorem eq_link {a b : Lk} (h : (!(a.1 == b.1 && (a.2.1 == b.2.1 && (a.2.2 == b.2.2 && true)))) = false) : a = b := by
  simp at h
  exact Prod.ext h.1 (Prod.ext h.2.1 h.2.2)
theorem lt_of_dec {i n : Nat} (h : decide ((i : Int) < (n : Int)) = true) : i < n := by simpa using h
theorem ge_of_dec {i n : Nat} (h : decide ((i : Int) < (n : Int)) = false) : n ≤ i := by simpa using h
attribute [local irreducible] sameB
def c49 : Ctr := fSS (fun _ L _ _ => [(Duty.of (L.length ≤ 1000000))]) (fun N L M K => bl (sameB N L M K))
theorem c49_ok : Ctr.Ok Try.prog Γ 49 c49 := fSS_ok (d := 0) (prog_ok CsOk.nil BsOk.nil false 0) (body_of Try.func49 rfl rfl) (fun _ _ _ _ => rfl) (by
  intro N L M K ⟨hL, _⟩
  simp only [Duty.of_p] at hL
  have g0 := @same_n N M L K
  have g1 := @same_l N M L K
  have g2 := @same_y N M L K
  generalize sameB N L M K = res at *
  repeat' ((conv => whnf); (first | apply And.intro | intro _))
  all_goals try (conv => whnf)
  all_goals try exact LexB.mk (by kernel_rfl)
  all_goals subst_vars
  all_goals try simp only [getL, getI, castLk] at *
  all_goals try first
    | exact ⟨rfl⟩
    | exact (g0 (by assumption)).symm
    | exact (g1 (by assumption)).symm
    | exact g0 (by assumption)
    | exact g1 (by assumption)
  have hl : ((L.length : Int) != (K.length : Int)) = false := by assumption
  have hl2 := ok_ne hl
  have hr := g2 (by assumption)
  clear g0 g1 g2
  refine ⟨Nat, fun i => i ≤ L.length ∧ res = decide (L.drop i = K.drop i), fun i => ⟨slotsT 38 [2, 3, 5] [.a (.p 2 [] 0 0), .a (.p 3 [] 0 0), .a (vI i)], [], [.arr 44 kL L false false, .arr 44 kL K false false, .box true [vI N, .sl 0 [] 0 L.length], .box true [vI M, .sl 1 [] 0 K.length]]⟩, fun i => L.length - i, 0, [], ⟨Nat.zero_le _, hr⟩, ?_, ?_⟩
  · repeat' ((conv => whnf); (first | apply And.intro | intro _))
    all_goals first | rfl | trivial | exact Nat.le_of_ble_eq_true rfl | exact ⟨rfl, rfl, rfl⟩ | exact ⟨rfl, rfl, rfl, rfl⟩
  rintro i ⟨hi, hv⟩
  repeat' ((conv => whnf); (first | apply And.intro | intro _))
  all_goals try (conv => whnf)
  all_goals try exact LexB.mk (by kernel_rfl)
  all_goals try exact ⟨Nat.le_of_ble_eq_true rfl⟩
  all_goals try exact ⟨rfl⟩
  all_goals try (refine Ob.mk ?_; (try simp only [Duty.of_p, inRQ]); subst_vars; (try simp only [getL, getI, getB, castL_rfl] at *); (try dsimp only [kL, kI, Tup, CK.ty] at *); (try simp only [getL, getI, getB, gi_nn, castL_rfl, Nat.zero_add, Nat.add_zero, Nat.sub_zero, Int.toNat_natCast, List.length_set, List.length_replicate, List.length_cons, List.length_nil, decide_eq_true_eq, decide_eq_false_iff_not, cap40, inR] at *); (all_goals first | omega | (split <;> omega)))
  all_goals try subst_vars
  all_goals try simp only [getL, getI, Nat.zero_add, Int.toNat_natCast] at *
  all_goals try first
    | exact hv.trans (same_no (lt_of_dec (by assumption)) (by omega) (ne_link (by assumption)))
    | exact hv.trans (same_end (ge_of_dec (by assumption)) (by omega))
    | exact (hv.trans (same_no (lt_of_dec (by assumption)) (by omega) (ne_link (by assumption)))).symm
    | exact (hv.trans (same_end (ge_of_dec (by assumption)) (by omega))).symm
  all_goals have hi1 : i < L.length := lt_of_dec (by assumption)
  all_goals try (refine Ob.mk ?_; show -9223372036854775808 ≤ (i : Int) + 1 ∧ (i : Int) + 1 ≤ 9223372036854775807; omega)
  refine ⟨i + 1, [], ⟨by omega, hv.trans (same_go hi1 (by omega) (eq_link (by assumption)))⟩, ?_, by omega⟩
  repeat' ((conv => whnf); (first | apply And.intro | intro _))
  all_goals first | rfl | trivial | exact Nat.le_of_ble_eq_true rfl | exact ⟨rfl, rfl, rfl⟩ | exact ⟨rfl, rfl, rfl, rfl⟩)
end Go.Proofs.Ytlmhkeoblgodiaa
end
