/-
  Texts of the claims on chapter 2: Yk1. No condition: lemmas and contracts.
-/
import Derived.Test.YtlmhkeoblgodiaaYd
import Derived.Test.YtlmhkeoblgodiaaMn
import Derived.Test.YtlmhkeoblgodiaaYb
set_option linter.all false
section
/-
  Chapter 2: the plain law of ChainLists.
-/
namespace Go.Proofs.Ytlmhkeoblgodiaa
open Go Go.Sy Go.Chn
set_option linter.unusedVariables false
theorem cc_eq {N : Int} {L : List Lk} {I : List Int} (h : (checkF N L).1 = 0) : ccF N L I = if I.length > 80 then 2 else if idxB L.length I = false then 1 else if closB L I = false then 8 else 0 := by
  unfold ccF idxE
  rw [if_neg (by simp [h])]
  by_cases h1 : I.length > 80
  · simp [h1]
  · simp only [h1, if_false]
    cases idxB L.length I <;> cases closB L I <;> simp
theorem ckc_eq {N a b : Int} {L : List Lk} {I : List Int} (h : (checkF N L).1 = 0) : ckcF N L a b I = if nodeB N a = false ∨ nodeB N b = false then (0, 1) else if I.length > 80 then (0, 2) else if idxB L.length I = false then (0, 1) else
    if (sumR L a 0 I).2.2 = false ∨ (sumR L a 0 I).2.1 ≠ b then (0, 8) else ((sumR L a 0 I).1, 0) := by
  unfold ckcF idxE
  rw [if_neg (by simp [h])]
  split
  · rfl
  · by_cases h1 : I.length > 80
    · simp [h1]
    · simp only [h1, if_false]
      cases idxB L.length I <;> simp
theorem numL_fr {N : Int} : ∀ {X : List Int} {i : Nat}, (i : Int) + X.length ≤ N + 1 → numL N i X = frB X
  | [], _, _ => rfl
  | x :: X, i, h => by
    simp only [List.length_cons] at h
    rw [numL, frB, if_neg (by omega), numL_fr (X := X) (i := i + 1) (by omega)]
theorem num_eq {N : Int} {X : List Int} : numB N X = (decide ((X.length : Int) = N) && frB X) := by
  unfold numB
  by_cases h : (X.length : Int) = N
  · rw [numL_fr (by omega)]
    have h1 : ((X.length : Int) == N) = true := by simpa using h
    rw [h1, decide_eq_true h, Bool.and_true, Bool.true_and]
  · have h1 : ((X.length : Int) == N) = false := by simpa using h
    rw [h1, decide_eq_false h, Bool.and_false, Bool.false_and]
theorem fit_no {N : Int} {L : List Lk} {X : List Int} (h : (checkF N L).1 = 0) (h2 : numB N X = false) : fitF N L X = (false, 1) := by
  rw [num_eq] at h2
  unfold fitF
  rw [if_neg (by simp [h]), if_pos]
  by_cases hl : (X.length : Int) = N
  · rw [decide_eq_true hl, Bool.true_and] at h2; exact .inr h2
  · exact .inl hl
theorem fit_yes {N : Int} {L : List Lk} {X : List Int} (h : (checkF N L).1 = 0) (h2 : numB N X = true) : fitF N L X = (solB N.toNat L X, 0) ∧ frM X ∧ (X.length : Int) = N ∧ N = N.toNat ∧ AskL N.toNat L := by
  rw [num_eq, Bool.and_eq_true, decide_eq_true_eq] at h2
  obtain ⟨hl, hf⟩ := h2
  refine ⟨?_, frB_iff.1 hf, hl, by omega, ask_of h⟩
  unfold fitF solB
  rw [if_neg (by simp [h]), if_neg (by simp [hl, hf])]
  have h1 : (X.length == N.toNat) = true := by simp; omega
  rw [h1, Bool.true_and, Bool.and_comm]
theorem fit_bad {N : Int} {L : List Lk} {X : List Int} (h : ¬ (checkF N L).1 = 0) : fitF N L X = (false, (checkF N L).1) := by
  unfold fitF; rw [if_pos h]
theorem cc_bad {N : Int} {L : List Lk} {I : List Int} (h : ¬ (checkF N L).1 = 0) : ccF N L I = (checkF N L).1 := by
  unfold ccF; rw [if_pos h]
theorem ckc_bad {N a b : Int} {L : List Lk} {I : List Int} (h : ¬ (checkF N L).1 = 0) : ckcF N L a b I = (0, (checkF N L).1) := by
  unfold ckcF; rw [if_pos h]
end Go.Proofs.Ytlmhkeoblgodiaa
end

section
/-
  Chapter 2: lemmas that laws share.
-/
namespace Go.Proofs.Ytlmhkeoblgodiaa
open Go Go.Sy Go.Chn
set_option linter.unusedVariables false
set_option linter.unusedSimpArgs false
theorem castLk {h : kL = kL} (L : List Lk) : @castL kL kL h L = L := rfl
theorem castIk {h : kI = kI} (I : List Int) : @castL kI kI h I = I := rfl
theorem fit_eq {N : Int} {L : List Lk} {X : List Int} (h : (checkF N L).1 = 0) : fitF N L X = if numB N X = true then (solB N.toNat L X, 0) else (false, 1) := by
  by_cases hn : numB N X = true
  · rw [if_pos hn, (fit_yes h hn).1]
  · rw [if_neg hn, fit_no h (by simpa using hn)]
theorem gt80 (n : Nat) : ((n : Int) > 80) = (n > 80) := by apply propext; omega
theorem small_len {N : Int} {L : List Lk} (h : (!smallB N L) = false) : L.length ≤ 310 := by
  unfold smallB at h
  rw [Bool.not_eq_false', Bool.and_eq_true, decide_eq_true_eq] at h
  exact h.1
theorem ok_of {x : Int} (h : (x != 0) = false) : x = 0 := by simpa using h
theorem no_of {x : Int} (h : (x != 0) = true) : ¬ x = 0 := by simpa using h
theorem len_no {n : Nat} {k : Int} (h : decide ((n : Int) > k) = false) : (n : Int) ≤ k := by simpa using h
theorem nt_f {b : Bool} (h : (!b) = false) : b = true := by simpa using h
theorem nt_t {b : Bool} (h : (!b) = true) : b = false := by simpa using h
theorem ok_ne {x y : Int} (h : (x != y) = false) : x = y := by simpa using h
theorem solL_iff {X : List Int} : ∀ {L : List Lk}, solL X L = true ↔ ∀ l ∈ L, gi X l.2.1 ≤ gi X l.1 + l.2.2
  | [] => ⟨fun _ l hl => (by cases hl), fun _ => rfl⟩
  | l :: L => by
    rw [solL]
    constructor
    · intro h
      split at h
      · cases h
      · intro y hy
        rcases List.mem_cons.1 hy with rfl | hy
        · omega
        · exact (solL_iff.1 h) y hy
    · intro h
      have := h l (by simp)
      rw [if_neg (by omega)]
      exact solL_iff.2 fun y hy => h y (by simp [hy])
theorem fit_iff {N : Int} {L : List Lk} {X : List Int} : (fitF N L X).1 = true ↔ (checkF N L).1 = 0 ∧ (X.length : Int) = N ∧ frM X ∧ (∀ l ∈ L, gi X l.2.1 ≤ gi X l.1 + l.2.2) ∧ gi X 0 = 0 := by
  by_cases hc : (checkF N L).1 = 0
  · by_cases hn : numB N X = true
    · obtain ⟨h1, h2, h3, h4, h5⟩ := fit_yes hc hn
      rw [h1]
      have h6 : (X.length == N.toNat) = true := by simp; omega
      unfold solB
      rw [h6, Bool.true_and, Bool.and_eq_true, solL_iff, beq_iff_eq]
      exact ⟨fun h => ⟨hc, h3, h2, h.2, h.1⟩, fun h => ⟨h.2.2.2.2, h.2.2.2.1⟩⟩
    · rw [fit_no hc (by simpa using hn)]
      refine ⟨fun h => (by cases h), fun h => ?_⟩
      rw [num_eq, decide_eq_true h.2.1, Bool.true_and, frB_iff] at hn
      exact (hn h.2.2.1).elim
  · rw [fit_bad hc]
    exact ⟨fun h => (by cases h), fun h => (hc h.1).elim⟩
theorem fit_0 {N : Int} {L : List Lk} {X : List Int} (h : (fitF N L X).1 = true) : fitF N L X = (true, 0) := by
  obtain ⟨h1, h2, h3, _⟩ := fit_iff.1 h
  have hn : numB N X = true := by rw [num_eq, decide_eq_true h2, Bool.true_and, frB_iff]; exact h3
  have h4 := (fit_yes h1 hn).1
  rw [h4] at h ⊢
  exact congrArg (fun b => (b, (0 : Int))) h
theorem app_norm (L M : List Lk) : @HAppend.hAppend (List (Tup kL)) (List (Tup kL)) (List (Tup kL)) instHAppendOfAppend L M = @HAppend.hAppend (List Lk) (List Lk) (List Lk) instHAppendOfAppend L M := rfl
theorem nil_norm : @List.nil (Tup kL) = @List.nil Lk := rfl
end Go.Proofs.Ytlmhkeoblgodiaa
end

section
/-
  Chapter 2: lists of indices, systems compared. Printed by gen29.py.
-/
namespace Go.Proofs.Ytlmhkeoblgodiaa
open Go Go.Sy Go.Chn
set_option maxRecDepth 100000
set_option maxHeartbeats 1000000
set_option linter.unusedVariables false
set_option linter.unusedSimpArgs false
variable {Γ : Glob}
def ixF : List Int → Int → Int → Int
  | [], _, _ => -1
  | x :: I, n, k => if n = x then k else ixF I n (k + 1)
def hasB : List Int → Int → Bool
  | [], _ => false
  | x :: I, n => if x = n then true else hasB I n
theorem ix_hit {I : List Int} {i : Nat} {n k : Int} (h : i < I.length) (hb : (n == gi I i) = true) : ixF (I.drop i) n k = k := by
  rw [drop_gi h, ixF, if_pos (by simpa using hb)]
theorem ix_miss {I : List Int} {i : Nat} {n k : Int} (h : i < I.length) (hb : (n == gi I i) = false) : ixF (I.drop i) n k = ixF (I.drop (i + 1)) n (k + 1) := by
  rw [drop_gi h]; conv => lhs; rw [ixF]
  rw [if_neg (by simpa using hb)]
theorem ix_end {I : List Int} {i : Nat} {n k : Int} (h : I.length ≤ i) : ixF (I.drop i) n k = -1 := by
  rw [List.drop_eq_nil_of_le h]; rfl
theorem ix_has : ∀ {I : List Int} {n k : Int}, 0 ≤ k → decide (0 ≤ ixF I n k) = hasB I n
  | [], _, _, _ => rfl
  | x :: I, n, k, h => by
    rw [ixF, hasB]
    by_cases hx : n = x
    · rw [if_pos hx, if_pos hx.symm, decide_eq_true h]
    · rw [if_neg hx, if_neg (fun e => hx e.symm), ix_has (by omega)]
theorem has_hit {I : List Int} {i : Nat} {n : Int} (h : i < I.length) (hb : (gi I i == n) = true) : hasB (I.drop i) n = true := by
  rw [drop_gi h, hasB, if_pos (by simpa using hb)]
theorem has_miss {I : List Int} {i : Nat} {n : Int} (h : i < I.length) (hb : (gi I i == n) = false) : hasB (I.drop i) n = hasB (I.drop (i + 1)) n := by
  rw [drop_gi h]; conv => lhs; rw [hasB]
  rw [if_neg (by simpa using hb)]
theorem has_end {I : List Int} {i : Nat} {n : Int} (h : I.length ≤ i) : hasB (I.drop i) n = false := by
  rw [List.drop_eq_nil_of_le h]; rfl
def c91 : Ctr := fIn (fun I _ => [(Duty.of (I.length ≤ 1000000))]) (fun I n => .a (vI (ixF I n 0)))
theorem c91_ok : Ctr.Ok Try.prog Γ 91 c91 := fIn_ok (d := 0) (prog_ok CsOk.nil BsOk.nil false 0) (body_of Try.func91 rfl rfl) (fun _ _ => rfl) (by
  intro I n ⟨hI, _⟩
  simp only [Duty.of_p] at hI
  generalize hres : ixF I n 0 = res
  repeat' ((conv => whnf); (first | apply And.intro | intro _))
  all_goals try (conv => whnf)
  all_goals subst_vars
  refine ⟨Nat, fun i => i ≤ I.length ∧ ixF I n 0 = ixF (I.drop i) n i, fun i => ⟨slotsT 19 [0, 1, 7, 8] [.a (.sl 0 [] 0 I.length), .a (vI n), .a (vI I.length), .a (vI i)], [], [.arr 3 kI I false false]⟩, fun i => I.length - i, 0, [], ⟨Nat.zero_le _, rfl⟩, ?_, ?_⟩
  · repeat' ((conv => whnf); (first | apply And.intro | intro _))
    all_goals first | rfl | trivial | exact Nat.le_of_ble_eq_true rfl | exact ⟨rfl, rfl, rfl⟩ | exact ⟨rfl, rfl, rfl, rfl⟩
  rintro i ⟨hi, hv⟩
  repeat' ((conv => whnf); (first | apply And.intro | intro _))
  all_goals try (conv => whnf)
  all_goals try exact LexB.mk (by kernel_rfl)
  all_goals try exact ⟨Nat.le_of_ble_eq_true rfl⟩
  all_goals try exact ⟨rfl⟩
  all_goals try (refine Ob.mk ?_; (try simp only [Duty.of_p, inRQ]); subst_vars; (try simp only [getL, getI, getB, castL_rfl] at *); (try dsimp only [kL, kI, Tup, CK.ty] at *); (try simp only [getL, getI, getB, gi_nn, castL_rfl, Nat.zero_add, Nat.add_zero, Nat.sub_zero, Int.toNat_natCast, List.length_set, List.length_replicate, List.length_cons, List.length_nil, decide_eq_true_eq, decide_eq_false_iff_not, cap40, inR] at *); (all_goals first | omega | (split <;> omega)))
  all_goals subst_vars
  all_goals try simp only [getL, getI, Nat.zero_add, Int.toNat_natCast, decide_eq_true_eq, decide_eq_false_iff_not] at *
  all_goals try first
    | exact (hv.trans (ix_hit (by omega) (by assumption))).symm
    | exact (hv.trans (ix_end (by omega))).symm
    | exact hv.trans (ix_hit (by omega) (by assumption))
    | exact hv.trans (ix_end (by omega))
  refine ⟨i + 1, [], ⟨by omega, hv.trans (ix_miss (by omega) (by assumption))⟩, ?_, by omega⟩
  repeat' ((conv => whnf); (first | apply And.intro | intro _))
  all_goals first | rfl | trivial | exact Nat.le_of_ble_eq_true rfl | exact ⟨rfl, rfl, rfl⟩ | exact ⟨rfl, rfl, rfl, rfl⟩)
def c61 : Ctr := fIn (fun I _ => [(Duty.of (I.length ≤ 1000000))]) (fun I n => bl (hasB I n))
theorem c61_ok : Ctr.Ok Try.prog Γ 61 c61 := fIn_ok (d := 0) (prog_ok CsOk.nil BsOk.nil false 0) (body_of Try.func61 rfl rfl) (fun _ _ => rfl) (by
  intro I n ⟨hI, _⟩
  simp only [Duty.of_p] at hI
  generalize hres : hasB I n = res
  repeat' ((conv => whnf); (first | apply And.intro | intro _))
  all_goals try (conv => whnf)
  all_goals subst_vars
  refine ⟨Nat, fun i => i ≤ I.length ∧ hasB I n = hasB (I.drop i) n, fun i => ⟨slotsT 18 [0, 1, 5] [.a (.sl 0 [] 0 I.length), .a (vI n), .a (vI i)], [], [.arr 3 kI I false false]⟩, fun i => I.length - i, 0, [], ⟨Nat.zero_le _, rfl⟩, ?_, ?_⟩
  · repeat' ((conv => whnf); (first | apply And.intro | intro _))
    all_goals first | rfl | trivial | exact Nat.le_of_ble_eq_true rfl | exact ⟨rfl, rfl, rfl⟩ | exact ⟨rfl, rfl, rfl, rfl⟩
  rintro i ⟨hi, hv⟩
  repeat' ((conv => whnf); (first | apply And.intro | intro _))
  all_goals try (conv => whnf)
  all_goals try exact LexB.mk (by kernel_rfl)
  all_goals try exact ⟨Nat.le_of_ble_eq_true rfl⟩
  all_goals try exact ⟨rfl⟩
  all_goals try (refine Ob.mk ?_; (try simp only [Duty.of_p, inRQ]); subst_vars; (try simp only [getL, getI, getB, castL_rfl] at *); (try dsimp only [kL, kI, Tup, CK.ty] at *); (try simp only [getL, getI, getB, gi_nn, castL_rfl, Nat.zero_add, Nat.add_zero, Nat.sub_zero, Int.toNat_natCast, List.length_set, List.length_replicate, List.length_cons, List.length_nil, decide_eq_true_eq, decide_eq_false_iff_not, cap40, inR] at *); (all_goals first | omega | (split <;> omega)))
  all_goals subst_vars
  all_goals try simp only [getL, getI, Nat.zero_add, Int.toNat_natCast, decide_eq_true_eq, decide_eq_false_iff_not] at *
  all_goals try first
    | exact (hv.trans (has_hit (by omega) (by assumption))).symm
    | exact (hv.trans (has_end (by omega))).symm
    | exact hv.trans (has_hit (by omega) (by assumption))
    | exact hv.trans (has_end (by omega))
  refine ⟨i + 1, [], ⟨by omega, hv.trans (has_miss (by omega) (by assumption))⟩, ?_, by omega⟩
  repeat' ((conv => whnf); (first | apply And.intro | intro _))
  all_goals first | rfl | trivial | exact Nat.le_of_ble_eq_true rfl | exact ⟨rfl, rfl, rfl⟩ | exact ⟨rfl, rfl, rfl, rfl⟩)
def L83 : List (Nat × Ctr) := [(91, c91)]
theorem L83_ok : CsOk Try.prog Γ L83 := CsOk.nil.cons (body_of Try.func91 rfl rfl).fn c91_ok
attribute [local irreducible] hasB ixF
def c83 : Ctr := fIn (fun I _ => [(Duty.of (I.length ≤ 1000000))]) (fun I n => bl (hasB I n))
theorem c83_ok : Ctr.Ok Try.prog Γ 83 c83 := fIn_ok (d := 0) (prog_ok L83_ok BsOk.nil false 0) (body_of Try.func83 rfl rfl) (fun _ _ => rfl) (by
  intro I n ⟨hI, _⟩
  simp only [Duty.of_p] at hI
  have hg := ix_has (I := I) (n := n) (k := 0) (Int.le_refl 0)
  generalize hasB I n = res at *
  repeat' ((conv => whnf); (first | apply And.intro | intro _))
  all_goals try (conv => whnf)
  all_goals try exact LexB.mk (by kernel_rfl)
  all_goals subst_vars
  all_goals try simp only [castIk] at *
  all_goals try first
    | exact ⟨rfl⟩
    | exact ⟨trivial⟩
    | exact ⟨show I.length ≤ 1000000 from hI⟩
    | rfl
    | exact hg
    | exact hg.symm)
def sameB (N : Int) (L : List Lk) (M : Int) (K : List Lk) : Bool := decide (N = M) && decide (L = K)
theorem same_n {N M : Int} {L K : List Lk} (h : (N != M) = true) : sameB N L M K = false := by
  unfold sameB; rw [decide_eq_false (by simpa using h)]; rfl
theorem same_l {N M : Int} {L K : List Lk} (h : ((L.length : Int) != (K.length : Int)) = true) : sameB N L M K = false := by
  unfold sameB; rw [decide_eq_false (p := L = K) (fun e => by subst e; simp at h), Bool.and_false]
theorem same_y {N M : Int} {L K : List Lk} (h : (N != M) = false) : sameB N L M K = decide (L = K) := by
  unfold sameB; rw [decide_eq_true (by simpa using h), Bool.true_and]
theorem same_end {L K : List Lk} {i : Nat} (h : L.length ≤ i) (h2 : L.length = K.length) : decide (L.drop i = K.drop i) = true := by
  rw [List.drop_eq_nil_of_le h, List.drop_eq_nil_of_le (by omega)]; rfl
theorem same_no {L K : List Lk} {i : Nat} (h : i < L.length) (h2 : L.length = K.length) (hb : ¬ (lk L i = lk K i)) : decide (L.drop i = K.drop i) = false := by
  rw [drop_lk h, drop_lk (L := K) (by omega)]
  exact decide_eq_false fun e => hb (List.cons.inj e).1
theorem same_go {L K : List Lk} {i : Nat} (h : i < L.length) (h2 : L.length = K.length) (hb : lk L i = lk K i) : decide (L.drop i = K.drop i) = decide (L.drop (i + 1) = K.drop (i + 1)) := by
  rw [drop_lk h, drop_lk (L := K) (by omega), hb]
  exact decide_eq_decide.2 ⟨fun e => (List.cons.inj e).2, fun e => by rw [e]⟩
theorem ne_link {a b : Lk} (h : (!(a.1 == b.1 && (a.2.1 == b.2.1 && (a.2.2 == b.2.2 && true)))) = true) : ¬ a = b := fun e => by subst e; simp at h
theorem eq_link {a b : Lk} (h : (!(a.1 == b.1 && (a.2.1 == b.2.1 && (a.2.2 == b.2.2 && true)))) = false) : a = b := by
  simp at h
  exact Prod.ext h.1 (Prod.ext h.2.1 h.2.2)
theorem lt_of_dec {i n : Nat} (h : decide ((i : Int) < (n : Int)) = true) : i < n := by simpa using h
theorem ge_of_dec {i n : Nat} (h : decide ((i : Int) < (n : Int)) = false) : n ≤ i := by simpa using h
attribute [local irreducible] sameB
def c49 : Ctr := fSS (fun _ L _ _ => [(Duty.of (L.length ≤ 1000000))]) (fun N L M K => bl (sameB N L M K))
theorem c49_ok : Ctr.Ok Try.prog Γ 49 c49 := fSS_ok (d := 0) (prog_ok CsOk.nil BsOk.nil false 0) (body_of Try.func49 rfl rfl) (fun _ _ _ _ => rfl) (by
  intro N L M K ⟨hL, _⟩
  simp only [Duty.of_p] at hL
  have g0 := @same_n N M L K
  have g1 := @same_l N M L K
  have g2 := @same_y N M L K
  generalize sameB N L M K = res at *
  repeat' ((conv => whnf); (first | apply And.intro | intro _))
  all_goals try (conv => whnf)
  all_goals try exact LexB.mk (by kernel_rfl)
  all_goals subst_vars
  all_goals try simp only [getL, getI, castLk] at *
  all_goals try first
    | exact ⟨rfl⟩
    | exact (g0 (by assumption)).symm
    | exact (g1 (by assumption)).symm
    | exact g0 (by assumption)
    | exact g1 (by assumption)
  have hl : ((L.length : Int) != (K.length : Int)) = false := by assumption
  have hl2 := ok_ne hl
  have hr := g2 (by assumption)
  clear g0 g1 g2
  refine ⟨Nat, fun i => i ≤ L.length ∧ res = decide (L.drop i = K.drop i), fun i => ⟨slotsT 38 [2, 3, 5] [.a (.p 2 [] 0 0), .a (.p 3 [] 0 0), .a (vI i)], [], [.arr 44 kL L false false, .arr 44 kL K false false, .box true [vI N, .sl 0 [] 0 L.length], .box true [vI M, .sl 1 [] 0 K.length]]⟩, fun i => L.length - i, 0, [], ⟨Nat.zero_le _, hr⟩, ?_, ?_⟩
  · repeat' ((conv => whnf); (first | apply And.intro | intro _))
    all_goals first | rfl | trivial | exact Nat.le_of_ble_eq_true rfl | exact ⟨rfl, rfl, rfl⟩ | exact ⟨rfl, rfl, rfl, rfl⟩
  rintro i ⟨hi, hv⟩
  repeat' ((conv => whnf); (first | apply And.intro | intro _))
  all_goals try (conv => whnf)
  all_goals try exact LexB.mk (by kernel_rfl)
  all_goals try exact ⟨Nat.le_of_ble_eq_true rfl⟩
  all_goals try exact ⟨rfl⟩
  all_goals try (refine Ob.mk ?_; (try simp only [Duty.of_p, inRQ]); subst_vars; (try simp only [getL, getI, getB, castL_rfl] at *); (try dsimp only [kL, kI, Tup, CK.ty] at *); (try simp only [getL, getI, getB, gi_nn, castL_rfl, Nat.zero_add, Nat.add_zero, Nat.sub_zero, Int.toNat_natCast, List.length_set, List.length_replicate, List.length_cons, List.length_nil, decide_eq_true_eq, decide_eq_false_iff_not, cap40, inR] at *); (all_goals first | omega | (split <;> omega)))
  all_goals try subst_vars
  all_goals try simp only [getL, getI, Nat.zero_add, Int.toNat_natCast] at *
  all_goals try first
    | exact hv.trans (same_no (lt_of_dec (by assumption)) (by omega) (ne_link (by assumption)))
    | exact hv.trans (same_end (ge_of_dec (by assumption)) (by omega))
    | exact (hv.trans (same_no (lt_of_dec (by assumption)) (by omega) (ne_link (by assumption)))).symm
    | exact (hv.trans (same_end (ge_of_dec (by assumption)) (by omega))).symm
  all_goals have hi1 : i < L.length := lt_of_dec (by assumption)
  all_goals try (refine Ob.mk ?_; show -9223372036854775808 ≤ (i : Int) + 1 ∧ (i : Int) + 1 ≤ 9223372036854775807; omega)
  refine ⟨i + 1, [], ⟨by omega, hv.trans (same_go hi1 (by omega) (eq_link (by assumption)))⟩, ?_, by omega⟩
  repeat' ((conv => whnf); (first | apply And.intro | intro _))
  all_goals first | rfl | trivial | exact Nat.le_of_ble_eq_true rfl | exact ⟨rfl, rfl, rfl⟩ | exact ⟨rfl, rfl, rfl, rfl⟩)
end Go.Proofs.Ytlmhkeoblgodiaa
end

section
/-
  Chapter 2: Without, and the specification's With and Without. Printed by gen30.py.
-/
namespace Go.Proofs.Ytlmhkeoblgodiaa
open Go Go.Sy Go.Chn
set_option maxRecDepth 100000
set_option maxHeartbeats 1000000
set_option linter.unusedVariables false
set_option linter.unusedSimpArgs false
variable {Γ : Glob}
def keepL (I : List Int) : Nat → List Lk → List Lk
  | _, [] => []
  | i, l :: L => if hasB I i = true then keepL I (i + 1) L else l :: keepL I (i + 1) L
theorem keep_snoc {I : List Int} {l : Lk} : ∀ {L : List Lk} {k : Nat}, keepL I k (L ++ [l]) = keepL I k L ++ (if hasB I (k + L.length : Nat) = true then [] else [l])
  | [], k => by
    show (if hasB I k = true then ([] : List Lk) else [l]) = [] ++ _
    rw [List.nil_append]; rfl
  | x :: L, k => by
    have e : k + (x :: L).length = k + 1 + L.length := by simp; omega
    rw [List.cons_append, keepL, keepL, keep_snoc, e]
    split <;> simp
theorem keep_in {I : List Int} {L : List Lk} {i : Nat} (h : i < L.length) (hb : hasB I i = true) : keepL I 0 (L.take i) = keepL I 0 (L.take (i + 1)) := by
  have e : 0 + (L.take i).length = i := by simp; omega
  rw [take_lk h, keep_snoc, e, if_pos hb, List.append_nil]
theorem keep_out {I : List Int} {L : List Lk} {i : Nat} (h : i < L.length) (hb : hasB I i = false) : keepL I 0 (L.take i) ++ [lk L i] = keepL I 0 (L.take (i + 1)) := by
  have e : 0 + (L.take i).length = i := by simp; omega
  rw [take_lk h, keep_snoc, e, hb]; rfl
theorem keep_len {I : List Int} : ∀ {L : List Lk} {k : Nat}, (keepL I k L).length ≤ L.length
  | [], _ => Nat.le_refl _
  | l :: L, k => by
    have := keep_len (I := I) (L := L) (k := k + 1)
    rw [keepL]; split <;> simp <;> omega
theorem keep_nil {I : List Int} : [] = keepL I 0 (([] : List Lk)) := rfl
theorem keep_end {I : List Int} {L : List Lk} {i : Nat} (h : L.length ≤ i) : keepL I 0 (L.take i) = keepL I 0 L := by rw [List.take_of_length_le h]
def woutF (N : Int) (L : List Lk) (I : List Int) : (Int × List Lk) × Int := if (checkF N L).1 ≠ 0 then ((0, []), (checkF N L).1) else ((N, keepL I 0 L), 0)
theorem wo0 {N : Int} {L : List Lk} {I : List Int} (h : ((checkF N L).1 != 0) = true) : woutF N L I = ((0, []), (checkF N L).1) := by
  unfold woutF; rw [if_pos (by simpa using h)]
theorem wo1 {N : Int} {L : List Lk} {I : List Int} (h : ((checkF N L).1 != 0) = false) : woutF N L I = ((N, keepL I 0 L), 0) := by
  unfold woutF; rw [if_neg (by simpa using h)]
/-- A system handed back alone. -/
def sysS (N : Int) (L : List Lk) : Res := ⟨[.arr 44 kL L true true], .agg [vI N, .sl 0 [] 0 L.length]⟩
theorem ksE {K : Res → Prop} {m : Int} {x : Tm} {st : St} (hK : K (sysR 0 [] [.a (vI m)])) (hx : x.mapA (At.vd st.rg.length) = .tup [.agg [vI 0, .sl st.rg.length [] 0 0], .a (vI m)]) : resW K x st := by
  refine .void 44 kL (by simp [kL]) ?_
  rw [hx]
  refine .base ⟨_, [st.rg.length], hK, ⟨?_, rfl, by simp, trivial⟩, rfl, ?_⟩
  · simp [St.push, List.getD]; rfl
  · exact ⟨⟨⟨rfl, rfl⟩, ⟨rfl, rfl, rfl, rfl⟩, trivial⟩, ⟨rfl, rfl⟩, trivial⟩
theorem ksC {K : Res → Prop} {m N : Int} {M : List Lk} {x : Tm} {st : St} {i : Nat} (hK : K (sysR N M [.a (vI m)])) (hx : x = .tup [.agg [vI N, .sl i [] 0 M.length], .a (vI m)]) (hi : st.rg.getD i .dead = .arr 44 kL M true true) : resW K x st := by
  subst hx
  refine .base ⟨_, [i], hK, ⟨hi, rfl, by simp, trivial⟩, rfl, ?_⟩
  exact ⟨⟨⟨rfl, rfl⟩, ⟨rfl, rfl, rfl, rfl⟩, trivial⟩, ⟨rfl, rfl⟩, trivial⟩
theorem ksS {K : Res → Prop} {N : Int} {M : List Lk} {x : Tm} {st : St} {i : Nat} (hK : K (sysS N M)) (hx : x = .agg [vI N, .sl i [] 0 M.length]) (hi : st.rg.getD i .dead = .arr 44 kL M true true) : resW K x st := by
  subst hx
  refine .base ⟨_, [i], hK, ⟨hi, rfl, by simp, trivial⟩, rfl, ?_⟩
  exact ⟨⟨rfl, rfl⟩, ⟨rfl, rfl, rfl, rfl⟩, trivial⟩
theorem ksSv {K : Res → Prop} {N : Int} {x : Tm} {st : St} (hK : K (sysS N [])) (hx : x.mapA (At.vd st.rg.length) = .agg [vI N, .sl st.rg.length [] 0 0]) : resW K x st := by
  refine .void 44 kL (by simp [kL]) ?_
  rw [hx]
  refine .base ⟨_, [st.rg.length], hK, ⟨?_, rfl, by simp, trivial⟩, rfl, ?_⟩
  · simp [St.push, List.getD]; rfl
  · exact ⟨⟨rfl, rfl⟩, ⟨rfl, rfl, rfl, rfl⟩, trivial⟩
def L48 : List (Nat × Ctr) := [(22, c22), (83, c83)]
theorem L48_ok : CsOk Try.prog Γ L48 := (CsOk.nil.cons (body_of Try.func83 rfl rfl).fn c83_ok).cons (body_of Try.func22 rfl rfl).fn c22_ok
attribute [local irreducible] hasB keepL checkF lk woutF
def newSI (D : Int → List Lk → List Int → List Duty) (R : Int → List Lk → List Int → Res) : Ctr := .new fun args rg K => match args with
  | [.agg [.v (.int .i64 N), x], .a y] => (match arrOf 44 kL rg x, arrOf 3 kI rg y with
     | some (q, L), some (q', I) => oblige false (q ++ (q' ++ D N L I)) (K (R N L I))
     | _, _ => False)
  | _ => False
theorem newSI_ok {f : FuncId} {b : Body} {E : Env} {d : Nat} (hP : ProgOk Try.prog Γ E) (hb : BodyOk Try.prog f b) {D : Int → List Lk → List Int → List Duty} {R : Int → List Lk → List Int → Res}
    (H : ∀ (N : Int) (L : List Lk) (I : List Int) (K : Res → Prop), obl (D N L I) → K (R N L I) → evTop E d b [.agg [vI N, .sl 0 [] 0 L.length], .a (.sl 1 [] 0 I.length)] [.arr 44 kL L false false, .arr 3 kI I false false] (resW K)) : Ctr.Ok Try.prog Γ f (newSI D R) := Ctr.new_okW (d := d) hP hb (by
  intro args rg K hC
  split at hC
  next N x y =>
    split at hC
    next q L q' I hx hy =>
      rw [oblige_iff, obl_append, obl_append] at hC
      obtain ⟨⟨hq, hq', hD⟩, hK⟩ := hC
      obtain ⟨e, he⟩ := pas_arr (by simp [kL]) hx hq
      obtain ⟨e', he'⟩ := pas_arr (by simp [kI]) hy hq'
      obtain ⟨p1, p2⟩ := he [e, e'] 0 2 rfl (by omega)
      obtain ⟨p3, p4⟩ := he' [e, e'] 1 2 rfl (by omega)
      refine ⟨[e, e'], [.agg [vI N, .sl 0 [] 0 L.length], .a (.sl 1 [] 0 I.length)], [.arr 44 kL L false false, .arr 3 kI I false false], ⟨⟨⟨rfl, p1, trivial⟩, p3, trivial⟩, fun r g hg => ?_⟩, resW K, H N L I K hD hK, fun x st h => h⟩
      match r, hg with
      | 0, hg => obtain rfl := Option.some.inj hg; exact p2
      | 1, hg => obtain rfl := Option.some.inj hg; exact p4
    next => exact hC.elim
  next => exact hC.elim)
def c48 : Ctr := newSI (fun _ L I => [(Duty.of (L.length ≤ 1000000)), (Duty.of (I.length ≤ 1000000))]) (fun N L I => sysR (woutF N L I).1.1 (woutF N L I).1.2 [.a (vI (woutF N L I).2)])
theorem c48_ok : Ctr.Ok Try.prog Γ 48 c48 := newSI_ok (d := 0) (prog_ok L48_ok BsOk.nil false 0) (body_of Try.func48 rfl rfl) (by
  intro N L I K ⟨hL, hI, _⟩ hK
  simp only [Duty.of_p] at hL hI
  repeat' ((conv => whnf); (first | apply And.intro | intro _))
  all_goals try (conv => whnf)
  all_goals try exact LexB.mk (by kernel_rfl)
  all_goals subst_vars
  all_goals try simp only [getL, getI, castLk, castIk] at *
  all_goals try first
    | exact ⟨rfl⟩
    | exact ⟨trivial⟩
    | exact ⟨show L.length ≤ 1099511627776 by omega⟩
    | exact ⟨show L.length ≤ 1000000 from hL⟩
    | exact ksE (by rw [wo0 (by assumption)] at hK; exact hK) rfl
  have hc : ((checkF N L).1 != 0) = false := by assumption
  rw [wo1 hc] at hK
  refine ⟨Nat, fun i => i ≤ L.length, fun i => ⟨slotsT 43 [1, 4, 8, 24, 25, 26] [.a (.sl 1 [] 0 I.length), .a (.p 3 [] 0 0), .a (.p 4 [] 0 0), .a (.sl 0 [] 0 L.length), .a (vI L.length), .a (vI i)], [], [.arr 44 kL L false false, .arr 3 kI I false false, .box true [vI N, .sl 0 [] 0 L.length], .box true [vI 0, .v (.slice none 0 0)], .box true [vI N, .sl 5 [] 0 (keepL I 0 (L.take i)).length], .arr 44 kL (keepL I 0 (L.take i)) true true]⟩, fun i => L.length - i, 0, [0, 1, 2, 3, 4, 1000], Nat.zero_le _, ?_, ?_⟩
  · have e0 : [] = keepL I 0 (L.take 0) := by rw [List.take_zero]; exact keep_nil
    have e1 : (keepL I 0 (L.take 0)).length = 0 := by rw [← e0]; rfl
    repeat' ((conv => whnf); (first | apply And.intro | intro _))
    all_goals first | rfl | trivial | exact Nat.le_of_ble_eq_true rfl | exact ⟨rfl, rfl, rfl⟩ | exact ⟨rfl, rfl, rfl, rfl⟩ | exact ⟨rfl, rfl⟩ | exact e0 | exact e0.symm | exact e1
  rintro i hi
  have hkl : (keepL I 0 (L.take i)).length ≤ 1000000 := by have := keep_len (I := I) (L := L.take i) (k := 0); rw [List.length_take] at this; omega
  repeat' ((conv => whnf); (first | apply And.intro | intro _))
  all_goals try (conv => whnf)
  all_goals try first
    | exact LexB.mk (by kernel_rfl)
    | exact LexG.mk (by kernel_rfl)
    | exact Forced.mk (by kernel_rfl)
  all_goals try exact ⟨Nat.le_of_ble_eq_true rfl⟩
  all_goals try exact ⟨rfl⟩
  all_goals try (refine Ob.mk ?_; (try simp only [Duty.of_p, inRQ]); subst_vars; (try simp only [getL, getI, getB, castL_rfl] at *); (try dsimp only [kL, kI, Tup, CK.ty] at *); (try simp only [getL, getI, getB, gi_nn, castL_rfl, Nat.zero_add, Nat.add_zero, Nat.sub_zero, Int.toNat_natCast, List.length_set, List.length_replicate, List.length_cons, List.length_nil, decide_eq_true_eq, decide_eq_false_iff_not, cap40, inR] at *); (all_goals first | omega | (split <;> omega)))
  all_goals subst_vars
  all_goals try simp only [getL, getI, castLk, castIk, Nat.zero_add, Int.toNat_natCast] at *
  all_goals try first
    | exact ⟨show I.length ≤ 1000000 from hI⟩
    | exact ksC (i := 5) (by rw [← keep_end (I := I) (ge_of_dec (i := i) (n := L.length) (by assumption))] at hK; exact hK) rfl rfl
  · have hi1 : i < L.length := lt_of_dec (by assumption)
    have hb : hasB I i = false := nt_t (by assumption)
    have e0 : List.drop 0 (keepL I 0 (L.take i)) ++ List.take 1 (List.drop 0 [lk L i]) = keepL I 0 (L.take (i + 1)) := keep_out hi1 hb
    have e3 : (keepL I 0 (L.take i)).length + 1 = (keepL I 0 (L.take (i + 1))).length := by rw [← keep_out hi1 hb]; simp
    refine ⟨i + 1, [0, 1, 2, 3, 4, 5], hi1, ?_, by show L.length - (i + 1) < L.length - i; omega⟩
    repeat' ((conv => whnf); (first | apply And.intro | intro _))
    all_goals first | rfl | trivial | exact Nat.le_of_ble_eq_true rfl | exact ⟨rfl, rfl, rfl⟩ | exact ⟨rfl, rfl, rfl, rfl⟩ | exact ⟨rfl, rfl⟩ | exact e0 | exact e3 | exact ⟨rfl, rfl, e0⟩ | exact ⟨rfl, e0⟩
  · have hi1 : i < L.length := lt_of_dec (by assumption)
    have hb : hasB I i = true := nt_f (by assumption)
    have e0 := keep_in (I := I) hi1 hb
    have e3 : (keepL I 0 (L.take i)).length = (keepL I 0 (L.take (i + 1))).length := by rw [e0]
    refine ⟨i + 1, [0, 1, 2, 3, 4, 5], hi1, ?_, by show L.length - (i + 1) < L.length - i; omega⟩
    repeat' ((conv => whnf); (first | apply And.intro | intro _))
    all_goals first | rfl | trivial | exact Nat.le_of_ble_eq_true rfl | exact ⟨rfl, rfl, rfl⟩ | exact ⟨rfl, rfl, rfl, rfl⟩ | exact ⟨rfl, rfl⟩ | exact e0 | exact e3 | exact ⟨rfl, rfl, e0⟩ | exact ⟨rfl, e0⟩)
def L50 : List (Nat × Ctr) := [(61, c61)]
theorem L50_ok : CsOk Try.prog Γ L50 := CsOk.nil.cons (body_of Try.func61 rfl rfl).fn c61_ok
def c50 : Ctr := newSI (fun _ L I => [(Duty.of (L.length ≤ 1000000)), (Duty.of (I.length ≤ 1000000))]) (fun N L I => sysS N (keepL I 0 L))
theorem c50_ok : Ctr.Ok Try.prog Γ 50 c50 := newSI_ok (d := 0) (prog_ok L50_ok BsOk.nil false 0) (body_of Try.func50 rfl rfl) (by
  intro N L I K ⟨hL, hI, _⟩ hK
  simp only [Duty.of_p] at hL hI
  repeat' ((conv => whnf); (first | apply And.intro | intro _))
  all_goals try (conv => whnf)
  all_goals try exact LexB.mk (by kernel_rfl)
  all_goals subst_vars
  all_goals try simp only [getL, getI, castLk, castIk] at *
  all_goals try first
    | exact ⟨rfl⟩
    | exact ⟨trivial⟩
  refine ⟨Nat, fun i => i ≤ L.length, fun i => ⟨slotsT 32 [1, 2, 4, 5, 6] [.a (.sl 1 [] 0 I.length), .a (.p 2 [] 0 0), .a (.p 3 [] 0 0), .a (.p 4 [] 0 0), .a (vI i)], [], [.arr 44 kL L false false, .arr 3 kI I false false, .box true [vI N, .sl 0 [] 0 L.length], .box true [vI 0, .v (.slice none 0 0)], .box true [vI N, .sl 5 [] 0 (keepL I 0 (L.take i)).length], .arr 44 kL (keepL I 0 (L.take i)) true true]⟩, fun i => L.length - i, 0, [0, 1, 2, 3, 4, 1000], Nat.zero_le _, ?_, ?_⟩
  · have e0 : [] = keepL I 0 (L.take 0) := by rw [List.take_zero]; exact keep_nil
    have e1 : (keepL I 0 (L.take 0)).length = 0 := by rw [← e0]; rfl
    repeat' ((conv => whnf); (first | apply And.intro | intro _))
    all_goals first | rfl | trivial | exact Nat.le_of_ble_eq_true rfl | exact ⟨rfl, rfl, rfl⟩ | exact ⟨rfl, rfl, rfl, rfl⟩ | exact ⟨rfl, rfl⟩ | exact e0 | exact e0.symm | exact e1
  rintro i hi
  have hkl : (keepL I 0 (L.take i)).length ≤ 1000000 := by have := keep_len (I := I) (L := L.take i) (k := 0); rw [List.length_take] at this; omega
  repeat' ((conv => whnf); (first | apply And.intro | intro _))
  all_goals try (conv => whnf)
  all_goals try first
    | exact LexB.mk (by kernel_rfl)
    | exact LexG.mk (by kernel_rfl)
    | exact Forced.mk (by kernel_rfl)
  all_goals try exact ⟨Nat.le_of_ble_eq_true rfl⟩
  all_goals try exact ⟨rfl⟩
  all_goals try (refine Ob.mk ?_; (try simp only [Duty.of_p, inRQ]); subst_vars; (try simp only [getL, getI, getB, castL_rfl] at *); (try dsimp only [kL, kI, Tup, CK.ty] at *); (try simp only [getL, getI, getB, gi_nn, castL_rfl, Nat.zero_add, Nat.add_zero, Nat.sub_zero, Int.toNat_natCast, List.length_set, List.length_replicate, List.length_cons, List.length_nil, decide_eq_true_eq, decide_eq_false_iff_not, cap40, inR] at *); (all_goals first | omega | (split <;> omega)))
  all_goals subst_vars
  all_goals try simp only [getL, getI, castLk, castIk, Nat.zero_add, Int.toNat_natCast] at *
  all_goals try first
    | exact ⟨show I.length ≤ 1000000 from hI⟩
    | exact ksS (i := 5) (by rw [← keep_end (I := I) (ge_of_dec (i := i) (n := L.length) (by assumption))] at hK; exact hK) rfl rfl
  · have hi1 : i < L.length := lt_of_dec (by assumption)
    have hb : hasB I i = false := nt_t (by assumption)
    have e0 : List.drop 0 (keepL I 0 (L.take i)) ++ List.take 1 (List.drop 0 [lk L i]) = keepL I 0 (L.take (i + 1)) := keep_out hi1 hb
    have e3 : (keepL I 0 (L.take i)).length + 1 = (keepL I 0 (L.take (i + 1))).length := by rw [← keep_out hi1 hb]; simp
    refine ⟨i + 1, [0, 1, 2, 3, 4, 5], hi1, ?_, by show L.length - (i + 1) < L.length - i; omega⟩
    repeat' ((conv => whnf); (first | apply And.intro | intro _))
    all_goals first | rfl | trivial | exact Nat.le_of_ble_eq_true rfl | exact ⟨rfl, rfl, rfl⟩ | exact ⟨rfl, rfl, rfl, rfl⟩ | exact ⟨rfl, rfl⟩ | exact e0 | exact e3 | exact ⟨rfl, rfl, e0⟩ | exact ⟨rfl, e0⟩
  · have hi1 : i < L.length := lt_of_dec (by assumption)
    have hb : hasB I i = true := nt_f (by assumption)
    have e0 := keep_in (I := I) hi1 hb
    have e3 : (keepL I 0 (L.take i)).length = (keepL I 0 (L.take (i + 1))).length := by rw [e0]
    refine ⟨i + 1, [0, 1, 2, 3, 4, 5], hi1, ?_, by show L.length - (i + 1) < L.length - i; omega⟩
    repeat' ((conv => whnf); (first | apply And.intro | intro _))
    all_goals first | rfl | trivial | exact Nat.le_of_ble_eq_true rfl | exact ⟨rfl, rfl, rfl⟩ | exact ⟨rfl, rfl, rfl, rfl⟩ | exact ⟨rfl, rfl⟩ | exact e0 | exact e3 | exact ⟨rfl, rfl, e0⟩ | exact ⟨rfl, e0⟩)
def newSK (D : Int → List Lk → List Lk → List Duty) (R : Int → List Lk → List Lk → Res) : Ctr := .new fun args rg K => match args with
  | [.agg [.v (.int .i64 N), x], .a y] => (match arrOf 44 kL rg x, arrOf 44 kL rg y with
     | some (q, L), some (q', M) => oblige false (q ++ (q' ++ D N L M)) (K (R N L M))
     | _, _ => False)
  | _ => False
theorem newSK_ok {f : FuncId} {b : Body} {E : Env} {d : Nat} (hP : ProgOk Try.prog Γ E) (hb : BodyOk Try.prog f b) {D : Int → List Lk → List Lk → List Duty} {R : Int → List Lk → List Lk → Res}
    (H : ∀ (N : Int) (L : List Lk) (M : List Lk) (K : Res → Prop), obl (D N L M) → K (R N L M) → evTop E d b [.agg [vI N, .sl 0 [] 0 L.length], .a (.sl 1 [] 0 M.length)] [.arr 44 kL L false false, .arr 44 kL M false false] (resW K)) : Ctr.Ok Try.prog Γ f (newSK D R) := Ctr.new_okW (d := d) hP hb (by
  intro args rg K hC
  split at hC
  next N x y =>
    split at hC
    next q L q' M hx hy =>
      rw [oblige_iff, obl_append, obl_append] at hC
      obtain ⟨⟨hq, hq', hD⟩, hK⟩ := hC
      obtain ⟨e, he⟩ := pas_arr (by simp [kL]) hx hq
      obtain ⟨e', he'⟩ := pas_arr (by simp [kL]) hy hq'
      obtain ⟨p1, p2⟩ := he [e, e'] 0 2 rfl (by omega)
      obtain ⟨p3, p4⟩ := he' [e, e'] 1 2 rfl (by omega)
      refine ⟨[e, e'], [.agg [vI N, .sl 0 [] 0 L.length], .a (.sl 1 [] 0 M.length)], [.arr 44 kL L false false, .arr 44 kL M false false], ⟨⟨⟨rfl, p1, trivial⟩, p3, trivial⟩, fun r g hg => ?_⟩, resW K, H N L M K hD hK, fun x st h => h⟩
      match r, hg with
      | 0, hg => obtain rfl := Option.some.inj hg; exact p2
      | 1, hg => obtain rfl := Option.some.inj hg; exact p4
    next => exact hC.elim
  next => exact hC.elim)
theorem y51 {L ys : List Lk} (h : List.take L.length (List.drop 0 L) = ys) : L = ys := by rw [← h, List.drop_zero, List.take_length]
theorem ksA {K : Res → Prop} {N : Int} {L M : List Lk} {x : Tm} {st : St} {i : Nat} (hK : K (sysS N (L ++ M))) (hx : x = .agg [vI N, .sl i [] 0 (L.length + M.length)]) (hi : st.rg.getD i .dead = .arr 44 kL (L ++ M) true true) : resW K x st :=
  ksS hK (by rw [List.length_append]; exact hx) hi
def t51 : OT := (.take 0 (.take 3 (.take 6 (.alt 1 (.alt 2 (.alt 4 (.alt 5 (.alt 7 (.alt 8 (.alt 9 .fin .fin) .fin) .fin) .fin) .fin) (.alt 4 (.alt 2 (.alt 5 (.alt 7 (.alt 8 (.alt 9 .fin .fin) .fin) .fin) .fin) .fin) .fin)) (.alt 2 (.alt 1 (.alt 4 (.alt 5 (.alt 7 (.alt 8 (.alt 9 .fin .fin) .fin) .fin) .fin) .fin) (.alt 4 (.alt 1 (.alt 5 (.alt 7 (.alt 8 (.alt 9 .fin .fin) .fin) .fin) .fin) (.alt 5 (.alt 1 (.alt 7 (.alt 8 (.alt 9 .fin .fin) .fin) .fin) (.alt 7 (.alt 1 (.alt 8 (.alt 9 .fin .fin) .fin) .fin) .fin)) .fin)) .fin)) (.alt 4 (.alt 1 (.alt 2 (.alt 5 (.alt 7 (.alt 8 (.alt 9 .fin .fin) .fin) .fin) .fin) .fin) (.alt 2 (.alt 1 (.alt 5 (.alt 7 (.alt 8 (.alt 9 .fin .fin) .fin) .fin) .fin) (.alt 5 (.alt 1 (.alt 7 (.alt 8 (.alt 9 .fin .fin) .fin) .fin) (.alt 7 (.alt 1 (.alt 8 (.alt 9 .fin .fin) .fin) .fin) .fin)) .fin)) .fin)) .fin))))))
noncomputable def e51 : Env := { tabs.env [] [] false 0 with tree := fun id => match Nat.beq id 1 with | true => some t51 | false => none }
theorem e51_ok : ProgOk Try.prog Γ e51 := (prog_ok CsOk.nil BsOk.nil false 0).trees _
def c51 : Ctr := newSK (fun _ L M => [(Duty.of (L.length ≤ 1000000)), (Duty.of (M.length ≤ 1000000))]) (fun N L M => sysS N (L ++ M))
theorem c51_ok : Ctr.Ok Try.prog Γ 51 c51 := newSK_ok (d := 0) e51_ok (body_of Try.func51 rfl rfl) (by
  intro N L M K ⟨hL, hM, _⟩ hK
  simp only [Duty.of_p] at hL hM
  repeat' ((conv => whnf); (first | apply And.intro | intro _))
  all_goals try (conv => whnf)
  all_goals try exact LexT.mk (by kernel_rfl)
  all_goals try first
    | trivial
    | exact ⟨rfl⟩
  all_goals try first
    | exact ⟨Nat.le_of_eq (Nat.zero_add _)⟩
    | exact ⟨show L.length * 3 ≤ 1099511627776 by omega⟩
    | exact ⟨show (L.length + M.length) * 3 ≤ 1099511627776 by omega⟩
  all_goals obtain rfl := y51 ‹List.take L.length (List.drop 0 L) = _›
  all_goals try exact ⟨Nat.zero_add _⟩
  all_goals obtain rfl := y45 ‹List.drop 0 L ++ List.take M.length (List.drop 0 M) = _›
  all_goals first
    | exact ksA (i := 4) hK rfl rfl
    | exact ksA (i := 5) hK rfl rfl
    | exact ksA (i := 6) hK rfl rfl)
end Go.Proofs.Ytlmhkeoblgodiaa
end

section
/-
  Chapter 2: bounds of nodes, as functions; what they mean.
-/
namespace Go.Proofs.Ytlmhkeoblgodiaa
open Go Go.Sy Go.Chn
set_option linter.unusedVariables false
set_option linter.unusedSimpArgs false
/-- A system is consistent, by the search. -/
def conB (N : Int) (L : List Lk) : Bool := (relaxF N.toNat L [] (List.replicate N.toNat 0)).1
def ndB (N : Int) : List Int → Bool
  | [] => true
  | v :: I => if nodeB N v = true then ndB N I else false
theorem nd_no {N : Int} {I : List Int} {i : Nat} (h : i < I.length) (hb : nodeB N (gi I i) = false) : ndB N (I.drop i) = false := by
  rw [drop_gi h, ndB, if_neg (by simp [hb])]
theorem nd_yes {N : Int} {I : List Int} {i : Nat} (h : i < I.length) (hb : nodeB N (gi I i) = true) : ndB N (I.drop i) = ndB N (I.drop (i + 1)) := by
  rw [drop_gi h]; conv => lhs; rw [ndB]
  rw [if_pos hb]
theorem nd_end {N : Int} {I : List Int} {i : Nat} (h : I.length ≤ i) : ndB N (I.drop i) = true := by
  rw [List.drop_eq_nil_of_le h]; rfl
def askF (N : Int) (L : List Lk) (I : List Int) : Int := if (checkF N L).1 ≠ 0 then (checkF N L).1 else if ndB N I = false then 1 else if conB N L = false then 9 else 0
theorem ask0 {N : Int} {L : List Lk} {I : List Int} (h : ((checkF N L).1 != 0) = true) : askF N L I = (checkF N L).1 := by
  unfold askF; rw [if_pos (by simpa using h)]
theorem ask1 {N : Int} {L : List Lk} {I : List Int} (h : ((checkF N L).1 != 0) = false) (h2 : ndB N I = false) : askF N L I = 1 := by
  unfold askF; rw [if_neg (by simpa using h), if_pos h2]
theorem ask2 {N : Int} {L : List Lk} {I : List Int} (h : ((checkF N L).1 != 0) = false) (h2 : ndB N I = true) (h3 : conB N L = false) : askF N L I = 9 := by
  unfold askF; rw [if_neg (by simpa using h), if_neg (by simp [h2]), if_pos h3]
theorem ask3 {N : Int} {L : List Lk} {I : List Int} (h : ((checkF N L).1 != 0) = false) (h2 : ndB N I = true) (h3 : conB N L = true) : askF N L I = 0 := by
  unfold askF; rw [if_neg (by simpa using h), if_neg (by simp [h2]), if_neg (by simp [h3])]
theorem ask_iff {N : Int} {L : List Lk} {I : List Int} : askF N L I = 0 ↔ (checkF N L).1 = 0 ∧ ndB N I = true ∧ conB N L = true := by
  unfold askF
  constructor
  · intro h
    split at h
    · contradiction
    · split at h
      · cases h
      · split at h
        · cases h
        · rename_i h1 h2 h3
          exact ⟨by simpa using h1, by simpa using h2, by simpa using h3⟩
  · rintro ⟨h1, h2, h3⟩
    rw [if_neg (by simp [h1]), if_neg (by simp [h2]), if_neg (by simp [h3])]
theorem nd_two {N a b : Int} : ndB N [a, b] = (nodeB N a && nodeB N b) := by
  unfold ndB ndB ndB; cases nodeB N a <;> cases nodeB N b <;> rfl
theorem nodeB_iff {N v : Int} : nodeB N v = true ↔ inN N.toNat v := by
  unfold nodeB inN; simp; omega
def dB (N : Int) (L : List Lk) (u v : Int) : Int := gi (boundsF N.toNat L [] u) v
def bndF (N : Int) (L : List Lk) (a b : Int) : Int × Int := if askF N L [a, b] ≠ 0 then (0, askF N L [a, b]) else if dB N L a b = 1152921504606846976 then (0, 5) else (dB N L a b, 0)
section
variable {N : Int} {L : List Lk}
theorem con_iff (ha : AskL N.toNat L) : conB N L = true ↔ NoNeg L := by
  have hf := relax_found (es := []) ha.ok (zero_beg N.toNat)
  rw [usedF_nil] at hf
  constructor
  · intro h
    exact Post.noNeg (fun v hv => gi_rep N.toNat 0 hv) (hf.yes h).1 ha.ok.nd
  · intro h
    cases hb : conB N L with
    | true => rfl
    | false => exact (hf.no hb h).elim
theorem bd_len (ha : AskL N.toNat L) {u : Int} (hu : inN N.toNat u) : (boundsF N.toNat L [] u).length = N.toNat := (relax_found (es := []) ha.ok (from0_beg hu)).len
theorem bd_isD (ha : AskL N.toNat L) (hn : NoNeg L) {u v : Int} (hu : inN N.toNat u) (hv : inN N.toNat v) : IsD L u v (dB N L u v) ∧ least L ≤ dB N L u v ∧ dB N L u v ≤ Fr := by
  have hf := relax_found (es := []) ha.ok (from0_beg hu)
  rw [usedF_nil] at hf
  cases hb : (relaxF N.toNat L [] (from0 N.toNat u)).1 with
  | false => exact (hf.no hb hn).elim
  | true => exact ⟨(hf.yes hb).1.dist ha.ok hn hu (fun v hv => from0_gi hu hv) hv, (hf.yes hb).2 v hv⟩
theorem bd_low (ha : AskL N.toNat L) : -1351079888211148800 ≤ least L := by
  have h1 := least_lb L (fun l hl => (ha.ok.ms l hl).1)
  have h2 := ha.l
  omega
theorem bd_range (ha : AskL N.toNat L) (hn : NoNeg L) {u v : Int} (hu : inN N.toNat u) (hv : inN N.toNat v) : -1351079888211148800 ≤ dB N L u v ∧ dB N L u v ≤ 1152921504606846976 := by
  have h := (bd_isD ha hn hu hv).2
  have h2 := bd_low ha
  have h3 : Fr = 1152921504606846976 := rfl
  omega
/-- Distances are short. -/
theorem d_low (ha : AskL N.toNat L) (hn : NoNeg L) {u v d : Int} (hv : inN N.toNat v) (h : IsD L u v d) (hf : d ≠ Fr) : -270215977642229760 ≤ d ∧ d ≤ 270215977642229760 := by
  obtain ⟨ls, h1, h2, h3⟩ := h.is hf
  obtain ⟨r, r1, r2, r3, r4⟩ := simple hn ls u v h1 h2
  have r5 := simple_len ha.ok.nd r1 r2 hv r3
  have hb := sum_bound ha.ok r2
  have hb' := h.le r r1 r2
  have := ha.n.2
  omega
end
end Go.Proofs.Ytlmhkeoblgodiaa
end

section
/-
  Chapter 2: asked, Consistent, Bound. Printed by gen33.py.
-/
namespace Go.Proofs.Ytlmhkeoblgodiaa
open Go Go.Sy Go.Chn
set_option maxRecDepth 100000
set_option maxHeartbeats 1000000
set_option linter.unusedVariables false
set_option linter.unusedSimpArgs false
variable {Γ : Glob}
def fSnn (D : Int → List Lk → Int → Int → List Duty) (F : Int → List Lk → Int → Int → Tm) : Ctr := .fn fun args rg => match args with
  | [.agg [.v (.int .i64 N0), x0], .a (.v (.int .i64 i0)), .a (.v (.int .i64 i1))] => (match arrOf 44 kL rg x0 with | some (q0, L0) => some (q0 ++ (D N0 L0 i0 i1), F N0 L0 i0 i1) | _ => none)
  | _ => none
theorem fSnn_ok {f : FuncId} {b : Body} {E : Env} {d : Nat} (hP : ProgOk Try.prog Γ E) (hb : BodyOk Try.prog f b) {D : Int → List Lk → Int → Int → List Duty} {F : Int → List Lk → Int → Int → Tm} (hp : ∀ (N0 : Int) (L0 : List Lk) (i0 : Int) (i1 : Int), (F N0 L0 i0 i1).plain = true)
    (H : ∀ (N0 : Int) (L0 : List Lk) (i0 : Int) (i1 : Int), obl (D N0 L0 i0 i1) → evTop E d b [.agg [vI N0, .sl 0 [] 0 L0.length], .a (vI i0), .a (vI i1)] [.arr 44 kL L0 false false] (fun x _ => eqT x (F N0 L0 i0 i1))) : Ctr.Ok Try.prog Γ f (fSnn D F) := Ctr.fn_ok (d := d) hP hb (by
  intro args rg q t hF hq
  split at hF
  next N0 x0 i0 i1 =>
    split at hF
    next q0 L0 hx0 =>
      obtain ⟨rfl, rfl⟩ := Prod.mk.inj (Option.some.inj hF); clear hF
      rw [obl_append] at hq
      obtain ⟨hq0, hD⟩ := hq
      obtain ⟨e0, he0⟩ := pas_arr (by simp [kL]) hx0 hq0
      obtain ⟨p0, r0⟩ := he0 [e0] 0 1 rfl (by omega)
      refine ⟨hp _ _ _ _, [e0], [.agg [vI N0, .sl 0 [] 0 L0.length], .a (vI i0), .a (vI i1)], [.arr 44 kL L0 false false], ⟨⟨⟨rfl, p0, trivial⟩, rfl, rfl, trivial⟩, fun r g hg => ?_⟩, H _ _ _ _ hD⟩
      match r, hg with
      | 0, hg => obtain rfl := Option.some.inj hg; exact r0
    next => cases hF
  next => cases hF)

def L73 : List (Nat × Ctr) := [(22, c22), (64, c64), (65, c65)]
theorem L73_ok : CsOk Try.prog Γ L73 := ((CsOk.nil.cons (body_of Try.func65 rfl rfl).fn c65_ok).cons (body_of Try.func64 rfl rfl).fn c64_ok).cons (body_of Try.func22 rfl rfl).fn c22_ok
theorem con_t {N : Int} {L : List Lk} (h : (relaxF N.toNat L [] (List.replicate N.toNat 0)).1 = true) : conB N L = true := h
theorem con_f {N : Int} {L : List Lk} (h : (relaxF N.toNat L [] (List.replicate N.toNat 0)).1 = false) : conB N L = false := h
def conF (N : Int) (L : List Lk) : Bool × Int := if (checkF N L).1 ≠ 0 then (false, (checkF N L).1) else (conB N L, 0)
theorem conF0 {N : Int} {L : List Lk} (h : ((checkF N L).1 != 0) = true) : conF N L = (false, (checkF N L).1) := by unfold conF; rw [if_pos (by simpa using h)]
theorem conF1 {N : Int} {L : List Lk} (h : ((checkF N L).1 != 0) = false) : conF N L = (conB N L, 0) := by unfold conF; rw [if_neg (by simpa using h)]
theorem toNat_of {N : Int} {L : List Lk} (h : (checkF N L).1 = 0) : N = N.toNat := by have := (ask_of h).n; omega
attribute [local irreducible] checkF gi lk relaxF ndB nodeB solF conF conB
def c24 : Ctr := fS (fun _ L => [(Duty.of (L.length ≤ 1000000))]) (fun N L => .tup [.a (.v (.bool (conF N L).1)), .a (vI (conF N L).2)])
theorem c24_ok : Ctr.Ok Try.prog Γ 24 c24 := fS_ok (d := 0) (prog_ok L73_ok BsOk.nil false 0) (body_of Try.func24 rfl rfl) (fun _ _ => rfl) (by
  intro N L ⟨hL, _⟩
  simp only [Duty.of_p] at hL
  have g0 := @conF0 N L
  have g1 := @conF1 N L
  generalize conF N L = res at *
  repeat' ((conv => whnf); (first | apply And.intro | intro _))
  all_goals try (conv => whnf)
  all_goals try exact LexB.mk (by kernel_rfl)
  all_goals subst_vars
  all_goals try simp only [getL, getI, castLk, castIk] at *
  all_goals try first
    | exact ⟨rfl⟩
    | exact ⟨trivial⟩
    | exact ⟨show L.length ≤ 1099511627776 by omega⟩
    | (rw [g0 (by assumption)]; done)
    | exact (congrArg Prod.snd (g0 (by assumption))).symm
    | trivial
    | exact toNat_of (ok_of (by assumption))
    | exact ask_of (ok_of (by assumption))
    | (rw [g1 (by assumption)]; exact (con_t (by assumption)).symm)
    | (rw [g1 (by assumption)]; exact (con_f (by assumption)).symm)
    | (rw [g1 (by assumption)]; exact con_t (by assumption))
    | (rw [g1 (by assumption)]; exact con_f (by assumption))
    | exact (congrArg Prod.snd (g1 (by assumption))).symm)
def c73 : Ctr := fSI (fun _ L I => [(Duty.of (L.length ≤ 1000000)), (Duty.of (I.length ≤ 1000000))]) (fun N L I => .a (vI (askF N L I)))
theorem c73_ok : Ctr.Ok Try.prog Γ 73 c73 := fSI_ok (d := 0) (prog_ok L73_ok BsOk.nil false 0) (body_of Try.func73 rfl rfl) (fun _ _ _ => rfl) (by
  intro N L I ⟨hL, hI, _⟩
  simp only [Duty.of_p] at hL hI
  have g0 := @ask0 N L I
  have g1 := @ask1 N L I
  have g2 := @ask2 N L I
  have g3 := @ask3 N L I
  generalize askF N L I = res at *
  repeat' ((conv => whnf); (first | apply And.intro | intro _))
  all_goals try (conv => whnf)
  all_goals try exact LexB.mk (by kernel_rfl)
  all_goals subst_vars
  all_goals try simp only [getL, getI, castLk, castIk] at *
  all_goals try first
    | exact ⟨rfl⟩
    | exact ⟨trivial⟩
    | exact ⟨show L.length ≤ 1099511627776 by omega⟩
    | exact (g0 (by assumption)).symm
    | exact g0 (by assumption)
  have hc : ((checkF N L).1 != 0) = false := by assumption
  have ha := ask_of (ok_of hc)
  have hN := toNat_of (ok_of hc)
  clear g0
  refine ⟨Nat, fun i => i ≤ I.length ∧ ndB N I = ndB N (I.drop i), fun i => ⟨slotsT 37 [2, 19, 20, 21] [.a (.p 2 [] 0 0), .a (.sl 1 [] 0 I.length), .a (vI I.length), .a (vI i)], [], [.arr 44 kL L false false, .arr 3 kI I false false, .box true [vI N, .sl 0 [] 0 L.length]]⟩, fun i => I.length - i, 0, [], ⟨Nat.zero_le _, rfl⟩, ?_, ?_⟩
  · repeat' ((conv => whnf); (first | apply And.intro | intro _))
    all_goals first | rfl | trivial | exact Nat.le_of_ble_eq_true rfl | exact ⟨rfl, rfl, rfl⟩ | exact ⟨rfl, rfl, rfl, rfl⟩ | exact ⟨rfl, rfl⟩
  rintro i ⟨hi, hv⟩
  repeat' ((conv => whnf); (first | apply And.intro | intro _))
  all_goals try (conv => whnf)
  all_goals try exact LexB.mk (by kernel_rfl)
  all_goals try exact ⟨Nat.le_of_ble_eq_true rfl⟩
  all_goals try exact ⟨rfl⟩
  all_goals try (refine Ob.mk ?_; (try simp only [Duty.of_p, inRQ]); subst_vars; (try simp only [getL, getI, getB, castL_rfl] at *); (try dsimp only [kL, kI, Tup, CK.ty] at *); (try simp only [getL, getI, getB, gi_nn, castL_rfl, Nat.zero_add, Nat.add_zero, Nat.sub_zero, Int.toNat_natCast, List.length_set, List.length_replicate, List.length_cons, List.length_nil, decide_eq_true_eq, decide_eq_false_iff_not, cap40, inR] at *); (all_goals first | omega | (split <;> omega)))
  all_goals subst_vars
  all_goals try simp only [getL, getI, castLk, castIk, Nat.zero_add, Int.toNat_natCast] at *
  all_goals try first
    | exact hN
    | exact ha
    | rfl
    | exact (g1 hc (hv.trans (nd_no (lt_of_dec (by assumption)) (nt_t (by assumption))))).symm
    | exact (g3 hc (hv.trans (nd_end (ge_of_dec (by assumption)))) (con_t (by assumption))).symm
    | exact (g2 hc (hv.trans (nd_end (ge_of_dec (by assumption)))) (con_f (by assumption))).symm
  have hi1 : i < I.length := lt_of_dec (by assumption)
  refine ⟨i + 1, [], ⟨hi1, hv.trans (nd_yes hi1 (nt_f (by assumption)))⟩, ?_, by show I.length - (i + 1) < I.length - i; omega⟩
  repeat' ((conv => whnf); (first | apply And.intro | intro _))
  all_goals first | rfl | trivial | exact Nat.le_of_ble_eq_true rfl | exact ⟨rfl, rfl, rfl⟩ | exact ⟨rfl, rfl, rfl, rfl⟩ | exact ⟨rfl, rfl⟩)
def L38 : List (Nat × Ctr) := [(72, c72), (73, c73)]
theorem L38_ok : CsOk Try.prog Γ L38 := (CsOk.nil.cons (body_of Try.func73 rfl rfl).fn c73_ok).cons (body_of Try.func72 rfl rfl).fn c72_ok
theorem bnd0 {N : Int} {L : List Lk} {a b : Int} (h : (askF N L [a, b] != 0) = true) : bndF N L a b = (0, askF N L [a, b]) := by unfold bndF; rw [if_pos (by simpa using h)]
theorem bnd1 {N : Int} {L : List Lk} {a b : Int} (h : (askF N L [a, b] != 0) = false) (h2 : (dB N L a b == 1152921504606846976) = true) : bndF N L a b = (0, 5) := by unfold bndF; rw [if_neg (by simpa using h), if_pos (by simpa using h2)]
theorem bnd2 {N : Int} {L : List Lk} {a b : Int} (h : (askF N L [a, b] != 0) = false) (h2 : (dB N L a b == 1152921504606846976) = false) : bndF N L a b = (dB N L a b, 0) := by unfold bndF; rw [if_neg (by simpa using h), if_neg (by simpa using h2)]
attribute [local irreducible] askF boundsF bndF
def c38 : Ctr := fSnn (fun _ L _ _ => [(Duty.of (L.length ≤ 1000000))]) (fun N L a b => .tup [.a (vI (bndF N L a b).1), .a (vI (bndF N L a b).2)])
theorem c38_ok : Ctr.Ok Try.prog Γ 38 c38 := fSnn_ok (d := 0) (prog_ok L38_ok BsOk.nil false 0) (body_of Try.func38 rfl rfl) (fun _ _ _ _ => rfl) (by
  intro N L a b ⟨hL, _⟩
  simp only [Duty.of_p] at hL
  have g0 := @bnd0 N L a b
  have g1 := @bnd1 N L a b
  have g2 := @bnd2 N L a b
  have g3 := @ask_iff N L [a, b]
  generalize bndF N L a b = res at *
  repeat' ((conv => whnf); (first | apply And.intro | intro _))
  all_goals try (conv => whnf)
  all_goals try exact LexB.mk (by kernel_rfl)
  all_goals subst_vars
  all_goals try simp only [getL, getI, castLk, castIk] at *
  all_goals try first
    | exact ⟨rfl⟩
    | exact ⟨trivial⟩
    | exact ⟨show L.length ≤ 1000000 from hL⟩
    | rfl
  all_goals try first
    | exact ⟨Nat.le_of_ble_eq_true rfl⟩
    | (have hq : (askF N L [a, b] != 0) = true := by assumption
       rw [g0 hq]; done)
    | (have hq : (askF N L [a, b] != 0) = true := by assumption
       exact (congrArg Prod.snd (g0 hq)).symm)
  all_goals have hq : (askF N L [a, b] != 0) = false := by assumption
  all_goals
    (obtain ⟨h1, h2, h3⟩ := g3.1 (ok_of hq)
     rw [nd_two, Bool.and_eq_true] at h2
     have ha := ask_of h1
     have hN := toNat_of h1
     have na := nodeB_iff.1 h2.1
     have nb := nodeB_iff.1 h2.2
     have hlen := bd_len ha na
     have nb1 := nb.1
     have nb2 := nb.2
     have e2 : gi (boundsF N.toNat L [] a) ((0 + b.toNat : Nat) : Int) = dB N L a b := by
       have e : ((0 + b.toNat : Nat) : Int) = b := by omega
       rw [e]; rfl)
  all_goals try first
    | exact hN
    | exact ha
    | exact na.1
    | exact na.2
    | exact ⟨nb⟩
    | exact ⟨show 0 + b.toNat < (boundsF N.toNat L [] a).length by omega⟩
  all_goals simp only [e2] at *
  all_goals first
    | (rw [g1 hq (by assumption)]; done)
    | exact (congrArg Prod.snd (g1 hq (by assumption))).symm
    | (rw [g2 hq (by assumption)]; done)
    | exact (congrArg Prod.snd (g2 hq (by assumption))).symm)
end Go.Proofs.Ytlmhkeoblgodiaa
end

section
/-
  Chapter 2: all bounds: Tight, ends. Printed by gen34.py.
-/
namespace Go.Proofs.Ytlmhkeoblgodiaa
open Go Go.Sy Go.Chn
set_option maxRecDepth 100000
set_option maxHeartbeats 1000000
set_option linter.unusedVariables false
set_option linter.unusedSimpArgs false
variable {Γ : Glob}
def newS (D : Int → List Lk → List Duty) (R : Int → List Lk → Res) : Ctr := .new fun args rg K => match args with
  | [.agg [.v (.int .i64 N0), x0]] => (match arrOf 44 kL rg x0 with | some (q0, L0) => oblige false (q0 ++ (D N0 L0)) (K (R N0 L0)) | _ => False)
  | _ => False
theorem newS_ok {f : FuncId} {b : Body} {E : Env} {d : Nat} (hP : ProgOk Try.prog Γ E) (hb : BodyOk Try.prog f b) {D : Int → List Lk → List Duty} {R : Int → List Lk → Res}
    (H : ∀ (N0 : Int) (L0 : List Lk) (K : Res → Prop), obl (D N0 L0) → K (R N0 L0) → evTop E d b [.agg [vI N0, .sl 0 [] 0 L0.length]] [.arr 44 kL L0 false false] (resW K)) : Ctr.Ok Try.prog Γ f (newS D R) := Ctr.new_okW (d := d) hP hb (by
  intro args rg K hC
  split at hC
  next N0 x0 =>
    split at hC
    next q0 L0 hx0 =>
      rw [oblige_iff, obl_append] at hC
      obtain ⟨⟨hq0, hD⟩, hK⟩ := hC
      obtain ⟨e0, he0⟩ := pas_arr (by simp [kL]) hx0 hq0
      obtain ⟨p0, r0⟩ := he0 [e0] 0 1 rfl (by omega)
      refine ⟨[e0], [.agg [vI N0, .sl 0 [] 0 L0.length]], [.arr 44 kL L0 false false], ⟨⟨⟨rfl, p0, trivial⟩, trivial⟩, fun r g hg => ?_⟩, resW K, H _ _ K hD hK, fun x st h => h⟩
      match r, hg with
      | 0, hg => obtain rfl := Option.some.inj hg; exact r0
    next => exact hC.elim
  next => exact hC.elim)
def newS0 (D : Int → List Lk → List Duty) (R : Int → List Lk → Res) : Ctr := .new fun args rg K => match args with
  | [.agg [.v (.int .i64 N0), x0], .a (.v (.map none))] => (match arrOf 44 kL rg x0 with | some (q0, L0) => oblige false (q0 ++ (D N0 L0)) (K (R N0 L0)) | _ => False)
  | _ => False
theorem newS0_ok {f : FuncId} {b : Body} {E : Env} {d : Nat} (hP : ProgOk Try.prog Γ E) (hb : BodyOk Try.prog f b) {D : Int → List Lk → List Duty} {R : Int → List Lk → Res}
    (H : ∀ (N0 : Int) (L0 : List Lk) (K : Res → Prop), obl (D N0 L0) → K (R N0 L0) → evTop E d b [.agg [vI N0, .sl 0 [] 0 L0.length], .a (.v (.map none))] [.arr 44 kL L0 false false] (resW K)) : Ctr.Ok Try.prog Γ f (newS0 D R) := Ctr.new_okW (d := d) hP hb (by
  intro args rg K hC
  split at hC
  next N0 x0 =>
    split at hC
    next q0 L0 hx0 =>
      rw [oblige_iff, obl_append] at hC
      obtain ⟨⟨hq0, hD⟩, hK⟩ := hC
      obtain ⟨e0, he0⟩ := pas_arr (by simp [kL]) hx0 hq0
      obtain ⟨p0, r0⟩ := he0 [e0] 0 1 rfl (by omega)
      refine ⟨[e0], [.agg [vI N0, .sl 0 [] 0 L0.length], .a (.v (.map none))], [.arr 44 kL L0 false false], ⟨⟨⟨rfl, p0, trivial⟩, rfl, trivial⟩, fun r g hg => ?_⟩, resW K, H _ _ K hD hK, fun x st h => h⟩
      match r, hg with
      | 0, hg => obtain rfl := Option.some.inj hg; exact r0
    next => exact hC.elim
  next => exact hC.elim)

/-- A list handed back, and an error. -/
theorem klE {te : TypeId} {tg : List CK} (htg : tg ≠ []) {K : Res → Prop} {m : Int} {x : Tm} {st : St} (hK : K ⟨[.arr te tg [] true true], .tup [.a (.sl 0 [] 0 0), .a (vI m)]⟩) (hx : x.mapA (At.vd st.rg.length) = .tup [.a (.sl st.rg.length [] 0 0), .a (vI m)]) : resW K x st := by
  refine .void te tg htg ?_
  rw [hx]
  refine .base ⟨_, [st.rg.length], hK, ⟨?_, rfl, by simp, trivial⟩, rfl, ?_⟩
  · simp [St.push, List.getD]
  · exact ⟨⟨rfl, rfl, rfl, rfl⟩, ⟨rfl, rfl⟩, trivial⟩
theorem klC {te : TypeId} {tg : List CK} {K : Res → Prop} {m : Int} {xs : List (Tup tg)} {n : Nat} {x : Tm} {st : St} {i : Nat} (hK : K ⟨[.arr te tg xs true true], .tup [.a (.sl 0 [] 0 n), .a (vI m)]⟩) (hx : x = .tup [.a (.sl i [] 0 n), .a (vI m)]) (hi : st.rg.getD i .dead = .arr te tg xs true true) : resW K x st := by
  subst hx
  refine .base ⟨_, [i], hK, ⟨hi, rfl, by simp, trivial⟩, rfl, ?_⟩
  exact ⟨⟨rfl, rfl, rfl, rfl⟩, ⟨rfl, rfl⟩, trivial⟩
theorem kl1 {te : TypeId} {tg : List CK} {K : Res → Prop} {xs : List (Tup tg)} {n : Nat} {x : Tm} {st : St} {i : Nat} (hK : K ⟨[.arr te tg xs true true], .a (.sl 0 [] 0 n)⟩) (hx : x = .a (.sl i [] 0 n)) (hi : st.rg.getD i .dead = .arr te tg xs true true) : resW K x st := by
  subst hx
  refine .base ⟨_, [i], hK, ⟨hi, rfl, by simp, trivial⟩, rfl, ?_⟩
  exact ⟨rfl, rfl, rfl, rfl⟩
theorem kl2 {te te' : TypeId} {tg tg' : List CK} {K : Res → Prop} {xs : List (Tup tg)} {ys : List (Tup tg')} {n m : Nat} {x : Tm} {st : St} {i j : Nat} (hij : i ≠ j) (hK : K ⟨[.arr te tg xs true true, .arr te' tg' ys true true], .tup [.a (.sl 0 [] 0 n), .a (.sl 1 [] 0 m)]⟩) (hx : x = .tup [.a (.sl i [] 0 n), .a (.sl j [] 0 m)]) (hi : st.rg.getD i .dead = .arr te tg xs true true) (hj : st.rg.getD j .dead = .arr te' tg' ys true true) : resW K x st := by
  subst hx
  refine .base ⟨_, [i, j], hK, ⟨hi, rfl, by simpa using hij, hj, rfl, by simp, trivial⟩, rfl, ?_⟩
  exact ⟨⟨rfl, rfl, rfl, rfl⟩, ⟨rfl, rfl, rfl, rfl⟩, trivial⟩
/-- The rows of bounds up to a node. -/
def tgL (N : Int) (L : List Lk) (k : Nat) : List (List Int) := (List.range k).map fun (u : Nat) => boundsF N.toNat L [] (u : Int)
theorem tg_len {N : Int} {L : List Lk} {k : Nat} : (tgL N L k).length = k := by simp [tgL]
theorem tg_zero {N : Int} {L : List Lk} : [] = tgL N L 0 := rfl
theorem tg_succ {N : Int} {L : List Lk} {k : Nat} : tgL N L k ++ [boundsF N.toNat L [] (k : Int)] = tgL N L (k + 1) := by simp [tgL, List.range_succ]
theorem tg_get {N : Int} {L : List Lk} {k u : Nat} (h : u < k) : (tgL N L k).getD u [] = boundsF N.toNat L [] (u : Int) := by
  simp [tgL, List.getD, h]
def L80 : List (Nat × Ctr) := [(72, c72)]
theorem L80_ok : CsOk Try.prog Γ L80 := CsOk.nil.cons (body_of Try.func72 rfl rfl).fn c72_ok
attribute [local irreducible] checkF gi lk askF boundsF bndF tgL
def c80 : Ctr := newS0 (fun N L => [(Duty.of (N = N.toNat)), askD N.toNat L]) (fun N L => ⟨[.arr 32 kT (tgL N L N.toNat) true true], .a (.sl 0 [] 0 N.toNat)⟩)
theorem c80_ok : Ctr.Ok Try.prog Γ 80 c80 := newS0_ok (d := 0) (prog_ok L80_ok BsOk.nil false 0) (body_of Try.func80 rfl rfl) (by
  intro N L K ⟨hN, ha, _⟩ hK
  replace ha : AskL N.toNat L := ha
  simp only [Duty.of_p] at hN
  have hn := ha.n
  repeat' ((conv => whnf); (first | apply And.intro | intro _))
  all_goals try (conv => whnf)
  all_goals try exact LexB.mk (by kernel_rfl)
  all_goals subst_vars
  all_goals try simp only [getL, getI, castLk, castIk] at *
  all_goals try first
    | exact ⟨rfl⟩
    | exact ⟨trivial⟩
  refine ⟨Nat, fun i => i ≤ N.toNat, fun i => ⟨slotsT 21 [1, 2, 5, 8, 9] [.a (.v (.map none)), .a (.p 1 [] 0 0), .a (.sl 2 [] 0 i), .a (vI N), .a (vI i)], [], [.arr 44 kL L false false, .box true [vI N, .sl 0 [] 0 L.length], .arr 32 kT (tgL N L i) true true]⟩, fun i => N.toNat - i, 0, [0, 1, 1000], Nat.zero_le _, ?_, ?_⟩
  · have e0 : [] = tgL N L 0 := tg_zero
    repeat' ((conv => whnf); (first | apply And.intro | intro _))
    all_goals first | rfl | trivial | exact Nat.le_of_ble_eq_true rfl | exact ⟨rfl, rfl, rfl⟩ | exact ⟨rfl, rfl, rfl, rfl⟩ | exact ⟨rfl, rfl⟩ | exact e0 | exact e0.symm
  rintro i hi
  have htl : (tgL N L i).length = i := tg_len
  repeat' ((conv => whnf); (first | apply And.intro | intro _))
  all_goals try (conv => whnf)
  all_goals try first
    | exact LexB.mk (by kernel_rfl)
    | exact LexG.mk (by kernel_rfl)
    | exact Forced.mk (by kernel_rfl)
  all_goals try exact ⟨Nat.le_of_ble_eq_true rfl⟩
  all_goals try exact ⟨rfl⟩
  all_goals try (refine Ob.mk ?_; (try simp only [Duty.of_p, inRQ]); subst_vars; (try simp only [getL, getI, getB, castL_rfl] at *); (try dsimp only [kL, kI, Tup, CK.ty] at *); (try simp only [getL, getI, getB, gi_nn, castL_rfl, Nat.zero_add, Nat.add_zero, Nat.sub_zero, Int.toNat_natCast, List.length_set, List.length_replicate, List.length_cons, List.length_nil, decide_eq_true_eq, decide_eq_false_iff_not, cap40, inR] at *); (all_goals first | omega | (split <;> omega)))
  all_goals subst_vars
  all_goals try simp only [getL, getI, castLk, castIk, Nat.zero_add, Int.toNat_natCast] at *
  all_goals try first
    | rfl
    | exact hN
    | exact ha
    | exact kl1 (i := 2) (by have e : i = N.toNat := (by have := of_decide_eq_false ‹decide ((i : Int) < N) = false›; omega); rw [← e] at hK; exact hK) rfl rfl
    | exact ⟨show i = (tgL N L i).length from tg_len.symm⟩
    | exact ⟨show (i + 1) * 1 ≤ 1099511627776 by omega⟩
  all_goals have hi1 : i < N.toNat := by have := of_decide_eq_true ‹decide ((i : Int) < N) = true›; omega
  all_goals have hv : inN N.toNat i := ⟨by omega, by omega⟩
  all_goals try first
    | exact hv.1
    | exact hv.2
    | exact ⟨(bd_len ha hv).symm⟩
  have e1 : List.drop 0 (tgL N L i) ++ [boundsF N.toNat L [] (i : Int)] = tgL N L (i + 1) := tg_succ
  refine ⟨i + 1, [0, 1, 2], hi1, ?_, by show N.toNat - (i + 1) < N.toNat - i; omega⟩
  repeat' ((conv => whnf); (first | apply And.intro | intro _))
  all_goals first | rfl | trivial | exact Nat.le_of_ble_eq_true rfl | exact ⟨rfl, rfl, rfl⟩ | exact ⟨rfl, rfl, rfl, rfl⟩ | exact ⟨rfl, rfl⟩ | exact e1 | exact ⟨rfl, rfl, e1⟩)
def tgF (N : Int) (L : List Lk) : List (List Int) × Int := if askF N L [] ≠ 0 then ([], askF N L []) else (tgL N L N.toNat, 0)
theorem tgF0 {N : Int} {L : List Lk} (h : (askF N L [] != 0) = true) : tgF N L = ([], askF N L []) := by unfold tgF; rw [if_pos (by simpa using h)]
theorem tgF1 {N : Int} {L : List Lk} (h : (askF N L [] != 0) = false) : tgF N L = (tgL N L N.toNat, 0) := by unfold tgF; rw [if_neg (by simpa using h)]
def L44 : List (Nat × Ctr) := [(73, c73), (80, c80)]
theorem L44_ok : CsOk Try.prog Γ L44 := (CsOk.nil.cons (body_of Try.func80 rfl rfl).fn c80_ok).cons (body_of Try.func73 rfl rfl).fn c73_ok
attribute [local irreducible] tgF
def c44 : Ctr := newS (fun _ L => [(Duty.of (L.length ≤ 1000000))]) (fun N L => ⟨[.arr 32 kT (tgF N L).1 true true], .tup [.a (.sl 0 [] 0 (tgF N L).1.length), .a (vI (tgF N L).2)]⟩)
theorem c44_ok : Ctr.Ok Try.prog Γ 44 c44 := newS_ok (d := 0) (prog_ok L44_ok BsOk.nil false 0) (body_of Try.func44 rfl rfl) (by
  intro N L K ⟨hL, _⟩ hK
  simp only [Duty.of_p] at hL
  repeat' ((conv => whnf); (first | apply And.intro | intro _))
  all_goals try (conv => whnf)
  all_goals try exact LexB.mk (by kernel_rfl)
  all_goals subst_vars
  all_goals try simp only [getL, getI, castLk, castIk] at *
  all_goals try first
    | exact ⟨rfl⟩
    | exact ⟨trivial⟩
    | exact ⟨show L.length ≤ 1000000 from hL⟩
    | exact ⟨Nat.le_of_ble_eq_true rfl⟩
    | (have hq : (askF N L [] != 0) = true := by assumption
       rw [tgF0 hq] at hK
       exact klE (by simp [kT]) hK rfl)
  all_goals have hq : (askF N L [] != 0) = false := by assumption
  all_goals obtain ⟨h1, _, h3⟩ := ask_iff.1 (ok_of hq)
  all_goals first
    | exact ⟨toNat_of h1⟩
    | exact ⟨ask_of h1⟩
    | (rw [tgF1 hq] at hK
       have e := tg_len (N := N) (L := L) (k := N.toNat)
       simp only [e] at hK
       refine klC (te := 32) (tg := kT) (m := 0) (xs := tgL N L N.toNat) (n := N.toNat) (i := 2) hK ?_ ?_ <;> rfl))
/-- The bounds towards the node 0, up to a node; the rest is 0. -/
def toL (N : Int) (L : List Lk) (i : Nat) : List Int := ((List.range i).map fun (u : Nat) => dB N L (u : Int) 0) ++ List.replicate (N.toNat - i) 0
theorem to_len {N : Int} {L : List Lk} {i : Nat} (h : i ≤ N.toNat) : (toL N L i).length = N.toNat := by simp [toL]; omega
theorem to_zero {N : Int} {L : List Lk} : List.replicate N.toNat (0 : Int) = toL N L 0 := by simp [toL]
theorem to_set {N : Int} {L : List Lk} {i : Nat} (h : i < N.toNat) : (toL N L i).set i (dB N L i 0) = toL N L (i + 1) := by
  unfold toL
  rw [List.set_append_right _ _ (by simp), List.length_map, List.length_range, Nat.sub_self, show N.toNat - i = (N.toNat - (i + 1)) + 1 by omega, List.replicate_succ, List.set_cons_zero, List.range_succ, List.map_append, List.append_assoc]
  rfl
theorem to_get {N : Int} {L : List Lk} {u : Nat} (h : u < N.toNat) : gi (toL N L N.toNat) u = dB N L u 0 := by
  simp [toL, gi, List.getD, h]
attribute [local irreducible] toL
def c86 : Ctr := newS (fun N L => [(Duty.of (N = N.toNat)), askD N.toNat L]) (fun N L => ⟨[.arr 3 kI (boundsF N.toNat L [] 0) true true, .arr 3 kI (toL N L N.toNat) true true], .tup [.a (.sl 0 [] 0 N.toNat), .a (.sl 1 [] 0 N.toNat)]⟩)
theorem c86_ok : Ctr.Ok Try.prog Γ 86 c86 := newS_ok (d := 0) (prog_ok L80_ok BsOk.nil false 0) (body_of Try.func86 rfl rfl) (by
  intro N L K ⟨hN, ha, _⟩ hK
  replace ha : AskL N.toNat L := ha
  simp only [Duty.of_p] at hN
  have hn := ha.n
  have h0 : inN N.toNat 0 := ⟨by omega, by omega⟩
  repeat' ((conv => whnf); (first | apply And.intro | intro _))
  all_goals try (conv => whnf)
  all_goals try exact LexB.mk (by kernel_rfl)
  all_goals try exact ⟨Nat.le_of_ble_eq_true rfl⟩
  all_goals try exact ⟨rfl⟩
  all_goals try (refine Ob.mk ?_; (try simp only [Duty.of_p, inRQ]); subst_vars; (try simp only [getL, getI, getB, castL_rfl] at *); (try dsimp only [kL, kI, Tup, CK.ty] at *); (try simp only [getL, getI, getB, gi_nn, castL_rfl, Nat.zero_add, Nat.add_zero, Nat.sub_zero, Int.toNat_natCast, List.length_set, List.length_replicate, List.length_cons, List.length_nil, decide_eq_true_eq, decide_eq_false_iff_not, cap40, inR] at *); (all_goals first | omega | (split <;> omega)))
  all_goals subst_vars
  all_goals try simp only [getL, getI, castLk, castIk] at *
  all_goals try first
    | exact ⟨rfl⟩
    | exact ⟨trivial⟩
    | rfl
    | exact hN
    | exact ha
    | exact h0.1
    | exact h0.2
  refine ⟨Nat, fun i => i ≤ N.toNat, fun i => ⟨slotsT 28 [1, 4, 5, 13, 14] [.a (.p 1 [] 0 0), .a (.sl 2 [] 0 N.toNat), .a (.sl 3 [] 0 N.toNat), .a (vI N.toNat), .a (vI i)], [], [.arr 44 kL L false false, .box true [vI N, .sl 0 [] 0 L.length], .arr 3 kI (boundsF N.toNat L [] 0) true true, .arr 3 kI (toL N L i) true true]⟩, fun i => N.toNat - i, 0, [], Nat.zero_le _, ?_, ?_⟩
  · have e0 : List.replicate N.toNat (0 : Int) = toL N L 0 := to_zero
    repeat' ((conv => whnf); (first | apply And.intro | intro _))
    all_goals first | rfl | trivial | exact Nat.le_of_ble_eq_true rfl | exact ⟨rfl, rfl, rfl⟩ | exact ⟨rfl, rfl, rfl, rfl⟩ | exact ⟨rfl, rfl⟩ | exact e0 | exact e0.symm | exact ⟨rfl, rfl, e0⟩
  rintro i hi
  have htl : (toL N L i).length = N.toNat := to_len hi
  repeat' ((conv => whnf); (first | apply And.intro | intro _))
  all_goals try (conv => whnf)
  all_goals try first
    | exact LexB.mk (by kernel_rfl)
    | exact LexG.mk (by kernel_rfl)
    | exact Forced.mk (by kernel_rfl)
  all_goals try exact ⟨Nat.le_of_ble_eq_true rfl⟩
  all_goals try exact ⟨rfl⟩
  all_goals try (refine Ob.mk ?_; (try simp only [Duty.of_p, inRQ]); subst_vars; (try simp only [getL, getI, getB, castL_rfl] at *); (try dsimp only [kL, kI, Tup, CK.ty] at *); (try simp only [getL, getI, getB, gi_nn, castL_rfl, Nat.zero_add, Nat.add_zero, Nat.sub_zero, Int.toNat_natCast, List.length_set, List.length_replicate, List.length_cons, List.length_nil, decide_eq_true_eq, decide_eq_false_iff_not, cap40, inR] at *); (all_goals first | omega | (split <;> omega)))
  all_goals subst_vars
  all_goals try simp only [getL, getI, castLk, castIk, Nat.zero_add, Int.toNat_natCast] at *
  all_goals try first
    | rfl
    | exact hN
    | exact ha
    | (have e : i = N.toNat := by have := of_decide_eq_false ‹decide ((i : Int) < ((N.toNat : Nat) : Int)) = false›; omega
       subst e
       exact kl2 (i := 2) (j := 3) (by decide) hK rfl rfl rfl)
  all_goals have hi1 : i < N.toNat := by have := of_decide_eq_true ‹decide ((i : Int) < ((N.toNat : Nat) : Int)) = true›; omega
  all_goals have hv : inN N.toNat i := ⟨by omega, by omega⟩
  all_goals have hbl := bd_len ha hv
  all_goals try first
    | exact hv.1
    | exact hv.2
    | exact ⟨show 0 < (boundsF N.toNat L [] (i : Int)).length by omega⟩
  have e1 : (toL N L i).set i (gi (boundsF N.toNat L [] (i : Int)) ((Int.toNat 0 : Nat) : Int)) = toL N L (i + 1) := to_set hi1
  refine ⟨i + 1, [0, 1, 2, 3], hi1, ?_, by show N.toNat - (i + 1) < N.toNat - i; omega⟩
  repeat' ((conv => whnf); (first | apply And.intro | intro _))
  all_goals first | rfl | trivial | exact Nat.le_of_ble_eq_true rfl | exact ⟨rfl, rfl, rfl⟩ | exact ⟨rfl, rfl, rfl, rfl⟩ | exact ⟨rfl, rfl⟩ | exact e1 | exact ⟨rfl, rfl, e1⟩)
end Go.Proofs.Ytlmhkeoblgodiaa
end

section
/-
  Chapter 2: Spans, Greatest, Least. Printed by gen35.py.
-/
namespace Go.Proofs.Ytlmhkeoblgodiaa
open Go Go.Sy Go.Chn
set_option maxRecDepth 100000
set_option maxHeartbeats 1000000
set_option linter.unusedVariables false
set_option linter.unusedSimpArgs false
variable {Γ : Glob}
def spL (N : Int) (L : List Lk) (k : Nat) : List (Int × Int) := (List.range k).map fun (u : Nat) => (- dB N L (u : Int) 0, dB N L 0 (u : Int))
theorem sp_len {N : Int} {L : List Lk} {k : Nat} : (spL N L k).length = k := by simp [spL]
theorem sp_zero {N : Int} {L : List Lk} : [] = spL N L 0 := rfl
theorem sp_succ {N : Int} {L : List Lk} {k : Nat} : spL N L k ++ [(- dB N L (k : Int) 0, dB N L 0 (k : Int))] = spL N L (k + 1) := by simp [spL, List.range_succ]
theorem sp_get {N : Int} {L : List Lk} {k u : Nat} (h : u < k) : (spL N L k).getD u (0, 0) = (- dB N L (u : Int) 0, dB N L 0 (u : Int)) := by
  simp [spL, List.getD, h]
def spF (N : Int) (L : List Lk) : List (Int × Int) × Int := if askF N L [] ≠ 0 then ([], askF N L []) else (spL N L N.toNat, 0)
theorem spF0 {N : Int} {L : List Lk} (h : (askF N L [] != 0) = true) : spF N L = ([], askF N L []) := by unfold spF; rw [if_pos (by simpa using h)]
theorem spF1 {N : Int} {L : List Lk} (h : (askF N L [] != 0) = false) : spF N L = (spL N L N.toNat, 0) := by unfold spF; rw [if_neg (by simpa using h)]
def grF (N : Int) (L : List Lk) : List Int × Int := if askF N L [] ≠ 0 then ([], askF N L []) else if hasB (boundsF N.toNat L [] 0) 1152921504606846976 = true then ([], 5) else (boundsF N.toNat L [] 0, 0)
theorem gr0 {N : Int} {L : List Lk} (h : (askF N L [] != 0) = true) : grF N L = ([], askF N L []) := by unfold grF; rw [if_pos (by simpa using h)]
theorem gr1 {N : Int} {L : List Lk} (h : (askF N L [] != 0) = false) (h2 : hasB (boundsF N.toNat L [] 0) 1152921504606846976 = true) : grF N L = ([], 5) := by unfold grF; rw [if_neg (by simpa using h), if_pos h2]
theorem gr2 {N : Int} {L : List Lk} (h : (askF N L [] != 0) = false) (h2 : hasB (boundsF N.toNat L [] 0) 1152921504606846976 = false) : grF N L = (boundsF N.toNat L [] 0, 0) := by unfold grF; rw [if_neg (by simpa using h), if_neg (by simp [h2])]
def ngL (X : List Int) (i : Nat) : List Int := (X.take i).map (fun x => -x) ++ X.drop i
theorem ng_len {X : List Int} {i : Nat} : (ngL X i).length = X.length := by simp [ngL]; omega
theorem ng_zero {X : List Int} : X = ngL X 0 := by simp [ngL]
theorem ng_get {X : List Int} {i : Nat} (h : i < X.length) : gi (ngL X i) i = gi X i := by
  unfold gi ngL
  rw [List.getD_eq_getElem?_getD, List.getD_eq_getElem?_getD, List.getElem?_append_right (by simp; omega), Int.toNat_natCast]
  simp only [List.length_map, List.length_take, List.getElem?_drop]
  rw [Nat.min_eq_left (by omega), Nat.sub_self, Nat.add_zero]
theorem ng_set {X : List Int} {i : Nat} (h : i < X.length) : (ngL X i).set i (-gi X i) = ngL X (i + 1) := by
  unfold ngL
  have e : gi X i = X[i] := by simp [gi, List.getD, h]
  rw [List.set_append_right _ _ (by simp; omega), List.take_add_one, List.getElem?_eq_getElem h, List.drop_eq_getElem_cons h, e]
  simp only [List.length_map, List.length_take, Option.toList_some, List.map_append, List.map_cons, List.map_nil, List.append_assoc, List.singleton_append]
  rw [Nat.min_eq_left (by omega), Nat.sub_self, List.set_cons_zero]
def leF (N : Int) (L : List Lk) : List Int × Int := if askF N L [] ≠ 0 then ([], askF N L []) else if hasB (toL N L N.toNat) 1152921504606846976 = true then ([], 5) else (ngL (toL N L N.toNat) N.toNat, 0)
theorem le0 {N : Int} {L : List Lk} (h : (askF N L [] != 0) = true) : leF N L = ([], askF N L []) := by unfold leF; rw [if_pos (by simpa using h)]
theorem le1 {N : Int} {L : List Lk} (h : (askF N L [] != 0) = false) (h2 : hasB (toL N L N.toNat) 1152921504606846976 = true) : leF N L = ([], 5) := by unfold leF; rw [if_neg (by simpa using h), if_pos h2]
theorem le2 {N : Int} {L : List Lk} (h : (askF N L [] != 0) = false) (h2 : hasB (toL N L N.toNat) 1152921504606846976 = false) : leF N L = (ngL (toL N L N.toNat) N.toNat, 0) := by unfold leF; rw [if_neg (by simpa using h), if_neg (by simp [h2])]
def L62 : List (Nat × Ctr) := [(72, c72), (73, c73), (83, c83), (86, c86)]
theorem L62_ok : CsOk Try.prog Γ L62 := (((CsOk.nil.cons (body_of Try.func86 rfl rfl).fn c86_ok).cons (body_of Try.func83 rfl rfl).fn c83_ok).cons (body_of Try.func73 rfl rfl).fn c73_ok).cons (body_of Try.func72 rfl rfl).fn c72_ok
attribute [local irreducible] checkF gi lk askF boundsF toL spL spF grF leF ngL hasB
def c59 : Ctr := newS (fun _ L => [(Duty.of (L.length ≤ 1000000))]) (fun N L => ⟨[.arr 3 kI (grF N L).1 true true], .tup [.a (.sl 0 [] 0 (grF N L).1.length), .a (vI (grF N L).2)]⟩)
theorem c59_ok : Ctr.Ok Try.prog Γ 59 c59 := newS_ok (d := 0) (prog_ok L62_ok BsOk.nil false 0) (body_of Try.func59 rfl rfl) (by
  intro N L K ⟨hL, _⟩ hK
  simp only [Duty.of_p] at hL
  repeat' ((conv => whnf); (first | apply And.intro | intro _))
  all_goals try (conv => whnf)
  all_goals try exact LexB.mk (by kernel_rfl)
  all_goals subst_vars
  all_goals try simp only [getL, getI, castLk, castIk] at *
  all_goals try first
    | exact ⟨rfl⟩
    | exact ⟨trivial⟩
    | exact ⟨show L.length ≤ 1000000 from hL⟩
    | exact ⟨Nat.le_of_ble_eq_true rfl⟩
    | (have hq : (askF N L [] != 0) = true := by assumption
       rw [gr0 hq] at hK
       exact klE (by simp [kI]) hK rfl)
  all_goals have hq : (askF N L [] != 0) = false := by assumption
  all_goals obtain ⟨h1, _, h3⟩ := ask_iff.1 (ok_of hq)
  all_goals have ha := ask_of h1
  all_goals have hn := ha.n
  all_goals have h0 : inN N.toNat 0 := ⟨by omega, by omega⟩
  all_goals have hbl := bd_len ha h0
  all_goals first
    | rfl
    | exact toNat_of h1
    | exact ha
    | exact h0.1
    | exact h0.2
    | exact ⟨hbl.symm⟩
    | exact ⟨show (boundsF N.toNat L [] 0).length ≤ 1000000 by omega⟩
    | (have hh : hasB (boundsF N.toNat L [] 0) 1152921504606846976 = true := by assumption
       rw [gr1 hq hh] at hK
       exact klE (by simp [kI]) hK rfl)
    | (have hh : hasB (boundsF N.toNat L [] 0) 1152921504606846976 = false := by assumption
       rw [gr2 hq hh] at hK
       simp only [hbl] at hK
       refine klC (te := 3) (tg := kI) (m := 0) (xs := boundsF N.toNat L [] 0) (n := N.toNat) (i := 2) hK ?_ ?_ <;> rfl))
theorem dB_eq {N : Int} {L : List Lk} {u v : Int} : gi (boundsF N.toNat L [] u) v = dB N L u v := rfl
theorem dB_rng {N : Int} {L : List Lk} (ha : AskL N.toNat L) (hc : conB N L = true) {u v : Int} (hu : inN N.toNat u) (hv : inN N.toNat v) : -1351079888211148800 ≤ dB N L u v ∧ dB N L u v ≤ 1152921504606846976 := bd_range ha ((con_iff ha).1 hc) hu hv
attribute [local irreducible] dB
def c60 : Ctr := newS (fun _ L => [(Duty.of (L.length ≤ 1000000))]) (fun N L => ⟨[.arr 3 kI (leF N L).1 true true], .tup [.a (.sl 0 [] 0 (leF N L).1.length), .a (vI (leF N L).2)]⟩)
theorem c60_ok : Ctr.Ok Try.prog Γ 60 c60 := newS_ok (d := 0) (prog_ok L62_ok BsOk.nil false 0) (body_of Try.func60 rfl rfl) (by
  intro N L K ⟨hL, _⟩ hK
  simp only [Duty.of_p] at hL
  repeat' ((conv => whnf); (first | apply And.intro | intro _))
  all_goals try (conv => whnf)
  all_goals try exact LexB.mk (by kernel_rfl)
  all_goals subst_vars
  all_goals try simp only [getL, getI, castLk, castIk] at *
  all_goals try first
    | exact ⟨rfl⟩
    | exact ⟨trivial⟩
    | exact ⟨show L.length ≤ 1000000 from hL⟩
    | exact ⟨Nat.le_of_ble_eq_true rfl⟩
    | (have hq : (askF N L [] != 0) = true := by assumption
       rw [le0 hq] at hK
       exact klE (by simp [kI]) hK rfl)
  all_goals have hq : (askF N L [] != 0) = false := by assumption
  all_goals obtain ⟨h1, _, h3⟩ := ask_iff.1 (ok_of hq)
  all_goals have ha := ask_of h1
  all_goals have hn := ha.n
  all_goals have h0 : inN N.toNat 0 := ⟨by omega, by omega⟩
  all_goals have htl := to_len (N := N) (L := L) (i := N.toNat) (Nat.le_refl _)
  all_goals try first
    | rfl
    | exact ⟨toNat_of h1⟩
    | exact ⟨ha⟩
    | exact ⟨htl.symm⟩
    | exact ⟨show (toL N L N.toNat).length ≤ 1000000 by omega⟩
    | (have hh : hasB (toL N L N.toNat) 1152921504606846976 = true := by assumption
       rw [le1 hq hh] at hK
       exact klE (by simp [kI]) hK rfl)
  have hh : hasB (toL N L N.toNat) 1152921504606846976 = false := by assumption
  rw [le2 hq hh] at hK
  have hng := ng_len (X := toL N L N.toNat) (i := N.toNat)
  rw [htl] at hng
  simp only [hng] at hK
  refine ⟨Nat, fun i => i ≤ N.toNat, fun i => ⟨slotsT 35 [6, 21, 22] [.a (.sl 3 [] 0 N.toNat), .a (vI N.toNat), .a (vI i)], [], [.arr 44 kL L false false, .box true [vI N, .sl 0 [] 0 L.length], .arr 3 kI (boundsF N.toNat L [] 0) true true, .arr 3 kI (ngL (toL N L N.toNat) i) true true]⟩, fun i => N.toNat - i, 0, [], Nat.zero_le _, ?_, ?_⟩
  · have e0 := ng_zero (X := toL N L N.toNat)
    repeat' ((conv => whnf); (first | apply And.intro | intro _))
    all_goals first | rfl | trivial | exact Nat.le_of_ble_eq_true rfl | exact ⟨rfl, rfl, rfl⟩ | exact ⟨rfl, rfl, rfl, rfl⟩ | exact ⟨rfl, rfl⟩ | exact e0 | exact e0.symm | exact ⟨rfl, rfl, e0⟩
  rintro i hi
  have hnl := ng_len (X := toL N L N.toNat) (i := i)
  rw [htl] at hnl
  have hgi : i < N.toNat → gi (ngL (toL N L N.toNat) i) i = dB N L i 0 ∧ -1351079888211148800 ≤ dB N L i 0 ∧ dB N L i 0 ≤ 1152921504606846976 := fun hi1 => ⟨(ng_get (by omega)).trans (to_get hi1), dB_rng ha h3 ⟨by omega, by omega⟩ h0⟩
  repeat' ((conv => whnf); (first | apply And.intro | intro _))
  all_goals try (conv => whnf)
  all_goals try first
    | exact LexB.mk (by kernel_rfl)
    | exact LexG.mk (by kernel_rfl)
    | exact Forced.mk (by kernel_rfl)
  all_goals subst_vars
  all_goals try
    (have hi1 : i < N.toNat := by have := of_decide_eq_true ‹decide ((i : Int) < ((N.toNat : Nat) : Int)) = true›; omega
     obtain ⟨g1, g2, g3⟩ := hgi hi1)
  all_goals try exact ⟨Nat.le_of_ble_eq_true rfl⟩
  all_goals try exact ⟨rfl⟩
  all_goals try (refine Ob.mk ?_; (try simp only [Duty.of_p, inRQ]); subst_vars; (try simp only [getL, getI, getB, castL_rfl] at *); (try dsimp only [kL, kI, Tup, CK.ty] at *); (try simp only [getL, getI, getB, gi_nn, castL_rfl, Nat.zero_add, Nat.add_zero, Nat.sub_zero, Int.toNat_natCast, List.length_set, List.length_replicate, List.length_cons, List.length_nil, decide_eq_true_eq, decide_eq_false_iff_not, cap40, inR] at *); (all_goals first | omega | (split <;> omega)))
  all_goals try simp only [getL, getI, castLk, castIk, Nat.zero_add, Int.toNat_natCast] at *
  · have e1 : (ngL (toL N L N.toNat) i).set i (0 - gi (ngL (toL N L N.toNat) i) i) = ngL (toL N L N.toNat) (i + 1) := by
      rw [ng_get (by omega), Int.zero_sub]; exact ng_set (by omega)
    refine ⟨i + 1, [], hi1, ?_, by show N.toNat - (i + 1) < N.toNat - i; omega⟩
    repeat' ((conv => whnf); (first | apply And.intro | intro _))
    all_goals first | rfl | trivial | exact Nat.le_of_ble_eq_true rfl | exact ⟨rfl, rfl, rfl⟩ | exact ⟨rfl, rfl, rfl, rfl⟩ | exact ⟨rfl, rfl⟩ | exact e1 | exact ⟨rfl, rfl, e1⟩
  · have e : i = N.toNat := by have := of_decide_eq_false ‹decide ((i : Int) < ((N.toNat : Nat) : Int)) = false›; omega
    subst e
    refine klC (te := 3) (tg := kI) (m := 0) (xs := ngL (toL N L N.toNat) N.toNat) (n := N.toNat) (i := 3) hK ?_ ?_ <;> rfl)
def c62 : Ctr := newS (fun _ L => [(Duty.of (L.length ≤ 1000000))]) (fun N L => ⟨[.arr 78 kS (spF N L).1 true true], .tup [.a (.sl 0 [] 0 (spF N L).1.length), .a (vI (spF N L).2)]⟩)
theorem c62_ok : Ctr.Ok Try.prog Γ 62 c62 := newS_ok (d := 0) (prog_ok L62_ok BsOk.nil false 0) (body_of Try.func62 rfl rfl) (by
  intro N L K ⟨hL, _⟩ hK
  simp only [Duty.of_p] at hL
  repeat' ((conv => whnf); (first | apply And.intro | intro _))
  all_goals try (conv => whnf)
  all_goals try exact LexB.mk (by kernel_rfl)
  all_goals subst_vars
  all_goals try simp only [getL, getI, castLk, castIk] at *
  all_goals try first
    | exact ⟨rfl⟩
    | exact ⟨trivial⟩
    | exact ⟨show L.length ≤ 1000000 from hL⟩
    | exact ⟨Nat.le_of_ble_eq_true rfl⟩
    | (have hq : (askF N L [] != 0) = true := by assumption
       rw [spF0 hq] at hK
       exact klE (by simp [kS]) hK rfl)
  all_goals have hq : (askF N L [] != 0) = false := by assumption
  all_goals obtain ⟨h1, _, h3⟩ := ask_iff.1 (ok_of hq)
  all_goals have ha := ask_of h1
  all_goals have hn := ha.n
  all_goals have h0 : inN N.toNat 0 := ⟨by omega, by omega⟩
  all_goals have htl := to_len (N := N) (L := L) (i := N.toNat) (Nat.le_refl _)
  all_goals have hbl := bd_len ha h0
  all_goals try first
    | rfl
    | exact ⟨toNat_of h1⟩
    | exact ⟨ha⟩
  rw [spF1 hq] at hK
  have hsl := sp_len (N := N) (L := L) (k := N.toNat)
  simp only [hsl] at hK
  refine ⟨Nat, fun i => i ≤ N.toNat, fun i => ⟨slotsT 39 [5, 6, 7, 20, 21] [.a (.sl 2 [] 0 N.toNat), .a (.sl 3 [] 0 N.toNat), .a (.sl 4 [] 0 i), .a (vI N.toNat), .a (vI i)], [], [.arr 44 kL L false false, .box true [vI N, .sl 0 [] 0 L.length], .arr 3 kI (boundsF N.toNat L [] 0) true true, .arr 3 kI (toL N L N.toNat) true true, .arr 78 kS (spL N L i) true true]⟩, fun i => N.toNat - i, 0, [0, 1, 2, 3, 1000], Nat.zero_le _, ?_, ?_⟩
  · have e0 : [] = spL N L 0 := sp_zero
    repeat' ((conv => whnf); (first | apply And.intro | intro _))
    all_goals first | rfl | trivial | exact Nat.le_of_ble_eq_true rfl | exact ⟨rfl, rfl, rfl⟩ | exact ⟨rfl, rfl, rfl, rfl⟩ | exact ⟨rfl, rfl⟩ | exact e0 | exact e0.symm | exact ⟨rfl, rfl, e0⟩
  rintro i hi
  have hsi := sp_len (N := N) (L := L) (k := i)
  have hgi : i < N.toNat → gi (toL N L N.toNat) i = dB N L i 0 ∧ -1351079888211148800 ≤ dB N L i 0 ∧ dB N L i 0 ≤ 1152921504606846976 := fun hi1 => ⟨to_get hi1, dB_rng ha h3 ⟨by omega, by omega⟩ h0⟩
  repeat' ((conv => whnf); (first | apply And.intro | intro _))
  all_goals try (conv => whnf)
  all_goals try first
    | exact LexB.mk (by kernel_rfl)
    | exact LexG.mk (by kernel_rfl)
    | exact Forced.mk (by kernel_rfl)
  all_goals subst_vars
  all_goals try
    (have hi1 : i < N.toNat := by have := of_decide_eq_true ‹decide ((i : Int) < ((N.toNat : Nat) : Int)) = true›; omega
     obtain ⟨g1, g2, g3⟩ := hgi hi1)
  all_goals try exact ⟨Nat.le_of_ble_eq_true rfl⟩
  all_goals try exact ⟨rfl⟩
  all_goals try (refine Ob.mk ?_; (try simp only [Duty.of_p, inRQ]); subst_vars; (try simp only [getL, getI, getB, castL_rfl] at *); (try dsimp only [kL, kI, Tup, CK.ty] at *); (try simp only [getL, getI, getB, gi_nn, castL_rfl, Nat.zero_add, Nat.add_zero, Nat.sub_zero, Int.toNat_natCast, List.length_set, List.length_replicate, List.length_cons, List.length_nil, decide_eq_true_eq, decide_eq_false_iff_not, cap40, inR] at *); (all_goals first | omega | (split <;> omega)))
  all_goals try simp only [getL, getI, castLk, castIk, Nat.zero_add, Int.toNat_natCast] at *
  all_goals try first
    | exact ⟨sp_len.symm⟩
    | (have e : i = N.toNat := by have := of_decide_eq_false ‹decide ((i : Int) < ((N.toNat : Nat) : Int)) = false›; omega
       subst e
       refine klC (te := 78) (tg := kS) (m := 0) (xs := spL N L N.toNat) (n := N.toNat) (i := 4) hK ?_ ?_ <;> rfl)
  · exact ⟨show (i + 1) * 2 ≤ 1099511627776 by omega⟩
  have e1 : List.drop 0 (spL N L i) ++ List.take 1 (List.drop 0 [(0 - gi (toL N L N.toNat) i, gi (boundsF N.toNat L [] 0) i)]) = spL N L (i + 1) := by
    rw [g1, dB_eq, Int.zero_sub]; exact sp_succ
  refine ⟨i + 1, [0, 1, 2, 3, 4], hi1, ?_, by show N.toNat - (i + 1) < N.toNat - i; omega⟩
  repeat' ((conv => whnf); (first | apply And.intro | intro _))
  all_goals first | rfl | trivial | exact Nat.le_of_ble_eq_true rfl | exact ⟨rfl, rfl, rfl⟩ | exact ⟨rfl, rfl, rfl, rfl⟩ | exact ⟨rfl, rfl⟩ | exact e1 | exact ⟨rfl, rfl, e1⟩)
end Go.Proofs.Ytlmhkeoblgodiaa
end

section
/-
  Chapter 2: bounds: the plain law of ChainClosed.
-/
namespace Go.Proofs.Ytlmhkeoblgodiaa
open Go Go.Sy Go.Chn
set_option linter.unusedVariables false
set_option linter.unusedSimpArgs false
theorem has_none {n : Int} : ∀ {I : List Int}, hasB I n = false → ∀ x ∈ I, x ≠ n
  | [], _ => fun x hx => (by cases hx)
  | y :: I, h => by
    rw [hasB] at h
    split at h
    · cases h
    · rename_i hy
      intro x hx
      rcases List.mem_cons.1 hx with rfl | hx
      · exact hy
      · exact has_none h x hx
theorem gi_mem {X : List Int} {v : Int} (h0 : 0 ≤ v) (h : v < X.length) : gi X v ∈ X := by
  have h1 : v.toNat < X.length := by omega
  have : gi X v = X[v.toNat] := by simp [gi, List.getD, h1]
  rw [this]; exact List.getElem_mem _
theorem frM_of {X : List Int} (h : ∀ i : Nat, i < X.length → -1152921504606846976 ≤ gi X i ∧ gi X i ≤ 1152921504606846976) : frM X := fun x hx => by
  obtain ⟨i, hi, rfl⟩ := List.getElem_of_mem hx
  have e : gi X i = X[i] := by simp [gi, List.getD, hi]
  rw [← e]; exact h i hi
section
variable {N : Int} {L : List Lk}
theorem sol_ch {X : List Int} (hs : ∀ l ∈ L, gi X l.2.1 ≤ gi X l.1 + l.2.2) : ∀ {ls : List Lk} {u v : Int}, Ch u ls v → Sub ls L → gi X v ≤ gi X u + sumL ls
  | [], u, v, h, _ => by have h : u = v := h; subst h; simp [sumL]
  | l :: ls, u, v, h, hm => by
    have h1 := hs l (hm l (by simp))
    have h2 := sol_ch hs h.2 fun x hx => hm x (by simp [hx])
    have h3 := h.1
    rw [sumL]; rw [h3] at h1; omega
theorem d_self (ha : AskL N.toNat L) (hn : NoNeg L) {u : Int} (hu : inN N.toNat u) : dB N L u u = 0 := by
  have h := (bd_isD ha hn hu hu).1
  have h1 := h.le [] rfl (fun x hx => by cases hx)
  have h2 := h.no [] rfl (fun x hx => by cases hx)
  obtain ⟨ls, k1, k2, k3⟩ := h.is h2
  have := hn u ls k1 k2
  simp only [sumL] at h1
  omega
theorem d_tri (ha : AskL N.toNat L) (hn : NoNeg L) {u v w : Int} (hu : inN N.toNat u) (hv : inN N.toNat v) (hw : inN N.toNat w) (h1 : dB N L u v ≠ Fr) (h2 : dB N L v w ≠ Fr) : dB N L u w ≤ dB N L u v + dB N L v w ∧ dB N L u w ≠ Fr := by
  obtain ⟨a, a1, a2, a3⟩ := (bd_isD ha hn hu hv).1.is h1
  obtain ⟨b, b1, b2, b3⟩ := (bd_isD ha hn hv hw).1.is h2
  have hs : Sub (a ++ b) L := fun x hx => by
    rcases List.mem_append.1 hx with hx | hx
    · exact a2 x hx
    · exact b2 x hx
  have h := (bd_isD ha hn hu hw).1
  have := h.le (a ++ b) (a1.append b1) hs
  rw [sumL_append] at this
  exact ⟨by omega, h.no (a ++ b) (a1.append b1) hs⟩
theorem d_edge (ha : AskL N.toNat L) (hn : NoNeg L) {l : Lk} (hl : l ∈ L) : dB N L l.1 l.2.1 ≤ l.2.2 ∧ dB N L l.1 l.2.1 ≠ Fr := by
  obtain ⟨h1, h2⟩ := ha.ok.nd l hl
  have h := (bd_isD ha hn h1 h2).1
  have hs : Sub [l] L := fun x hx => by
    rcases List.mem_singleton.1 hx with rfl
    exact hl
  have hc : Ch l.1 [l] l.2.1 := ⟨rfl, rfl⟩
  have := h.le [l] hc hs
  simp only [sumL] at this
  exact ⟨by omega, h.no [l] hc hs⟩
theorem sol_d (ha : AskL N.toNat L) (hn : NoNeg L) {X : List Int} (hs : ∀ l ∈ L, gi X l.2.1 ≤ gi X l.1 + l.2.2) {u v : Int} (hu : inN N.toNat u) (hv : inN N.toNat v) (h : dB N L u v ≠ Fr) : gi X v - gi X u ≤ dB N L u v := by
  obtain ⟨a, a1, a2, a3⟩ := (bd_isD ha hn hu hv).1.is h
  have := sol_ch hs a1 a2
  omega
end
theorem tg_ok {N : Int} {L : List Lk} (h : (tgF N L).2 = 0) : askF N L [] = 0 := by
  unfold tgF at h
  split at h
  · contradiction
  · rename_i h2; simpa using h2
theorem gr_fits {N : Int} {L : List Lk} (h : askF N L [] = 0) (h2 : (grF N L).2 = 0) : fitF N L (grF N L).1 = (true, 0) ∧ (grF N L).1 = boundsF N.toNat L [] 0 ∧ (boundsF N.toNat L [] 0).length = N.toNat ∧ ∀ v, inN N.toNat v → dB N L 0 v ≠ Fr := by
  obtain ⟨c1, _, c3⟩ := ask_iff.1 h
  have ha := ask_of c1
  have hn := (con_iff ha).1 c3
  have hnn := ha.n
  have h0 : inN N.toNat 0 := ⟨by omega, by omega⟩
  have hl := bd_len ha h0
  unfold grF at h2 ⊢
  rw [if_neg (by simp [h])] at h2 ⊢
  split at h2
  · cases h2
  · rename_i hh
    rw [if_neg hh]
    have hh' : ∀ v, inN N.toNat v → dB N L 0 v ≠ Fr := fun v hv => has_none (n := 1152921504606846976) (by simpa using hh) (gi (boundsF N.toNat L [] 0) v) (gi_mem hv.1 (by have := hv.2; omega))
    have hFr : Fr = 1152921504606846976 := rfl
    refine ⟨fit_0 (fit_iff.2 ⟨c1, (by show (((boundsF N.toNat L [] 0).length : Nat) : Int) = N; omega), frM_of fun i hi => ?_, fun l hl' => ?_, d_self ha hn h0⟩), rfl, hl, hh'⟩
    · replace hi : i < (boundsF N.toNat L [] 0).length := hi
      have hv : inN N.toNat i := ⟨by omega, by omega⟩
      have := d_low ha hn hv (bd_isD ha hn h0 hv).1 (hh' i hv)
      have e : gi (boundsF N.toNat L [] 0) i = dB N L 0 i := rfl
      show -1152921504606846976 ≤ gi (boundsF N.toNat L [] 0) i ∧ gi (boundsF N.toNat L [] 0) i ≤ 1152921504606846976
      omega
    · obtain ⟨n1, n2⟩ := ha.ok.nd l hl'
      have h1 := d_edge ha hn hl'
      have h2 := d_tri ha hn h0 n1 n2 (hh' _ n1) h1.2
      have e : gi (boundsF N.toNat L [] 0) l.1 = dB N L 0 l.1 := rfl
      have e' : gi (boundsF N.toNat L [] 0) l.2.1 = dB N L 0 l.2.1 := rfl
      show gi (boundsF N.toNat L [] 0) l.2.1 ≤ gi (boundsF N.toNat L [] 0) l.1 + l.2.2
      omega
theorem ng_all {X : List Int} {v : Int} (h0 : 0 ≤ v) (hv : v < X.length) : gi (ngL X X.length) v = - gi X v := by
  have h1 : v.toNat < X.length := by omega
  simp [ngL, gi, List.getD, h1]
theorem le_fits {N : Int} {L : List Lk} (h : askF N L [] = 0) (h2 : (leF N L).2 = 0) : fitF N L (leF N L).1 = (true, 0) ∧ (leF N L).1.length = N.toNat ∧ (∀ v, inN N.toNat v → gi (leF N L).1 v = - dB N L v 0) ∧ ∀ v, inN N.toNat v → dB N L v 0 ≠ Fr := by
  obtain ⟨c1, _, c3⟩ := ask_iff.1 h
  have ha := ask_of c1
  have hn := (con_iff ha).1 c3
  have hnn := ha.n
  have h0 : inN N.toNat 0 := ⟨by omega, by omega⟩
  have hl := to_len (N := N) (L := L) (i := N.toNat) (Nat.le_refl _)
  unfold leF at h2 ⊢
  rw [if_neg (by simp [h])] at h2 ⊢
  split at h2
  · cases h2
  · rename_i hh
    rw [if_neg hh]
    have hto : ∀ v, inN N.toNat v → gi (toL N L N.toNat) v = dB N L v 0 := fun v hv => by
      have e : ((v.toNat : Nat) : Int) = v := by have := hv.1; omega
      have := to_get (N := N) (L := L) (u := v.toNat) (by have := hv.1; have := hv.2; omega)
      rwa [e] at this
    have hh' : ∀ v, inN N.toNat v → dB N L v 0 ≠ Fr := fun v hv => by
      rw [← hto v hv]
      exact has_none (n := 1152921504606846976) (by simpa using hh) _ (gi_mem hv.1 (by have := hv.2; omega))
    have hng : ∀ v, inN N.toNat v → gi (ngL (toL N L N.toNat) N.toNat) v = - dB N L v 0 := fun v hv => by
      rw [← hto v hv]
      have := ng_all (X := toL N L N.toNat) hv.1 (by have := hv.2; omega)
      rwa [hl] at this
    have hlen : (ngL (toL N L N.toNat) N.toNat).length = N.toNat := by rw [ng_len, hl]
    have hFr : Fr = 1152921504606846976 := rfl
    refine ⟨fit_0 (fit_iff.2 ⟨c1, ?_, frM_of fun i hi => ?_, fun l hl' => ?_, ?_⟩), hlen, hng, hh'⟩
    · show (((ngL (toL N L N.toNat) N.toNat).length : Nat) : Int) = N
      omega
    · replace hi : i < (ngL (toL N L N.toNat) N.toNat).length := hi
      have hv : inN N.toNat i := ⟨by omega, by omega⟩
      have := d_low ha hn h0 (bd_isD ha hn hv h0).1 (hh' i hv)
      have e := hng i hv
      show -1152921504606846976 ≤ gi (ngL (toL N L N.toNat) N.toNat) i ∧ gi (ngL (toL N L N.toNat) N.toNat) i ≤ 1152921504606846976
      omega
    · obtain ⟨n1, n2⟩ := ha.ok.nd l hl'
      have h1 := d_edge ha hn hl'
      have h2 := d_tri ha hn n1 n2 h0 h1.2 (hh' _ n2)
      have e := hng _ n1
      have e' := hng _ n2
      show gi (ngL (toL N L N.toNat) N.toNat) l.2.1 ≤ gi (ngL (toL N L N.toNat) N.toNat) l.1 + l.2.2
      omega
    · show gi (ngL (toL N L N.toNat) N.toNat) 0 = 0
      rw [hng 0 h0, d_self ha hn h0]; rfl
/-- A solution lies within the spans. -/
theorem fit_span {N : Int} {L : List Lk} {X : List Int} (h : askF N L [] = 0) (hx : (fitF N L X).1 = true) {v : Int} (hv : inN N.toNat v) :
    - dB N L v 0 ≤ gi X v ∧ gi X v ≤ dB N L 0 v ∧ (X.length : Int) = N := by
  obtain ⟨c1, _, c3⟩ := ask_iff.1 h
  have ha := ask_of c1
  have hn := (con_iff ha).1 c3
  have hnn := ha.n
  have h0 : inN N.toNat 0 := ⟨by omega, by omega⟩
  obtain ⟨_, f2, f3, f4, f5⟩ := fit_iff.1 hx
  have hFr : Fr = 1152921504606846976 := rfl
  have hb := f3 (gi X v) (gi_mem hv.1 (by have := hv.2; omega))
  have r1 := (bd_isD ha hn hv h0).2.2
  have r2 := (bd_isD ha hn h0 hv).2.2
  refine ⟨?_, ?_, f2⟩
  · by_cases hf : dB N L v 0 = Fr
    · omega
    · have := sol_d ha hn f4 hv h0 hf; omega
  · by_cases hf : dB N L 0 v = Fr
    · omega
    · have := sol_d ha hn f4 h0 hv hf; omega
end Go.Proofs.Ytlmhkeoblgodiaa
end

section
/-
  Chapter 2: for the laws: cuts, and ways that are none.
-/
namespace Go.Proofs.Ytlmhkeoblgodiaa
open Go Go.Sy Go.Chn
variable {Γ : Glob}
theorem tf_no (h : true = false) : False := by cases h
theorem ft_no (h : false = true) : False := by cases h
theorem _root_.Go.Sy.ProgOk.cuts {E : Env} (h : ProgOk Try.prog Γ E) (o : Nat → Bool) : ProgOk Try.prog Γ { E with cut := o } := ⟨h.mixed, h.fn, h.inl, { h.env with }⟩
theorem getT' (D : List (List Int)) (i : Nat) : @Eq (List Int) (Ar.get ⟨32, [.sl 3 [.int .i64]], D⟩ i) (D.getD i []) := rfl
theorem ne_t {a : Int} (h : a = 0) : (a != 0) = false := by subst h; rfl
theorem nt_b {b : Bool} (h : b = true) : (!b) = false := by subst h; rfl
end Go.Proofs.Ytlmhkeoblgodiaa
end

section
/-
  Chapter 2: bounds of a system with one more link, and of systems with the same links.
-/
namespace Go.Proofs.Ytlmhkeoblgodiaa
open Go Go.Sy Go.Chn
set_option linter.unusedVariables false
set_option linter.unusedSimpArgs false
section
variable {N : Int} {L : List Lk} {l : Lk}
theorem AskL.last (ha' : AskL N.toNat (L ++ [l])) : inN N.toNat l.1 ∧ inN N.toNat l.2.1 ∧ -4503599627370496 ≤ l.2.2 ∧ l.2.2 ≤ 4503599627370496 := by
  have hm : l ∈ L ++ [l] := by simp
  exact ⟨(ha'.ok.nd l hm).1, (ha'.ok.nd l hm).2, (ha'.ok.ms l hm).1, (ha'.ok.ms l hm).2⟩
theorem more_con (ha : AskL N.toNat L) (ha' : AskL N.toNat (L ++ [l])) (hn : NoNeg L) : conB N (L ++ [l]) = true ↔ dB N L l.2.1 l.1 = Fr ∨ 0 ≤ l.2.2 + dB N L l.2.1 l.1 := by
  obtain ⟨h1, h2, _⟩ := ha'.last
  exact (con_iff ha').trans ((add_neg hn).trans (back_iff (bd_isD ha hn h2 h1).1))
theorem more_d (ha : AskL N.toNat L) (ha' : AskL N.toNat (L ++ [l])) (hn : NoNeg L) (hc : conB N (L ++ [l]) = true) {a b : Int} (h1 : inN N.toNat a) (h2 : inN N.toNat b) :
    dB N (L ++ [l]) a b = if dB N L a l.1 ≠ Fr ∧ dB N L l.2.1 b ≠ Fr then min (dB N L a b) (dB N L a l.1 + l.2.2 + dB N L l.2.1 b) else dB N L a b := by
  obtain ⟨k1, k2, k3, k4⟩ := ha'.last
  have hn' := (con_iff ha').1 hc
  have hC := (add_neg hn).1 hn'
  have d1 := (bd_isD ha hn h1 h2).1
  have d2 := (bd_isD ha hn h1 k1).1
  have d3 := (bd_isD ha hn k2 h2).1
  refine (bd_isD ha' hn' h1 h2).1.uniq (add_dist hC d1 d2 d3 fun f1 f2 => ?_)
  have b1 := d_low ha hn k1 d2 f1
  have b2 := d_low ha hn h2 d3 f2
  unfold Fr; omega
theorem more_back (ha : AskL N.toNat L) (ha' : AskL N.toNat (L ++ [l])) (hn : NoNeg L) (hc : conB N (L ++ [l]) = true) : dB N (L ++ [l]) l.2.1 l.1 = dB N L l.2.1 l.1 := by
  obtain ⟨k1, k2, k3, k4⟩ := ha'.last
  rw [more_d ha ha' hn hc k2 k1]
  split
  · rename_i h
    have := (more_con ha ha' hn).1 hc
    omega
  · rfl
/-- Bounds depend on which links there are alone. -/
theorem same_con {M : List Lk} (ha : AskL N.toNat L) (hb : AskL N.toNat M) (h : ∀ x, x ∈ L ↔ x ∈ M) : conB N L = conB N M := by
  have := (con_iff ha).trans ((noneg_same h).trans (con_iff hb).symm)
  cases hx : conB N L <;> cases hy : conB N M <;> simp_all
theorem same_d {M : List Lk} (ha : AskL N.toNat L) (hb : AskL N.toNat M) (h : ∀ x, x ∈ L ↔ x ∈ M) (hn : NoNeg L) {a b : Int} (h1 : inN N.toNat a) (h2 : inN N.toNat b) : dB N L a b = dB N M a b :=
  (isD_same h (bd_isD ha hn h1 h2).1).uniq (bd_isD hb ((noneg_same h).1 hn) h1 h2).1
end
end Go.Proofs.Ytlmhkeoblgodiaa
end

section
/-
  Chapter 2: a solution that reaches a bound; two links more, there and back.
-/
namespace Go.Proofs.Ytlmhkeoblgodiaa
open Go Go.Sy Go.Chn
set_option linter.unusedVariables false
set_option linter.unusedSimpArgs false
theorem gi_sub {X : List Int} {f v : Int} (h0 : 0 ≤ v) (hv : v < X.length) : gi (X.map (· - f)) v = gi X v - f := by
  have h1 : v.toNat < X.length := by omega
  simp [gi, List.getD, h1]
theorem inN_cast {N : Nat} {i : Nat} (h : i < N) : inN N (i : Int) := ⟨by omega, by omega⟩
def rchM (N : Int) (L : List Lk) (a b : Int) : List Lk := L ++ [(b, a, 0 - dB N L a b)]
def rchX (N : Int) (L : List Lk) (a b : Int) : List Int := solF N.toNat (rchM N L a b) []
def rchF (N : Int) (L : List Lk) (a b : Int) : List Int × Int := if (bndF N L a b).2 ≠ 0 then ([], (bndF N L a b).2) else (rchX N L a b, 0)
theorem bnd_0 {N : Int} {L : List Lk} {a b : Int} (h : (bndF N L a b).2 = 0) : askF N L [a, b] = 0 ∧ dB N L a b ≠ Fr ∧ (bndF N L a b).1 = dB N L a b := by
  unfold bndF at h ⊢
  split at h
  · contradiction
  · rename_i h1
    have h1 : askF N L [a, b] = 0 := by simpa using h1
    split at h
    · cases h
    · rename_i h2
      rw [if_neg (by simp [h1]), if_neg h2]
      exact ⟨h1, h2, rfl⟩
theorem ask_2 {N : Int} {L : List Lk} {a b : Int} (h : askF N L [a, b] = 0) : AskL N.toNat L ∧ NoNeg L ∧ inN N.toNat a ∧ inN N.toNat b ∧ N = N.toNat ∧ (checkF N L).1 = 0 := by
  obtain ⟨c1, c2, c3⟩ := ask_iff.1 h
  have ha := ask_of c1
  rw [nd_two, Bool.and_eq_true] at c2
  exact ⟨ha, (con_iff ha).1 c3, nodeB_iff.1 c2.1, nodeB_iff.1 c2.2, toNat_of c1, c1⟩
section
variable {N : Int} {L : List Lk} {a b : Int}
theorem rch_ask (ha : AskL N.toNat L) (hn : NoNeg L) (h1 : inN N.toNat a) (h2 : inN N.toNat b) (hd : dB N L a b ≠ Fr) : AskX N.toNat (rchM N L a b) := by
  have hx := ha.x
  have hl := d_low ha hn h2 (bd_isD ha hn h1 h2).1 hd
  have key : ∀ l, l ∈ rchM N L a b → l ∈ L ∨ l = (b, a, 0 - dB N L a b) := fun l h => by
    rcases List.mem_append.1 h with h | h
    · exact .inl h
    · exact .inr (List.mem_singleton.1 h)
  refine ⟨ha.n, ?_, fun l h => ?_, fun l h => ?_, fun l h => ?_, ?_⟩
  · have := ha.l
    simp [rchM]; omega
  · rcases key l h with h | rfl
    · exact hx.nd l h
    · exact ⟨h2, h1⟩
  · rcases key l h with h | rfl
    · exact hx.ne l h
    · intro e
      have e : b = a := e
      subst e
      show 0 ≤ 0 - dB N L b b
      rw [d_self ha hn h1]; decide
  · rcases key l h with h | rfl
    · exact hx.ms l h
    · show -288230376151711744 ≤ 0 - dB N L a b ∧ 0 - dB N L a b ≤ 288230376151711744
      omega
  · rw [rchM, least_append]
    have := ha.lo
    have h3 : -288230376151711744 ≤ least [((b, a, 0 - dB N L a b) : Lk)] := by
      simp only [least]; omega
    omega
theorem rch_neg (ha : AskL N.toNat L) (hn : NoNeg L) (h1 : inN N.toNat a) (h2 : inN N.toNat b) : ∀ c, Ch a c b → Sub c L → 0 ≤ 0 - dB N L a b + sumL c := fun c k1 k2 => by
  have := (bd_isD ha hn h1 h2).1.le c k1 k2
  omega
theorem rch_true (ha : AskL N.toNat L) (hn : NoNeg L) (h1 : inN N.toNat a) (h2 : inN N.toNat b) (hd : dB N L a b ≠ Fr) : (relaxF N.toNat (rchM N L a b) [] (List.replicate N.toNat 0)).1 = true := by
  have F := relax_foundX (es := []) (rch_ask ha hn h1 h2 hd).okx (zero_beg _)
  rw [usedF_nil] at F
  cases h : (relaxF N.toNat (rchM N L a b) [] (List.replicate N.toNat 0)).1
  · exact absurd ((add_neg hn).2 (rch_neg ha hn h1 h2)) (F.no h)
  · rfl
theorem rch_ok (ha : AskL N.toNat L) (hn : NoNeg L) (h1 : inN N.toNat a) (h2 : inN N.toNat b) (hd : dB N L a b ≠ Fr) :
    (rchX N L a b).length = N.toNat ∧ gi (rchX N L a b) 0 = 0 ∧ frM (rchX N L a b) ∧ (∀ l ∈ L, gi (rchX N L a b) l.2.1 ≤ gi (rchX N L a b) l.1 + l.2.2) ∧ gi (rchX N L a b) b - gi (rchX N L a b) a = dB N L a b := by
  have hX := rch_ask ha hn h1 h2 hd
  have F := relax_foundX (es := []) hX.okx (zero_beg _)
  rw [usedF_nil] at F
  obtain ⟨hP, _⟩ := F.yes (rch_true ha hn h1 h2 hd)
  have hlen := hP.len
  have hz : ∀ v, inN N.toNat v → gi (List.replicate N.toNat 0) v = 0 := fun v hv => gi_rep _ _ hv
  have hsol := hP.sol hz hX.nd
  have h00 : inN N.toNat 0 := ⟨by omega, by have := ha.n; omega⟩
  have hb : ∀ v, inN N.toNat v → -810647932926689280 ≤ gi (relaxF N.toNat (rchM N L a b) [] (List.replicate N.toNat 0)).2 v ∧ gi (relaxF N.toNat (rchM N L a b) [] (List.replicate N.toNat 0)).2 v ≤ 0 := fun v hv => by
    have hle := hP.le0 v hv
    rw [hz v hv] at hle
    obtain ⟨u, ls, hu, _, hc, hs, e⟩ := hP.wk v hv (by unfold Fr; omega)
    refine ⟨?_, hle⟩
    rw [e]
    rcases add_split (l := (b, a, 0 - dB N L a b)) (rch_neg ha hn h1 h2) hc hs with ⟨c, c1, c2, c3⟩ | ⟨p, q, p1, p2, q1, q2, h3⟩
    · have d := (bd_isD ha hn hu hv).1
      have k1 := d.le c c1 c2
      have k2 := d_low ha hn hv d (d.no c c1 c2)
      omega
    · have p1 : Ch u p b := p1
      have q1 : Ch a q v := q1
      have d := (bd_isD ha hn hu h2).1
      have k1 := d.le p p1 p2
      have k2 := d_low ha hn h2 d (d.no p p1 p2)
      have d' := (bd_isD ha hn h1 hv).1
      have k3 := d'.le q q1 q2
      have k4 := d_low ha hn hv d' (d'.no q q1 q2)
      have k5 := d_low ha hn h2 (bd_isD ha hn h1 h2).1 hd
      replace h3 : sumL p + (0 - dB N L a b) + sumL q ≤ sumL ls := h3
      omega
  have hg : ∀ v, inN N.toNat v → gi (rchX N L a b) v = gi (relaxF N.toNat (rchM N L a b) [] (List.replicate N.toNat 0)).2 v - gi (relaxF N.toNat (rchM N L a b) [] (List.replicate N.toNat 0)).2 0 := fun v hv => gi_sub hv.1 (by rw [hlen]; exact hv.2)
  have hl : (rchX N L a b).length = N.toNat := by
    show (List.map _ _).length = _
    rw [List.length_map, hlen]
  have hlk : ∀ l ∈ L, gi (rchX N L a b) l.2.1 ≤ gi (rchX N L a b) l.1 + l.2.2 := fun l hm => by
    have k := hsol l (List.mem_append_left _ hm)
    obtain ⟨n1, n2⟩ := ha.ok.nd l hm
    rw [hg _ n1, hg _ n2]
    omega
  refine ⟨hl, by rw [hg 0 h00]; omega, fun x hx => ?_, hlk, ?_⟩
  · obtain ⟨i, hi, rfl⟩ := List.getElem_of_mem hx
    have e : gi (rchX N L a b) (i : Int) = (rchX N L a b)[i] := by simp [gi, List.getD, hi]
    have hv := inN_cast (by rw [hl] at hi; exact hi)
    rw [← e, hg _ hv]
    have k1 := hb _ hv
    have k2 := hb 0 h00
    show -1152921504606846976 ≤ _ ∧ _ ≤ (1152921504606846976 : Int)
    omega
  · have k := hsol (b, a, 0 - dB N L a b) (List.mem_append_right _ (by simp))
    have k : gi (relaxF N.toNat (rchM N L a b) [] (List.replicate N.toNat 0)).2 a ≤ gi (relaxF N.toNat (rchM N L a b) [] (List.replicate N.toNat 0)).2 b + (0 - dB N L a b) := k
    have k2 := sol_d ha hn hlk h1 h2 hd
    have e1 := hg a h1
    have e2 := hg b h2
    omega
theorem rch_fits (hc : (checkF N L).1 = 0) (hn : NoNeg L) (h1 : inN N.toNat a) (h2 : inN N.toNat b) (hd : dB N L a b ≠ Fr) : fitF N L (rchX N L a b) = (true, 0) := by
  have ha := ask_of hc
  have hN := toNat_of hc
  obtain ⟨k1, k2, k3, k4, _⟩ := rch_ok ha hn h1 h2 hd
  exact fit_0 (fit_iff.2 ⟨hc, by show (((rchX N L a b).length : Nat) : Int) = N; omega, k3, k4, k2⟩)
/-- The system with the two links is one. -/
theorem ck_app {N : Int} : ∀ {L M : List Lk} {i : Nat}, (∀ l ∈ L, badL N l = false) → (ckL N i (L ++ M)).1 = (ckL N (i + L.length) M).1
  | [], M, i, _ => by simp
  | l :: L, M, i, h => by
    rw [List.cons_append, ckL, if_neg (by rw [h l (by simp)]; simp), ck_app fun x hx => h x (by simp [hx])]
    rw [show i + 1 + L.length = i + (l :: L).length by simp; omega]
theorem good_of {N : Int} {L : List Lk} (h : (checkF N L).1 = 0) : ∀ l ∈ L, badL N l = false := by
  obtain ⟨hn, hl, _⟩ := checkF_ok h
  unfold checkF at h
  rw [if_neg (by omega), if_neg (by omega)] at h
  exact ckL_all h
theorem two_check {N : Int} {L : List Lk} {a b n : Int} (h : (checkF N L).1 = 0) (hl : L.length ≤ 298) (h1 : inN N.toNat a) (h2 : inN N.toNat b) (hab : ¬ a = b) (hn : -4503599627370496 ≤ n) (hm : n ≤ 4503599627370496) : (checkF N (L ++ [(a, b, n), (b, a, -n)])).1 = 0 := by
  have hg := good_of h
  obtain ⟨hN, _, _⟩ := checkF_ok h
  have e1 : badL N (a, b, n) = false := by
    simp only [badL, nodeB_iff.2 h1, nodeB_iff.2 h2, Bool.not_true, Bool.false_or, Bool.or_eq_false_iff, decide_eq_false_iff_not, beq_eq_false_iff_ne]
    exact ⟨⟨hab, by omega⟩, by omega⟩
  have e2 : badL N (b, a, -n) = false := by
    simp only [badL, nodeB_iff.2 h1, nodeB_iff.2 h2, Bool.not_true, Bool.false_or, Bool.or_eq_false_iff, decide_eq_false_iff_not, beq_eq_false_iff_ne]
    exact ⟨⟨fun e => hab e.symm, by omega⟩, by omega⟩
  unfold checkF
  rw [if_neg (by omega), if_neg (by simp; omega), ck_app hg, ckL, e1, ckL, e2]
  rfl
/-! ### Two links more, there and back -/
theorem two_con {n : Int} (ha : AskL N.toNat L) (hb : AskL N.toNat ((L ++ [(a, b, n)]) ++ [(b, a, -n)])) (hn : NoNeg L) (h1 : inN N.toNat a) (h2 : inN N.toNat b) (d1 : dB N L a b ≠ Fr) (d2 : dB N L b a ≠ Fr) :
    conB N ((L ++ [(a, b, n)]) ++ [(b, a, -n)]) = true ↔ n ≤ dB N L a b ∧ - dB N L b a ≤ n := by
  have ha' : AskL N.toNat (L ++ [(a, b, n)]) := ⟨hb.n, by have := hb.l; simp at this ⊢; omega, hb.ok.sub fun l hl => List.mem_append_left _ hl⟩
  have b1 := d_low ha hn h2 (bd_isD ha hn h1 h2).1 d1
  have b2 := d_low ha hn h1 (bd_isD ha hn h2 h1).1 d2
  have m1 := more_con ha ha' hn
  replace m1 : conB N (L ++ [(a, b, n)]) = true ↔ dB N L b a = Fr ∨ 0 ≤ n + dB N L b a := m1
  have hl := ha'.last
  have hms : -4503599627370496 ≤ n ∧ n ≤ 4503599627370496 := hl.2.2
  by_cases hc : conB N (L ++ [(a, b, n)]) = true
  · have hn' := (con_iff ha').1 hc
    have m2 := more_con ha' hb hn'
    replace m2 : conB N ((L ++ [(a, b, n)]) ++ [(b, a, -n)]) = true ↔ dB N (L ++ [(a, b, n)]) a b = Fr ∨ 0 ≤ -n + dB N (L ++ [(a, b, n)]) a b := m2
    have e := more_d ha ha' hn hc h1 h2
    replace e : dB N (L ++ [(a, b, n)]) a b = if dB N L a a ≠ Fr ∧ dB N L b b ≠ Fr then min (dB N L a b) (dB N L a a + n + dB N L b b) else dB N L a b := e
    rw [d_self ha hn h1, d_self ha hn h2, if_pos (by decide)] at e
    rw [m2, e]
    have := m1.1 hc
    unfold Fr at *
    omega
  · constructor
    · intro h
      have hb' := (con_iff hb).1 h
      exact absurd ((con_iff ha').2 (noneg_sub hb' fun x hx => List.mem_append_left _ hx)) hc
    · intro ⟨_, h⟩
      exact absurd (m1.2 (.inr (by omega))) hc
theorem two_d {n : Int} (hb : AskL N.toNat ((L ++ [(a, b, n)]) ++ [(b, a, -n)])) (hc : conB N ((L ++ [(a, b, n)]) ++ [(b, a, -n)]) = true) (h1 : inN N.toNat a) (h2 : inN N.toNat b) :
    dB N ((L ++ [(a, b, n)]) ++ [(b, a, -n)]) a b = n := by
  have hn := (con_iff hb).1 hc
  have e1 := d_edge hb hn (l := (a, b, n)) (by simp)
  have e2 := d_edge hb hn (l := (b, a, -n)) (by simp)
  replace e1 : dB N ((L ++ [(a, b, n)]) ++ [(b, a, -n)]) a b ≤ n ∧ dB N ((L ++ [(a, b, n)]) ++ [(b, a, -n)]) a b ≠ Fr := e1
  replace e2 : dB N ((L ++ [(a, b, n)]) ++ [(b, a, -n)]) b a ≤ -n ∧ dB N ((L ++ [(a, b, n)]) ++ [(b, a, -n)]) b a ≠ Fr := e2
  have t := (d_tri hb hn h1 h2 h1 e1.2 e2.2).1
  rw [d_self hb hn h1] at t
  omega
end
end Go.Proofs.Ytlmhkeoblgodiaa
end

section
/-
  Chapter 2: for the laws: elements of lists, as the walk names them.
-/
namespace Go.Proofs.Ytlmhkeoblgodiaa
open Go Go.Sy Go.Chn
def e1A (X : List Int) (b : Int) : Int := @Ar.get ⟨3, kI, X⟩ (0 + Int.toNat b)
theorem e1A_eq {X : List Int} {b : Int} (h : 0 ≤ b) : e1A X b = gi X b := by
  unfold e1A; rw [Nat.zero_add]
  show gi X ((Int.toNat b : Nat) : Int) = _
  rw [Int.toNat_of_nonneg h]
def e2A (T : List (List Int)) (a b : Int) : Int := @Ar.get ⟨3, kI, @Ar.get ⟨32, kT, T⟩ (0 + Int.toNat a)⟩ (0 + Int.toNat b)
theorem e2A_eq {T : List (List Int)} {a b : Int} (h : 0 ≤ b) : e2A T a b = gi (T.getD a.toNat []) b := by
  unfold e2A; rw [Nat.zero_add, Nat.zero_add]
  show gi (T.getD a.toNat []) ((Int.toNat b : Nat) : Int) = _
  rw [Int.toNat_of_nonneg h]
def rwA (T : List (List Int)) (a : Int) : List Int := @Ar.get ⟨32, kT, T⟩ (0 + Int.toNat a)
theorem rwA_eq {T : List (List Int)} {a : Int} : rwA T a = T.getD a.toNat [] := by unfold rwA; rw [Nat.zero_add]; rfl
theorem bnd_5 {N : Int} {L : List Lk} {a b : Int} (h : (bndF N L a b).2 = 5) : askF N L [a, b] = 0 ∧ dB N L a b = Fr := by
  unfold bndF at h
  split at h
  · rename_i h1
    exfalso
    replace h : askF N L [a, b] = 5 := h
    unfold askF at h
    split at h
    · have : ∀ {N : Int} {L : List Lk}, (checkF N L).1 = 0 ∨ (checkF N L).1 = 1 ∨ (checkF N L).1 = 2 := fun {N L} => by
        unfold checkF
        split
        · exact .inr (.inl rfl)
        · split
          · exact .inr (.inr rfl)
          · have key : ∀ (L : List Lk) (i : Nat), (ckL N i L).1 = 0 ∨ (ckL N i L).1 = 1 := fun L => by
              induction L with
              | nil => exact fun _ => .inl rfl
              | cons l L ih =>
                intro i
                rw [ckL]
                split
                · exact .inr rfl
                · exact ih _
            rcases key L 0 with h | h
            · exact .inl h
            · exact .inr (.inl h)
      rcases @this N L with h2 | h2 | h2 <;> omega
    · split at h
      · cases h
      · split at h
        · cases h
        · cases h
  · rename_i h1
    split at h
    · rename_i h2
      exact ⟨by simpa using h1, h2⟩
    · cases h
end Go.Proofs.Ytlmhkeoblgodiaa
end

section
/-
  Chapter 2: Idle. Printed by gen61.py.
-/
namespace Go.Proofs.Ytlmhkeoblgodiaa
open Go Go.Sy Go.Chn
set_option maxRecDepth 100000
set_option maxHeartbeats 4000000
set_option linter.unusedVariables false
set_option linter.unusedSimpArgs false
variable {Γ : Glob}
/-- The idle links among the first i. -/
def idL (N : Int) (L : List Lk) (i : Nat) : List Int := ((List.range i).filter fun k => idleF N.toNat L [] k).map fun (k : Nat) => (k : Int)
def idF (N : Int) (L : List Lk) : List Int × Int := if askF N L [] ≠ 0 then ([], askF N L []) else (idL N L L.length, 0)
section
variable {N : Int} {L : List Lk} {i : Nat}
theorem id_zero : [] = idL N L 0 := rfl
theorem id_skip (h : idleF N.toNat L [] i = false) : idL N L i = idL N L (i + 1) := by unfold idL; rw [List.range_succ, List.filter_append]; simp [h]
theorem id_put (h : idleF N.toNat L [] i = true) : idL N L i ++ [(i : Int)] = idL N L (i + 1) := by unfold idL; rw [List.range_succ, List.filter_append]; simp [h]
theorem id_len : (idL N L i).length ≤ i := by unfold idL; rw [List.length_map]; exact Nat.le_trans (List.length_filter_le _ _) (by simp)
theorem id0 (h : (askF N L [] != 0) = true) : idF N L = ([], askF N L []) := by unfold idF; rw [if_pos (by simpa using h)]
theorem id1 (h : (askF N L [] != 0) = false) : idF N L = (idL N L L.length, 0) := by unfold idF; rw [if_neg (by simpa using h)]
theorem less_isD (ha : AskL N.toNat L) (hn : NoNeg L) (es : List (Int × Bool)) {u v : Int} (hu : inN N.toNat u) (hv : inN N.toNat v) : IsD (usedF es 0 L) u v (gi (boundsF N.toNat L es u) v) := by
  have hs : Sub (usedF es 0 L) L := fun l hl => usedF_sub es 0 L l hl
  have hn' := noneg_sub hn hs
  have F := relax_found (es := es) ha.ok (from0_beg hu)
  unfold boundsF
  cases h : (relaxF N.toNat L es (from0 N.toNat u)).1
  · exact absurd hn' (F.no h)
  · exact (F.yes h).1.dist (ha.ok.sub hs) hn' hu (fun v hv => from0_gi hu hv) hv
end
def L32 : List (Nat × Ctr) := [(73, c73), (74, c74)]
theorem L32_ok : CsOk Try.prog Γ L32 := (CsOk.nil.cons (body_of Try.func74 rfl rfl).fn c74_ok).cons (body_of Try.func73 rfl rfl).fn c73_ok
attribute [local irreducible] askF gi lk idleF idL idF
def c32 : Ctr := newS (fun _ L => [(Duty.of (L.length ≤ 1000000))]) (fun N L => ⟨[.arr 3 kI (idF N L).1 true true], .tup [.a (.sl 0 [] 0 (idF N L).1.length), .a (vI (idF N L).2)]⟩)
theorem c32_ok : Ctr.Ok Try.prog Γ 32 c32 := newS_ok (d := 0) (prog_ok L32_ok BsOk.nil false 0) (body_of Try.func32 rfl rfl) (by
  intro N L K ⟨hL, _⟩ hK
  simp only [Duty.of_p] at hL
  by_cases hq : (askF N L [] != 0) = true
  · repeat' ((conv => whnf); (first | apply And.intro | (intro h9; first | (have h8 : (_ : Bool) = false := h9; exfalso; clear h8; revert h9; subst_vars; intro h9; exact ft_no (h9.symm.trans (by assumption))) | (have h8 : (_ : Bool) = true := h9; exfalso; clear h8; revert h9; subst_vars; intro h9; exact tf_no (h9.symm.trans (by assumption))) | skip)))
    all_goals try (conv => whnf)
    all_goals try first
      | exact LexB.mk (by kernel_rfl)
      | exact LexG.mk (by kernel_rfl)
      | exact LexT.mk (by kernel_rfl)
      | exact Forced.mk (by kernel_rfl)
      | exact LexP.mk (by kernel_rfl)
      | exact ForcedP.mk (by kernel_rfl)
      | exact ⟨Nat.le_of_ble_eq_true rfl⟩
      | exact ⟨rfl⟩
      | exact ⟨trivial⟩
    all_goals subst_vars
    all_goals try first
      | rfl
      | contradiction
      | (refine Ob.mk ?_; simp only [inRQ, inR, Duty.of_p]; omega)
    all_goals try first
      | exact ⟨show L.length ≤ 1000000 by omega⟩
      | exact ⟨show L.length ≤ 1099511627776 by omega⟩
    all_goals (exact klE (te := 3) (tg := kI) (by simp [kI]) (by rw [id0 hq] at hK; exact hK) rfl)
  replace hq : (askF N L [] != 0) = false := by simpa using hq
  have h0 : askF N L [] = 0 := by simpa using hq
  obtain ⟨c1, _, c3⟩ := ask_iff.1 h0
  have ha := ask_of c1
  have hN := toNat_of c1
  rw [id1 hq] at hK
  repeat' ((conv => whnf); (first | apply And.intro | (intro h9; first | (have h8 : (_ : Bool) = false := h9; exfalso; clear h8; revert h9; subst_vars; intro h9; exact ft_no (h9.symm.trans (by assumption))) | (have h8 : (_ : Bool) = true := h9; exfalso; clear h8; revert h9; subst_vars; intro h9; exact tf_no (h9.symm.trans (by assumption))) | skip)))
  all_goals try (conv => whnf)
  all_goals try first
    | exact LexB.mk (by kernel_rfl)
    | exact LexG.mk (by kernel_rfl)
    | exact LexT.mk (by kernel_rfl)
    | exact Forced.mk (by kernel_rfl)
    | exact LexP.mk (by kernel_rfl)
    | exact ForcedP.mk (by kernel_rfl)
    | exact ⟨Nat.le_of_ble_eq_true rfl⟩
    | exact ⟨rfl⟩
    | exact ⟨trivial⟩
  all_goals subst_vars
  all_goals try first
    | rfl
    | contradiction
    | (refine Ob.mk ?_; simp only [inRQ, inR, Duty.of_p]; omega)
  all_goals try first
    | exact ⟨show L.length ≤ 1000000 by omega⟩
    | exact ⟨show L.length ≤ 1099511627776 by omega⟩
  refine ⟨Nat, fun i => i ≤ L.length, fun i => ⟨slotsT 27 [1, 5, 14, 15] [.a (.p 1 [] 0 0), .a (.sl 2 [] 0 (idL N L i).length), .a (vI L.length), .a (vI i)], [], [.arr 44 kL L false false, .box true [vI N, .sl 0 [] 0 L.length], .arr 3 kI (idL N L i) true true]⟩, fun i => L.length - i, 0, [0, 1, 1000], Nat.zero_le _, ?_, ?_⟩
  · have e0 : [] = idL N L 0 := by unfold idL; rfl
    have e1 : (idL N L 0).length = 0 := by rw [← e0]; rfl
    subst_vars
    repeat' ((conv => whnf); (first | apply And.intro | intro _))
    all_goals first | rfl | trivial | exact Nat.le_of_ble_eq_true rfl | exact ⟨rfl, rfl, rfl⟩ | exact ⟨rfl, rfl, rfl, rfl⟩ | exact ⟨rfl, rfl⟩ | exact e0 | exact e0.symm | exact e1 | exact e1.symm | exact ⟨rfl, rfl, e0⟩
  rintro i hi
  have il := id_len (N := N) (L := L) (i := i)
  have hll := ha.l
  by_cases hi1 : i < L.length
  · have p0 : decide ((i : Int) < (L.length : Int)) = true := decide_eq_true (by omega)
    have ei : Int.toNat (i : Int) = i := Int.toNat_natCast i
    cases k : idleF N.toNat L [] (Int.toNat (i : Int))
    · have e1 := id_skip (N := N) (L := L) (i := i) (by rw [← ei]; rw [ei]; rw [ei] at k; exact k)
      repeat' ((conv => whnf); (first | apply And.intro | (intro h9; first | (have h8 : (_ : Bool) = false := h9; exfalso; clear h8; revert h9; subst_vars; intro h9; exact ft_no (h9.symm.trans (by assumption))) | (have h8 : (_ : Bool) = true := h9; exfalso; clear h8; revert h9; subst_vars; intro h9; exact tf_no (h9.symm.trans (by assumption))) | skip)))
      all_goals try (conv => whnf)
      all_goals try first
        | exact LexB.mk (by kernel_rfl)
        | exact LexG.mk (by kernel_rfl)
        | exact LexT.mk (by kernel_rfl)
        | exact Forced.mk (by kernel_rfl)
        | exact LexP.mk (by kernel_rfl)
        | exact ForcedP.mk (by kernel_rfl)
        | exact ⟨Nat.le_of_ble_eq_true rfl⟩
        | exact ⟨rfl⟩
        | exact ⟨trivial⟩
      all_goals subst_vars
      all_goals try first
        | rfl
        | contradiction
        | (refine Ob.mk ?_; simp only [inRQ, inR, Duty.of_p]; omega)
      all_goals try first
        | exact ⟨show L.length ≤ 1000000 by omega⟩
        | exact ⟨show L.length ≤ 1099511627776 by omega⟩
      all_goals try first
        | exact ⟨hN⟩
        | exact ⟨ha⟩
        | exact ⟨show (i : Int) < (L.length : Int) by omega⟩
        | exact ⟨Nat.zero_add _⟩
        | exact ⟨show ((idL N L i).length + 1) * 1 ≤ 1099511627776 by omega⟩
      all_goals
        refine ⟨i + 1, [0, 1, 2], hi1, ?_, by show L.length - (i + 1) < L.length - i; omega⟩
        subst_vars
        repeat' ((conv => whnf); (first | apply And.intro | intro _))
        all_goals first | rfl | trivial | exact Nat.le_of_ble_eq_true rfl | exact ⟨rfl, rfl, rfl⟩ | exact ⟨rfl, rfl, rfl, rfl⟩ | exact ⟨rfl, rfl⟩ | exact e1 | exact congrArg List.length e1 | (subst_vars; rfl) | exact ⟨rfl, rfl, e1⟩
    · have e1 := id_put (N := N) (L := L) (i := i) (by rw [ei] at k; exact k)
      have e2 : (idL N L i).length + 1 = (idL N L (i + 1)).length := by rw [← e1]; simp
      repeat' ((conv => whnf); (first | apply And.intro | (intro h9; first | (have h8 : (_ : Bool) = false := h9; exfalso; clear h8; revert h9; subst_vars; intro h9; exact ft_no (h9.symm.trans (by assumption))) | (have h8 : (_ : Bool) = true := h9; exfalso; clear h8; revert h9; subst_vars; intro h9; exact tf_no (h9.symm.trans (by assumption))) | skip)))
      all_goals try (conv => whnf)
      all_goals try first
        | exact LexB.mk (by kernel_rfl)
        | exact LexG.mk (by kernel_rfl)
        | exact LexT.mk (by kernel_rfl)
        | exact Forced.mk (by kernel_rfl)
        | exact LexP.mk (by kernel_rfl)
        | exact ForcedP.mk (by kernel_rfl)
        | exact ⟨Nat.le_of_ble_eq_true rfl⟩
        | exact ⟨rfl⟩
        | exact ⟨trivial⟩
      all_goals subst_vars
      all_goals try first
        | rfl
        | contradiction
        | (refine Ob.mk ?_; simp only [inRQ, inR, Duty.of_p]; omega)
      all_goals try first
        | exact ⟨show L.length ≤ 1000000 by omega⟩
        | exact ⟨show L.length ≤ 1099511627776 by omega⟩
      all_goals try first
        | exact ⟨hN⟩
        | exact ⟨ha⟩
        | exact ⟨show (i : Int) < (L.length : Int) by omega⟩
        | exact ⟨Nat.zero_add _⟩
        | exact ⟨show ((idL N L i).length + 1) * 1 ≤ 1099511627776 by omega⟩
      all_goals
        refine ⟨i + 1, [0, 1, 2], hi1, ?_, by show L.length - (i + 1) < L.length - i; omega⟩
        subst_vars
        repeat' ((conv => whnf); (first | apply And.intro | intro _))
        all_goals first | rfl | trivial | exact Nat.le_of_ble_eq_true rfl | exact ⟨rfl, rfl, rfl⟩ | exact ⟨rfl, rfl, rfl, rfl⟩ | exact ⟨rfl, rfl⟩ | exact e1 | exact e2 | (subst_vars; rfl) | exact ⟨rfl, rfl, e1⟩
  have p0 : decide ((i : Int) < (L.length : Int)) = false := decide_eq_false (by omega)
  obtain rfl : i = L.length := by omega
  repeat' ((conv => whnf); (first | apply And.intro | (intro h9; first | (have h8 : (_ : Bool) = false := h9; exfalso; clear h8; revert h9; subst_vars; intro h9; exact ft_no (h9.symm.trans (by assumption))) | (have h8 : (_ : Bool) = true := h9; exfalso; clear h8; revert h9; subst_vars; intro h9; exact tf_no (h9.symm.trans (by assumption))) | skip)))
  all_goals try (conv => whnf)
  all_goals try first
    | exact LexB.mk (by kernel_rfl)
    | exact LexG.mk (by kernel_rfl)
    | exact LexT.mk (by kernel_rfl)
    | exact Forced.mk (by kernel_rfl)
    | exact LexP.mk (by kernel_rfl)
    | exact ForcedP.mk (by kernel_rfl)
    | exact ⟨Nat.le_of_ble_eq_true rfl⟩
    | exact ⟨rfl⟩
    | exact ⟨trivial⟩
  all_goals subst_vars
  all_goals try first
    | rfl
    | contradiction
    | (refine Ob.mk ?_; simp only [inRQ, inR, Duty.of_p]; omega)
  all_goals try first
    | exact ⟨show L.length ≤ 1000000 by omega⟩
    | exact ⟨show L.length ≤ 1099511627776 by omega⟩
  all_goals exact klC (i := 2) hK rfl rfl)
end Go.Proofs.Ytlmhkeoblgodiaa
end

section
/-
  Chapter 2: Reduce. Printed by gen75.py.
-/
namespace Go.Proofs.Ytlmhkeoblgodiaa
open Go Go.Sy Go.Chn
set_option maxRecDepth 100000
set_option maxHeartbeats 4000000
set_option linter.unusedVariables false
set_option linter.unusedSimpArgs false
variable {Γ : Glob}
/-- What is left out, and what is kept, when n links were looked at from the last one on. -/
def rdS (N : Int) (L : List Lk) : Nat → List (Int × Bool) × List Int
  | 0 => ([], [])
  | n + 1 => if idleF N.toNat L (rdS N L n).1 (Int.toNat ((L.length : Int) - 1 - (n : Int))) = true then (mset (rdS N L n).1 ((L.length : Int) - 1 - (n : Int)) true, (rdS N L n).2) else ((rdS N L n).1, (rdS N L n).2 ++ [(L.length : Int) - 1 - (n : Int)])
def rdF (N : Int) (L : List Lk) : List Int × Int := if askF N L [] ≠ 0 then ([], askF N L []) else ((rdS N L L.length).2.reverse, 0)
/-- A list of which the first i and the last i elements are exchanged. -/
def rvL (X : List Int) (i : Nat) : List Int := (List.range X.length).map fun p => if p < i ∨ X.length - i ≤ p then gi X ((X.length - 1 - p : Nat) : Int) else gi X (p : Int)
section
variable {N : Int} {L : List Lk} {n : Nat} {X : List Int} {i : Nat}
theorem rdS_idle (h : idleF N.toNat L (rdS N L n).1 (Int.toNat ((L.length : Int) - 1 - (n : Int))) = true) : rdS N L (n + 1) = (mset (rdS N L n).1 ((L.length : Int) - 1 - (n : Int)) true, (rdS N L n).2) := by rw [rdS, if_pos h]
theorem rdS_kept (h : idleF N.toNat L (rdS N L n).1 (Int.toNat ((L.length : Int) - 1 - (n : Int))) = false) : rdS N L (n + 1) = ((rdS N L n).1, (rdS N L n).2 ++ [(L.length : Int) - 1 - (n : Int)]) := by rw [rdS, if_neg (by rw [h]; simp)]
theorem rdS_len : ∀ {n : Nat}, (rdS N L n).2.length ≤ n
  | 0 => Nat.le_refl _
  | n + 1 => by
    have ih := rdS_len (n := n)
    rw [rdS]; split
    · show (rdS N L n).2.length ≤ n + 1; omega
    · simp; omega
theorem rd0 (h : (askF N L [] != 0) = true) : rdF N L = ([], askF N L []) := by unfold rdF; rw [if_pos (by simpa using h)]
theorem rd1 (h : (askF N L [] != 0) = false) : rdF N L = ((rdS N L L.length).2.reverse, 0) := by unfold rdF; rw [if_neg (by simpa using h)]
theorem rv_len : (rvL X i).length = X.length := by simp [rvL]
theorem rv_zero : X = rvL X 0 := by
  refine List.ext_getElem (by simp [rvL]) fun p h1 h2 => ?_
  simp only [rvL, List.getElem_map, List.getElem_range]
  rw [if_neg (by omega)]
  simp [gi, List.getD, h1]
theorem rv_get {p : Nat} (h : p < X.length) : gi (rvL X i) (p : Int) = if p < i ∨ X.length - i ≤ p then gi X ((X.length - 1 - p : Nat) : Int) else gi X (p : Int) := by
  have h2 : p < (rvL X i).length := by rw [rv_len]; exact h
  have : gi (rvL X i) (p : Int) = (rvL X i)[p] := by simp [gi, List.getD, h2]
  rw [this]; simp only [rvL, List.getElem_map, List.getElem_range]
theorem rv_swap (h : i < X.length - 1 - i) : ((rvL X i).set i (gi (rvL X i) ((X.length - 1 - i : Nat) : Int))).set (X.length - 1 - i) (gi (rvL X i) (i : Int)) = rvL X (i + 1) := by
  rw [rv_get (by omega), rv_get (by omega), if_neg (by omega), if_neg (by omega)]
  refine List.ext_getElem (by simp [rvL]) fun p h1 h2 => ?_
  have hp : p < X.length := by simpa [rvL] using h2
  rw [List.getElem_set, List.getElem_set]
  simp only [rvL, List.getElem_map, List.getElem_range]
  by_cases e1 : X.length - 1 - i = p
  · rw [if_pos e1, if_pos (by omega), show X.length - 1 - p = i by omega]
  · rw [if_neg e1]
    by_cases e2 : i = p
    · rw [if_pos e2, if_pos (by omega), e2]
    · rw [if_neg e2]
      by_cases c : p < i ∨ X.length - i ≤ p
      · rw [if_pos c, if_pos (by omega)]
      · rw [if_neg c, if_neg (by omega)]
theorem rv_end (h : X.length - 1 - i ≤ i) : rvL X i = X.reverse := by
  refine List.ext_getElem (by simp [rvL]) fun p h1 h2 => ?_
  have hp : p < X.length := by simpa [rvL] using h1
  have hr : X.length - 1 - p < X.length := by omega
  simp only [rvL, List.getElem_map, List.getElem_range, List.getElem_reverse]
  have e : gi X ((X.length - 1 - p : Nat) : Int) = X[X.length - 1 - p] := by simp [gi, List.getD, hr]
  by_cases c : p < i ∨ X.length - i ≤ p
  · rw [if_pos c, e]
  · rw [if_neg c]
    have : X.length - 1 - p = p := by omega
    simp [gi, List.getD, hp, this]
end
def L33 : List (Nat × Ctr) := [(73, c73), (74, c74)]
theorem L33_ok : CsOk Try.prog Γ L33 := (CsOk.nil.cons (body_of Try.func74 rfl rfl).fn c74_ok).cons (body_of Try.func73 rfl rfl).fn c73_ok
noncomputable def bs33 : List (Nat × Body) := [(75, bo Try.f75)]
theorem bs33_ok : BsOk Try.prog bs33 := BsOk.nil.cons (body_bo Try.func75 rfl rfl)
noncomputable def e33 : Env := { tabs.env L33 bs33 false 0 with tree := fun id => match Nat.beq id 3 with | true => some t75 | false => none }
theorem e33_ok : ProgOk Try.prog Γ e33 := (prog_ok L33_ok bs33_ok false 0).trees _
attribute [local irreducible] askF gi lk idleF rdS rdF rvL mset
def c33 : Ctr := newS (fun _ L => [(Duty.of (L.length ≤ 1000000))]) (fun N L => ⟨[.arr 3 kI (rdF N L).1 true true], .tup [.a (.sl 0 [] 0 (rdF N L).1.length), .a (vI (rdF N L).2)]⟩)
theorem c33_ok : Ctr.Ok Try.prog Γ 33 c33 := newS_ok (d := 1) e33_ok (body_of Try.func33 rfl rfl) (by
  intro N L K ⟨hL, _⟩ hK
  simp only [Duty.of_p] at hL
  by_cases hq : (askF N L [] != 0) = true
  · repeat' ((conv => whnf); (first | apply And.intro | (intro h9; first | (have h8 : (_ : Bool) = false := h9; exfalso; clear h8; revert h9; subst_vars; intro h9; exact ft_no (h9.symm.trans (by assumption))) | (have h8 : (_ : Bool) = true := h9; exfalso; clear h8; revert h9; subst_vars; intro h9; exact tf_no (h9.symm.trans (by assumption))) | skip)))
    all_goals try (conv => whnf)
    all_goals try first
      | exact LexB.mk (by kernel_rfl)
      | exact LexG.mk (by kernel_rfl)
      | exact LexT.mk (by kernel_rfl)
      | exact Forced.mk (by kernel_rfl)
      | exact LexP.mk (by kernel_rfl)
      | exact ForcedP.mk (by kernel_rfl)
      | exact ⟨Nat.le_of_ble_eq_true rfl⟩
      | exact ⟨rfl⟩
      | exact ⟨trivial⟩
    all_goals subst_vars
    all_goals try first
      | rfl
      | contradiction
      | (refine Ob.mk ?_; simp only [inRQ, inR, Duty.of_p]; omega)
    all_goals try first
      | exact ⟨show L.length ≤ 1000000 by omega⟩
      | exact ⟨show L.length ≤ 1099511627776 by omega⟩
    all_goals (exact klE (te := 3) (tg := kI) (by simp [kI]) (by rw [rd0 hq] at hK; exact hK) rfl)
  replace hq : (askF N L [] != 0) = false := by simpa using hq
  have h0 : askF N L [] = 0 := by simpa using hq
  obtain ⟨c1, _, c3⟩ := ask_iff.1 h0
  have ha := ask_of c1
  have hN := toNat_of c1
  have hll := ha.l
  rw [rd1 hq] at hK
  repeat' ((conv => whnf); (first | apply And.intro | (intro h9; first | (have h8 : (_ : Bool) = false := h9; exfalso; clear h8; revert h9; subst_vars; intro h9; exact ft_no (h9.symm.trans (by assumption))) | (have h8 : (_ : Bool) = true := h9; exfalso; clear h8; revert h9; subst_vars; intro h9; exact tf_no (h9.symm.trans (by assumption))) | skip)))
  all_goals try (conv => whnf)
  all_goals try first
    | exact LexB.mk (by kernel_rfl)
    | exact LexG.mk (by kernel_rfl)
    | exact LexT.mk (by kernel_rfl)
    | exact Forced.mk (by kernel_rfl)
    | exact LexP.mk (by kernel_rfl)
    | exact ForcedP.mk (by kernel_rfl)
    | exact ⟨Nat.le_of_ble_eq_true rfl⟩
    | exact ⟨rfl⟩
    | exact ⟨trivial⟩
  all_goals subst_vars
  all_goals try first
    | rfl
    | contradiction
    | (refine Ob.mk ?_; simp only [inRQ, inR, Duty.of_p]; omega)
  all_goals try first
    | exact ⟨show L.length ≤ 1000000 by omega⟩
    | exact ⟨show L.length ≤ 1099511627776 by omega⟩
  refine ⟨Nat, fun n => n ≤ L.length, fun n => ⟨slotsT 35 [1, 5, 6, 7] [.a (.p 1 [] 0 0), .a (.mp 2), .a (.sl 3 [] 0 (rdS N L n).2.length), .a (vI ((L.length : Int) - 1 - (n : Int)))], [], [.arr 44 kL L false false, .box true [vI N, .sl 0 [] 0 L.length], .map 91 .i64 .bool (rdS N L n).1 true, .arr 3 kI (rdS N L n).2 true true]⟩, fun n => L.length - n, 0, [0, 1, 2, 1000], Nat.zero_le _, ?_, ?_⟩
  · have e0 : [] = (rdS N L 0).2 := by unfold rdS; rfl
    have e1 : (rdS N L 0).2.length = 0 := by rw [← e0]; rfl
    have e2 : [] = (rdS N L 0).1 := by unfold rdS; rfl
    have e3 : (L.length : Int) - 1 = (L.length : Int) - 1 - ((0 : Nat) : Int) := by omega
    subst_vars
    repeat' ((conv => whnf); (first | apply And.intro | intro _))
    all_goals first | rfl | trivial | exact Nat.le_of_ble_eq_true rfl | exact ⟨rfl, rfl, rfl⟩ | exact ⟨rfl, rfl, rfl, rfl⟩ | exact ⟨rfl, rfl⟩ | exact e0 | exact e0.symm | exact e1 | exact e1.symm | exact e2 | exact e2.symm | exact e3 | exact e3.symm | exact ⟨rfl, rfl, e0⟩ | exact ⟨rfl, rfl, rfl, e2⟩
  rintro n hn
  have il := rdS_len (N := N) (L := L) (n := n)
  by_cases hn1 : n < L.length
  · have p0 : decide ((L.length : Int) - 1 - (n : Int) ≥ 0) = true := decide_eq_true (by omega)
    cases k : idleF N.toNat L (rdS N L n).1 (Int.toNat ((L.length : Int) - 1 - (n : Int)))
    · have e1 := rdS_kept k
      have e2 : (rdS N L n).2 ++ [(L.length : Int) - 1 - (n : Int)] = (rdS N L (n + 1)).2 := by rw [e1]
      have e3 : (rdS N L n).1 = (rdS N L (n + 1)).1 := by rw [e1]
      have e4 : (rdS N L n).2.length + 1 = (rdS N L (n + 1)).2.length := by rw [← e2]; simp
      have e5 : (L.length : Int) - 1 - (n : Int) - 1 = (L.length : Int) - 1 - ((n + 1 : Nat) : Int) := by omega
      clear e1
      repeat' ((conv => whnf); (first | apply And.intro | (intro h9; first | (have h8 : (_ : Bool) = false := h9; exfalso; clear h8; revert h9; subst_vars; intro h9; exact ft_no (h9.symm.trans (by assumption))) | (have h8 : (_ : Bool) = true := h9; exfalso; clear h8; revert h9; subst_vars; intro h9; exact tf_no (h9.symm.trans (by assumption))) | skip)))
      all_goals try (conv => whnf)
      all_goals try first
        | exact LexB.mk (by kernel_rfl)
        | exact LexG.mk (by kernel_rfl)
        | exact LexT.mk (by kernel_rfl)
        | exact Forced.mk (by kernel_rfl)
        | exact LexP.mk (by kernel_rfl)
        | exact ForcedP.mk (by kernel_rfl)
        | exact ⟨Nat.le_of_ble_eq_true rfl⟩
        | exact ⟨rfl⟩
        | exact ⟨trivial⟩
      all_goals subst_vars
      all_goals try first
        | rfl
        | contradiction
        | (refine Ob.mk ?_; simp only [inRQ, inR, Duty.of_p]; omega)
      all_goals try first
        | exact ⟨show L.length ≤ 1000000 by omega⟩
        | exact ⟨show L.length ≤ 1099511627776 by omega⟩
      all_goals try first
        | exact ⟨hN⟩
        | exact ⟨ha⟩
        | exact ⟨show (L.length : Int) - 1 - (n : Int) < (L.length : Int) by omega⟩
        | exact ⟨show 0 ≤ (L.length : Int) - 1 - (n : Int) by omega⟩
        | exact ⟨Nat.zero_add _⟩
        | exact ⟨show ((rdS N L n).2.length + 1) * 1 ≤ 1099511627776 by omega⟩
      all_goals
        refine ⟨n + 1, [0, 1, 2, 3], hn1, ?_, by show L.length - (n + 1) < L.length - n; omega⟩
        subst_vars
        repeat' ((conv => whnf); (first | apply And.intro | intro _))
        all_goals first | rfl | trivial | exact Nat.le_of_ble_eq_true rfl | exact ⟨rfl, rfl, rfl⟩ | exact ⟨rfl, rfl, rfl, rfl⟩ | exact ⟨rfl, rfl⟩ | exact e2 | exact e3 | exact e4 | exact e5 | (subst_vars; rfl) | exact ⟨rfl, rfl, e2⟩ | exact ⟨rfl, rfl, rfl, e3⟩
    · have e1 := rdS_idle k
      have e2 : (rdS N L n).2 = (rdS N L (n + 1)).2 := by rw [e1]
      have e3 : mset (rdS N L n).1 ((L.length : Int) - 1 - (n : Int)) true = (rdS N L (n + 1)).1 := by rw [e1]
      have e4 : (rdS N L n).2.length = (rdS N L (n + 1)).2.length := by rw [← e2]
      have e5 : (L.length : Int) - 1 - (n : Int) - 1 = (L.length : Int) - 1 - ((n + 1 : Nat) : Int) := by omega
      clear e1
      repeat' ((conv => whnf); (first | apply And.intro | (intro h9; first | (have h8 : (_ : Bool) = false := h9; exfalso; clear h8; revert h9; subst_vars; intro h9; exact ft_no (h9.symm.trans (by assumption))) | (have h8 : (_ : Bool) = true := h9; exfalso; clear h8; revert h9; subst_vars; intro h9; exact tf_no (h9.symm.trans (by assumption))) | skip)))
      all_goals try (conv => whnf)
      all_goals try first
        | exact LexB.mk (by kernel_rfl)
        | exact LexG.mk (by kernel_rfl)
        | exact LexT.mk (by kernel_rfl)
        | exact Forced.mk (by kernel_rfl)
        | exact LexP.mk (by kernel_rfl)
        | exact ForcedP.mk (by kernel_rfl)
        | exact ⟨Nat.le_of_ble_eq_true rfl⟩
        | exact ⟨rfl⟩
        | exact ⟨trivial⟩
      all_goals subst_vars
      all_goals try first
        | rfl
        | contradiction
        | (refine Ob.mk ?_; simp only [inRQ, inR, Duty.of_p]; omega)
      all_goals try first
        | exact ⟨show L.length ≤ 1000000 by omega⟩
        | exact ⟨show L.length ≤ 1099511627776 by omega⟩
      all_goals try first
        | exact ⟨hN⟩
        | exact ⟨ha⟩
        | exact ⟨show (L.length : Int) - 1 - (n : Int) < (L.length : Int) by omega⟩
        | exact ⟨show 0 ≤ (L.length : Int) - 1 - (n : Int) by omega⟩
        | exact ⟨Nat.zero_add _⟩
        | exact ⟨show ((rdS N L n).2.length + 1) * 1 ≤ 1099511627776 by omega⟩
      all_goals
        refine ⟨n + 1, [0, 1, 2, 3], hn1, ?_, by show L.length - (n + 1) < L.length - n; omega⟩
        subst_vars
        repeat' ((conv => whnf); (first | apply And.intro | intro _))
        all_goals first | rfl | trivial | exact Nat.le_of_ble_eq_true rfl | exact ⟨rfl, rfl, rfl⟩ | exact ⟨rfl, rfl, rfl, rfl⟩ | exact ⟨rfl, rfl⟩ | exact e2 | exact e3 | exact e4 | exact e5 | (subst_vars; rfl) | exact ⟨rfl, rfl, e2⟩ | exact ⟨rfl, rfl, rfl, e3⟩
  have p0 : decide ((L.length : Int) - 1 - (n : Int) ≥ 0) = false := decide_eq_false (by omega)
  obtain rfl : n = L.length := by omega
  have hq2 : (rdS N L L.length).2.length ≤ 300 := by omega
  repeat' ((conv => whnf); (first | apply And.intro | (intro h9; first | (have h8 : (_ : Bool) = false := h9; exfalso; clear h8; revert h9; subst_vars; intro h9; exact ft_no (h9.symm.trans (by assumption))) | (have h8 : (_ : Bool) = true := h9; exfalso; clear h8; revert h9; subst_vars; intro h9; exact tf_no (h9.symm.trans (by assumption))) | skip)))
  all_goals try (conv => whnf)
  all_goals try first
    | exact LexB.mk (by kernel_rfl)
    | exact LexG.mk (by kernel_rfl)
    | exact LexT.mk (by kernel_rfl)
    | exact Forced.mk (by kernel_rfl)
    | exact LexP.mk (by kernel_rfl)
    | exact ForcedP.mk (by kernel_rfl)
    | exact ⟨Nat.le_of_ble_eq_true rfl⟩
    | exact ⟨rfl⟩
    | exact ⟨trivial⟩
  all_goals subst_vars
  all_goals try first
    | rfl
    | contradiction
    | (refine Ob.mk ?_; simp only [inRQ, inR, Duty.of_p]; omega)
  all_goals try first
    | exact ⟨show L.length ≤ 1000000 by omega⟩
    | exact ⟨show L.length ≤ 1099511627776 by omega⟩
  all_goals try first
    | exact ⟨hN⟩
    | exact ⟨ha⟩
    | exact ⟨show (L.length : Int) - 1 - (n : Int) < (L.length : Int) by omega⟩
    | exact ⟨show 0 ≤ (L.length : Int) - 1 - (n : Int) by omega⟩
    | exact ⟨Nat.zero_add _⟩
    | exact ⟨show ((rdS N L n).2.length + 1) * 1 ≤ 1099511627776 by omega⟩
  refine ⟨Nat, fun i => i ≤ (rdS N L L.length).2.length, fun i => ⟨slotsT 28 [0, 2, 3] [.a (.sl 3 [] 0 (rdS N L L.length).2.length), .a (vI i), .a (vI (((rdS N L L.length).2.length : Int) - 1 - (i : Int)))], [slotsT 35 [6] [.a (.sl 3 [] 0 (rdS N L L.length).2.length)]], [.arr 44 kL L false false, .box true [vI N, .sl 0 [] 0 L.length], .map 91 .i64 .bool (rdS N L L.length).1 true, .arr 3 kI (rvL (rdS N L L.length).2 i) true true]⟩, fun i => (rdS N L L.length).2.length - i, 0, [], Nat.zero_le _, ?_, ?_⟩
  · have e0 : (rdS N L L.length).2 = rvL (rdS N L L.length).2 0 := rv_zero
    have e3 : ((rdS N L L.length).2.length : Int) - 1 = ((rdS N L L.length).2.length : Int) - 1 - ((0 : Nat) : Int) := by omega
    subst_vars
    repeat' ((conv => whnf); (first | apply And.intro | intro _))
    all_goals first | rfl | trivial | exact Nat.le_of_ble_eq_true rfl | exact ⟨rfl, rfl, rfl⟩ | exact ⟨rfl, rfl, rfl, rfl⟩ | exact ⟨rfl, rfl⟩ | exact e0 | exact e0.symm | exact e3 | exact e3.symm | exact ⟨rfl, rfl, e0⟩
  rintro i hi
  have rl : (rvL (rdS N L L.length).2 i).length = (rdS N L L.length).2.length := rv_len
  by_cases hi1 : (i : Int) < ((rdS N L L.length).2.length : Int) - 1 - (i : Int)
  · have p1 : decide ((i : Int) < ((rdS N L L.length).2.length : Int) - 1 - (i : Int)) = true := decide_eq_true hi1
    have hj : Int.toNat (((rdS N L L.length).2.length : Int) - 1 - (i : Int)) = (rdS N L L.length).2.length - 1 - i := by omega
    have g1 : e1A (rvL (rdS N L L.length).2 i) (i : Int) = gi (rvL (rdS N L L.length).2 i) (i : Int) := e1A_eq (by omega)
    have g2 : e1A (rvL (rdS N L L.length).2 i) (((rdS N L L.length).2.length : Int) - 1 - (i : Int)) = gi (rvL (rdS N L L.length).2 i) (((rdS N L L.length).2.length - 1 - i : Nat) : Int) := by rw [e1A_eq (by omega)]; congr 1; omega
    have e1 : ((rvL (rdS N L L.length).2 i).set (0 + Int.toNat (i : Int)) (e1A (rvL (rdS N L L.length).2 i) (((rdS N L L.length).2.length : Int) - 1 - (i : Int)))).set (0 + Int.toNat (((rdS N L L.length).2.length : Int) - 1 - (i : Int))) (e1A (rvL (rdS N L L.length).2 i) (i : Int)) = rvL (rdS N L L.length).2 (i + 1) := by
      rw [g1, g2, hj, Nat.zero_add, Nat.zero_add, Int.toNat_natCast]; exact rv_swap (by omega)
    have e5 : ((rdS N L L.length).2.length : Int) - 1 - (i : Int) - 1 = ((rdS N L L.length).2.length : Int) - 1 - ((i + 1 : Nat) : Int) := by omega
    repeat' ((conv => whnf); (first | apply And.intro | (intro h9; first | (have h8 : (_ : Bool) = false := h9; exfalso; clear h8; revert h9; subst_vars; intro h9; exact ft_no (h9.symm.trans (by assumption))) | (have h8 : (_ : Bool) = true := h9; exfalso; clear h8; revert h9; subst_vars; intro h9; exact tf_no (h9.symm.trans (by assumption))) | skip)))
    all_goals try (conv => whnf)
    all_goals try first
      | exact LexB.mk (by kernel_rfl)
      | exact LexG.mk (by kernel_rfl)
      | exact LexT.mk (by kernel_rfl)
      | exact Forced.mk (by kernel_rfl)
      | exact LexP.mk (by kernel_rfl)
      | exact ForcedP.mk (by kernel_rfl)
      | exact ⟨Nat.le_of_ble_eq_true rfl⟩
      | exact ⟨rfl⟩
      | exact ⟨trivial⟩
    all_goals subst_vars
    all_goals try first
      | rfl
      | contradiction
      | (refine Ob.mk ?_; simp only [inRQ, inR, Duty.of_p]; omega)
    all_goals try first
      | exact ⟨show L.length ≤ 1000000 by omega⟩
      | exact ⟨show L.length ≤ 1099511627776 by omega⟩
      | exact ⟨show 0 ≤ (i : Int) ∧ (i : Int) < ((rdS N L L.length).2.length : Int) by omega⟩
      | exact ⟨show 0 + Int.toNat (i : Int) < (rvL (rdS N L L.length).2 i).length by omega⟩
      | exact ⟨show 0 ≤ ((rdS N L L.length).2.length : Int) - 1 - (i : Int) ∧ ((rdS N L L.length).2.length : Int) - 1 - (i : Int) < ((rdS N L L.length).2.length : Int) by omega⟩
      | exact ⟨show 0 + Int.toNat (((rdS N L L.length).2.length : Int) - 1 - (i : Int)) < (rvL (rdS N L L.length).2 i).length by omega⟩
      | exact ⟨show 0 + Int.toNat (((rdS N L L.length).2.length : Int) - 1 - (i : Int)) < ((rvL (rdS N L L.length).2 i).set (0 + Int.toNat (i : Int)) (e1A (rvL (rdS N L L.length).2 i) (((rdS N L L.length).2.length : Int) - 1 - (i : Int)))).length by rw [List.length_set]; omega⟩
      | trivial
    all_goals
      refine ⟨i + 1, [], by omega, ?_, by show (rdS N L L.length).2.length - (i + 1) < (rdS N L L.length).2.length - i; omega⟩
      subst_vars
      repeat' ((conv => whnf); (first | apply And.intro | intro _))
      all_goals first | rfl | trivial | exact Nat.le_of_ble_eq_true rfl | exact ⟨rfl, rfl, rfl⟩ | exact ⟨rfl, rfl, rfl, rfl⟩ | exact ⟨rfl, rfl⟩ | exact e1 | exact e5 | (subst_vars; rfl) | exact ⟨rfl, rfl, e1⟩
  have p1 : decide ((i : Int) < ((rdS N L L.length).2.length : Int) - 1 - (i : Int)) = false := decide_eq_false hi1
  have eR : rvL (rdS N L L.length).2 i = (rdS N L L.length).2.reverse := rv_end (by omega)
  rw [← eR] at hK
  have hK' : K ⟨[.arr 3 kI (rvL (rdS N L L.length).2 i) true true], .tup [.a (.sl 0 [] 0 (rdS N L L.length).2.length), .a (vI 0)]⟩ := by rw [← rl]; exact hK
  repeat' ((conv => whnf); (first | apply And.intro | (intro h9; first | (have h8 : (_ : Bool) = false := h9; exfalso; clear h8; revert h9; subst_vars; intro h9; exact ft_no (h9.symm.trans (by assumption))) | (have h8 : (_ : Bool) = true := h9; exfalso; clear h8; revert h9; subst_vars; intro h9; exact tf_no (h9.symm.trans (by assumption))) | skip)))
  all_goals try (conv => whnf)
  all_goals try first
    | exact LexB.mk (by kernel_rfl)
    | exact LexG.mk (by kernel_rfl)
    | exact LexT.mk (by kernel_rfl)
    | exact Forced.mk (by kernel_rfl)
    | exact LexP.mk (by kernel_rfl)
    | exact ForcedP.mk (by kernel_rfl)
    | exact ⟨Nat.le_of_ble_eq_true rfl⟩
    | exact ⟨rfl⟩
    | exact ⟨trivial⟩
  all_goals subst_vars
  all_goals try first
    | rfl
    | contradiction
    | (refine Ob.mk ?_; simp only [inRQ, inR, Duty.of_p]; omega)
  all_goals try first
    | exact ⟨show L.length ≤ 1000000 by omega⟩
    | exact ⟨show L.length ≤ 1099511627776 by omega⟩
    | exact ⟨show 0 ≤ (i : Int) ∧ (i : Int) < ((rdS N L L.length).2.length : Int) by omega⟩
    | exact ⟨show 0 + Int.toNat (i : Int) < (rvL (rdS N L L.length).2 i).length by omega⟩
    | exact ⟨show 0 ≤ ((rdS N L L.length).2.length : Int) - 1 - (i : Int) ∧ ((rdS N L L.length).2.length : Int) - 1 - (i : Int) < ((rdS N L L.length).2.length : Int) by omega⟩
    | exact ⟨show 0 + Int.toNat (((rdS N L L.length).2.length : Int) - 1 - (i : Int)) < (rvL (rdS N L L.length).2 i).length by omega⟩
    | exact ⟨show 0 + Int.toNat (((rdS N L L.length).2.length : Int) - 1 - (i : Int)) < ((rvL (rdS N L L.length).2 i).set (0 + Int.toNat (i : Int)) (e1A (rvL (rdS N L L.length).2 i) (((rdS N L L.length).2.length : Int) - 1 - (i : Int)))).length by rw [List.length_set]; omega⟩
    | trivial
  all_goals exact klC (i := 3) hK' rfl rfl)
end Go.Proofs.Ytlmhkeoblgodiaa
end
