/-
  Texts of the claims on chapter 2: Ye5. No condition: lemmas and contracts.
-/
import Derived.Test.YtlmhkeoblgodiaaYe1
import Derived.Test.YtlmhkeoblgodiaaYe2
import Derived.Test.YtlmhkeoblgodiaaMn
import Derived.Test.YtlmhkeoblgodiaaYc
set_option linter.all false
section
/-
  Chapter 2: for the laws: elements of lists, as the walk names them.
-/
namespace Go.Proofs.Ytlmhkeoblgodiaa
open Go Go.Sy Go.Chn
def e1A (X : List Int) (b : Int) : Int := @Ar.get ⟨3, kI, X⟩ (0 + Int.toNat b)
theorem e1A_eq {X : List Int} {b : Int} (h : 0 ≤ b) : e1A X b = gi X b := by
  unfold e1A; rw [Nat.zero_add]
  show gi X ((Int.toNat b : Nat) : Int) = _
  rw [Int.toNat_of_nonneg h]
def e2A (T : List (List Int)) (a b : Int) : Int := @Ar.get ⟨3, kI, @Ar.get ⟨32, kT, T⟩ (0 + Int.toNat a)⟩ (0 + Int.toNat b)
theorem e2A_eq {T : List (List Int)} {a b : Int} (h : 0 ≤ b) : e2A T a b = gi (T.getD a.toNat []) b := by
  unfold e2A; rw [Nat.zero_add, Nat.zero_add]
  show gi (T.getD a.toNat []) ((Int.toNat b : Nat) : Int) = _
  rw [Int.toNat_of_nonneg h]
def rwA (T : List (List Int)) (a : Int) : List Int := @Ar.get ⟨32, kT, T⟩ (0 + Int.toNat a)
theorem rwA_eq {T : List (List Int)} {a : Int} : rwA T a = T.getD a.toNat [] := by unfold rwA; rw [Nat.zero_add]; rfl
theorem bnd_5 {N : Int} {L : List Lk} {a b : Int} (h : (bndF N L a b).2 = 5) : askF N L [a, b] = 0 ∧ dB N L a b = Fr := by
  unfold bndF at h
  split at h
  · rename_i h1
    exfalso
    replace h : askF N L [a, b] = 5 := h
    unfold askF at h
    split at h
    · have : ∀ {N : Int} {L : List Lk}, (checkF N L).1 = 0 ∨ (checkF N L).1 = 1 ∨ (checkF N L).1 = 2 := fun {N L} => by
        unfold checkF
        split
        · exact .inr (.inl rfl)
        · split
          · exact .inr (.inr rfl)
          · have key : ∀ (L : List Lk) (i : Nat), (ckL N i L).1 = 0 ∨ (ckL N i L).1 = 1 := fun L => by
              induction L with
              | nil => exact fun _ => .inl rfl
              | cons l L ih =>
                intro i
                rw [ckL]
                split
                · exact .inr rfl
                · exact ih _
            rcases key L 0 with h | h
            · exact .inl h
            · exact .inr (.inl h)
      rcases @this N L with h2 | h2 | h2 <;> omega
    · split at h
      · cases h
      · split at h
        · cases h
        · cases h
  · rename_i h1
    split at h
    · rename_i h2
      exact ⟨by simpa using h1, h2⟩
    · cases h
end Go.Proofs.Ytlmhkeoblgodiaa
end

section
/-
  Chapter 2: exact. Printed by gen41.py.
-/
namespace Go.Proofs.Ytlmhkeoblgodiaa
open Go Go.Sy Go.Chn
set_option maxRecDepth 100000
set_option maxHeartbeats 1000000
set_option linter.unusedVariables false
set_option linter.unusedSimpArgs false
variable {Γ : Glob}
noncomputable def bs66x : List (Nat × Body) := [(88, bo Try.f88)]
theorem bs66x_ok : BsOk Try.prog bs66x := BsOk.nil.cons (body_bo Try.func88 rfl rfl)
/-- The sums of chains with one link more, from the first i links. -/
def yT (N : Nat) (L : List Lk) (x : List Int) (i : Nat) : List Int := (L.take i).foldl (mk1 (·.1) (fun l => !(gi x l.2.1 == Fr)) (fun l => l.2.2 + gi x l.2.1)) (List.replicate N Fr)
section
variable {N : Nat} {L : List Lk} {x : List Int} {i : Nat}
theorem yT_zero : List.replicate N Fr = yT N L x 0 := by simp [yT]
theorem yT_len : (yT N L x i).length = N := by unfold yT; rw [fold_len]; simp
theorem yT_skip (h : i < L.length) (hx : (gi x (lk L i).2.1 != 1152921504606846976) = false) : yT N L x i = yT N L x (i + 1) := by
  unfold yT; rw [take_lk h, List.foldl_append]
  have : (!(gi x (lk L i).2.1 == Fr)) = false := hx
  simp only [List.foldl, mk1, this]; simp
theorem yT_put (h : i < L.length) (hx : (gi x (lk L i).2.1 != 1152921504606846976) = true) : (yT N L x i).set (lk L i).1.toNat (if (lk L i).2.2 + gi x (lk L i).2.1 < gi (yT N L x i) (lk L i).1 then (lk L i).2.2 + gi x (lk L i).2.1 else gi (yT N L x i) (lk L i).1) = yT N L x (i + 1) := by
  conv => rhs; unfold yT
  rw [take_lk h, List.foldl_append]
  have : (!(gi x (lk L i).2.1 == Fr)) = true := hx
  simp only [List.foldl, mk1, this, if_true]
  have e : ∀ a b : Int, min a b = if b < a then b else a := fun a b => by split <;> omega
  rw [e]; rfl
theorem yT_end (h : L.length ≤ i) : yT N L x i = nextP N L x := by unfold yT nextP; rw [List.take_of_length_le h]
end
theorem xT_next {N : Nat} {U : List Lk} {to : Int} {k : Nat} : xT N U to (k + 1) ++ [nextP N U (exF N U to k)] = xT N U to (k + 1 + 1) := xT_succ
def lkA (L : List Lk) (i : Nat) : Lk := @Ar.get ⟨44, kL, L⟩ (0 + Int.toNat (i : Int))
theorem lkA_eq (L : List Lk) (i : Nat) : lkA L i = lk L i := by unfold lkA; rw [Nat.zero_add, Int.toNat_natCast]; rfl
def rowA (T : List (List Int)) (ix : Nat) (L : List Lk) (i : Nat) : Int := @Ar.get ⟨3, kI, @Ar.get ⟨32, kT, T⟩ ix⟩ (0 + Int.toNat (lkA L i).2.1)
theorem rowA_eq {T : List (List Int)} {ix : Nat} {L : List Lk} {i : Nat} (h : 0 ≤ (lk L i).2.1) : rowA T ix L i = gi (T.getD ix []) (lk L i).2.1 := by
  unfold rowA; rw [lkA_eq, Nat.zero_add]
  show gi (T.getD ix []) ((Int.toNat (lk L i).2.1 : Nat) : Int) = _
  rw [Int.toNat_of_nonneg h]
def yA (Y : List Int) (L : List Lk) (i : Nat) : Int := @Ar.get ⟨3, kI, Y⟩ (0 + Int.toNat (lkA L i).1)
theorem yA_eq {Y : List Int} {L : List Lk} {i : Nat} (h : 0 ≤ (lk L i).1) : yA Y L i = gi Y (lk L i).1 := by
  unfold yA; rw [lkA_eq, Nat.zero_add]
  show gi Y ((Int.toNat (lk L i).1 : Nat) : Int) = _
  rw [Int.toNat_of_nonneg h]
theorem xT_1 {N : Nat} {U : List Lk} {to : Int} : [((List.replicate N Fr).set to.toNat 0 : List Int)] = xT N U to (0 + 1) := rfl
attribute [local irreducible] gi lk xT exF
def c66 : Ctr := newSnn (fun N L to m => [(Duty.of (N = N.toNat)), askD N.toNat L, (Duty.of (0 ≤ to)), (Duty.of (to < N.toNat)), (Duty.of (m = m.toNat)), (Duty.of (m.toNat ≤ 60))]) (fun N L to m => ⟨[.arr 32 kT (xT N.toNat L to (m.toNat + 1)) true true], .a (.sl 0 [] 0 (m.toNat + 1))⟩)
theorem c66_ok : Ctr.Ok Try.prog Γ 66 c66 := newSnn_ok (d := 1) (prog_ok CsOk.nil bs66x_ok false 0) (body_of Try.func66 rfl rfl) (by
  intro N L to m K ⟨hN, ha, ht0, ht1, hm, hm60, _⟩ hK
  replace ha : AskL N.toNat L := ha
  simp only [Duty.of_p] at hN ht0 ht1 hm hm60
  have hn := ha.n
  repeat' ((conv => whnf); (first | apply And.intro | intro _))
  all_goals try (conv => whnf)
  all_goals try exact LexB.mk (by kernel_rfl)
  all_goals try exact ⟨Nat.le_of_ble_eq_true rfl⟩
  all_goals try exact ⟨rfl⟩
  all_goals try (refine Ob.mk ?_; (try simp only [Duty.of_p, inRQ]); subst_vars; (try simp only [getL, getI, getB, castL_rfl] at *); (try dsimp only [kL, kI, Tup, CK.ty] at *); (try simp only [getL, getI, getB, gi_nn, castL_rfl, Nat.zero_add, Nat.add_zero, Nat.sub_zero, Int.toNat_natCast, List.length_set, List.length_replicate, List.length_cons, List.length_nil, decide_eq_true_eq, decide_eq_false_iff_not, cap40, inR] at *); (all_goals first | omega | (split <;> omega)))
  all_goals subst_vars
  refine ⟨Nat, fun i => i ≤ N.toNat, fun i => ⟨slotsT 45 [1, 2, 3, 7, 15, 16] [.a (vI to), .a (vI m), .a (.p 1 [] 0 0), .a (.sl 2 [] 0 N.toNat), .a (vI N.toNat), .a (vI i)], [], [.arr 44 kL L false false, .box true [vI N, .sl 0 [] 0 L.length], .arr 3 kI (fillF N.toNat i) true true]⟩, fun i => N.toNat - i, 0, [], Nat.zero_le _, ?_, ?_⟩
  · have e0 : List.replicate N.toNat (0 : Int) = fillF N.toNat 0 := (fill_zero N.toNat).symm
    repeat' ((conv => whnf); (first | apply And.intro | intro _))
    all_goals first | rfl | trivial | exact Nat.le_of_ble_eq_true rfl | exact ⟨rfl, rfl, rfl⟩ | exact ⟨rfl, rfl, rfl, rfl⟩ | exact ⟨rfl, rfl⟩ | exact e0 | exact e0.symm | exact ⟨rfl, rfl, e0⟩
  rintro i hi
  have hfl : (fillF N.toNat i).length = N.toNat := fill_len hi
  repeat' ((conv => whnf); (first | apply And.intro | intro _))
  all_goals try (conv => whnf)
  all_goals try exact LexB.mk (by kernel_rfl)
  all_goals try exact ⟨Nat.le_of_ble_eq_true rfl⟩
  all_goals try exact ⟨rfl⟩
  all_goals try (refine Ob.mk ?_; (try simp only [Duty.of_p, inRQ]); subst_vars; (try simp only [getL, getI, getB, castL_rfl] at *); (try dsimp only [kL, kI, Tup, CK.ty] at *); (try simp only [getL, getI, getB, gi_nn, castL_rfl, Nat.zero_add, Nat.add_zero, Nat.sub_zero, Int.toNat_natCast, List.length_set, List.length_replicate, List.length_cons, List.length_nil, decide_eq_true_eq, decide_eq_false_iff_not, cap40, inR] at *); (all_goals first | omega | (split <;> omega)))
  all_goals subst_vars
  · have hi1 : i < N.toNat := by have := of_decide_eq_true ‹decide ((i : Int) < (N.toNat : Int)) = true›; omega
    have e1 : (fillF N.toNat i).set (0 + Int.toNat (i : Int)) 1152921504606846976 = fillF N.toNat (i + 1) := by rw [Nat.zero_add]; exact fill_set hi1
    refine ⟨i + 1, [], hi1, ?_, by show N.toNat - (i + 1) < N.toNat - i; omega⟩
    repeat' ((conv => whnf); (first | apply And.intro | intro _))
    all_goals first | rfl | trivial | exact Nat.le_of_ble_eq_true rfl | exact ⟨rfl, rfl, rfl⟩ | exact ⟨rfl, rfl, rfl, rfl⟩ | exact ⟨rfl, rfl⟩ | exact e1 | exact e1.symm | exact ⟨rfl, rfl, e1⟩
  have hiN : i = N.toNat := by have := of_decide_eq_false ‹decide ((i : Int) < (N.toNat : Int)) = false›; omega
  have e0 : [((fillF N.toNat i).set (0 + to.toNat) 0 : List Int)] = xT N.toNat L to (0 + 1) := by rw [hiN, fill_all, Nat.zero_add]; exact xT_1
  have hm1 : ((m.toNat : Nat) : Int) = m := by omega
  refine ⟨Nat, fun k => k ≤ m.toNat, fun k => ⟨slotsT 45 [9, 10, 29, 30] [.a (.sl 3 [] 0 (k + 1)), .a (.fn 88 [1]), .a (vI m), .a (vI k)], [], [.arr 44 kL L false false, .box true [vI N, .sl 0 [] 0 L.length], .dead, .arr 32 kT (xT N.toNat L to (k + 1)) true true]⟩, fun k => m.toNat - k, 0, [], Nat.zero_le _, ?_, ?_⟩
  · repeat' ((conv => whnf); (first | apply And.intro | intro _))
    all_goals first | rfl | trivial | exact Nat.le_of_ble_eq_true rfl | exact ⟨rfl, rfl, rfl⟩ | exact ⟨rfl, rfl, rfl, rfl⟩ | exact ⟨rfl, rfl⟩ | exact e0 | exact e0.symm | (rename_i r hr; obtain rfl := List.mem_singleton.1 hr; exact Nat.le_of_ble_eq_true rfl) | exact ⟨rfl, rfl, e0⟩
  rintro k hk
  have hxl : (xT N.toNat L to (k + 1)).length = k + 1 := xT_len
  repeat' ((conv => whnf); (first | apply And.intro | intro _))
  all_goals try (conv => whnf)
  all_goals try exact LexB.mk (by kernel_rfl)
  all_goals try exact ⟨Nat.le_of_ble_eq_true rfl⟩
  all_goals try exact ⟨rfl⟩
  all_goals try (refine Ob.mk ?_; (try simp only [Duty.of_p, inRQ]); subst_vars; (try simp only [getL, getI, getB, castL_rfl] at *); (try dsimp only [kL, kI, Tup, CK.ty] at *); (try simp only [getL, getI, getB, gi_nn, castL_rfl, Nat.zero_add, Nat.add_zero, Nat.sub_zero, Int.toNat_natCast, List.length_set, List.length_replicate, List.length_cons, List.length_nil, decide_eq_true_eq, decide_eq_false_iff_not, cap40, inR] at *); (all_goals first | omega | (split <;> omega)))
  all_goals subst_vars
  · have hk1 : k < m.toNat := by have := of_decide_eq_true ‹decide ((k : Int) < m) = true›; omega
    exact ⟨show 0 + Int.toNat (((k + 1 : Nat) : Int) - 1) < (xT N.toNat L to (k + 1)).length by rw [hxl]; omega⟩
  · have hk1 : k < m.toNat := by have := of_decide_eq_true ‹decide ((k : Int) < m) = true›; omega
    have hix : (0 + Int.toNat (((k + 1 : Nat) : Int) - 1)) = k := by omega
    have hrow : (@Ar.get ⟨32, kT, xT N.toNat L to (k + 1)⟩ (0 + Int.toNat (((k + 1 : Nat) : Int) - 1)) : List Int) = exF N.toNat L to k := by rw [hix]; exact xT_get (Nat.lt_succ_self k)
    have hex := exF_ex ha.ok (to := to) ⟨ht0, ht1⟩ (k := k) (by omega)
    have hrl := exF_len (N := N.toNat) (U := L) (to := to) (k := k)
    refine ⟨Nat, fun j => j ≤ N.toNat, fun j => ⟨slotsT 53 [0, 1, 4, 12, 13] [.a (.sl 3 [((0 + Int.toNat (((k + 1 : Nat) : Int) - 1)), 0)] 0 (List.length (@Ar.get ⟨32, kT, xT N.toNat L to (k + 1)⟩ (0 + Int.toNat (((k + 1 : Nat) : Int) - 1))))), .a (.p 1 [] 0 0), .a (.sl 4 [] 0 N.toNat), .a (vI N.toNat), .a (vI j)], [slotsT 45 [9, 10, 29, 30, 32] [.a (.sl 3 [] 0 (k + 1)), .a (.fn 88 [1]), .a (vI m), .a (vI k), .a (.sl 3 [] 0 (k + 1))]], [.arr 44 kL L false false, .box true [vI N, .sl 0 [] 0 L.length], .dead, .arr 32 kT (xT N.toNat L to (k + 1)) true true, .arr 3 kI (fillF N.toNat j) true true]⟩, fun j => N.toNat - j, 0, [], Nat.zero_le _, ?_, ?_⟩
    · have e0 : List.replicate N.toNat (0 : Int) = fillF N.toNat 0 := (fill_zero N.toNat).symm
      repeat' ((conv => whnf); (first | apply And.intro | intro _))
      all_goals first | rfl | trivial | exact Nat.le_of_ble_eq_true rfl | exact ⟨rfl, rfl, rfl⟩ | exact ⟨rfl, rfl, rfl, rfl⟩ | exact ⟨rfl, rfl⟩ | exact e0 | exact e0.symm | exact ⟨rfl, rfl, e0⟩ | (rename_i r hr; obtain rfl := List.mem_singleton.1 hr; exact Nat.le_of_ble_eq_true rfl)
    rintro j hj
    have hfl2 : (fillF N.toNat j).length = N.toNat := fill_len hj
    repeat' ((conv => whnf); (first | apply And.intro | intro _))
    all_goals try (conv => whnf)
    all_goals try exact LexB.mk (by kernel_rfl)
    all_goals try exact ⟨Nat.le_of_ble_eq_true rfl⟩
    all_goals try exact ⟨rfl⟩
    all_goals try (refine Ob.mk ?_; (try simp only [Duty.of_p, inRQ]); subst_vars; (try simp only [getL, getI, getB, castL_rfl] at *); (try dsimp only [kL, kI, Tup, CK.ty] at *); (try simp only [getL, getI, getB, gi_nn, castL_rfl, Nat.zero_add, Nat.add_zero, Nat.sub_zero, Int.toNat_natCast, List.length_set, List.length_replicate, List.length_cons, List.length_nil, decide_eq_true_eq, decide_eq_false_iff_not, cap40, inR] at *); (all_goals first | omega | (split <;> omega)))
    all_goals subst_vars
    · have hj1 : j < N.toNat := by have := of_decide_eq_true ‹decide ((j : Int) < (N.toNat : Int)) = true›; omega
      have e1 : (fillF N.toNat j).set (0 + Int.toNat (j : Int)) 1152921504606846976 = fillF N.toNat (j + 1) := by rw [Nat.zero_add]; exact fill_set hj1
      refine ⟨j + 1, [], hj1, ?_, by show N.toNat - (j + 1) < N.toNat - j; omega⟩
      repeat' ((conv => whnf); (first | apply And.intro | intro _))
      all_goals first | rfl | trivial | exact Nat.le_of_ble_eq_true rfl | exact ⟨rfl, rfl, rfl⟩ | exact ⟨rfl, rfl, rfl, rfl⟩ | exact ⟨rfl, rfl⟩ | exact e1 | exact e1.symm | (rename_i r hr; obtain rfl := List.mem_singleton.1 hr; exact Nat.le_of_ble_eq_true rfl) | exact ⟨rfl, rfl, e1⟩
    have hjN : j = N.toNat := by have := of_decide_eq_false ‹decide ((j : Int) < (N.toNat : Int)) = false›; omega
    have e0 : fillF N.toNat j = yT N.toNat L (exF N.toNat L to k) 0 := by rw [hjN, fill_all]; exact yT_zero
    refine ⟨Nat, fun i => i ≤ L.length, fun i => ⟨slotsT 53 [0, 1, 4, 21, 22, 23] [.a (.sl 3 [((0 + Int.toNat (((k + 1 : Nat) : Int) - 1)), 0)] 0 (List.length (@Ar.get ⟨32, kT, xT N.toNat L to (k + 1)⟩ (0 + Int.toNat (((k + 1 : Nat) : Int) - 1))))), .a (.p 1 [] 0 0), .a (.sl 4 [] 0 N.toNat), .a (.sl 0 [] 0 L.length), .a (vI L.length), .a (vI i)], [slotsT 45 [9, 10, 29, 30, 32] [.a (.sl 3 [] 0 (k + 1)), .a (.fn 88 [1]), .a (vI m), .a (vI k), .a (.sl 3 [] 0 (k + 1))]], [.arr 44 kL L false false, .box true [vI N, .sl 0 [] 0 L.length], .dead, .arr 32 kT (xT N.toNat L to (k + 1)) true true, .arr 3 kI (yT N.toNat L (exF N.toNat L to k) i) true true]⟩, fun i => L.length - i, 0, [], Nat.zero_le _, ?_, ?_⟩
    · repeat' ((conv => whnf); (first | apply And.intro | intro _))
      all_goals first | rfl | trivial | exact Nat.le_of_ble_eq_true rfl | exact ⟨rfl, rfl, rfl⟩ | exact ⟨rfl, rfl, rfl, rfl⟩ | exact ⟨rfl, rfl⟩ | exact e0 | exact e0.symm | (rename_i r hr; obtain rfl := List.mem_singleton.1 hr; exact Nat.le_of_ble_eq_true rfl) | exact ⟨rfl, rfl, e0⟩
    rintro i hi
    have hyl : (yT N.toNat L (exF N.toNat L to k) i).length = N.toNat := yT_len
    have hrlen : (List.length (@Ar.get ⟨32, kT, (xT N.toNat L to (k + 1))⟩ (0 + Int.toNat (((k + 1 : Nat) : Int) - 1)))) = N.toNat := by rw [hix]; exact (congrArg List.length (xT_get (Nat.lt_succ_self k))).trans hrl
    by_cases hi1 : i < L.length
    · have q0 : decide ((i : Int) < (L.length : Int)) = true := decide_eq_true (by omega)
      have hll := ha.l
      have hnd := ha.ok.nd _ (lk_mem' hi1)
      have hms := ha.ok.ms _ (lk_mem' hi1)
      have hA := lkA_eq L i
      have hR : rowA (xT N.toNat L to (k + 1)) (0 + Int.toNat (((k + 1 : Nat) : Int) - 1)) L i = gi (exF N.toNat L to k) (lk L i).2.1 := by rw [rowA_eq hnd.2.1, hix, xT_get (Nat.lt_succ_self k)]
      have hY : yA (yT N.toNat L (exF N.toNat L to k) i) L i = gi (yT N.toNat L (exF N.toNat L to k) i) (lk L i).1 := yA_eq hnd.1.1
      cases hu : (rowA (xT N.toNat L to (k + 1)) (0 + Int.toNat (((k + 1 : Nat) : Int) - 1)) L i != 1152921504606846976)
      · have hu' := hu
        rw [hR] at hu'
        have e1 := yT_skip (N := N.toNat) hi1 hu'
        repeat' ((conv => whnf); (first | apply And.intro | (intro h9; first | (have h8 : (_ : Bool) = false := h9; exfalso; clear h8; revert h9; subst_vars; intro h9; exact ft_no (h9.symm.trans (by assumption))) | (have h8 : (_ : Bool) = true := h9; exfalso; clear h8; revert h9; subst_vars; intro h9; exact tf_no (h9.symm.trans (by assumption))) | skip)))
        all_goals try (conv => whnf)
        all_goals try first
          | exact LexB.mk (by kernel_rfl)
          | exact LexG.mk (by kernel_rfl)
          | exact Forced.mk (by kernel_rfl)
          | exact ⟨Nat.le_of_ble_eq_true rfl⟩
          | exact ⟨rfl⟩
        all_goals subst_vars
        all_goals try first
          | (refine Ob.mk ?_; simp only [inRQ, inR, Duty.of_p]; omega)
          | exact ⟨show 0 ≤ (i : Int) ∧ (i : Int) < (L.length : Int) by omega⟩
          | exact ⟨show 0 + Int.toNat (i : Int) < L.length by omega⟩
          | exact ⟨show (0 + Int.toNat (((k + 1 : Nat) : Int) - 1)) < (xT N.toNat L to (k + 1)).length by rw [hxl]; omega⟩
          | exact ⟨show 0 ≤ (lkA L i).2.1 ∧ (lkA L i).2.1 < ((List.length (@Ar.get ⟨32, kT, (xT N.toNat L to (k + 1))⟩ (0 + Int.toNat (((k + 1 : Nat) : Int) - 1)))) : Int) by rw [hA, hrlen]; exact hnd.2⟩
          | exact ⟨show 0 + Int.toNat (lkA L i).2.1 < (List.length (@Ar.get ⟨32, kT, (xT N.toNat L to (k + 1))⟩ (0 + Int.toNat (((k + 1 : Nat) : Int) - 1)))) by rw [hA, hrlen]; have := hnd.2; omega⟩
          | exact ⟨show 0 ≤ (lkA L i).1 ∧ (lkA L i).1 < (N.toNat : Int) by rw [hA]; exact hnd.1⟩
          | exact ⟨show 0 + Int.toNat (lkA L i).1 < (yT N.toNat L (exF N.toNat L to k) i).length by rw [hA, hyl]; have := hnd.1; omega⟩
          | (refine Ob.mk ?_; subst_vars; show (inRQ .i64 ((lkA L i).2.2 + rowA (xT N.toNat L to (k + 1)) (0 + Int.toNat (((k + 1 : Nat) : Int) - 1)) L i)).p; rw [hR, hA]; simp only [inRQ, inR, Duty.of_p]; omega)
        all_goals
          refine ⟨i + 1, [0, 1, 2, 3, 4], hi1, ?_, by show L.length - (i + 1) < L.length - i; omega⟩
          subst_vars
          repeat' ((conv => whnf); (first | apply And.intro | intro _))
          all_goals first | rfl | trivial | exact Nat.le_of_ble_eq_true rfl | exact ⟨rfl, rfl, rfl⟩ | exact ⟨rfl, rfl, rfl, rfl⟩ | exact ⟨rfl, rfl⟩ | exact e1 | exact e1.symm | (rename_i r hr; obtain rfl := List.mem_singleton.1 hr; exact Nat.le_of_ble_eq_true rfl) | (subst_vars; rfl) | exact ⟨rfl, rfl, e1⟩
      · have hu' := hu
        rw [hR] at hu'
        have e1 : (yT N.toNat L (exF N.toNat L to k) i).set (0 + Int.toNat (lkA L i).1) (if (lkA L i).2.2 + rowA (xT N.toNat L to (k + 1)) (0 + Int.toNat (((k + 1 : Nat) : Int) - 1)) L i < yA (yT N.toNat L (exF N.toNat L to k) i) L i then (lkA L i).2.2 + rowA (xT N.toNat L to (k + 1)) (0 + Int.toNat (((k + 1 : Nat) : Int) - 1)) L i else yA (yT N.toNat L (exF N.toNat L to k) i) L i) = yT N.toNat L (exF N.toNat L to k) (i + 1) := by
          rw [hR, hY, hA, Nat.zero_add]; exact yT_put hi1 hu'
        have hbd := (hex _ hnd.2).bound ha.ok (by unfold Fr; simpa using hu')
        repeat' ((conv => whnf); (first | apply And.intro | (intro h9; first | (have h8 : (_ : Bool) = false := h9; exfalso; clear h8; revert h9; subst_vars; intro h9; exact ft_no (h9.symm.trans (by assumption))) | (have h8 : (_ : Bool) = true := h9; exfalso; clear h8; revert h9; subst_vars; intro h9; exact tf_no (h9.symm.trans (by assumption))) | skip)))
        all_goals try (conv => whnf)
        all_goals try first
          | exact LexB.mk (by kernel_rfl)
          | exact LexG.mk (by kernel_rfl)
          | exact Forced.mk (by kernel_rfl)
          | exact ⟨Nat.le_of_ble_eq_true rfl⟩
          | exact ⟨rfl⟩
        all_goals subst_vars
        all_goals try first
          | (refine Ob.mk ?_; simp only [inRQ, inR, Duty.of_p]; omega)
          | exact ⟨show 0 ≤ (i : Int) ∧ (i : Int) < (L.length : Int) by omega⟩
          | exact ⟨show 0 + Int.toNat (i : Int) < L.length by omega⟩
          | exact ⟨show (0 + Int.toNat (((k + 1 : Nat) : Int) - 1)) < (xT N.toNat L to (k + 1)).length by rw [hxl]; omega⟩
          | exact ⟨show 0 ≤ (lkA L i).2.1 ∧ (lkA L i).2.1 < ((List.length (@Ar.get ⟨32, kT, (xT N.toNat L to (k + 1))⟩ (0 + Int.toNat (((k + 1 : Nat) : Int) - 1)))) : Int) by rw [hA, hrlen]; exact hnd.2⟩
          | exact ⟨show 0 + Int.toNat (lkA L i).2.1 < (List.length (@Ar.get ⟨32, kT, (xT N.toNat L to (k + 1))⟩ (0 + Int.toNat (((k + 1 : Nat) : Int) - 1)))) by rw [hA, hrlen]; have := hnd.2; omega⟩
          | exact ⟨show 0 ≤ (lkA L i).1 ∧ (lkA L i).1 < (N.toNat : Int) by rw [hA]; exact hnd.1⟩
          | exact ⟨show 0 + Int.toNat (lkA L i).1 < (yT N.toNat L (exF N.toNat L to k) i).length by rw [hA, hyl]; have := hnd.1; omega⟩
          | (refine Ob.mk ?_; subst_vars; show (inRQ .i64 ((lkA L i).2.2 + rowA (xT N.toNat L to (k + 1)) (0 + Int.toNat (((k + 1 : Nat) : Int) - 1)) L i)).p; rw [hR, hA]; simp only [inRQ, inR, Duty.of_p]; omega)
        all_goals
          refine ⟨i + 1, [0, 1, 2, 3, 4], hi1, ?_, by show L.length - (i + 1) < L.length - i; omega⟩
          subst_vars
          repeat' ((conv => whnf); (first | apply And.intro | intro _))
          all_goals first | rfl | trivial | exact Nat.le_of_ble_eq_true rfl | exact ⟨rfl, rfl, rfl⟩ | exact ⟨rfl, rfl, rfl, rfl⟩ | exact ⟨rfl, rfl⟩ | exact e1 | exact e1.symm | (rename_i r hr; obtain rfl := List.mem_singleton.1 hr; exact Nat.le_of_ble_eq_true rfl) | (subst_vars; rfl) | exact ⟨rfl, rfl, e1⟩
    · have q0 : decide ((i : Int) < (L.length : Int)) = false := decide_eq_false (by omega)
      have e2 : List.drop 0 (xT N.toNat L to (k + 1)) ++ [(yT N.toNat L (exF N.toNat L to k) i)] = xT N.toNat L to (k + 1 + 1) := by rw [yT_end (by omega)]; exact xT_next
      repeat' ((conv => whnf); (first | apply And.intro | (intro h9; first | (have h8 : (_ : Bool) = false := h9; exfalso; clear h8; revert h9; subst_vars; intro h9; exact ft_no (h9.symm.trans (by assumption))) | (have h8 : (_ : Bool) = true := h9; exfalso; clear h8; revert h9; subst_vars; intro h9; exact tf_no (h9.symm.trans (by assumption))) | skip)))
      all_goals try (conv => whnf)
      all_goals try first
        | exact LexB.mk (by kernel_rfl)
        | exact LexG.mk (by kernel_rfl)
        | exact Forced.mk (by kernel_rfl)
        | exact ⟨Nat.le_of_ble_eq_true rfl⟩
        | exact ⟨rfl⟩
      all_goals subst_vars
      all_goals try first
        | (refine Ob.mk ?_; simp only [inRQ, inR, Duty.of_p]; omega)
        | exact ⟨show N.toNat = (yT N.toNat L (exF N.toNat L to k) i).length from hyl.symm⟩
        | exact ⟨show 0 + (k + 1) = (xT N.toNat L to (k + 1)).length by rw [hxl]; omega⟩
        | exact ⟨show (k + 1 + 1) * 1 ≤ 1099511627776 by omega⟩
      all_goals
        refine ⟨k + 1, [0, 1, 2, 3], hk1, ?_, by show m.toNat - (k + 1) < m.toNat - k; omega⟩
        subst_vars
        repeat' ((conv => whnf); (first | apply And.intro | intro _))
        all_goals first | rfl | trivial | exact Nat.le_of_ble_eq_true rfl | exact ⟨rfl, rfl, rfl⟩ | exact ⟨rfl, rfl, rfl, rfl⟩ | exact ⟨rfl, rfl⟩ | exact e2 | exact e2.symm | (rename_i r hr; obtain rfl := List.mem_singleton.1 hr; exact Nat.le_of_ble_eq_true rfl) | (subst_vars; rfl) | exact ⟨rfl, rfl, e2⟩
  · have hkm : k = m.toNat := by have := of_decide_eq_false ‹decide ((k : Int) < m) = false›; omega
    subst hkm
    exact kl1 (i := 3) hK rfl rfl)
end Go.Proofs.Ytlmhkeoblgodiaa
end

section
/-
  Chapter 2: follow. Printed by gen52.py.
-/
namespace Go.Proofs.Ytlmhkeoblgodiaa
open Go Go.Sy Go.Chn
set_option maxRecDepth 100000
set_option maxHeartbeats 1000000
set_option linter.unusedVariables false
set_option linter.unusedSimpArgs false
variable {Γ : Glob}
def fT (T : List (List Int)) (j : Nat) : List Int := T.getD j []
/-- A table of chains of just so many links. -/
def xtP (N : Nat) (L : List Lk) (T : List (List Int)) : Prop := ∃ to, inN N to ∧ T = xT N L to T.length ∧ T.length ≤ 61
noncomputable def xtD (N : Nat) (L : List Lk) (T : List (List Int)) : Duty := ⟨xtP N L T, @Decidable.decide _ (Classical.propDecidable _), @decide_eq_true_iff _ (Classical.propDecidable _)⟩
theorem kl1E {te : TypeId} {tg : List CK} (htg : tg ≠ []) {K : Res → Prop} {x : Tm} {st : St} (hK : K ⟨[.arr te tg [] true true], .a (.sl 0 [] 0 0)⟩) (hx : x.mapA (At.vd st.rg.length) = .a (.sl st.rg.length [] 0 0)) : resW K x st := by
  refine .void te tg htg ?_
  rw [hx]
  refine .base ⟨_, [st.rg.length], hK, ⟨?_, rfl, by simp, trivial⟩, rfl, ?_⟩
  · simp [St.push, List.getD]
  · exact ⟨rfl, rfl, rfl, rfl⟩
section
variable {N : Nat} {L : List Lk} {T : List (List Int)} {good : Int → Bool} {i j K : Nat} {a s f : Int}
theorem xt_row (h : xtP N L T) (ha : AskL N L) (hj : j < T.length) : (fT T j).length = N ∧ ∀ v, inN N v → gi (fT T j) v ≠ Fr → -270215977642229760 ≤ gi (fT T j) v ∧ gi (fT T j) v ≤ 270215977642229760 := by
  obtain ⟨to, h1, h2, h3⟩ := h
  have e : fT T j = exF N L to j := by unfold fT; rw [h2]; exact xT_get hj
  rw [e]
  refine ⟨exF_len, fun v hv hf => ?_⟩
  have := (exF_ex ha.ok h1 (k := j) (by omega) v hv).bound ha.ok hf
  omega
theorem hitF_eq {row : List Int} {l : Lk} : hitF row a s good l = ((l.1 == a) && (gi row l.2.1 != Fr) && good (s + l.2.2 + gi row l.2.1)) := rfl
theorem fd_go {row : List Int} (h : i < L.length) (hb : hitF row a s good (lk L i) = false) : findF row a s good i (L.drop i) = findF row a s good (i + 1) (L.drop (i + 1)) := by
  rw [drop_lk h, findF, if_neg (by rw [hb]; simp)]
theorem fd_hit {row : List Int} (h : i < L.length) (hb : hitF row a s good (lk L i) = true) : findF row a s good i (L.drop i) = some (i, lk L i) := by
  rw [drop_lk h, findF, if_pos hb]
theorem fd_end {row : List Int} (h : L.length ≤ i) : findF row a s good i (L.drop i) = none := by
  rw [List.drop_eq_nil_of_le h]; rfl
/-- What holds between the rounds of follow: so many links are left, from this node, this sum is reached, this is the list. -/
structure FolI (N : Nat) (L : List Lk) (T : List (List Int)) (good : Int → Bool) (K : Nat) (f : Int) (p : Nat × Int × Int × List Int) : Prop where
  j : p.1 ≤ K
  a : inN N p.2.1
  s : -(4503599627370496 * ((K - p.1 : Nat) : Int)) ≤ p.2.2.1 ∧ p.2.2.1 ≤ 4503599627370496 * ((K - p.1 : Nat) : Int)
  l : p.2.2.2.length ≤ K - p.1
  e : p.2.2.2 ++ folF L (fT T) good p.1 p.2.1 p.2.2.1 = folF L (fT T) good K f 0
theorem FolI.zero (hf : inN N f) : FolI N L T good K f (K, f, 0, []) := ⟨Nat.le_refl _, hf, by simp, by simp, rfl⟩
theorem FolI.miss {acc : List Int} (h : FolI N L T good K f (j + 1, a, s, acc)) (hf : findF (fT T j) a s good 0 L = none) : FolI N L T good K f (j, a, s, acc) := by
  have hj := h.j
  have hs := h.s
  have hl := h.l
  have he := h.e
  simp only at hj hs hl he
  refine ⟨by show j ≤ K; omega, h.a, by show _ ≤ s ∧ s ≤ _; simp only; omega, by show acc.length ≤ K - j; omega, ?_⟩
  rw [folF, hf] at he
  exact he
theorem FolI.hit {acc : List Int} (h : FolI N L T good K f (j + 1, a, s, acc)) (hn : inN N (lk L i).2.1) (hm : -4503599627370496 ≤ (lk L i).2.2 ∧ (lk L i).2.2 ≤ 4503599627370496) (hf : findF (fT T j) a s good 0 L = some (i, lk L i)) : FolI N L T good K f (j, (lk L i).2.1, s + (lk L i).2.2, acc ++ [(i : Int)]) := by
  have hj := h.j
  have hs := h.s
  have hl := h.l
  have he := h.e
  simp only at hj hs hl he
  refine ⟨by show j ≤ K; omega, hn, by show _ ≤ s + (lk L i).2.2 ∧ s + (lk L i).2.2 ≤ _; simp only; omega, by show (acc ++ [(i : Int)]).length ≤ K - j; simp; omega, ?_⟩
  rw [folF, hf] at he
  show (acc ++ [(i : Int)]) ++ _ = _
  rw [List.append_assoc]; exact he
theorem FolI.end {acc : List Int} (h : FolI N L T good K f (0, a, s, acc)) : acc = folF L (fT T) good K f 0 := by
  have := h.e
  simpa [folF] using this
end
attribute [local irreducible] gi lk folF findF hitF
theorem w68a {N : Nat} {L : List Lk} {T : List (List Int)} {f : Int} {k : Nat} (ha : AskL N L) (hT : xtP N L T) (hf : inN N f) (hk : k ≤ T.length) {K : Res → Prop}
    (hK : K ⟨[.arr 3 kI (folF L (fT T) (fun s => decide (s < 0)) k f 0) true true], .a (.sl 0 [] 0 (folF L (fT T) (fun s => decide (s < 0)) k f 0).length)⟩) : evTop (tabs.env csB [] false 0) 0 (bo Try.f68) [.agg [vI N, .sl 0 [] 0 L.length], .a (vI f), .a (vI k), .a (.sl 1 [] 0 T.length), .a (.fn 67 [])] [.arr 44 kL L false false, .arr 32 kT T false false] (resW K) := by
  have hn := ha.n
  have hll := ha.l
  have hT61 : T.length ≤ 61 := by obtain ⟨_, _, _, h⟩ := hT; exact h
  repeat' ((conv => whnf); (first | apply And.intro | intro _))
  all_goals try (conv => whnf)
  all_goals try exact LexB.mk (by kernel_rfl)
  all_goals try exact ⟨rfl⟩
  all_goals try exact ⟨trivial⟩
  refine ⟨Nat × Int × Int × List Int, FolI N L T (fun s => decide (s < 0)) k f, fun p => ⟨slotsT 73 [1, 2, 3, 4, 5, 11, 12] [.a (vI p.2.1), .a (vI p.1), .a (.sl 1 [] 0 T.length), .a (.fn 67 []), .a (.p 2 [] 0 0), .a (.sl 3 [] 0 p.2.2.2.length), .a (vI p.2.2.1)], [], [.arr 44 kL L false false, .arr 32 kT T false false, .box true [vI N, .sl 0 [] 0 L.length], .arr 3 kI p.2.2.2 true true]⟩, fun p => p.1, (k, f, 0, []), [0, 1, 2, 1000], .zero hf, ?_, ?_⟩
  · repeat' ((conv => whnf); (first | apply And.intro | intro _))
    all_goals first | rfl | trivial | exact Nat.le_of_ble_eq_true rfl | exact ⟨rfl, rfl, rfl⟩ | exact ⟨rfl, rfl, rfl, rfl⟩ | exact ⟨rfl, rfl⟩ | (rename_i r hr; cases hr)
  rintro ⟨j, a, s, acc⟩ hI
  have hIj := hI.j
  have hIl := hI.l
  have hIs := hI.s
  simp only at hIj hIl hIs
  cases j with
  | zero =>
    have q0 : decide (((0 : Nat) : Int) > 0) = false := rfl
    rw [← hI.end] at hK
    repeat' ((conv => whnf); (first | apply And.intro | (intro h9; first | (have h8 : (_ : Bool) = false := h9; exfalso; clear h8; revert h9; subst_vars; intro h9; exact ft_no (h9.symm.trans (by assumption))) | (have h8 : (_ : Bool) = true := h9; exfalso; clear h8; revert h9; subst_vars; intro h9; exact tf_no (h9.symm.trans (by assumption))) | skip)))
    all_goals try (conv => whnf)
    all_goals try exact LexB.mk (by kernel_rfl)
    all_goals exact kl1 (i := 3) hK rfl rfl
  | succ j =>
    have q0 : decide (((j + 1 : Nat) : Int) > 0) = true := decide_eq_true (by omega)
    repeat' ((conv => whnf); (first | apply And.intro | (intro h9; first | (have h8 : (_ : Bool) = false := h9; exfalso; clear h8; revert h9; subst_vars; intro h9; exact ft_no (h9.symm.trans (by assumption))) | (have h8 : (_ : Bool) = true := h9; exfalso; clear h8; revert h9; subst_vars; intro h9; exact tf_no (h9.symm.trans (by assumption))) | skip)))
    all_goals try (conv => whnf)
    all_goals try exact LexB.mk (by kernel_rfl)
    obtain ⟨hrl, hrb⟩ := xt_row hT ha (j := j) (by omega)
    refine ⟨Nat, fun i => i ≤ L.length ∧ findF (fT T j) a s (fun s => decide (s < 0)) 0 L = findF (fT T j) a s (fun s => decide (s < 0)) i (L.drop i), fun i => ⟨slotsT 73 [1, 2, 3, 4, 5, 11, 12, 20, 21, 22] [.a (vI a), .a (vI ((j + 1 : Nat) : Int)), .a (.sl 1 [] 0 T.length), .a (.fn 67 []), .a (.p 2 [] 0 0), .a (.sl 3 [] 0 acc.length), .a (vI s), .a (.sl 0 [] 0 L.length), .a (vI L.length), .a (vI i)], [], [.arr 44 kL L false false, .arr 32 kT T false false, .box true [vI N, .sl 0 [] 0 L.length], .arr 3 kI acc true true]⟩, fun i => L.length - i, 0, [], ⟨Nat.zero_le _, rfl⟩, ?_, ?_⟩
    · subst_vars
      repeat' ((conv => whnf); (first | apply And.intro | intro _))
      all_goals first | rfl | trivial | exact Nat.le_of_ble_eq_true rfl | exact ⟨rfl, rfl, rfl⟩ | exact ⟨rfl, rfl, rfl, rfl⟩ | exact ⟨rfl, rfl⟩ | (rename_i r hr; cases hr)
    rintro i ⟨hi, hfd⟩
    have hix : (0 + Int.toNat (((j + 1 : Nat) : Int) - 1)) = j := by omega
    have hTl : (@Ar.get ⟨32, kT, T⟩ (0 + Int.toNat (((j + 1 : Nat) : Int) - 1))).length = N := by rw [hix]; exact hrl
    by_cases hi1 : i < L.length
    · have p0 : decide ((i : Int) < (L.length : Int)) = true := decide_eq_true (by omega)
      have hnd := ha.ok.nd _ (lk_mem' hi1)
      have hms := ha.ok.ms _ (lk_mem' hi1)
      have hA := lkA_eq L i
      have hR : rowA T (0 + Int.toNat (((j + 1 : Nat) : Int) - 1)) L i = gi (fT T j) (lk L i).2.1 := by rw [rowA_eq hnd.2.1, hix]; rfl
      have hR0 : rowA T (0 + Int.toNat (((j + 1 : Nat) : Int) - 1)) L i ≠ Fr → -270215977642229760 ≤ rowA T (0 + Int.toNat (((j + 1 : Nat) : Int) - 1)) L i ∧ rowA T (0 + Int.toNat (((j + 1 : Nat) : Int) - 1)) L i ≤ 270215977642229760 := fun h => by rw [hR] at h ⊢; exact hrb _ hnd.2 h
      have hH : hitF (fT T j) a s (fun s => decide (s < 0)) (lk L i) = (((lkA L i).1 == a) && (rowA T (0 + Int.toNat (((j + 1 : Nat) : Int) - 1)) L i != 1152921504606846976) && decide (s + (lkA L i).2.2 + rowA T (0 + Int.toNat (((j + 1 : Nat) : Int) - 1)) L i < 0)) := by rw [hitF_eq, hR, hA]; rfl
      cases c1 : ((lkA L i).1 == a)
      · have hb : hitF (fT T j) a s (fun s => decide (s < 0)) (lk L i) = false := by rw [hH, c1]; rfl
        have hgo := hfd.trans (fd_go hi1 hb)
        repeat' ((conv => whnf); (first | apply And.intro | (intro h9; first | (have h8 : (_ : Bool) = false := h9; exfalso; clear h8; revert h9; subst_vars; intro h9; exact ft_no (h9.symm.trans (by assumption))) | (have h8 : (_ : Bool) = true := h9; exfalso; clear h8; revert h9; subst_vars; intro h9; exact tf_no (h9.symm.trans (by assumption))) | skip)))
        all_goals try (conv => whnf)
        all_goals try first
          | exact LexB.mk (by kernel_rfl)
          | exact LexG.mk (by kernel_rfl)
          | exact Forced.mk (by kernel_rfl)
          | exact ⟨Nat.le_of_ble_eq_true rfl⟩
          | exact ⟨rfl⟩
          | exact ⟨trivial⟩
        all_goals subst_vars
        all_goals try first
          | (refine Ob.mk ?_; simp only [inRQ, inR, Duty.of_p]; omega)
          | exact ⟨show 0 ≤ (i : Int) ∧ (i : Int) < (L.length : Int) by omega⟩
          | exact ⟨show 0 + Int.toNat (i : Int) < L.length by omega⟩
          | exact ⟨show 0 ≤ ((j + 1 : Nat) : Int) - 1 ∧ ((j + 1 : Nat) : Int) - 1 < (T.length : Int) by omega⟩
          | exact ⟨show (0 + Int.toNat (((j + 1 : Nat) : Int) - 1)) < T.length by omega⟩
          | exact ⟨show 0 ≤ (lkA L i).2.1 ∧ (lkA L i).2.1 < ((@Ar.get ⟨32, kT, T⟩ (0 + Int.toNat (((j + 1 : Nat) : Int) - 1))).length : Int) by rw [hA, hTl]; exact hnd.2⟩
          | exact ⟨show 0 + Int.toNat (lkA L i).2.1 < (@Ar.get ⟨32, kT, T⟩ (0 + Int.toNat (((j + 1 : Nat) : Int) - 1))).length by rw [hA, hTl]; have := hnd.2; omega⟩
          | (refine Ob.mk ?_; show (inRQ .i64 (s + (lkA L i).2.2 + rowA T (0 + Int.toNat (((j + 1 : Nat) : Int) - 1)) L i)).p; simp only [inRQ, inR, Duty.of_p]; omega)
          | (refine Ob.mk ?_; show (inRQ .i64 (s + (lkA L i).2.2)).p; simp only [inRQ, inR, Duty.of_p]; omega)
          | exact ⟨show (acc.length + 1) * 1 ≤ 1099511627776 by omega⟩
          | exact ⟨Nat.zero_add _⟩
        all_goals
          refine ⟨i + 1, [0, 1, 2, 3], ⟨hi1, hgo⟩, ?_, by show L.length - (i + 1) < L.length - i; omega⟩
          subst_vars
          repeat' ((conv => whnf); (first | apply And.intro | intro _))
          all_goals first | rfl | trivial | exact Nat.le_of_ble_eq_true rfl | exact ⟨rfl, rfl, rfl⟩ | exact ⟨rfl, rfl, rfl, rfl⟩ | exact ⟨rfl, rfl⟩ | (rename_i r hr; cases hr) | (subst_vars; rfl)
      · cases c2 : (rowA T (0 + Int.toNat (((j + 1 : Nat) : Int) - 1)) L i != 1152921504606846976)
        · have hb : hitF (fT T j) a s (fun s => decide (s < 0)) (lk L i) = false := by rw [hH, c1, c2]; rfl
          have hgo := hfd.trans (fd_go hi1 hb)
          repeat' ((conv => whnf); (first | apply And.intro | (intro h9; first | (have h8 : (_ : Bool) = false := h9; exfalso; clear h8; revert h9; subst_vars; intro h9; exact ft_no (h9.symm.trans (by assumption))) | (have h8 : (_ : Bool) = true := h9; exfalso; clear h8; revert h9; subst_vars; intro h9; exact tf_no (h9.symm.trans (by assumption))) | skip)))
          all_goals try (conv => whnf)
          all_goals try first
            | exact LexB.mk (by kernel_rfl)
            | exact LexG.mk (by kernel_rfl)
            | exact Forced.mk (by kernel_rfl)
            | exact ⟨Nat.le_of_ble_eq_true rfl⟩
            | exact ⟨rfl⟩
            | exact ⟨trivial⟩
          all_goals subst_vars
          all_goals try first
            | (refine Ob.mk ?_; simp only [inRQ, inR, Duty.of_p]; omega)
            | exact ⟨show 0 ≤ (i : Int) ∧ (i : Int) < (L.length : Int) by omega⟩
            | exact ⟨show 0 + Int.toNat (i : Int) < L.length by omega⟩
            | exact ⟨show 0 ≤ ((j + 1 : Nat) : Int) - 1 ∧ ((j + 1 : Nat) : Int) - 1 < (T.length : Int) by omega⟩
            | exact ⟨show (0 + Int.toNat (((j + 1 : Nat) : Int) - 1)) < T.length by omega⟩
            | exact ⟨show 0 ≤ (lkA L i).2.1 ∧ (lkA L i).2.1 < ((@Ar.get ⟨32, kT, T⟩ (0 + Int.toNat (((j + 1 : Nat) : Int) - 1))).length : Int) by rw [hA, hTl]; exact hnd.2⟩
            | exact ⟨show 0 + Int.toNat (lkA L i).2.1 < (@Ar.get ⟨32, kT, T⟩ (0 + Int.toNat (((j + 1 : Nat) : Int) - 1))).length by rw [hA, hTl]; have := hnd.2; omega⟩
            | (refine Ob.mk ?_; show (inRQ .i64 (s + (lkA L i).2.2 + rowA T (0 + Int.toNat (((j + 1 : Nat) : Int) - 1)) L i)).p; simp only [inRQ, inR, Duty.of_p]; omega)
            | (refine Ob.mk ?_; show (inRQ .i64 (s + (lkA L i).2.2)).p; simp only [inRQ, inR, Duty.of_p]; omega)
            | exact ⟨show (acc.length + 1) * 1 ≤ 1099511627776 by omega⟩
            | exact ⟨Nat.zero_add _⟩
          all_goals
            refine ⟨i + 1, [0, 1, 2, 3], ⟨hi1, hgo⟩, ?_, by show L.length - (i + 1) < L.length - i; omega⟩
            subst_vars
            repeat' ((conv => whnf); (first | apply And.intro | intro _))
            all_goals first | rfl | trivial | exact Nat.le_of_ble_eq_true rfl | exact ⟨rfl, rfl, rfl⟩ | exact ⟨rfl, rfl, rfl, rfl⟩ | exact ⟨rfl, rfl⟩ | (rename_i r hr; cases hr) | (subst_vars; rfl)
        · have hR1 := hR0 (by unfold Fr; simpa using c2)
          have hms' : -4503599627370496 ≤ (lkA L i).2.2 ∧ (lkA L i).2.2 ≤ 4503599627370496 := by rw [hA]; exact hms
          cases c3 : decide (s + (lkA L i).2.2 + rowA T (0 + Int.toNat (((j + 1 : Nat) : Int) - 1)) L i < 0)
          · have hb : hitF (fT T j) a s (fun s => decide (s < 0)) (lk L i) = false := by rw [hH, c1, c2, c3]; rfl
            have hgo := hfd.trans (fd_go hi1 hb)
            repeat' ((conv => whnf); (first | apply And.intro | (intro h9; first | (have h8 : (_ : Bool) = false := h9; exfalso; clear h8; revert h9; subst_vars; intro h9; exact ft_no (h9.symm.trans (by assumption))) | (have h8 : (_ : Bool) = true := h9; exfalso; clear h8; revert h9; subst_vars; intro h9; exact tf_no (h9.symm.trans (by assumption))) | skip)))
            all_goals try (conv => whnf)
            all_goals try first
              | exact LexB.mk (by kernel_rfl)
              | exact LexG.mk (by kernel_rfl)
              | exact Forced.mk (by kernel_rfl)
              | exact ⟨Nat.le_of_ble_eq_true rfl⟩
              | exact ⟨rfl⟩
              | exact ⟨trivial⟩
            all_goals subst_vars
            all_goals try first
              | (refine Ob.mk ?_; simp only [inRQ, inR, Duty.of_p]; omega)
              | exact ⟨show 0 ≤ (i : Int) ∧ (i : Int) < (L.length : Int) by omega⟩
              | exact ⟨show 0 + Int.toNat (i : Int) < L.length by omega⟩
              | exact ⟨show 0 ≤ ((j + 1 : Nat) : Int) - 1 ∧ ((j + 1 : Nat) : Int) - 1 < (T.length : Int) by omega⟩
              | exact ⟨show (0 + Int.toNat (((j + 1 : Nat) : Int) - 1)) < T.length by omega⟩
              | exact ⟨show 0 ≤ (lkA L i).2.1 ∧ (lkA L i).2.1 < ((@Ar.get ⟨32, kT, T⟩ (0 + Int.toNat (((j + 1 : Nat) : Int) - 1))).length : Int) by rw [hA, hTl]; exact hnd.2⟩
              | exact ⟨show 0 + Int.toNat (lkA L i).2.1 < (@Ar.get ⟨32, kT, T⟩ (0 + Int.toNat (((j + 1 : Nat) : Int) - 1))).length by rw [hA, hTl]; have := hnd.2; omega⟩
              | (refine Ob.mk ?_; show (inRQ .i64 (s + (lkA L i).2.2 + rowA T (0 + Int.toNat (((j + 1 : Nat) : Int) - 1)) L i)).p; simp only [inRQ, inR, Duty.of_p]; omega)
              | (refine Ob.mk ?_; show (inRQ .i64 (s + (lkA L i).2.2)).p; simp only [inRQ, inR, Duty.of_p]; omega)
              | exact ⟨show (acc.length + 1) * 1 ≤ 1099511627776 by omega⟩
              | exact ⟨Nat.zero_add _⟩
            all_goals
              refine ⟨i + 1, [0, 1, 2, 3], ⟨hi1, hgo⟩, ?_, by show L.length - (i + 1) < L.length - i; omega⟩
              subst_vars
              repeat' ((conv => whnf); (first | apply And.intro | intro _))
              all_goals first | rfl | trivial | exact Nat.le_of_ble_eq_true rfl | exact ⟨rfl, rfl, rfl⟩ | exact ⟨rfl, rfl, rfl, rfl⟩ | exact ⟨rfl, rfl⟩ | (rename_i r hr; cases hr) | (subst_vars; rfl)
          · have hb : hitF (fT T j) a s (fun s => decide (s < 0)) (lk L i) = true := by rw [hH, c1, c2, c3]; rfl
            repeat' ((conv => whnf); (first | apply And.intro | (intro h9; first | (have h8 : (_ : Bool) = false := h9; exfalso; clear h8; revert h9; subst_vars; intro h9; exact ft_no (h9.symm.trans (by assumption))) | (have h8 : (_ : Bool) = true := h9; exfalso; clear h8; revert h9; subst_vars; intro h9; exact tf_no (h9.symm.trans (by assumption))) | skip)))
            all_goals try (conv => whnf)
            all_goals try first
              | exact LexB.mk (by kernel_rfl)
              | exact LexG.mk (by kernel_rfl)
              | exact Forced.mk (by kernel_rfl)
              | exact ⟨Nat.le_of_ble_eq_true rfl⟩
              | exact ⟨rfl⟩
              | exact ⟨trivial⟩
            all_goals subst_vars
            all_goals try first
              | (refine Ob.mk ?_; simp only [inRQ, inR, Duty.of_p]; omega)
              | exact ⟨show 0 ≤ (i : Int) ∧ (i : Int) < (L.length : Int) by omega⟩
              | exact ⟨show 0 + Int.toNat (i : Int) < L.length by omega⟩
              | exact ⟨show 0 ≤ ((j + 1 : Nat) : Int) - 1 ∧ ((j + 1 : Nat) : Int) - 1 < (T.length : Int) by omega⟩
              | exact ⟨show (0 + Int.toNat (((j + 1 : Nat) : Int) - 1)) < T.length by omega⟩
              | exact ⟨show 0 ≤ (lkA L i).2.1 ∧ (lkA L i).2.1 < ((@Ar.get ⟨32, kT, T⟩ (0 + Int.toNat (((j + 1 : Nat) : Int) - 1))).length : Int) by rw [hA, hTl]; exact hnd.2⟩
              | exact ⟨show 0 + Int.toNat (lkA L i).2.1 < (@Ar.get ⟨32, kT, T⟩ (0 + Int.toNat (((j + 1 : Nat) : Int) - 1))).length by rw [hA, hTl]; have := hnd.2; omega⟩
              | (refine Ob.mk ?_; show (inRQ .i64 (s + (lkA L i).2.2 + rowA T (0 + Int.toNat (((j + 1 : Nat) : Int) - 1)) L i)).p; simp only [inRQ, inR, Duty.of_p]; omega)
              | (refine Ob.mk ?_; show (inRQ .i64 (s + (lkA L i).2.2)).p; simp only [inRQ, inR, Duty.of_p]; omega)
              | exact ⟨show (acc.length + 1) * 1 ≤ 1099511627776 by omega⟩
              | exact ⟨Nat.zero_add _⟩
            all_goals
              refine ⟨(j, (lkA L i).2.1, s + (lkA L i).2.2, acc ++ [(i : Int)]), [0, 1, 2, 3], by rw [hA]; exact hI.hit (i := i) hnd.2 hms (hfd.trans (fd_hit hi1 hb)), ?_, by show j < j + 1; omega⟩
              subst_vars
              repeat' ((conv => whnf); (first | apply And.intro | intro _))
              all_goals first | rfl | trivial | exact Nat.le_of_ble_eq_true rfl | exact ⟨rfl, rfl, rfl⟩ | exact ⟨rfl, rfl, rfl, rfl⟩ | exact ⟨rfl, rfl⟩ | (rename_i r hr; cases hr) | (subst_vars; rfl) | (simp; done) | (show ((j + 1 : Nat) : Int) - 1 = (j : Int); omega)
    · have p0 : decide ((i : Int) < (L.length : Int)) = false := decide_eq_false (by omega)
      have hI3 := hI.miss (hfd.trans (fd_end (by omega)))
      repeat' ((conv => whnf); (first | apply And.intro | (intro h9; first | (have h8 : (_ : Bool) = false := h9; exfalso; clear h8; revert h9; subst_vars; intro h9; exact ft_no (h9.symm.trans (by assumption))) | (have h8 : (_ : Bool) = true := h9; exfalso; clear h8; revert h9; subst_vars; intro h9; exact tf_no (h9.symm.trans (by assumption))) | skip)))
      all_goals try (conv => whnf)
      all_goals try first
        | exact LexB.mk (by kernel_rfl)
        | exact LexG.mk (by kernel_rfl)
        | exact Forced.mk (by kernel_rfl)
        | exact ⟨Nat.le_of_ble_eq_true rfl⟩
        | exact ⟨rfl⟩
        | exact ⟨trivial⟩
      all_goals subst_vars
      all_goals try first
        | (refine Ob.mk ?_; simp only [inRQ, inR, Duty.of_p]; omega)
        | exact ⟨show 0 ≤ (i : Int) ∧ (i : Int) < (L.length : Int) by omega⟩
        | exact ⟨show 0 + Int.toNat (i : Int) < L.length by omega⟩
        | exact ⟨show 0 ≤ ((j + 1 : Nat) : Int) - 1 ∧ ((j + 1 : Nat) : Int) - 1 < (T.length : Int) by omega⟩
        | exact ⟨show (0 + Int.toNat (((j + 1 : Nat) : Int) - 1)) < T.length by omega⟩
        | exact ⟨show 0 ≤ (lkA L i).2.1 ∧ (lkA L i).2.1 < ((@Ar.get ⟨32, kT, T⟩ (0 + Int.toNat (((j + 1 : Nat) : Int) - 1))).length : Int) by rw [hA, hTl]; exact hnd.2⟩
        | exact ⟨show 0 + Int.toNat (lkA L i).2.1 < (@Ar.get ⟨32, kT, T⟩ (0 + Int.toNat (((j + 1 : Nat) : Int) - 1))).length by rw [hA, hTl]; have := hnd.2; omega⟩
        | (refine Ob.mk ?_; show (inRQ .i64 (s + (lkA L i).2.2 + rowA T (0 + Int.toNat (((j + 1 : Nat) : Int) - 1)) L i)).p; simp only [inRQ, inR, Duty.of_p]; omega)
        | (refine Ob.mk ?_; show (inRQ .i64 (s + (lkA L i).2.2)).p; simp only [inRQ, inR, Duty.of_p]; omega)
        | exact ⟨show (acc.length + 1) * 1 ≤ 1099511627776 by omega⟩
        | exact ⟨Nat.zero_add _⟩
      all_goals
        refine ⟨(j, a, s, acc), [0, 1, 2, 3], hI3, ?_, by show j < j + 1; omega⟩
        subst_vars
        repeat' ((conv => whnf); (first | apply And.intro | intro _))
        all_goals first | rfl | trivial | exact Nat.le_of_ble_eq_true rfl | exact ⟨rfl, rfl, rfl⟩ | exact ⟨rfl, rfl, rfl, rfl⟩ | exact ⟨rfl, rfl⟩ | (rename_i r hr; cases hr) | (subst_vars; rfl) | (show ((j + 1 : Nat) : Int) - 1 = (j : Int); omega)
theorem w68b {N : Nat} {L : List Lk} {T : List (List Int)} {f : Int} {k : Nat} {m : Int} (ha : AskL N L) (hT : xtP N L T) (hf : inN N f) (hk : k ≤ T.length) {K : Res → Prop}
    (hK : K ⟨[.arr 3 kI (folF L (fT T) (fun s => s == m) k f 0) true true], .a (.sl 0 [] 0 (folF L (fT T) (fun s => s == m) k f 0).length)⟩) : evTop (tabs.env csB [] false 0) 0 (bo Try.f68) [.agg [vI N, .sl 0 [] 0 L.length], .a (vI f), .a (vI k), .a (.sl 1 [] 0 T.length), .a (.fn 78 [2])] [.arr 44 kL L false false, .arr 32 kT T false false, .box false [vI m]] (resW K) := by
  have hn := ha.n
  have hll := ha.l
  have hT61 : T.length ≤ 61 := by obtain ⟨_, _, _, h⟩ := hT; exact h
  repeat' ((conv => whnf); (first | apply And.intro | intro _))
  all_goals try (conv => whnf)
  all_goals try exact LexB.mk (by kernel_rfl)
  all_goals try exact ⟨rfl⟩
  all_goals try exact ⟨trivial⟩
  refine ⟨Nat × Int × Int × List Int, FolI N L T (fun s => s == m) k f, fun p => ⟨slotsT 73 [1, 2, 3, 4, 5, 11, 12] [.a (vI p.2.1), .a (vI p.1), .a (.sl 1 [] 0 T.length), .a (.fn 78 [2]), .a (.p 3 [] 0 0), .a (.sl 4 [] 0 p.2.2.2.length), .a (vI p.2.2.1)], [], [.arr 44 kL L false false, .arr 32 kT T false false, .box false [vI m], .box true [vI N, .sl 0 [] 0 L.length], .arr 3 kI p.2.2.2 true true]⟩, fun p => p.1, (k, f, 0, []), [0, 1, 2, 3, 1000], .zero hf, ?_, ?_⟩
  · repeat' ((conv => whnf); (first | apply And.intro | intro _))
    all_goals first | rfl | trivial | exact Nat.le_of_ble_eq_true rfl | exact ⟨rfl, rfl, rfl⟩ | exact ⟨rfl, rfl, rfl, rfl⟩ | exact ⟨rfl, rfl⟩ | (rename_i r hr; obtain rfl := List.mem_singleton.1 hr; exact Nat.le_of_ble_eq_true rfl)
  rintro ⟨j, a, s, acc⟩ hI
  have hIj := hI.j
  have hIl := hI.l
  have hIs := hI.s
  simp only at hIj hIl hIs
  cases j with
  | zero =>
    have q0 : decide (((0 : Nat) : Int) > 0) = false := rfl
    rw [← hI.end] at hK
    repeat' ((conv => whnf); (first | apply And.intro | (intro h9; first | (have h8 : (_ : Bool) = false := h9; exfalso; clear h8; revert h9; subst_vars; intro h9; exact ft_no (h9.symm.trans (by assumption))) | (have h8 : (_ : Bool) = true := h9; exfalso; clear h8; revert h9; subst_vars; intro h9; exact tf_no (h9.symm.trans (by assumption))) | skip)))
    all_goals try (conv => whnf)
    all_goals try exact LexB.mk (by kernel_rfl)
    all_goals exact kl1 (i := 4) hK rfl rfl
  | succ j =>
    have q0 : decide (((j + 1 : Nat) : Int) > 0) = true := decide_eq_true (by omega)
    repeat' ((conv => whnf); (first | apply And.intro | (intro h9; first | (have h8 : (_ : Bool) = false := h9; exfalso; clear h8; revert h9; subst_vars; intro h9; exact ft_no (h9.symm.trans (by assumption))) | (have h8 : (_ : Bool) = true := h9; exfalso; clear h8; revert h9; subst_vars; intro h9; exact tf_no (h9.symm.trans (by assumption))) | skip)))
    all_goals try (conv => whnf)
    all_goals try exact LexB.mk (by kernel_rfl)
    obtain ⟨hrl, hrb⟩ := xt_row hT ha (j := j) (by omega)
    refine ⟨Nat, fun i => i ≤ L.length ∧ findF (fT T j) a s (fun s => s == m) 0 L = findF (fT T j) a s (fun s => s == m) i (L.drop i), fun i => ⟨slotsT 73 [1, 2, 3, 4, 5, 11, 12, 20, 21, 22] [.a (vI a), .a (vI ((j + 1 : Nat) : Int)), .a (.sl 1 [] 0 T.length), .a (.fn 78 [2]), .a (.p 3 [] 0 0), .a (.sl 4 [] 0 acc.length), .a (vI s), .a (.sl 0 [] 0 L.length), .a (vI L.length), .a (vI i)], [], [.arr 44 kL L false false, .arr 32 kT T false false, .box false [vI m], .box true [vI N, .sl 0 [] 0 L.length], .arr 3 kI acc true true]⟩, fun i => L.length - i, 0, [], ⟨Nat.zero_le _, rfl⟩, ?_, ?_⟩
    · subst_vars
      repeat' ((conv => whnf); (first | apply And.intro | intro _))
      all_goals first | rfl | trivial | exact Nat.le_of_ble_eq_true rfl | exact ⟨rfl, rfl, rfl⟩ | exact ⟨rfl, rfl, rfl, rfl⟩ | exact ⟨rfl, rfl⟩ | (rename_i r hr; obtain rfl := List.mem_singleton.1 hr; exact Nat.le_of_ble_eq_true rfl)
    rintro i ⟨hi, hfd⟩
    have hix : (0 + Int.toNat (((j + 1 : Nat) : Int) - 1)) = j := by omega
    have hTl : (@Ar.get ⟨32, kT, T⟩ (0 + Int.toNat (((j + 1 : Nat) : Int) - 1))).length = N := by rw [hix]; exact hrl
    by_cases hi1 : i < L.length
    · have p0 : decide ((i : Int) < (L.length : Int)) = true := decide_eq_true (by omega)
      have hnd := ha.ok.nd _ (lk_mem' hi1)
      have hms := ha.ok.ms _ (lk_mem' hi1)
      have hA := lkA_eq L i
      have hR : rowA T (0 + Int.toNat (((j + 1 : Nat) : Int) - 1)) L i = gi (fT T j) (lk L i).2.1 := by rw [rowA_eq hnd.2.1, hix]; rfl
      have hR0 : rowA T (0 + Int.toNat (((j + 1 : Nat) : Int) - 1)) L i ≠ Fr → -270215977642229760 ≤ rowA T (0 + Int.toNat (((j + 1 : Nat) : Int) - 1)) L i ∧ rowA T (0 + Int.toNat (((j + 1 : Nat) : Int) - 1)) L i ≤ 270215977642229760 := fun h => by rw [hR] at h ⊢; exact hrb _ hnd.2 h
      have hH : hitF (fT T j) a s (fun s => s == m) (lk L i) = (((lkA L i).1 == a) && (rowA T (0 + Int.toNat (((j + 1 : Nat) : Int) - 1)) L i != 1152921504606846976) && (s + (lkA L i).2.2 + rowA T (0 + Int.toNat (((j + 1 : Nat) : Int) - 1)) L i == m)) := by rw [hitF_eq, hR, hA]; rfl
      cases c1 : ((lkA L i).1 == a)
      · have hb : hitF (fT T j) a s (fun s => s == m) (lk L i) = false := by rw [hH, c1]; rfl
        have hgo := hfd.trans (fd_go hi1 hb)
        repeat' ((conv => whnf); (first | apply And.intro | (intro h9; first | (have h8 : (_ : Bool) = false := h9; exfalso; clear h8; revert h9; subst_vars; intro h9; exact ft_no (h9.symm.trans (by assumption))) | (have h8 : (_ : Bool) = true := h9; exfalso; clear h8; revert h9; subst_vars; intro h9; exact tf_no (h9.symm.trans (by assumption))) | skip)))
        all_goals try (conv => whnf)
        all_goals try first
          | exact LexB.mk (by kernel_rfl)
          | exact LexG.mk (by kernel_rfl)
          | exact Forced.mk (by kernel_rfl)
          | exact ⟨Nat.le_of_ble_eq_true rfl⟩
          | exact ⟨rfl⟩
          | exact ⟨trivial⟩
        all_goals subst_vars
        all_goals try first
          | (refine Ob.mk ?_; simp only [inRQ, inR, Duty.of_p]; omega)
          | exact ⟨show 0 ≤ (i : Int) ∧ (i : Int) < (L.length : Int) by omega⟩
          | exact ⟨show 0 + Int.toNat (i : Int) < L.length by omega⟩
          | exact ⟨show 0 ≤ ((j + 1 : Nat) : Int) - 1 ∧ ((j + 1 : Nat) : Int) - 1 < (T.length : Int) by omega⟩
          | exact ⟨show (0 + Int.toNat (((j + 1 : Nat) : Int) - 1)) < T.length by omega⟩
          | exact ⟨show 0 ≤ (lkA L i).2.1 ∧ (lkA L i).2.1 < ((@Ar.get ⟨32, kT, T⟩ (0 + Int.toNat (((j + 1 : Nat) : Int) - 1))).length : Int) by rw [hA, hTl]; exact hnd.2⟩
          | exact ⟨show 0 + Int.toNat (lkA L i).2.1 < (@Ar.get ⟨32, kT, T⟩ (0 + Int.toNat (((j + 1 : Nat) : Int) - 1))).length by rw [hA, hTl]; have := hnd.2; omega⟩
          | (refine Ob.mk ?_; show (inRQ .i64 (s + (lkA L i).2.2 + rowA T (0 + Int.toNat (((j + 1 : Nat) : Int) - 1)) L i)).p; simp only [inRQ, inR, Duty.of_p]; omega)
          | (refine Ob.mk ?_; show (inRQ .i64 (s + (lkA L i).2.2)).p; simp only [inRQ, inR, Duty.of_p]; omega)
          | exact ⟨show (acc.length + 1) * 1 ≤ 1099511627776 by omega⟩
          | exact ⟨Nat.zero_add _⟩
        all_goals
          refine ⟨i + 1, [0, 1, 2, 3, 4], ⟨hi1, hgo⟩, ?_, by show L.length - (i + 1) < L.length - i; omega⟩
          subst_vars
          repeat' ((conv => whnf); (first | apply And.intro | intro _))
          all_goals first | rfl | trivial | exact Nat.le_of_ble_eq_true rfl | exact ⟨rfl, rfl, rfl⟩ | exact ⟨rfl, rfl, rfl, rfl⟩ | exact ⟨rfl, rfl⟩ | (rename_i r hr; obtain rfl := List.mem_singleton.1 hr; exact Nat.le_of_ble_eq_true rfl) | (subst_vars; rfl)
      · cases c2 : (rowA T (0 + Int.toNat (((j + 1 : Nat) : Int) - 1)) L i != 1152921504606846976)
        · have hb : hitF (fT T j) a s (fun s => s == m) (lk L i) = false := by rw [hH, c1, c2]; rfl
          have hgo := hfd.trans (fd_go hi1 hb)
          repeat' ((conv => whnf); (first | apply And.intro | (intro h9; first | (have h8 : (_ : Bool) = false := h9; exfalso; clear h8; revert h9; subst_vars; intro h9; exact ft_no (h9.symm.trans (by assumption))) | (have h8 : (_ : Bool) = true := h9; exfalso; clear h8; revert h9; subst_vars; intro h9; exact tf_no (h9.symm.trans (by assumption))) | skip)))
          all_goals try (conv => whnf)
          all_goals try first
            | exact LexB.mk (by kernel_rfl)
            | exact LexG.mk (by kernel_rfl)
            | exact Forced.mk (by kernel_rfl)
            | exact ⟨Nat.le_of_ble_eq_true rfl⟩
            | exact ⟨rfl⟩
            | exact ⟨trivial⟩
          all_goals subst_vars
          all_goals try first
            | (refine Ob.mk ?_; simp only [inRQ, inR, Duty.of_p]; omega)
            | exact ⟨show 0 ≤ (i : Int) ∧ (i : Int) < (L.length : Int) by omega⟩
            | exact ⟨show 0 + Int.toNat (i : Int) < L.length by omega⟩
            | exact ⟨show 0 ≤ ((j + 1 : Nat) : Int) - 1 ∧ ((j + 1 : Nat) : Int) - 1 < (T.length : Int) by omega⟩
            | exact ⟨show (0 + Int.toNat (((j + 1 : Nat) : Int) - 1)) < T.length by omega⟩
            | exact ⟨show 0 ≤ (lkA L i).2.1 ∧ (lkA L i).2.1 < ((@Ar.get ⟨32, kT, T⟩ (0 + Int.toNat (((j + 1 : Nat) : Int) - 1))).length : Int) by rw [hA, hTl]; exact hnd.2⟩
            | exact ⟨show 0 + Int.toNat (lkA L i).2.1 < (@Ar.get ⟨32, kT, T⟩ (0 + Int.toNat (((j + 1 : Nat) : Int) - 1))).length by rw [hA, hTl]; have := hnd.2; omega⟩
            | (refine Ob.mk ?_; show (inRQ .i64 (s + (lkA L i).2.2 + rowA T (0 + Int.toNat (((j + 1 : Nat) : Int) - 1)) L i)).p; simp only [inRQ, inR, Duty.of_p]; omega)
            | (refine Ob.mk ?_; show (inRQ .i64 (s + (lkA L i).2.2)).p; simp only [inRQ, inR, Duty.of_p]; omega)
            | exact ⟨show (acc.length + 1) * 1 ≤ 1099511627776 by omega⟩
            | exact ⟨Nat.zero_add _⟩
          all_goals
            refine ⟨i + 1, [0, 1, 2, 3, 4], ⟨hi1, hgo⟩, ?_, by show L.length - (i + 1) < L.length - i; omega⟩
            subst_vars
            repeat' ((conv => whnf); (first | apply And.intro | intro _))
            all_goals first | rfl | trivial | exact Nat.le_of_ble_eq_true rfl | exact ⟨rfl, rfl, rfl⟩ | exact ⟨rfl, rfl, rfl, rfl⟩ | exact ⟨rfl, rfl⟩ | (rename_i r hr; obtain rfl := List.mem_singleton.1 hr; exact Nat.le_of_ble_eq_true rfl) | (subst_vars; rfl)
        · have hR1 := hR0 (by unfold Fr; simpa using c2)
          have hms' : -4503599627370496 ≤ (lkA L i).2.2 ∧ (lkA L i).2.2 ≤ 4503599627370496 := by rw [hA]; exact hms
          cases c3 : (s + (lkA L i).2.2 + rowA T (0 + Int.toNat (((j + 1 : Nat) : Int) - 1)) L i == m)
          · have hb : hitF (fT T j) a s (fun s => s == m) (lk L i) = false := by rw [hH, c1, c2, c3]; rfl
            have hgo := hfd.trans (fd_go hi1 hb)
            repeat' ((conv => whnf); (first | apply And.intro | (intro h9; first | (have h8 : (_ : Bool) = false := h9; exfalso; clear h8; revert h9; subst_vars; intro h9; exact ft_no (h9.symm.trans (by assumption))) | (have h8 : (_ : Bool) = true := h9; exfalso; clear h8; revert h9; subst_vars; intro h9; exact tf_no (h9.symm.trans (by assumption))) | skip)))
            all_goals try (conv => whnf)
            all_goals try first
              | exact LexB.mk (by kernel_rfl)
              | exact LexG.mk (by kernel_rfl)
              | exact Forced.mk (by kernel_rfl)
              | exact ⟨Nat.le_of_ble_eq_true rfl⟩
              | exact ⟨rfl⟩
              | exact ⟨trivial⟩
            all_goals subst_vars
            all_goals try first
              | (refine Ob.mk ?_; simp only [inRQ, inR, Duty.of_p]; omega)
              | exact ⟨show 0 ≤ (i : Int) ∧ (i : Int) < (L.length : Int) by omega⟩
              | exact ⟨show 0 + Int.toNat (i : Int) < L.length by omega⟩
              | exact ⟨show 0 ≤ ((j + 1 : Nat) : Int) - 1 ∧ ((j + 1 : Nat) : Int) - 1 < (T.length : Int) by omega⟩
              | exact ⟨show (0 + Int.toNat (((j + 1 : Nat) : Int) - 1)) < T.length by omega⟩
              | exact ⟨show 0 ≤ (lkA L i).2.1 ∧ (lkA L i).2.1 < ((@Ar.get ⟨32, kT, T⟩ (0 + Int.toNat (((j + 1 : Nat) : Int) - 1))).length : Int) by rw [hA, hTl]; exact hnd.2⟩
              | exact ⟨show 0 + Int.toNat (lkA L i).2.1 < (@Ar.get ⟨32, kT, T⟩ (0 + Int.toNat (((j + 1 : Nat) : Int) - 1))).length by rw [hA, hTl]; have := hnd.2; omega⟩
              | (refine Ob.mk ?_; show (inRQ .i64 (s + (lkA L i).2.2 + rowA T (0 + Int.toNat (((j + 1 : Nat) : Int) - 1)) L i)).p; simp only [inRQ, inR, Duty.of_p]; omega)
              | (refine Ob.mk ?_; show (inRQ .i64 (s + (lkA L i).2.2)).p; simp only [inRQ, inR, Duty.of_p]; omega)
              | exact ⟨show (acc.length + 1) * 1 ≤ 1099511627776 by omega⟩
              | exact ⟨Nat.zero_add _⟩
            all_goals
              refine ⟨i + 1, [0, 1, 2, 3, 4], ⟨hi1, hgo⟩, ?_, by show L.length - (i + 1) < L.length - i; omega⟩
              subst_vars
              repeat' ((conv => whnf); (first | apply And.intro | intro _))
              all_goals first | rfl | trivial | exact Nat.le_of_ble_eq_true rfl | exact ⟨rfl, rfl, rfl⟩ | exact ⟨rfl, rfl, rfl, rfl⟩ | exact ⟨rfl, rfl⟩ | (rename_i r hr; obtain rfl := List.mem_singleton.1 hr; exact Nat.le_of_ble_eq_true rfl) | (subst_vars; rfl)
          · have hb : hitF (fT T j) a s (fun s => s == m) (lk L i) = true := by rw [hH, c1, c2, c3]; rfl
            repeat' ((conv => whnf); (first | apply And.intro | (intro h9; first | (have h8 : (_ : Bool) = false := h9; exfalso; clear h8; revert h9; subst_vars; intro h9; exact ft_no (h9.symm.trans (by assumption))) | (have h8 : (_ : Bool) = true := h9; exfalso; clear h8; revert h9; subst_vars; intro h9; exact tf_no (h9.symm.trans (by assumption))) | skip)))
            all_goals try (conv => whnf)
            all_goals try first
              | exact LexB.mk (by kernel_rfl)
              | exact LexG.mk (by kernel_rfl)
              | exact Forced.mk (by kernel_rfl)
              | exact ⟨Nat.le_of_ble_eq_true rfl⟩
              | exact ⟨rfl⟩
              | exact ⟨trivial⟩
            all_goals subst_vars
            all_goals try first
              | (refine Ob.mk ?_; simp only [inRQ, inR, Duty.of_p]; omega)
              | exact ⟨show 0 ≤ (i : Int) ∧ (i : Int) < (L.length : Int) by omega⟩
              | exact ⟨show 0 + Int.toNat (i : Int) < L.length by omega⟩
              | exact ⟨show 0 ≤ ((j + 1 : Nat) : Int) - 1 ∧ ((j + 1 : Nat) : Int) - 1 < (T.length : Int) by omega⟩
              | exact ⟨show (0 + Int.toNat (((j + 1 : Nat) : Int) - 1)) < T.length by omega⟩
              | exact ⟨show 0 ≤ (lkA L i).2.1 ∧ (lkA L i).2.1 < ((@Ar.get ⟨32, kT, T⟩ (0 + Int.toNat (((j + 1 : Nat) : Int) - 1))).length : Int) by rw [hA, hTl]; exact hnd.2⟩
              | exact ⟨show 0 + Int.toNat (lkA L i).2.1 < (@Ar.get ⟨32, kT, T⟩ (0 + Int.toNat (((j + 1 : Nat) : Int) - 1))).length by rw [hA, hTl]; have := hnd.2; omega⟩
              | (refine Ob.mk ?_; show (inRQ .i64 (s + (lkA L i).2.2 + rowA T (0 + Int.toNat (((j + 1 : Nat) : Int) - 1)) L i)).p; simp only [inRQ, inR, Duty.of_p]; omega)
              | (refine Ob.mk ?_; show (inRQ .i64 (s + (lkA L i).2.2)).p; simp only [inRQ, inR, Duty.of_p]; omega)
              | exact ⟨show (acc.length + 1) * 1 ≤ 1099511627776 by omega⟩
              | exact ⟨Nat.zero_add _⟩
            all_goals
              refine ⟨(j, (lkA L i).2.1, s + (lkA L i).2.2, acc ++ [(i : Int)]), [0, 1, 2, 3, 4], by rw [hA]; exact hI.hit (i := i) hnd.2 hms (hfd.trans (fd_hit hi1 hb)), ?_, by show j < j + 1; omega⟩
              subst_vars
              repeat' ((conv => whnf); (first | apply And.intro | intro _))
              all_goals first | rfl | trivial | exact Nat.le_of_ble_eq_true rfl | exact ⟨rfl, rfl, rfl⟩ | exact ⟨rfl, rfl, rfl, rfl⟩ | exact ⟨rfl, rfl⟩ | (rename_i r hr; obtain rfl := List.mem_singleton.1 hr; exact Nat.le_of_ble_eq_true rfl) | (subst_vars; rfl) | (simp; done) | (show ((j + 1 : Nat) : Int) - 1 = (j : Int); omega)
    · have p0 : decide ((i : Int) < (L.length : Int)) = false := decide_eq_false (by omega)
      have hI3 := hI.miss (hfd.trans (fd_end (by omega)))
      repeat' ((conv => whnf); (first | apply And.intro | (intro h9; first | (have h8 : (_ : Bool) = false := h9; exfalso; clear h8; revert h9; subst_vars; intro h9; exact ft_no (h9.symm.trans (by assumption))) | (have h8 : (_ : Bool) = true := h9; exfalso; clear h8; revert h9; subst_vars; intro h9; exact tf_no (h9.symm.trans (by assumption))) | skip)))
      all_goals try (conv => whnf)
      all_goals try first
        | exact LexB.mk (by kernel_rfl)
        | exact LexG.mk (by kernel_rfl)
        | exact Forced.mk (by kernel_rfl)
        | exact ⟨Nat.le_of_ble_eq_true rfl⟩
        | exact ⟨rfl⟩
        | exact ⟨trivial⟩
      all_goals subst_vars
      all_goals try first
        | (refine Ob.mk ?_; simp only [inRQ, inR, Duty.of_p]; omega)
        | exact ⟨show 0 ≤ (i : Int) ∧ (i : Int) < (L.length : Int) by omega⟩
        | exact ⟨show 0 + Int.toNat (i : Int) < L.length by omega⟩
        | exact ⟨show 0 ≤ ((j + 1 : Nat) : Int) - 1 ∧ ((j + 1 : Nat) : Int) - 1 < (T.length : Int) by omega⟩
        | exact ⟨show (0 + Int.toNat (((j + 1 : Nat) : Int) - 1)) < T.length by omega⟩
        | exact ⟨show 0 ≤ (lkA L i).2.1 ∧ (lkA L i).2.1 < ((@Ar.get ⟨32, kT, T⟩ (0 + Int.toNat (((j + 1 : Nat) : Int) - 1))).length : Int) by rw [hA, hTl]; exact hnd.2⟩
        | exact ⟨show 0 + Int.toNat (lkA L i).2.1 < (@Ar.get ⟨32, kT, T⟩ (0 + Int.toNat (((j + 1 : Nat) : Int) - 1))).length by rw [hA, hTl]; have := hnd.2; omega⟩
        | (refine Ob.mk ?_; show (inRQ .i64 (s + (lkA L i).2.2 + rowA T (0 + Int.toNat (((j + 1 : Nat) : Int) - 1)) L i)).p; simp only [inRQ, inR, Duty.of_p]; omega)
        | (refine Ob.mk ?_; show (inRQ .i64 (s + (lkA L i).2.2)).p; simp only [inRQ, inR, Duty.of_p]; omega)
        | exact ⟨show (acc.length + 1) * 1 ≤ 1099511627776 by omega⟩
        | exact ⟨Nat.zero_add _⟩
      all_goals
        refine ⟨(j, a, s, acc), [0, 1, 2, 3, 4], hI3, ?_, by show j < j + 1; omega⟩
        subst_vars
        repeat' ((conv => whnf); (first | apply And.intro | intro _))
        all_goals first | rfl | trivial | exact Nat.le_of_ble_eq_true rfl | exact ⟨rfl, rfl, rfl⟩ | exact ⟨rfl, rfl, rfl, rfl⟩ | exact ⟨rfl, rfl⟩ | (rename_i r hr; obtain rfl := List.mem_singleton.1 hr; exact Nat.le_of_ble_eq_true rfl) | (subst_vars; rfl) | (show ((j + 1 : Nat) : Int) - 1 = (j : Int); omega)

/-- follow, with either of the two tests. -/
noncomputable def c68 : Ctr := .new fun args rg K => match args with
  | [.agg [.v (.int .i64 N), xs], .a (.v (.int .i64 f)), .a (.v (.int .i64 k)), .a t, .a (.fn 67 [])] => (match arrOf 44 kL rg xs, arrOf 32 kT rg t with
     | some (q, L), some (q', T) => oblige false (q ++ (q' ++ [(Duty.of (N = N.toNat)), askD N.toNat L, xtD N.toNat L T, (Duty.of (0 ≤ f)), (Duty.of (f < N.toNat)), (Duty.of (k = k.toNat)), (Duty.of (k.toNat ≤ T.length))]))
         (K ⟨[.arr 3 kI (folF L (fT T) (fun s => decide (s < 0)) k.toNat f 0) true true], .a (.sl 0 [] 0 (folF L (fT T) (fun s => decide (s < 0)) k.toNat f 0).length)⟩)
     | _, _ => False)
  | [.agg [.v (.int .i64 N), xs], .a (.v (.int .i64 f)), .a (.v (.int .i64 k)), .a t, .a (.fn 78 [r])] => (match arrOf 44 kL rg xs, arrOf 32 kT rg t, boxI rg r with
     | some (q, L), some (q', T), some m => oblige false (q ++ (q' ++ [(Duty.of (N = N.toNat)), askD N.toNat L, xtD N.toNat L T, (Duty.of (0 ≤ f)), (Duty.of (f < N.toNat)), (Duty.of (k = k.toNat)), (Duty.of (k.toNat ≤ T.length))]))
         (K ⟨[.arr 3 kI (folF L (fT T) (fun s => s == m) k.toNat f 0) true true], .a (.sl 0 [] 0 (folF L (fT T) (fun s => s == m) k.toNat f 0).length)⟩)
     | _, _, _ => False)
  | _ => False
theorem c68_ok : Ctr.Ok Try.prog Γ 68 c68 := Ctr.new_okW (d := 0) (prog_ok csB_ok BsOk.nil false 0) (b := bo Try.f68) (body_bo Try.func68 rfl rfl) (by
  intro args rg K hC
  split at hC
  next N xs f k t =>
    split at hC
    next q L q' T hx ht =>
      rw [oblige_iff, obl_append, obl_append] at hC
      obtain ⟨⟨hq, hq', h1, h2, h3, h4, h5, h6, h7, _⟩, hK⟩ := hC
      simp only [Duty.of_p] at h1 h4 h5 h6 h7
      replace h2 : AskL N.toNat L := h2
      replace h3 : xtP N.toNat L T := h3
      obtain ⟨n, hn⟩ : ∃ n : Nat, N = n := ⟨_, h1⟩
      obtain ⟨m, hm⟩ : ∃ m : Nat, k = m := ⟨_, h6⟩
      subst hn hm
      simp only [Int.toNat_natCast] at h2 h3 h5 h7 hK
      obtain ⟨e, he⟩ := pas_arr (by simp [kL]) hx hq
      obtain ⟨e', he'⟩ := pas_arr (by simp [kT]) ht hq'
      obtain ⟨p1, p2⟩ := he [e, e'] 0 2 rfl (by omega)
      obtain ⟨p3, p4⟩ := he' [e, e'] 1 2 rfl (by omega)
      refine ⟨[e, e'], [.agg [vI n, .sl 0 [] 0 L.length], .a (vI f), .a (vI m), .a (.sl 1 [] 0 T.length), .a (.fn 67 [])], [.arr 44 kL L false false, .arr 32 kT T false false], ⟨⟨⟨rfl, p1, trivial⟩, rfl, rfl, p3, ⟨[], rfl, trivial⟩, trivial⟩, fun r g hg => ?_⟩,
        resW K, w68a h2 h3 ⟨h4, h5⟩ h7 hK, fun x st h => h⟩
      match r, hg with
      | 0, hg => obtain rfl := Option.some.inj hg; exact p2
      | 1, hg => obtain rfl := Option.some.inj hg; exact p4
    next => exact hC.elim
  next N xs f k t r =>
    split at hC
    next q L q' T m0 hx ht hm0 =>
      rw [oblige_iff, obl_append, obl_append] at hC
      obtain ⟨⟨hq, hq', h1, h2, h3, h4, h5, h6, h7, _⟩, hK⟩ := hC
      simp only [Duty.of_p] at h1 h4 h5 h6 h7
      replace h2 : AskL N.toNat L := h2
      replace h3 : xtP N.toNat L T := h3
      obtain ⟨n, hn⟩ : ∃ n : Nat, N = n := ⟨_, h1⟩
      obtain ⟨m, hm⟩ : ∃ m : Nat, k = m := ⟨_, h6⟩
      subst hn hm
      simp only [Int.toNat_natCast] at h2 h3 h5 h7 hK
      obtain ⟨e, he⟩ := pas_arr (by simp [kL]) hx hq
      obtain ⟨e', he'⟩ := pas_arr (by simp [kT]) ht hq'
      obtain ⟨p1, p2⟩ := he [e, e', some (r, [])] 0 3 rfl (by omega)
      obtain ⟨p3, p4⟩ := he' [e, e', some (r, [])] 1 3 rfl (by omega)
      refine ⟨[e, e', some (r, [])], [.agg [vI n, .sl 0 [] 0 L.length], .a (vI f), .a (vI m), .a (.sl 1 [] 0 T.length), .a (.fn 78 [2])], [.arr 44 kL L false false, .arr 32 kT T false false, .box false [vI m0]], ⟨⟨⟨rfl, p1, trivial⟩, rfl, rfl, p3, ⟨[r], rfl, ?_⟩, trivial⟩, fun r g hg => ?_⟩,
        resW K, w68b h2 h3 ⟨h4, h5⟩ h7 hK, fun x st h => h⟩
      · exact ⟨⟨Nat.lt_succ_self 2, rfl⟩, trivial⟩
      · match r, hg with
        | 0, hg => obtain rfl := Option.some.inj hg; exact p2
        | 1, hg => obtain rfl := Option.some.inj hg; exact p4
        | 2, hg =>
          obtain rfl := Option.some.inj hg
          unfold boxI at hm0
          split at hm0
          · rename_i o n' hb
            obtain rfl := Option.some.inj hm0
            exact ⟨rfl, _, o, _, rfl, getD_reg (st := ⟨⟨0, .nil⟩, [], rg⟩) hb (by simp), rfl, trivial⟩
          · cases hm0
    next => exact hC.elim
  next => exact hC.elim)
end Go.Proofs.Ytlmhkeoblgodiaa
end

section
/-
  Chapter 2: chains as lists of indices; the chain that proves a bound, and the first closed chain below 0.
-/
namespace Go.Proofs.Ytlmhkeoblgodiaa
open Go Go.Sy Go.Chn
set_option linter.unusedVariables false
set_option linter.unusedSimpArgs false
theorem idxB_iff {n : Nat} : ∀ {I : List Int}, idxB n I = true ↔ ∀ i ∈ I, 0 ≤ i ∧ i < n
  | [] => ⟨fun _ _ h => (by cases h), fun _ => rfl⟩
  | i :: I => by
    rw [idxB, Bool.and_eq_true, Bool.and_eq_true, decide_eq_true_eq, decide_eq_true_eq, idxB_iff (I := I)]
    constructor
    · rintro ⟨⟨h1, h2⟩, h3⟩ x hx
      rcases List.mem_cons.1 hx with rfl | hx
      · exact ⟨h1, h2⟩
      · exact h3 x hx
    · intro h
      exact ⟨⟨(h i (by simp)).1, (h i (by simp)).2⟩, fun x hx => h x (by simp [hx])⟩
/-- What walking along a list of indices tells. -/
theorem sumR_ch {L : List Lk} {b : Int} : ∀ {I : List Int} {a s : Int}, (∀ i ∈ I, 0 ≤ i ∧ i < L.length) → ((sumR L a s I).2.2 = true ∧ (sumR L a s I).2.1 = b ↔ Ch a (atL L I) b) ∧ ((sumR L a s I).2.2 = true → (sumR L a s I).1 = s + sumL (atL L I))
  | [], a, s, _ => ⟨⟨fun h => h.2, fun h => ⟨rfl, h⟩⟩, fun _ => by simp [sumR, atL, sumL]⟩
  | i :: I, a, s, h => by
    have hi := h i (by simp)
    have e : atL L (i :: I) = lk L i.toNat :: atL L I := rfl
    rw [sumR, e]
    by_cases hc : (lk L i.toNat).1 = a
    · rw [if_pos ⟨hi.1, hi.2, hc⟩]
      have ih := sumR_ch (L := L) (b := b) (I := I) (a := (lk L i.toNat).2.1) (s := s + (lk L i.toNat).2.2) fun x hx => h x (by simp [hx])
      refine ⟨ih.1.trans ⟨fun k => ⟨hc, k⟩, fun k => k.2⟩, fun k => ?_⟩
      rw [ih.2 k, sumL]; omega
    · rw [if_neg fun k => hc k.2.2]
      exact ⟨⟨fun k => (by cases k.1), fun k => absurd k.1 hc⟩, fun k => (by cases k)⟩
section
variable {N : Int} {L : List Lk} {a b : Int} {I : List Int}
/-- What an accepted chain is. -/
theorem ckc_iff {n : Int} : ckcF N L a b I = (n, 0) ↔ (checkF N L).1 = 0 ∧ inN N.toNat a ∧ inN N.toNat b ∧ I.length ≤ 80 ∧ (∀ i ∈ I, 0 ≤ i ∧ i < L.length) ∧ Ch a (atL L I) b ∧ sumL (atL L I) = n := by
  unfold ckcF
  by_cases h0 : (checkF N L).1 = 0
  · rw [if_neg (by simp [h0])]
    by_cases h1 : nodeB N a = true
    · by_cases h2 : nodeB N b = true
      · rw [if_neg (by simp [h1, h2])]
        unfold idxE
        by_cases h3 : I.length > 80
        · rw [if_pos h3, if_pos (by decide)]
          constructor
          · intro h; cases h
          · intro h; omega
        · rw [if_neg h3]
          by_cases h4 : idxB L.length I = true
          · rw [if_pos h4, if_neg (by decide)]
            have h5 := idxB_iff.1 h4
            obtain ⟨k1, k2⟩ := sumR_ch (L := L) (b := b) (a := a) (s := 0) h5
            by_cases h6 : (sumR L a 0 I).2.2 = true ∧ (sumR L a 0 I).2.1 = b
            · rw [if_neg (by simp [h6.1, h6.2])]
              have e := k2 h6.1
              rw [e]
              constructor
              · intro h
                have := congrArg Prod.fst h
                exact ⟨h0, nodeB_iff.1 h1, nodeB_iff.1 h2, by omega, h5, k1.1 h6, by simpa using this⟩
              · intro h
                rw [h.2.2.2.2.2.2]; simp
            · rw [if_pos (by
                cases hb : (sumR L a 0 I).2.2
                · exact .inl rfl
                · exact .inr fun e => h6 ⟨hb, e⟩)]
              constructor
              · intro h; cases h
              · intro h; exact absurd (k1.2 h.2.2.2.2.2.1) h6
          · rw [if_neg h4, if_pos (by decide)]
            constructor
            · intro h; cases h
            · intro h; exact absurd (idxB_iff.2 h.2.2.2.2.1) h4
      · rw [if_pos (.inr (by simpa using h2))]
        constructor
        · intro h; cases h
        · intro h; exact absurd (nodeB_iff.2 h.2.2.1) h2
    · rw [if_pos (.inl (by simpa using h1))]
      constructor
      · intro h; cases h
      · intro h; exact absurd (nodeB_iff.2 h.2.1) h1
  · rw [if_pos h0]
    constructor
    · intro h; exact absurd (congrArg Prod.snd h) h0
    · intro h; exact absurd h.1 h0
/-- The first number of links with which a bound is reached. -/
def hitK (N : Nat) (L : List Lk) (a b d : Int) : Nat → Nat → Option Nat
  | 0, _ => none
  | f + 1, k => if gi (exF N L b k) a = d then some k else hitK N L a b d f (k + 1)
theorem hitK_some {M : Nat} {d : Int} : ∀ {f k j : Nat}, hitK M L a b d f k = some j → k ≤ j ∧ j < k + f ∧ gi (exF M L b j) a = d ∧ ∀ i, k ≤ i → i < j → gi (exF M L b i) a ≠ d
  | 0, _, _, h => by cases h
  | f + 1, k, j, h => by
    rw [hitK] at h
    split at h
    · rename_i e
      obtain rfl := Option.some.inj h
      exact ⟨Nat.le_refl _, by omega, e, fun i h1 h2 => by omega⟩
    · rename_i e
      obtain ⟨h1, h2, h3, h4⟩ := hitK_some h
      refine ⟨by omega, by omega, h3, fun i k1 k2 => ?_⟩
      rcases Nat.lt_or_ge k i with h | h
      · exact h4 i h k2
      · obtain rfl : i = k := by omega
        exact e
theorem hitK_ex {M : Nat} {d : Int} : ∀ {f k j : Nat}, k ≤ j → j < k + f → gi (exF M L b j) a = d → ∃ i, hitK M L a b d f k = some i
  | 0, k, j, h1, h2, _ => by omega
  | f + 1, k, j, h1, h2, h3 => by
    rw [hitK]
    split
    · exact ⟨_, rfl⟩
    · rename_i e
      refine hitK_ex (j := j) ?_ (by omega) h3
      rcases Nat.lt_or_ge k j with h | h
      · exact h
      · obtain rfl : j = k := by omega
        exact absurd h3 e
def kB (N : Int) (L : List Lk) (a b : Int) : Nat := (hitK N.toNat L a b (dB N L a b) (N.toNat + 1) 0).getD 0
def chnL (N : Int) (L : List Lk) (a b : Int) : List Int := folF L (exF N.toNat L b) (fun s => s == dB N L a b) (kB N L a b) a 0
def chnF (N : Int) (L : List Lk) (a b : Int) : List Int × Int := if (bndF N L a b).2 ≠ 0 then ([], (bndF N L a b).2) else (chnL N L a b, 0)
theorem kB_ok (ha : AskL N.toNat L) (hn : NoNeg L) (h1 : inN N.toNat a) (h2 : inN N.toNat b) (hd : dB N L a b ≠ Fr) : hitK N.toNat L a b (dB N L a b) (N.toNat + 1) 0 = some (kB N L a b) ∧ kB N L a b < N.toNat ∧ gi (exF N.toNat L b (kB N L a b)) a = dB N L a b ∧ ∀ i, i < kB N L a b → gi (exF N.toNat L b i) a ≠ dB N L a b := by
  obtain ⟨k, k1, k2⟩ := chain_k ha.ok hn h1 h2 (bd_isD ha hn h1 h2).1 hd
  obtain ⟨i, hi⟩ := hitK_ex (f := N.toNat + 1) (k := 0) (j := k) (Nat.zero_le _) (by omega) k2
  have e : kB N L a b = i := by unfold kB; rw [hi]; rfl
  obtain ⟨_, m2, m3, m4⟩ := hitK_some hi
  rw [e]
  refine ⟨hi, ?_, m3, fun j hj => m4 j (Nat.zero_le _) hj⟩
  rcases Nat.lt_or_ge k i with h | h
  · exact absurd k2 (m4 k (Nat.zero_le _) h)
  · omega
theorem chn_ok (ha : AskL N.toNat L) (hn : NoNeg L) (h1 : inN N.toNat a) (h2 : inN N.toNat b) (hd : dB N L a b ≠ Fr) : (chnL N L a b).length = kB N L a b ∧ (∀ i ∈ chnL N L a b, 0 ≤ i ∧ i < L.length) ∧ Ch a (atL L (chnL N L a b)) b ∧ sumL (atL L (chnL N L a b)) = dB N L a b := by
  obtain ⟨_, k1, k2, _⟩ := kB_ok ha hn h1 h2 hd
  have hn' := ha.n
  obtain ⟨c1, c2, c3, c4⟩ := fol_chain ha.ok h2 (T := exF N.toNat L b) (good := fun s => s == dB N L a b) (k := kB N L a b) (a := a) (s := 0) (by omega) (fun j _ => rfl) h1 (by rw [k2]; exact hd) (by simp [k2])
  exact ⟨c1, c2, c3, by simpa [chnL] using c4⟩
theorem chn_ckc (hc : (checkF N L).1 = 0) (hn : NoNeg L) (h1 : inN N.toNat a) (h2 : inN N.toNat b) (hd : dB N L a b ≠ Fr) : ckcF N L a b (chnL N L a b) = (dB N L a b, 0) := by
  have ha := ask_of hc
  obtain ⟨c1, c2, c3, c4⟩ := chn_ok ha hn h1 h2 hd
  obtain ⟨_, k1, _⟩ := kB_ok ha hn h1 h2 hd
  have hn' := ha.n
  exact ckc_iff.2 ⟨hc, h1, h2, by omega, c2, c3, c4⟩
/-- No chain proves the bound with fewer links. -/
theorem chn_least (ha : AskL N.toNat L) (hn : NoNeg L) (h1 : inN N.toNat a) (h2 : inN N.toNat b) (hd : dB N L a b ≠ Fr) (hI : ckcF N L a b I = (dB N L a b, 0)) : (chnL N L a b).length ≤ I.length := by
  obtain ⟨_, _, _, i4, i5, i6, i7⟩ := ckc_iff.1 hI
  obtain ⟨c1, _⟩ := chn_ok ha hn h1 h2 hd
  obtain ⟨_, k1, _, k3⟩ := kB_ok ha hn h1 h2 hd
  have hn' := ha.n
  rw [c1]
  rcases Nat.lt_or_ge I.length (kB N L a b) with h | h
  · exfalso
    have hl : (atL L I).length = I.length := by simp [atL]
    obtain ⟨x1, x2⟩ := exF_le ha.ok h1 h2 i6 (atL_sub i5) (by omega)
    have hx := exF_ex ha.ok h2 (k := I.length) (by omega) a h1
    rw [hl] at x1 x2
    obtain ⟨ls, q1, q2, q3, q4⟩ := hx.is x2
    have := (bd_isD ha hn h1 h2).1.le ls q2 q3
    exact k3 I.length h (by omega)
  · exact h
theorem ckc_le (ha : AskL N.toNat L) (hn : NoNeg L) {n : Int} (hI : ckcF N L a b I = (n, 0)) : dB N L a b ≤ n ∧ dB N L a b ≠ Fr := by
  obtain ⟨_, i2, i3, i4, i5, i6, i7⟩ := ckc_iff.1 hI
  have h := (bd_isD ha hn i2 i3).1
  have := h.le _ i6 (atL_sub i5)
  exact ⟨by omega, h.no _ i6 (atL_sub i5)⟩
end
end Go.Proofs.Ytlmhkeoblgodiaa
end

section
/-
  Chapter 2: Chain. Printed by gen53.py.
-/
namespace Go.Proofs.Ytlmhkeoblgodiaa
open Go Go.Sy Go.Chn
set_option maxRecDepth 100000
set_option maxHeartbeats 1000000
set_option linter.unusedVariables false
set_option linter.unusedSimpArgs false
variable {Γ : Glob}
theorem fol_congr {L : List Lk} {T U : Nat → List Int} {good : Int → Bool} : ∀ {k : Nat} {a s : Int}, (∀ j, j < k → T j = U j) → folF L T good k a s = folF L U good k a s
  | 0, _, _, _ => rfl
  | k + 1, a, s, h => by
    rw [folF, folF, h k (Nat.lt_succ_self k)]
    split
    · rw [fol_congr fun j hj => h j (by omega)]
    · rw [fol_congr fun j hj => h j (by omega)]
theorem hitK0 {M : Nat} {L : List Lk} {a b d : Int} {k : Nat} : hitK M L a b d 0 k = none := rfl
theorem hitK_go {M : Nat} {L : List Lk} {a b d : Int} {f k : Nat} (h : gi (exF M L b k) a ≠ d) : hitK M L a b d (f + 1) k = hitK M L a b d f (k + 1) := by rw [hitK, if_neg h]
theorem hitK_at {M : Nat} {L : List Lk} {a b d : Int} {f k : Nat} (h : gi (exF M L b k) a = d) : hitK M L a b d (f + 1) k = some k := by rw [hitK, if_pos h]
theorem ch0 {N : Int} {L : List Lk} {a b : Int} (h : ((bndF N L a b).2 != 0) = true) : chnF N L a b = ([], (bndF N L a b).2) := by unfold chnF; rw [if_pos (by simpa using h)]
theorem ch1 {N : Int} {L : List Lk} {a b : Int} (h : ((bndF N L a b).2 != 0) = false) : chnF N L a b = (chnL N L a b, 0) := by unfold chnF; rw [if_neg (by simpa using h)]
def colA (T : List (List Int)) (i : Nat) (a : Int) : Int := @Ar.get ⟨3, kI, @Ar.get ⟨32, kT, T⟩ (0 + Int.toNat (i : Int))⟩ (0 + a.toNat)
theorem colA_eq {N : Nat} {L : List Lk} {b a : Int} {i m : Nat} (hi : i < m) (ha : 0 ≤ a) : colA (xT N L b m) i a = gi (exF N L b i) a := by
  unfold colA
  rw [Nat.zero_add, Nat.zero_add, Int.toNat_natCast]
  show gi ((xT N L b m).getD i []) ((a.toNat : Nat) : Int) = _
  rw [xT_get hi, Int.toNat_of_nonneg ha]
noncomputable def L39 : List (Nat × Ctr) := [(38, c38), (66, c66), (68, c68)]
theorem L39_ok : CsOk Try.prog Γ L39 := ((CsOk.nil.cons (body_of Try.func68 rfl rfl).fn c68_ok).cons (body_of Try.func66 rfl rfl).fn c66_ok).cons (body_of Try.func38 rfl rfl).fn c38_ok
noncomputable def bs39 : List (Nat × Body) := [(76, bo Try.f76), (77, bo Try.f77)]
theorem bs39_ok : BsOk Try.prog bs39 := (BsOk.nil.cons (body_bo Try.func77 rfl rfl)).cons (body_bo Try.func76 rfl rfl)
attribute [local irreducible] checkF gi lk boundsF dB bndF chnF folF xT exF hitK kB
noncomputable def c39 : Ctr := newSnn (fun _ L _ _ => [(Duty.of (L.length ≤ 1000000))]) (fun N L a b => ⟨[.arr 3 kI (chnF N L a b).1 true true], .tup [.a (.sl 0 [] 0 (chnF N L a b).1.length), .a (vI (chnF N L a b).2)]⟩)
theorem c39_ok : Ctr.Ok Try.prog Γ 39 c39 := newSnn_ok (d := 2) (prog_ok L39_ok bs39_ok false 0) (body_of Try.func39 rfl rfl) (by
  intro N L a b K ⟨hL, _⟩ hK
  simp only [Duty.of_p] at hL
  by_cases hq : ((bndF N L a b).2 != 0) = true
  · repeat' ((conv => whnf); (first | apply And.intro | (intro h9; first | (have h8 : (_ : Bool) = false := h9; exfalso; clear h8; revert h9; subst_vars; intro h9; exact ft_no (h9.symm.trans (by assumption))) | (have h8 : (_ : Bool) = true := h9; exfalso; clear h8; revert h9; subst_vars; intro h9; exact tf_no (h9.symm.trans (by assumption))) | skip)))
    all_goals try (conv => whnf)
    all_goals try first
      | exact LexB.mk (by kernel_rfl)
      | exact ⟨trivial⟩
      | exact ⟨rfl⟩
      | exact ⟨show L.length ≤ 1000000 by omega⟩
      | (subst_vars; exact klE (te := 3) (tg := kI) (by simp [kI]) (by rw [ch0 hq] at hK; exact hK) rfl)
  replace hq : ((bndF N L a b).2 != 0) = false := by simpa using hq
  have hz : (bndF N L a b).2 = 0 := by simpa using hq
  obtain ⟨q1, q2, q3⟩ := bnd_0 hz
  obtain ⟨ha, hn, h1, h2, hN, hc⟩ := ask_2 q1
  have h11 := h1.1
  have h12 := h1.2
  have h21 := h2.1
  have h22 := h2.2
  have hn60 := ha.n
  obtain ⟨k1, k2, k3, k4⟩ := kB_ok ha hn h1 h2 q2
  rw [ch1 hq] at hK
  repeat' ((conv => whnf); (first | apply And.intro | (intro h9; first | (have h8 : (_ : Bool) = false := h9; exfalso; clear h8; revert h9; subst_vars; intro h9; exact ft_no (h9.symm.trans (by assumption))) | (have h8 : (_ : Bool) = true := h9; exfalso; clear h8; revert h9; subst_vars; intro h9; exact tf_no (h9.symm.trans (by assumption))) | skip)))
  all_goals try (conv => whnf)
  all_goals try first
    | exact LexB.mk (by kernel_rfl)
    | exact ⟨rfl⟩
    | exact ⟨trivial⟩
    | exact ⟨show L.length ≤ 1000000 by omega⟩
    | exact ⟨hN⟩
    | exact ⟨ha⟩
    | exact ⟨h21⟩
    | exact ⟨h22⟩
    | exact ⟨show N.toNat ≤ 60 by omega⟩
  have hTl : (xT N.toNat L b (N.toNat + 1)).length = N.toNat + 1 := xT_len
  refine ⟨Nat, fun i => i ≤ N.toNat + 1 ∧ hitK N.toNat L a b (dB N L a b) (N.toNat + 1) 0 = hitK N.toNat L a b (dB N L a b) (N.toNat + 1 - i) i, fun i => ⟨slotsT 19 [0, 1, 7, 8] [.a (.sl 4 [] 0 (N.toNat + 1)), .a (.fn 77 [2, 3]), .a (vI ((N.toNat + 1 : Nat) : Int)), .a (vI i)], [slotsT 36 [3, 4, 8, 10] [.a (.p 1 [] 0 0), .a (.p 2 [] 0 0), .a (.p 3 [] 0 0), .a (.sl 4 [] 0 (N.toNat + 1))]], [.arr 44 kL L false false, .box true [vI N, .sl 0 [] 0 L.length], .box true [vI a], .box true [vI (bndF N L a b).1], .arr 32 kT (xT N.toNat L b (N.toNat + 1)) true true]⟩, fun i => N.toNat + 1 - i, 0, [], ⟨Nat.zero_le _, rfl⟩, ?_, ?_⟩
  · subst_vars
    repeat' ((conv => whnf); (first | apply And.intro | intro _))
    all_goals first | rfl | trivial | exact Nat.le_of_ble_eq_true rfl | exact ⟨rfl, rfl, rfl⟩ | exact ⟨rfl, rfl, rfl, rfl⟩ | exact ⟨rfl, rfl⟩ | (rename_i r hr; rcases List.mem_cons.1 hr with rfl | hr <;> first | exact Nat.le_of_ble_eq_true rfl | (obtain rfl := List.mem_singleton.1 hr; exact Nat.le_of_ble_eq_true rfl))
  rintro i ⟨hi, hh⟩
  by_cases hi1 : i < N.toNat + 1
  case neg =>
    exfalso
    rw [show N.toNat + 1 - i = 0 by omega, k1] at hh
    rw [hitK0] at hh
    cases hh
  have p0 : decide ((i : Int) < ((N.toNat + 1 : Nat) : Int)) = true := decide_eq_true (by omega)
  have hrl : (@Ar.get ⟨32, kT, (xT N.toNat L b (N.toNat + 1))⟩ (0 + Int.toNat (i : Int))).length = N.toNat := by
    rw [Nat.zero_add, Int.toNat_natCast]
    exact (congrArg List.length (xT_get hi1)).trans exF_len
  have hcol : colA (xT N.toNat L b (N.toNat + 1)) i a = gi (exF N.toNat L b i) a := colA_eq hi1 h11
  cases c1 : (colA (xT N.toNat L b (N.toNat + 1)) i a == (bndF N L a b).1)
  · have hne : gi (exF N.toNat L b i) a ≠ dB N L a b := by rw [hcol, q3] at c1; simpa using c1
    have hgo : hitK N.toNat L a b (dB N L a b) (N.toNat + 1) 0 = hitK N.toNat L a b (dB N L a b) (N.toNat + 1 - (i + 1)) (i + 1) := by
      rw [hh, show N.toNat + 1 - i = (N.toNat + 1 - (i + 1)) + 1 by omega]
      exact hitK_go hne
    repeat' ((conv => whnf); (first | apply And.intro | (intro h9; first | (have h8 : (_ : Bool) = false := h9; exfalso; clear h8; revert h9; subst_vars; intro h9; exact ft_no (h9.symm.trans (by assumption))) | (have h8 : (_ : Bool) = true := h9; exfalso; clear h8; revert h9; subst_vars; intro h9; exact tf_no (h9.symm.trans (by assumption))) | skip)))
    all_goals try (conv => whnf)
    all_goals try first
      | exact LexB.mk (by kernel_rfl)
      | exact LexG.mk (by kernel_rfl)
      | exact Forced.mk (by kernel_rfl)
      | exact ⟨Nat.le_of_ble_eq_true rfl⟩
      | exact ⟨rfl⟩
      | exact ⟨trivial⟩
    all_goals subst_vars
    all_goals try first
      | (refine Ob.mk ?_; simp only [inRQ, inR, Duty.of_p]; omega)
      | exact ⟨show 0 ≤ (i : Int) ∧ (i : Int) < ((N.toNat + 1 : Nat) : Int) by omega⟩
      | exact ⟨show 0 + Int.toNat (i : Int) < (xT N.toNat L b (N.toNat + 1)).length by rw [hTl]; omega⟩
      | exact ⟨show 0 ≤ a ∧ a < ((@Ar.get ⟨32, kT, (xT N.toNat L b (N.toNat + 1))⟩ (0 + Int.toNat (i : Int))).length : Int) by rw [hrl]; omega⟩
      | exact ⟨show 0 + a.toNat < (@Ar.get ⟨32, kT, (xT N.toNat L b (N.toNat + 1))⟩ (0 + Int.toNat (i : Int))).length by rw [hrl]; omega⟩
    all_goals
      refine ⟨i + 1, [0, 1, 2, 3, 4], ⟨hi1, hgo⟩, ?_, by show N.toNat + 1 - (i + 1) < N.toNat + 1 - i; omega⟩
      subst_vars
      repeat' ((conv => whnf); (first | apply And.intro | intro _))
      all_goals first | rfl | trivial | exact Nat.le_of_ble_eq_true rfl | exact ⟨rfl, rfl, rfl⟩ | exact ⟨rfl, rfl, rfl, rfl⟩ | exact ⟨rfl, rfl⟩ | (rename_i r hr; rcases List.mem_cons.1 hr with rfl | hr <;> first | exact Nat.le_of_ble_eq_true rfl | (obtain rfl := List.mem_singleton.1 hr; exact Nat.le_of_ble_eq_true rfl)) | (subst_vars; rfl)
  · have heq : gi (exF N.toNat L b i) a = dB N L a b := by rw [hcol, q3] at c1; simpa using c1
    have hik : i = kB N L a b := by
      rw [show N.toNat + 1 - i = (N.toNat - i) + 1 by omega, hitK_at heq, k1] at hh
      exact (Option.some.inj hh).symm
    have eF : folF L (fT (xT N.toNat L b (N.toNat + 1))) (fun s => s == (bndF N L a b).1) (Int.toNat (i : Int)) a 0 = chnL N L a b := by
      rw [q3, Int.toNat_natCast, fol_congr (T := fT (xT N.toNat L b (N.toNat + 1))) (U := exF N.toNat L b) (fun j hj => (xT_get (by omega) : (xT N.toNat L b (N.toNat + 1)).getD j [] = _)), hik]; rfl
    rw [← eF] at hK
    clear hik eF heq
    repeat' ((conv => whnf); (first | apply And.intro | (intro h9; first | (have h8 : (_ : Bool) = false := h9; exfalso; clear h8; revert h9; subst_vars; intro h9; exact ft_no (h9.symm.trans (by assumption))) | (have h8 : (_ : Bool) = true := h9; exfalso; clear h8; revert h9; subst_vars; intro h9; exact tf_no (h9.symm.trans (by assumption))) | skip)))
    all_goals try (conv => whnf)
    all_goals try first
      | exact LexB.mk (by kernel_rfl)
      | exact LexG.mk (by kernel_rfl)
      | exact Forced.mk (by kernel_rfl)
      | exact ⟨Nat.le_of_ble_eq_true rfl⟩
      | exact ⟨rfl⟩
      | exact ⟨trivial⟩
    all_goals subst_vars
    all_goals try first
      | (refine Ob.mk ?_; simp only [inRQ, inR, Duty.of_p]; omega)
      | exact ⟨show 0 ≤ (i : Int) ∧ (i : Int) < ((N.toNat + 1 : Nat) : Int) by omega⟩
      | exact ⟨show 0 + Int.toNat (i : Int) < (xT N.toNat L b (N.toNat + 1)).length by rw [hTl]; omega⟩
      | exact ⟨show 0 ≤ a ∧ a < ((@Ar.get ⟨32, kT, (xT N.toNat L b (N.toNat + 1))⟩ (0 + Int.toNat (i : Int))).length : Int) by rw [hrl]; omega⟩
      | exact ⟨show 0 + a.toNat < (@Ar.get ⟨32, kT, (xT N.toNat L b (N.toNat + 1))⟩ (0 + Int.toNat (i : Int))).length by rw [hrl]; omega⟩
    all_goals try first
      | exact ⟨hN⟩
      | exact ⟨ha⟩
      | exact ⟨(⟨b, h2, by rw [hTl], by rw [hTl]; omega⟩ : xtP N.toNat L (xT N.toNat L b (N.toNat + 1)))⟩
      | exact ⟨hTl.symm⟩
      | exact ⟨h11⟩
      | exact ⟨h12⟩
      | exact ⟨show (i : Int) = ((Int.toNat (i : Int) : Nat) : Int) by omega⟩
      | exact ⟨show Int.toNat (i : Int) ≤ (xT N.toNat L b (N.toNat + 1)).length by rw [hTl]; omega⟩
    all_goals exact klC (i := 5) hK rfl rfl)
end Go.Proofs.Ytlmhkeoblgodiaa
end
