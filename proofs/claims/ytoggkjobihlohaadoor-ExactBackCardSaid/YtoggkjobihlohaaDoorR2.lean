/-
  From the walks to the rows: arguments that are slices of ints.
-/
import Derived.Test.YtoggkjobihlohaaDoorR1
import Derived.Test.YtoggkjobihlohaaDoorF31
import Derived.Deep.Slices
namespace Go.Proofs.YtoggkjobihlohaaDoor
open Go Go.Sx Go.ChangeShapes Go.WideShapes Go.RowKit
set_option maxRecDepth 100000

section
variable {H : Type} {enc : TypeId × Value → H} {w : World} {base : Nat} {spare : Nat → Bool} {held : Bool}
theorem cells_ints {V : Nat → Value} : ∀ (k : Nat), (∀ i, i < k → ∃ n, V i = .int .i64 n ∧ inR .i64 n) → ∃ xs : List Int, xs.length = k ∧ inAllI xs ∧ ∀ (i : Nat) n, xs[i]? = some n → V i = .int .i64 n
  | 0, _ => ⟨[], rfl, (fun x hx => by cases hx), fun i n h => by simp at h⟩
  | k + 1, h => by
    obtain ⟨xs, h1, h2, h3⟩ := cells_ints k fun i hi => h i (by omega)
    obtain ⟨n, h4, h5⟩ := h k (by omega)
    refine ⟨xs ++ [n], by simp [h1], fun x hx => ?_, fun i m hm => ?_⟩
    · rcases List.mem_append.1 hx with hx | hx
      · exact h2 x hx
      · simp only [List.mem_singleton] at hx; subst hx; exact h5
    · rcases Nat.lt_or_ge i k with hi | hi
      · rw [List.getElem?_append_left (by omega)] at hm
        exact h3 i m hm
      · rw [List.getElem?_append_right (by omega)] at hm
        have hik : i - xs.length = 0 := by
          rcases Nat.eq_zero_or_pos (i - xs.length) with e | e
          · exact e
          · rw [List.getElem?_eq_none (by simp; omega)] at hm; cases hm
        rw [hik] at hm
        have e : i = k := by omega
        subst e
        obtain rfl : n = m := by simpa using hm
        exact h4
theorem one_int (n : Int) (j : Nat) (y : Value) (hj : ((kindOf kI).enc (n : Int))[j]? = some y) : j = 0 ∧ y = .int .i64 n := by
  match j, hj with
  | 0, hj => exact ⟨rfl, (Option.some.inj hj).symm⟩
  | j + 1, hj => cases hj
theorem arg_ints {r : Reach} {b0 : Nat} {v : Value} {d : DataW H} {p : List MemPlace} (hv : Value.okWide Tryd.prog w r b0 56 v) (h : DataW.Trod enc Tryd.prog w base spare held 56 v d p) :
    ∃ (I : RI) (xs : List Int), At.ok 1 (fun _ => I) (.sl 0 0 xs.length) v ∧ Reg.ok 1 (fun _ => I) w.heap.size w I (.arr 3 kI xs false) ∧ inAllI xs := by
  have hc : Tryd.prog.cellsOf 3 = 1 := by kernel_rfl
  obtain ⟨a0, len0, cap0, rfl⟩ := okWide_slice Tryd.underlying56 hv
  obtain ⟨fuel, hf⟩ := h
  rcases Go.Deep.open_slice1 Tryd.underlying56 hc (x := (d, p)) (by simpa [Value.cells] using hf) with ⟨hcs, _⟩ | ⟨a, len, cap, m, n, V, D, Pl, hcs, _, hl, hm, hmm, _, hx⟩
  · obtain ⟨rfl, rfl, rfl⟩ : a0 = none ∧ len0 = 0 ∧ cap0 = 0 := by simpa using hcs
    refine ⟨⟨0, 0, 1, true, 0⟩, [], ⟨Nat.lt_succ_self 0, fun _ => ⟨rfl, rfl⟩, Nat.le_refl _, .inl rfl⟩, ⟨kindOf_ok kI (by simp [kI]), rfl, fun _ => rfl, (fun h => by cases h), fun i b hib => by (have h9 : (([] : List Int)[i]? = some b) := hib; simp at h9)⟩, fun x hx => by cases hx⟩
  · obtain ⟨rfl, rfl, rfl⟩ : a0 = some a ∧ len0 = len ∧ cap0 = cap := by simpa using hcs
    have hhas : Tryd.prog.underlying 56 = some (.slice 3) := Tryd.underlying56
    have hb : a.spot = none ∧ a.block < w.heap.size := by
      simp only [Value.okWide, hhas, Cell.okWide, Cell.ok] at hv
      obtain ⟨_, _, _, h1, row, cells, h2, _⟩ := hv
      refine ⟨h1, ?_⟩
      unfold World.shape? at h2
      rcases Nat.lt_or_ge a.block w.heap.size with h3 | h3
      · exact h3
      · rw [Array.getElem?_eq_none h3] at h2; simp at h2
    have hml : len0 ≤ m := by rw [hmm]; split <;> omega
    obtain ⟨xs, h1, h2, h3⟩ := cells_ints (V := V) len0 (fun i hi => by
      obtain ⟨_, h4⟩ := hx i (by omega)
      exact cell_int h4)
    subst h1
    obtain ⟨blk, off, spot⟩ := a
    obtain ⟨rfl, hb⟩ := hb
    refine ⟨⟨blk, off, 1, false, cap0⟩, xs, ⟨Nat.lt_succ_self 0, (fun h => by cases h), by simpa using hl, .inl (by simp [RI.at])⟩, ⟨kindOf_ok kI (by simp [kI]), rfl, (fun h => by cases h), (fun _ => ⟨(fun h => by cases h), fun _ => hb⟩), fun i b hib j y hj => ?_⟩, h2⟩
    obtain ⟨rfl, rfl⟩ := one_int b j y hj
    have hi := (List.getElem?_eq_some_iff.1 hib).1
    obtain ⟨h4, _⟩ := hx i (by have : i < @List.length Int xs := hi; omega)
    rw [h3 i b hib] at h4
    rw [← h4]
    congr 1
    show (⟨blk, off + (i * 1 + 0), none⟩ : Addr) = (Addr.mk blk off none).add i
    rw [Addr.add_lit, Nat.mul_one, Nat.add_zero]
end

/-- A statement's walk, where one argument is a slice of ints. -/
theorem law_calls_sl {f : FuncId} {F : List Tm → List Reg → Option (List Prop × Tm)} (hc : Ctr.Ok Tryd.prog ΓL f (.fn F)) {args : List Tm} {q : List Prop} {xs : List Int} (hF : F args [.arr 3 kI xs false] = some (q, bl true)) (hq : obl q) {W : World} {vs : List Value} {I : RI}
    (hL : Laid W) (h6 : 6 ≤ W.heap.size) (hargs : okL (Tm.ok 1 (fun _ => I)) args vs) (hreg : Reg.ok 1 (fun _ => I) W.heap.size W I (.arr 3 kI xs false)) : Calls Tryd.prog f vs.toArray W fun e W' => e = .returned (.bool true) ∧ Below W.heap.size W W' :=
  (hc args [.arr 3 kI xs false] q _ hF hq W.heap.size (fun _ => I) W vs (Nat.le_refl _) h6 hL hargs
    (fun r g h => by
      cases r with
      | succ r => cases h
      | zero => obtain rfl := Option.some.inj h; exact hreg)
    (fun r r' g g' h _ o => by
      cases r with
      | succ r => cases h
      | zero => obtain rfl := Option.some.inj h; cases o.1)).mono fun e w' ⟨v, he, hv, hb⟩ => by
    obtain ⟨rfl, _⟩ := hv
    exact ⟨he, hb⟩
end Go.Proofs.YtoggkjobihlohaaDoor
