/-
  Chapter 1: Expand, in the program.
-/
import Derived.Test.YtoggkjobihlohaaDoorF14
import Derived.Shelf.Abstract
namespace Go.Proofs.YtoggkjobihlohaaDoor
open Go Go.Sx Go.RowKit

attribute [local go_sem] Oper.semAt_some

theorem one_enc (n d : Int) (j : Nat) (y : Value) (hj : ((kindOf kII).enc ((n, d) : Int × Int))[j]? = some y) : (j = 0 ∧ y = .int .i64 n) ∨ (j = 1 ∧ y = .int .i64 d) := by
  match j, hj with
  | 0, hj => left; exact ⟨rfl, (Option.some.inj hj).symm⟩
  | 1, hj => right; exact ⟨rfl, (Option.some.inj hj).symm⟩
  | j + 2, hj => cases hj
theorem valid1_calls (n d : Int) (w : World) (b : Nat) (hb : b < w.heap.size) (hv : valid n d = true) (c0 : w.cell? ⟨b, 0, none⟩ = some (.int .i64 n)) (c1 : w.cell? ⟨b, 1, none⟩ = some (.int .i64 d)) :
    Calls Tryd.prog 88 #[.slice (some ⟨b, 0, none⟩) 1 1] w fun e w' => e = .returned (.int .i64 0) ∧ Below w.heap.size w w' := by
  have v := valid_iff.1 hv
  have hin : inR .i64 n ∧ inR .i64 d := by simp only [inR]; omega
  have h := c88_ok (Γ := ⟨0, fun _ => True, fun _ _ _ _ => trivial⟩) [.a (.sl 0 0 1)] [.arr 23 kII [(n, d)] false] _ _ rfl ⟨rfl, rfl, Nat.le_of_ble_eq_true rfl, ⟨hin, trivial⟩, trivial⟩ w.heap.size (fun _ => ⟨b, 0, 2, false, 1⟩) w
    [.slice (some ⟨b, 0, none⟩) 1 1] (Nat.le_refl _) (Nat.zero_le _) trivial ⟨⟨Nat.lt_succ_self _, (fun h => by cases h), Nat.le_refl _, .inl rfl⟩, trivial⟩ (fun r g h => by
      cases r with
      | succ r => cases h
      | zero =>
        obtain rfl := Option.some.inj h
        refine ⟨kindOf_ok kII (by simp [kII]), rfl, (fun h => by cases h), (fun _ => ⟨(fun h => by cases h), fun _ => hb⟩), fun i a hi j y hj => ?_⟩
        cases i with
        | succ i => cases hi
        | zero =>
          obtain rfl := Option.some.inj hi
          rcases one_enc n d j y hj with ⟨rfl, rfl⟩ | ⟨rfl, rfl⟩
          · exact c0
          · exact c1)
    (fun r r' g g' h _ o => by
      cases r with
      | succ r => cases h
      | zero => obtain rfl := Option.some.inj h; cases o.1)
  refine h.mono fun e w' ⟨v, he, hv', hb⟩ => ?_
  obtain ⟨rfl, _⟩ := hv'
  refine ⟨?_, hb⟩
  rw [he]
  have e1 : allValid [(n, d)] = true := by show (valid n d && true) = true; rw [hv]; rfl
  exact congrArg (fun b : Bool => Ending.returned (.int .i64 (if b = true then 0 else 1))) e1

def fba : Nat → Nat → Nat → Nat
  | 0, a, _ => a
  | k + 1, a, b => fba k b (a + b)
theorem fba_rec : ∀ (k a b : Nat), fba (k + 2) a b = fba (k + 1) a b + fba k a b
  | 0, a, b => by simp [fba]; omega
  | k + 1, a, b => by
    have := fba_rec k b (a + b)
    exact this
theorem fba_47 : fba 47 0 1 = 2971215073 := by decide +kernel
theorem expand_fib : ∀ (k : Nat) (n d : Int), 0 ≤ d → k ≤ (expand n d).length → (fba k 0 1 : Int) ≤ d
  | 0, n, d, h, _ => h
  | 1, n, d, h, h1 => by
    have : d ≠ 0 := fun e => by subst e; simp [expand_zero] at h1
    show (1 : Int) ≤ d
    omega
  | k + 2, n, d, h, h1 => by
    have hd : d ≠ 0 := fun e => by subst e; simp [expand_zero] at h1
    have hd' : 0 < d := by omega
    have a := Int.emod_nonneg n hd
    have b := Int.emod_lt_of_pos n hd'
    rw [expand_pos hd'] at h1
    simp only [List.length_cons] at h1
    have hr : n % d ≠ 0 := fun e => by rw [e, expand_zero] at h1; simp at h1
    have hr' : 0 < n % d := by omega
    have i1 := expand_fib (k + 1) d (n % d) a (by omega)
    rw [expand_pos hr'] at h1
    simp only [List.length_cons] at h1
    have i2 := expand_fib k (n % d) (d % (n % d)) (Int.emod_nonneg _ hr) (by omega)
    have e := Int.ediv_mul_add_emod d (n % d)
    have q : 1 ≤ d / (n % d) := (Int.le_ediv_iff_mul_le hr').2 (by omega)
    have q2 : 1 * (n % d) ≤ d / (n % d) * (n % d) := Int.mul_le_mul_of_nonneg_right q (by omega)
    rw [fba_rec]
    omega
theorem expand_len {n d : Int} (hd : 0 ≤ d ∧ d ≤ 2147483647) : (expand n d).length ≤ 46 := by
  rcases Nat.lt_or_ge 46 (expand n d).length with h | h
  · have := expand_fib 47 n d hd.1 h
    rw [fba_47] at this
    omega
  · exact h
theorem info3 : (Tryd.prog.info? 3).map (fun i => (i.zero, i.size, i.bytes)) = some (some (.int .i64 0), 1, 8) := by kernel_rfl
theorem cell_new_two (w : World) (x y : Value) : (w.alloc (.cells #[x, y] 23)).cell? ⟨w.heap.size, 0, none⟩ = some x ∧ (w.alloc (.cells #[x, y] 23)).cell? ⟨w.heap.size, 1, none⟩ = some y := by
  have h := World.alloc_heap_new w (.cells #[x, y] 23)
  constructor <;> (simp only [World.cell?]; rw [h]; rfl)
theorem cell_new_two' (w : World) (x y : Value) {o : Obj} : ((w.alloc (.cells #[x, y] 23)).alloc o).cell? ⟨w.heap.size, 0, none⟩ = some x ∧ ((w.alloc (.cells #[x, y] 23)).alloc o).cell? ⟨w.heap.size, 1, none⟩ = some y := by
  have h := (Below.heap_alloc (w.alloc (.cells #[x, y] 23)) o w.heap.size (by simp)).trans (World.alloc_heap_new w (.cells #[x, y] 23))
  constructor <;> (simp only [World.cell?]; rw [h]; rfl)
set_option maxRecDepth 100000 in
set_option maxHeartbeats 2000000 in
theorem Expand_good (m : Nat) (hm : 3 ≤ m) (n d : Int) (hv : valid n d = true) (hlen : (expand n d).length ≤ 1000) (w : World) :
    CallsIn Fence.wide m Tryd.prog 43 #[.agg #[.int .i64 n, .int .i64 d]] w fun e W' => ∃ v, e = .returned (.tuple #[v, .int .i64 0]) ∧ W'.ownsRow w.heap.size 3 1 v (expand n d).length ((expand n d).map (Value.int .i64)) ∧ Below w.heap.size w W' := by
  have h1 : 1 ≤ m := by omega
  have vb := valid_iff.1 hv
  obtain ⟨v1, v2, v3, v4, -⟩ := vb
  have HV := Lib.hid hv; clear hv
  refine callsIn_of_wp_marks Tryd.func43 rfl trivial ?_ rfl
  simp only [Tryd.ntmps43, List.size_toArray, List.length_cons, List.length_nil, Nat.reduceAdd, Nat.reduceSub, Array.replicate_succ, Array.replicate_zero, List.push_toArray, List.append_toArray, List.nil_append, List.cons_append]
  gi_wp2_with fail
  refine ⟨trivial, ?_⟩
  refine ((callsIn_wide.2 (valid1_calls n d _ (w.heap.size + 1) (by simp) HV.out (by simp) (by simp))).mono ?_)
  rintro e w1 ⟨rfl, hb1⟩
  simp only [World.size_alloc] at hb1
  have hz : w.heap.size + 1 < w1.heap.size := by have := hb1.size; simp at this; omega
  have hB1 : Below w.heap.size w w1 := (((Below.refl _ _).alloc (Nat.le_refl _) _).alloc (by simp) _).trans (hb1.mono (by omega))
  have hc0 : w1.cell? ⟨w.heap.size, 0, none⟩ = some (.int .i64 n) := (hb1.cell (p := ⟨w.heap.size, 0, none⟩) (by simp; omega)).trans (cell_new_two' w _ _).1
  have hc1 : w1.cell? ⟨w.heap.size, 1, none⟩ = some (.int .i64 d) := (hb1.cell (p := ⟨w.heap.size, 1, none⟩) (by simp; omega)).trans (cell_new_two' w _ _).2
  have hz2 : w.heap.size < w1.heap.size := by omega
  have hne : w.heap.size ≠ w1.heap.size := by omega
  gi_wp2_with fail
  refine ⟨trivial, ?_⟩
  refine ((terms_in _ n d _).mono ?_)
  rintro e w' ⟨rfl, rfl⟩
  gi_wp2_with fail
  have bO := Boxed.new w1 56 (.slice none 0 0)
  have cN := cell_new_two (w1.alloc (.cells #[.slice none 0 0] 56)) (.int .i64 n) (.int .i64 d)
  rw [World.size_alloc] at cN
  have hB0 : Below w.heap.size w ((w1.alloc (.cells #[.slice none 0 0] 56)).alloc (.cells #[.int .i64 n, .int .i64 d] 23)) := (hB1.alloc (by omega) _).alloc (by simp; omega) _
  obtain ⟨i0, hi, hz0, hz1, hzb⟩ := info_parts info3
  refine wpIn_rangeFunc_ownG rfl h1 (gf := 111) (lb := #[.pointer (some ⟨w1.heap.size + 1, 0, none⟩)]) rfl trivial (enters_of Tryd.func111 (by kernel_rfl) rfl)
    (terms_stops (m - 1) (by omega) (w1.heap.size + 1) n d v3 v4 (by omega) v2 _ (by simp) cN.1 cN.2) (fun _ _ => trivial) (fun _ _ _ _ _ _ _ _ => trivial) (Below.refl _ _) (fun _ => rfl)
    (fun pre W => (∃ v, Boxed W w1.heap.size 56 v ∧ W.ownsRow w.heap.size 3 1 v pre.length (pre.map (Value.int .i64)) ∧ (v = .slice none 0 0 ↔ pre = [])) ∧ Below w.heap.size w W)
    (fun _ _ _ => False)
    (OwnFrom.and (Own.from (holdsRow_own w.heap.size w1.heap.size 56 3 1 (fun pre => pre.length) (fun pre => pre.map (Value.int .i64)) (fun pre v => v = .slice none 0 0 ↔ pre = [])) _) (ownFrom_below (Nat.le_refl _) (by simp; omega)))
    (fun _ _ _ _ _ hs _ _ => hs)
    ⟨⟨_, bO.alloc _, World.ownsRow_nil _ _ _ _, by simp⟩, hB0⟩
    (fun x => { tmps := #[.agg #[.int .i64 n, .int .i64 d], .pointer (some ⟨w.heap.size, 0, none⟩), .slice none 0 0, .int .i64 0, .int .i64 0, .pointer (some ⟨w1.heap.size, 0, none⟩), .int .i64 x,
      .agg #[.int .i64 n, .int .i64 d], .slice (some ⟨w.heap.size + 1, 0, none⟩) 1 1, .int .i64 0, .int .i64 0, .bool false, undef, .agg #[.int .i64 n, .int .i64 d],
      .func (.func 111) #[] #[.pointer (some ⟨w1.heap.size + 1, 0, none⟩)], .int .i64 x, undef, undef, undef, undef, undef], defers := [] }) ?assign ?body ?done ?stop
  case assign =>
    intro l x W K hK
    gi_wp2
    exact hK
  case body =>
    rintro l pre x W ⟨⟨v, hv, hrow, hnil⟩, hB⟩ hlt
    have hc := hv.cell
    have hml : 1000 ≤ maxLen := Nat.le_of_ble_eq_true rfl
    gi_wp2_with (gi_at_builtin; refine wpListIn_append_own _ rfl _ _ 56 rfl w.heap.size 3 i0 (.int .i64 0) 1 8 Tryd.underlying56 hi hz0 hz1 hzb rfl (by decide) _ _ _ rfl (hrow.alloc _) ⟨W.heap.size, 0, none⟩ 1 1 [.int .i64 x] rfl rfl (cell_one_new _ _ _) (by simp [Value.oneCell']) (by omega) (by omega) (by have := hB.size; simp; omega) ?_; intro v' w1' hown' hgrow _; obtain ⟨g', cap', rfl⟩ := ownsRow_succ hown'; obtain ⟨hv1, hv2, hr2, hk2, hb2⟩ := hv.appended (by decide) hrow hB.size (Nat.le_of_lt hz2) hown' hgrow; have hc1 := hv1.cell; have hf1 := hv1.frozen)
    exact ⟨hk2.from _, trivial, ⟨_, hv2, by simpa using hr2, by simp⟩, hB.trans hb2⟩
  case done =>
    rintro D ys W hD rfl ⟨⟨v, hv, hrow, hnil⟩, hB⟩ hK
    have hc := hv.cell
    gi_wp2
    refine ⟨by simp, .inl ⟨_, _, rfl, run_takeDeferred hK, ?_⟩⟩
    exact ⟨_, by simp [results, Tryd.f43, go_sem], v, rfl, ownsRow_putObj hrow _ hK rfl, hB.trans (belowK_b (w := w) (Nat.le_refl _) W D _ _ (by simp at hD; omega) hK rfl rfl)⟩
  case stop =>
    rintro D c pre W _ _ h _
    exact h.elim

theorem one_bad {n d : Int} (h : valid n d = false) (_p : Int → Prop) : (if allValid [(n, d)] = true then (0 : Int) else 1) = 1 := by
  have : allValid [(n, d)] = false := by show (valid n d && true) = false; rw [h]; rfl
  rw [this]; rfl
theorem one_bad' {n d : Int} (h : valid n d = false) : ¬ ((if allValid [(n, d)] = true then (0 : Int) else 1) != 0) = false := by
  rw [one_bad h (fun _ => True)]; decide

/-- Expand's contract: a new slice of the terms, or ErrArg. -/
def c43 : Ctr := .rel fun args _ K => match args with
  | [.agg [.v (.int .i64 n), .v (.int .i64 d)]] => inR .i64 n ∧ inR .i64 d ∧
    (valid n d = true → K ⟨[.arr 3 kI (expand n d) true], .tup [.a (.sl 0 0 (expand n d).length), .a (vI 0)]⟩) ∧
    (valid n d = false → K ⟨[], .tup [.a (.v (.slice none 0 0)), .a (vI 1)]⟩)
  | _ => False

def c43b : Ctr := .fn fun args _ => match args with
  | [.agg [.v (.int .i64 n), .v (.int .i64 d)]] => some ([inR .i64 n, inR .i64 d, valid n d = false], .tup [.a (.v (.slice none 0 0)), .a (vI 1)])
  | _ => none
theorem c43b_ok {Γ : Glob} : Ctr.Ok Tryd.prog Γ 43 c43b := Ctr.fn_ok0 (prog_ok L7_ok true) Tryd.func43 rfl rfl rfl (by
  intro args q t hF hq
  split at hF
  next n d =>
    obtain ⟨rfl, rfl⟩ := Prod.mk.inj (Option.some.inj hF); clear hF
    obtain ⟨h1, h2, h3, -⟩ := hq
    refine ⟨rfl, rfl, ?_⟩
    repeat' ((conv => whnf); (first | apply And.intro | intro _))
    all_goals try (conv => whnf)
    all_goals try (first | rfl | trivial | exact ⟨by kernel_rfl⟩)
    all_goals try subst_vars
    · exact ⟨by decide⟩
    · exact ⟨by decide⟩
    · exact ⟨Nat.le_of_ble_eq_true rfl⟩
    · exact ⟨⟨⟨h1, h2⟩, trivial⟩⟩
    · exact one_bad h3 (fun _ => True)
    · exact absurd ‹_› (one_bad' h3)
  next => cases hF)

/-- An array of ints as the walk leaves it. -/
theorem ints_enc (xs : List Int) : xs.map (Value.int .i64) = (xs : List (Tup kI)).flatMap (kindOf kI).enc := by
  induction xs with
  | nil => rfl
  | cons x xs ih => exact congrArg (Value.int .i64 x :: ·) ih
theorem c43_ok {Γ : Glob} : Ctr.Ok Tryd.prog Γ 43 c43 := by
  intro args rg K hC N0 ρ w vs hl hgn hgl hargs hrg hdj
  split at hC
  next n d =>
    obtain ⟨h1, h2, hg, hb⟩ := hC
    match hv : valid n d with
    | false =>
      refine (c43b_ok (Γ := Γ) [.agg [.v (.int .i64 n), .v (.int .i64 d)]] rg [inR .i64 n, inR .i64 d, valid n d = false] (.tup [.a (.v (.slice none 0 0)), .a (vI 1)]) rfl ⟨h1, h2, hv, trivial⟩ N0 ρ w vs hl hgn hgl hargs hrg hdj).mono fun e w' ⟨v, he, hvo, hbl⟩ => ?_
      refine ⟨v, ⟨[], .tup [.a (.v (.slice none 0 0)), .a (vI 1)]⟩, ρ, he, hb hv, hbl, fun _ _ => rfl, Tm.plain_ok (x := .tup [.a (.v (.slice none 0 0)), .a (vI 1)]) rfl hvo, (fun g hg => by cases hg), (fun r g hg => by cases hg), (fun r r' g g' hg => by cases hg)⟩
    | true =>
      have vb := valid_iff.1 hv
      match vs, hargs with
      | [y], ⟨⟨ys, hy, hys⟩, _⟩ =>
        match ys, hys with
        | [y1, y2], ⟨⟨e1, _⟩, ⟨e2, _⟩, _⟩ =>
          subst hy; subst e1; subst e2
          have hlen := expand_len (n := n) (d := d) ⟨by omega, by omega⟩
          refine (callsIn_wide.1 (Expand_good 3 (by omega) n d hv (by omega) w)).mono fun e w' ⟨v, he, hrow, hbl⟩ => ?_
          have hne : (expand n d).length = (expand d (n % d)).length + 1 := by rw [expand_pos (by omega)]; rfl
          have hrow' := hrow
          rw [hne] at hrow'
          obtain ⟨g, cap, rfl⟩ := ownsRow_succ hrow'
          rw [← hne] at he hrow
          clear hrow'
          rw [ints_enc] at hrow
          have hreg := reg_of_row (N0 := w.heap.size) (ρ := fun r => if r < rg.length then ρ r else ⟨g, 0, 1, false, cap⟩) (N := rg.length + 1) (kindOf_ok kI (by simp [kI])) (xs := (expand n d : List (Tup kI))) hrow
          refine ⟨_, ⟨[.arr 3 kI (expand n d) true], .tup [.a (.sl 0 0 (expand n d).length), .a (vI 0)]⟩, fun r => if r < rg.length then ρ r else ⟨g, 0, 1, false, cap⟩, he, hg hv, hbl, fun r hr => if_pos hr, ?_, ?_, ?_, ?_⟩
          · refine ⟨[.slice (some ⟨g, 0, none⟩) (expand n d).length cap, .int .i64 0], rfl, ⟨?_, ?_, ?_⟩, ⟨rfl, rfl⟩, trivial⟩
            · show rg.length + 0 < rg.length + 1
              omega
            · intro hnil
              simp at hnil
            · exact ⟨by simpa using cap_of_row hrow, .inl (by simp [RI.at])⟩
          · intro g' hg'
            simp at hg'; subst hg'; rfl
          · intro r g' hr
            cases r with
            | succ r => cases hr
            | zero =>
              obtain rfl := Option.some.inj hr
              simp only
              rw [if_neg (by omega)]
              exact hreg
          · intro r r' g1 g2 e1 e2 _ _ hne'
            cases r with
            | succ r => cases e1
            | zero => cases r' with
              | succ r' => cases e2
              | zero => exact absurd rfl hne'
  next => exact hC.elim
end Go.Proofs.YtoggkjobihlohaaDoor
