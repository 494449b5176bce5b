/-
  Texts of the claims on chapter 2: Yb. No condition: lemmas and contracts.
-/
import Derived.Test.YtlmhkeoblgodiaaYa
import Derived.Test.YtlmhkeoblgodiaaMm
import Derived.Test.YtlmhkeoblgodiaaSy4
set_option linter.all false
section
/-
  Chapter 2: idle.
-/
namespace Go.Proofs.Ytlmhkeoblgodiaa
open Go Go.Sy Go.Chn
set_option maxRecDepth 100000
set_option maxHeartbeats 2000000
set_option linter.unusedSimpArgs false
set_option linter.unusedVariables false
variable {Γ : Glob}
noncomputable def b74 : Body := ⟨Try.f74.ntmps, (match Try.f74.body with | some c => c | none => .skip), Try.f74.results.toList⟩
noncomputable def b89 : Body := ⟨Try.f89.ntmps, (match Try.f89.body with | some c => c | none => .skip), Try.f89.results.toList⟩
noncomputable def b95 : Body := ⟨Try.f95.ntmps, (match Try.f95.body with | some c => c | none => .skip), Try.f95.results.toList⟩
def L3 : List (Nat × Ctr) := [(72, c72)]
theorem L3_ok : CsOk Try.prog Γ L3 := CsOk.nil.cons (body_of Try.func72 rfl rfl).fn c72_ok
noncomputable def bs74 : List (Nat × Body) := [(89, b89), (95, b95)]
def ord74 (id : Nat) : Option (List Nat) := match Nat.beq id 12 with | true => some [0, 1, 2, 3, 5, 6, 9, 10, 4, 7, 8, 11] | false => none
noncomputable def e74 : Env := { tabs.env L3 bs74 false 0 with ord := ord74 }
theorem _root_.Go.Sy.ProgOk.ords {E : Env} (h : ProgOk Try.prog Γ E) (o : Nat → Option (List Nat)) : ProgOk Try.prog Γ { E with ord := o } := ⟨h.mixed, h.fn, h.inl, { h.env with }⟩
theorem bs74_ok : BsOk Try.prog bs74 := (BsOk.nil.cons (body_of Try.func95 rfl rfl)).cons (body_of Try.func89 rfl rfl)
theorem e74_ok : ProgOk Try.prog Γ e74 := (prog_ok L3_ok bs74_ok false 0).ords ord74
/-- A piece of code's first range over a function: its assignments and its body. -/
noncomputable def rangeOf (c : Code) : Option (Code × Code) :=
  Code.rec (motive := fun _ => Option (Code × Code)) none (fun _ _ _ => none) (fun _ _ fa fb => match fa with | some x => some x | none => fb) (fun _ _ _ fa fb => match fa with | some x => some x | none => fb)
    (fun _ _ f => f) (fun _ f => f) (fun _ _ a b _ _ => some (a, b)) (fun _ => none) (fun _ f => f) (fun _ => none) (fun _ => none) none (fun _ => none) c
noncomputable def asg74 : Code := match rangeOf b74.code with | some (a, _) => a | none => .skip
noncomputable def body74 : Code := match rangeOf b74.code with | some (_, b) => b | none => .skip
/-- Is a link made needless by another one? -/
def hitP (L : List Lk) (es : List (Int × Bool)) (k i : Nat) : Prop := (lk L i).2.1 = (lk L k).2.1 ∧ mget es (i : Int) false = false ∧ i ≠ k ∧ (lk L i).1 = (lk L k).1 ∧ (lk L i).2.2 ≤ (lk L k).2.2
theorem get0 {L : List Lk} (i : Nat) : Ar.get ⟨44, kL, L⟩ (0 + (i : Int).toNat) = lk L i := by rw [Nat.zero_add, Int.toNat_natCast]; rfl
section
variable {L : List Lk} {es : List (Int × Bool)} {k i : Nat} {d : Bool} {x y z : Int}
theorem nh1 (e2 : (lk L i).2.1 = y) (h : (y == (lk L k).2.1) = false) : ¬ hitP L es k i := fun hh => by
  rw [beq_eq_false_iff_ne] at h; exact h (e2.symm.trans hh.1)
theorem nh2 (h : mget es (i : Int) false = d) (h2 : (!d) = false) : ¬ hitP L es k i := fun hh => by
  rw [hh.2.1] at h; subst h; cases h2
theorem nh3 (h : ((i : Int) != (k : Int)) = false) : ¬ hitP L es k i := fun hh => by
  have : (i : Int) = k := by simpa using h
  exact hh.2.2.1 (by omega)
theorem nh4 (e1 : (lk L i).1 = x) (h : (x == (lk L k).1) = false) : ¬ hitP L es k i := fun hh => by
  rw [beq_eq_false_iff_ne] at h; exact h (e1.symm.trans hh.2.2.2.1)
theorem nh5 (e1 : (lk L i).1 = x) (e2 : (lk L i).2.1 = y) (e3 : (lk L i).2.2 = z) (h : decide (z < (lk L k).2.2) = false) (h2 : (x == (lk L k).1 && (y == (lk L k).2.1 && (z == (lk L k).2.2 && true))) = false) : ¬ hitP L es k i := fun hh => by
  subst e1 e2 e3
  rw [decide_eq_false_iff_not] at h
  have e3 : (lk L i).2.2 = (lk L k).2.2 := by have := hh.2.2.2.2; omega
  simp [hh.1, hh.2.2.2.1, e3] at h2
theorem hit_t {r : Bool} (hT : ∀ i, i < L.length → hitP L es k i → r = true) (hi : i < L.length) (e1 : (lk L i).1 = x) (e2 : (lk L i).2.1 = y) (e3 : (lk L i).2.2 = z) (h1 : (y == (lk L k).2.1) = true) (h2 : mget es (i : Int) false = d) (h3 : (!d) = true) (h4 : ((i : Int) != (k : Int)) = true)
    (h5 : (x == (lk L k).1) = true) (h6 : decide (z < (lk L k).2.2) = true ∨ (x == (lk L k).1 && (y == (lk L k).2.1 && (z == (lk L k).2.2 && true))) = true) : r = true := by
  subst e1 e2 e3
  refine hT i hi ⟨by simpa using h1, by rw [h2]; simpa using h3, fun e => by subst e; simp at h4, by simpa using h5, ?_⟩
  rcases h6 with h6 | h6
  · have := of_decide_eq_true h6; omega
  · simp only [Bool.and_true, Bool.and_eq_true, beq_iff_eq] at h6; omega
end
theorem bounds_len {N : Nat} {L : List Lk} {es : List (Int × Bool)} {v : Int} (ha : AskL N L) (hv : inN N v) : (boundsF N L es v).length = N := (relax_found (es := es) ha.ok (from0_beg hv)).len
theorem bounds_congr {N : Nat} {L : List Lk} {es es' : List (Int × Bool)} (h : ∀ i : Nat, mgb es i = mgb es' i) {v : Int} : boundsF N L es v = boundsF N L es' v := by unfold boundsF; rw [relax_congr h]
/-- What is left out then. -/
def lessF (es : List (Int × Bool)) (k : Nat) : List (Int × Bool) := ((k : Int), true) :: es.map fun p => (p.1, true)
theorem map_mgb (n : Int) : ∀ (es : List (Int × Bool)), mgb (es.map fun p => (p.1, true)) n = es.any (fun p => p.1 == n)
  | [] => rfl
  | (a, b) :: es => by
    rw [List.map_cons, List.any_cons, ← map_mgb n es]
    conv => lhs; unfold mgb
    cases h : a == n <;> rfl
theorem less_mgb (es : List (Int × Bool)) (k i : Nat) : mgb (lessF es k) i = (decide (i = k) || es.any (fun p => p.1 == (i : Int))) := by
  unfold lessF
  rw [← map_mgb]
  conv => lhs; unfold mgb
  by_cases h : i = k
  · subst h; simp
  · have : ((k : Int) == (i : Int)) = false := by rw [beq_eq_false_iff_ne]; omega
    rw [this]; simp [h]
theorem mset_mgb (n : Int) (i : Int) : ∀ (es : List (Int × Bool)), mgb (mset es n true) i = (n == i || mgb es i)
  | [] => by
    show mgb [(n, true)] i = _
    unfold mgb mgb
    cases n == i <;> rfl
  | (a, b) :: es => by
    have ih := mset_mgb n i es
    unfold mset
    cases h : a == n with
    | true =>
      have h' : a = n := by simpa using h
      subst h'
      simp only
      unfold mgb
      cases a == i <;> rfl
    | false =>
      simp only
      conv => lhs; unfold mgb
      conv => rhs; unfold mgb
      rw [ih]
      cases h2 : a == i with
      | true =>
        have h3 : a = i := by simpa using h2
        subst h3
        have : (n == a) = false := by rw [beq_eq_false_iff_ne] at h ⊢; exact fun e => h e.symm
        rw [this]; rfl
      | false => rfl
theorem memN_iff {r : Nat} : ∀ {l : List Nat}, memN r l = true ↔ r ∈ l
  | [] => by simp [memN]
  | x :: l => by
    simp only [memN, List.mem_cons]
    split
    · rename_i h; exact ⟨fun _ => .inl (Nat.eq_of_beq_eq_true h).symm, fun _ => rfl⟩
    · rename_i h
      rw [memN_iff]
      exact ⟨.inr, fun hh => hh.resolve_left (fun e => by subst e; simp at h)⟩
theorem seen_all {es : List (Int × Bool)} {seen : List Nat} (hall : ∀ j, j < es.length → memN j seen = true) (hs : ∀ j ∈ seen, j < es.length) (i : Int) : seen.any (fun j => (es.getD j (0, false)).1 == i) = es.any (fun p => p.1 == i) := by
  rw [Bool.eq_iff_iff]
  simp only [List.any_eq_true]
  constructor
  · rintro ⟨j, hj, h⟩
    have hl := hs j hj
    rw [List.getD_eq_getElem?_getD, List.getElem?_eq_getElem hl] at h
    exact ⟨es[j], List.getElem_mem hl, h⟩
  · rintro ⟨p, hp, h⟩
    obtain ⟨j, hj, rfl⟩ := List.getElem_of_mem hp
    exact ⟨j, memN_iff.1 (hall j hj), by rw [List.getD_eq_getElem?_getD, List.getElem?_eq_getElem hj]; exact h⟩
theorem seen_len {n : Nat} {seen : List Nat} (hd : seen.Nodup) (hs : ∀ j ∈ seen, j < n) : seen.length ≤ n := by
  have := nodup_le n (seen.map fun j : Nat => (j : Int)) (by
    rw [List.nodup_iff_pairwise_ne, List.pairwise_map]
    exact hd.imp fun h e => h (by omega)) (fun x hx => by
      obtain ⟨j, hj, rfl⟩ := List.mem_map.1 hx
      have := hs j hj
      omega)
  simpa using this
/-- What the range over what is left out keeps. -/
structure SeenI (es : List (Int × Bool)) (k : Nat) (p : List Nat × List (Int × Bool)) : Prop where
  nd : p.1.Nodup
  lt : ∀ j ∈ p.1, j < es.length
  get : ∀ i : Nat, mgb p.2 i = (decide (i = k) || p.1.any (fun j => (es.getD j (0, false)).1 == (i : Int)))
theorem SeenI.zero (es : List (Int × Bool)) (k : Nat) : SeenI es k ([], mset [] (k : Int) true) := ⟨List.nodup_nil, by simp, fun i => by
  rw [mset_mgb]
  simp only [mgb, Bool.or_false, List.any_nil]
  by_cases h : i = k
  · subst h; simp
  · rw [decide_eq_false h, beq_eq_false_iff_ne]; omega⟩
theorem SeenI.step {es : List (Int × Bool)} {k : Nat} {p : List Nat × List (Int × Bool)} (h : SeenI es k p) {j : Nat} (hj : j < es.length) (hm : memN j p.1 = false) : SeenI es k (j :: p.1, mset p.2 (es.getD j (0, false)).1 true) :=
  ⟨List.nodup_cons.2 ⟨fun hh => (by rw [memN_iff.2 hh] at hm; cases hm), h.nd⟩, fun i hi => by rcases List.mem_cons.1 hi with rfl | hi; exact hj; exact h.lt i hi, fun i => by
    rw [mset_mgb, h.get, List.any_cons]
    cases (es.getD j (0, false)).1 == (i : Int) <;> simp⟩
theorem SeenI.less {es : List (Int × Bool)} {k : Nat} {p : List Nat × List (Int × Bool)} (h : SeenI es k p) {j : Nat} (hj : j < es.length) (hm : memN j p.1 = false) : es.length - (j :: p.1).length < es.length - p.1.length := by
  have := seen_len (h.step hj hm).nd (h.step hj hm).lt
  simp only [List.length_cons] at this ⊢
  omega
theorem SeenI.done {es : List (Int × Bool)} {k : Nat} {p : List Nat × List (Int × Bool)} (h : SeenI es k p) (hall : ∀ j, j < es.length → memN j p.1 = true) : ∀ i : Nat, mgb p.2 i = mgb (lessF es k) i := fun i => by
  rw [h.get, less_mgb, seen_all hall h.lt]
theorem idle_map {N : Nat} {L : List Lk} {k : Nat} {es : List (Int × Bool)} (ha : AskL N L) (hk : k < L.length) {r : Bool} (hT : ∀ i, i < L.length → hitP L es k i → r = true)
    (hF : (∀ i, i < L.length → ¬ hitP L es k i) → r = decide (gi (boundsF N L (lessF es k) (lk L k).1) (lk L k).2.1 ≤ (lk L k).2.2)) :
    evTop e74 3 b74 [.agg [vI N, .sl 0 [] 0 L.length], .a (.mp 1), .a (vI k)] [.arr 44 kL L false false, .map 91 .i64 .bool es false] (fun x _ => eqT x (.a (.v (.bool r)))) := by
  have hn := ha.n
  have hl3 := ha.l
  have hlk : ∀ (i : Nat), i < L.length → (inN N (lk L i).1 ∧ inN N (lk L i).2.1) ∧ -4503599627370496 ≤ (lk L i).2.2 ∧ (lk L i).2.2 ≤ 4503599627370496 := fun i hi => by
    have hm : lk L i ∈ L := by simp [lk, List.getD, hi]
    exact ⟨ha.ok.nd _ hm, ha.ok.ms _ hm⟩
  repeat' ((conv => whnf); (first | apply And.intro | intro _))
  all_goals try (conv => whnf)
  all_goals try exact ⟨Nat.le_of_ble_eq_true rfl⟩
  all_goals try exact ⟨rfl⟩
  all_goals try (refine Ob.mk ?_; (try simp only [Duty.of_p, inRQ]); subst_vars; (try simp only [getL, getI, getB, castL_rfl] at *); (try dsimp only [kL, kI, Tup, CK.ty] at *); (try simp only [getL, getI, getB, gi_nn, castL_rfl, Nat.zero_add, Nat.add_zero, Nat.sub_zero, Int.toNat_natCast, List.length_set, List.length_replicate, List.length_cons, List.length_nil, decide_eq_true_eq, decide_eq_false_iff_not, cap40, inR] at *); (all_goals first | omega | (split <;> omega)))
  all_goals try trivial
  rename_i l fn T Db _ _
  subst_vars
  simp (config := { maxSteps := 5000000 }) only [getL, Nat.zero_add, Int.toNat_natCast] at *
  refine ⟨Nat, fun i => i ≤ L.length ∧ ∀ j, j < i → ¬ hitP L es k j, fun i => ⟨slotsT 33 [0, 1, 2, 3, 8, 9, 10] [.a (.yl 9), .a (.p 6 [] 0 0), .a (.p 7 [] 0 0), .a (.p 8 [] 0 0), .a (.sl 0 [] 0 L.length), .a (vI L.length), .a (vI i)], [slotsT 69 [1, 3, 5, 6, 7] [.a (.mp 1), .a (.p 2 [] 0 0), .a (.p 3 [] 0 0), .a (.p 4 [] 0 0), .a (.p 5 [] 0 0)]], [.arr 44 kL L false false, .map 91 .i64 .bool es false, .box true [vI N, .sl 0 [] 0 L.length], .box true [vI k], .box true [.ff], .box true [vI (lk L k).1, vI (lk L k).2.1, vI (lk L k).2.2], .box true [vI N, .sl 0 [] 0 L.length], .box true [vI (lk L k).2.1], .box true [.mp 1], .lp l (slotsT 69 [1, 3, 5, 6, 7] [.a (.mp 1), .a (.p 2 [] 0 0), .a (.p 3 [] 0 0), .a (.p 4 [] 0 0), .a (.p 5 [] 0 0)]) { state := .ready, pending := none, fn := fn, tmps := T, params := #[22, 23], assign := asg74, body := body74, defers := Db } .ready none]⟩, fun i => L.length - i, 0, [], ⟨Nat.zero_le _, fun j hj => absurd hj (Nat.not_lt_zero _)⟩, ?_, ?_⟩
  · repeat' ((conv => whnf); (first | apply And.intro | intro _))
    all_goals first | rfl | trivial | exact Nat.le_of_ble_eq_true rfl | exact ⟨rfl, rfl, rfl⟩ | exact ⟨rfl, rfl, rfl, rfl⟩ | exact ⟨rfl, rfl, rfl, rfl, rfl⟩
  rintro i ⟨hi, hno⟩
  by_cases hi1 : i < L.length
  · repeat' ((conv => whnf); (first | apply And.intro | intro _))
    all_goals try (conv => whnf)
    all_goals try exact (key_ge (i := i) (n := L.length) hi1 (by assumption)).elim
    all_goals try exact ⟨Nat.le_of_ble_eq_true rfl⟩
    all_goals try exact ⟨rfl⟩
    all_goals try (refine Ob.mk ?_; (try simp only [Duty.of_p, inRQ]); subst_vars; (try simp only [getL, getI, getB, castL_rfl] at *); (try dsimp only [kL, kI, Tup, CK.ty] at *); (try simp only [getL, getI, getB, gi_nn, castL_rfl, Nat.zero_add, Nat.add_zero, Nat.sub_zero, Int.toNat_natCast, List.length_set, List.length_replicate, List.length_cons, List.length_nil, decide_eq_true_eq, decide_eq_false_iff_not, cap40, inR] at *); (all_goals first | omega | (split <;> omega)))
    all_goals try (simp only [get0] at *; first
      | exact hit_t hT hi1 (by assumption) (by assumption) (by assumption) (by assumption) (by assumption) (by assumption) (by assumption) (by assumption) (.inl (by assumption))
      | exact hit_t hT hi1 (by assumption) (by assumption) (by assumption) (by assumption) (by assumption) (by assumption) (by assumption) (by assumption) (.inr (by assumption)))
    all_goals (have hnh : ¬ hitP L es k i := by
                      simp only [get0] at *
                      first
                      | exact nh1 (by assumption) (by assumption)
                      | exact nh2 (by assumption) (by assumption)
                      | exact nh3 (by assumption)
                      | exact nh4 (by assumption) (by assumption)
                      | exact nh5 (by assumption) (by assumption) (by assumption) (by assumption) (by assumption))
    all_goals refine ⟨i + 1, [], ⟨hi1, fun j hj => (Nat.lt_succ_iff_lt_or_eq.1 hj).elim (hno j) (fun e => e ▸ hnh)⟩, ?_, by show L.length - (i + 1) < L.length - i; omega⟩
    all_goals repeat' ((conv => whnf); (first | apply And.intro | intro _))
    all_goals first | rfl | trivial | exact Nat.le_of_ble_eq_true rfl | exact ⟨rfl, rfl, rfl⟩ | exact ⟨rfl, rfl, rfl, rfl⟩ | omega
  obtain rfl : L.length = i := by omega
  repeat' ((conv => whnf); (first | apply And.intro | intro _))
  all_goals try (conv => whnf)
  all_goals try exact (key_lt (i := L.length) (n := L.length) hi1 (by assumption)).elim
  all_goals try exact ⟨Nat.le_of_ble_eq_true rfl⟩
  all_goals try exact ⟨rfl⟩
  all_goals try (refine Ob.mk ?_; (try simp only [Duty.of_p, inRQ]); subst_vars; (try simp only [getL, getI, getB, castL_rfl] at *); (try dsimp only [kL, kI, Tup, CK.ty] at *); (try simp only [getL, getI, getB, gi_nn, castL_rfl, Nat.zero_add, Nat.add_zero, Nat.sub_zero, Int.toNat_natCast, List.length_set, List.length_replicate, List.length_cons, List.length_nil, decide_eq_true_eq, decide_eq_false_iff_not, cap40, inR] at *); (all_goals first | omega | (split <;> omega)))
  subst_vars
  refine ⟨List Nat × List (Int × Bool), fun p => SeenI es k p, fun p => ⟨slotsT 69 [3, 6, 7, 10, 50] [.a (.p 2 [] 0 0), .a (.p 4 [] 0 0), .a (.p 5 [] 0 0), .a (.mp 10), .a (.it 11)], [], [.arr 44 kL L false false, .map 91 .i64 .bool es false, .box true [vI N, .sl 0 [] 0 L.length], .dead, .box true [.ff], .box true [vI (lk L k).1, vI (lk L k).2.1, vI (lk L k).2.2], .dead, .dead, .dead, .dead, .map 91 .i64 .bool p.2 true, .iter (some 1) es.length p.1]⟩, fun p => es.length - p.1.length, ([], mset [] (k : Int) true), [], SeenI.zero es k, ?_, ?_⟩
  · repeat' ((conv => whnf); (first | apply And.intro | intro _))
    all_goals first | rfl | trivial | exact Nat.le_of_ble_eq_true rfl | exact ⟨rfl, rfl, rfl⟩ | exact ⟨rfl, rfl, rfl, rfl⟩
  rintro p hp
  repeat' ((conv => whnf); (first | apply And.intro | intro _))
  all_goals try (conv => whnf)
  all_goals try exact LexP.mk (by kernel_rfl)
  all_goals try exact ForcedP.mk (by kernel_rfl)
  all_goals try exact ⟨Nat.le_of_ble_eq_true rfl⟩
  all_goals try exact ⟨rfl⟩
  all_goals try (refine Ob.mk ?_; (try simp only [Duty.of_p, inRQ]); subst_vars; (try simp only [getL, getI, getB, castL_rfl] at *); (try dsimp only [kL, kI, Tup, CK.ty] at *); (try simp only [getL, getI, getB, gi_nn, castL_rfl, Nat.zero_add, Nat.add_zero, Nat.sub_zero, Int.toNat_natCast, List.length_set, List.length_replicate, List.length_cons, List.length_nil, decide_eq_true_eq, decide_eq_false_iff_not, cap40, inR] at *); (all_goals first | omega | (split <;> omega)))
  all_goals try first | exact rfl | exact trivial | exact ha | exact (hlk k hk).1.1.1 | exact (hlk k hk).1.1.2
  · rename_i j hj hm fs hfs
    subst hfs
    refine ⟨(j :: p.1, mset p.2 (es.getD j (0, false)).1 true), [], hp.step hj hm, ?_, hp.less hj hm⟩
    repeat' ((conv => whnf); (first | apply And.intro | intro _))
    all_goals first | rfl | trivial | exact Nat.le_of_ble_eq_true rfl | exact ⟨rfl, rfl, rfl⟩ | exact ⟨rfl, rfl, rfl, rfl⟩
  · exact ⟨(hlk k hk).1.2⟩
  · refine ⟨?_⟩
    have e1 := bounds_len (es := p.2) ha (hlk k hk).1.1
    have e2 := (hlk k hk).1.2
    show 0 + (lk L k).2.1.toNat < (boundsF N L p.2 (lk L k).1).length
    rw [e1]
    unfold inN at e2
    omega
  · rename_i hall m hm
    subst hm
    rw [Nat.zero_add]
    show decide (gi (boundsF N L p.2 (lk L k).1) (lk L k).2.1 ≤ (lk L k).2.2) = r
    rw [hF fun i hi => hno i hi, bounds_congr (hp.done hall)]
theorem idle_nil {N : Nat} {L : List Lk} {k : Nat} (ha : AskL N L) (hk : k < L.length) {r : Bool} (hT : ∀ i, i < L.length → hitP L ([] : List (Int × Bool)) k i → r = true)
    (hF : (∀ i, i < L.length → ¬ hitP L ([] : List (Int × Bool)) k i) → r = decide (gi (boundsF N L (lessF ([] : List (Int × Bool)) k) (lk L k).1) (lk L k).2.1 ≤ (lk L k).2.2)) :
    evTop e74 3 b74 [.agg [vI N, .sl 0 [] 0 L.length], .a (.v (.map none)), .a (vI k)] [.arr 44 kL L false false] (fun x _ => eqT x (.a (.v (.bool r)))) := by
  have hn := ha.n
  have hl3 := ha.l
  have hlk : ∀ (i : Nat), i < L.length → (inN N (lk L i).1 ∧ inN N (lk L i).2.1) ∧ -4503599627370496 ≤ (lk L i).2.2 ∧ (lk L i).2.2 ≤ 4503599627370496 := fun i hi => by
    have hm : lk L i ∈ L := by simp [lk, List.getD, hi]
    exact ⟨ha.ok.nd _ hm, ha.ok.ms _ hm⟩
  repeat' ((conv => whnf); (first | apply And.intro | intro _))
  all_goals try (conv => whnf)
  all_goals try exact ⟨Nat.le_of_ble_eq_true rfl⟩
  all_goals try exact ⟨rfl⟩
  all_goals try (refine Ob.mk ?_; (try simp only [Duty.of_p, inRQ]); subst_vars; (try simp only [getL, getI, getB, castL_rfl] at *); (try dsimp only [kL, kI, Tup, CK.ty] at *); (try simp only [getL, getI, getB, gi_nn, castL_rfl, Nat.zero_add, Nat.add_zero, Nat.sub_zero, Int.toNat_natCast, List.length_set, List.length_replicate, List.length_cons, List.length_nil, decide_eq_true_eq, decide_eq_false_iff_not, cap40, inR] at *); (all_goals first | omega | (split <;> omega)))
  all_goals try trivial
  rename_i l fn T Db _ _
  subst_vars
  simp (config := { maxSteps := 5000000 }) only [getL, Nat.zero_add, Int.toNat_natCast] at *
  refine ⟨Nat, fun i => i ≤ L.length ∧ ∀ j, j < i → ¬ hitP L ([] : List (Int × Bool)) k j, fun i => ⟨slotsT 33 [0, 1, 2, 3, 8, 9, 10] [.a (.yl 8), .a (.p 5 [] 0 0), .a (.p 6 [] 0 0), .a (.p 7 [] 0 0), .a (.sl 0 [] 0 L.length), .a (vI L.length), .a (vI i)], [slotsT 69 [1, 3, 5, 6, 7] [.a (.v (.map none)), .a (.p 1 [] 0 0), .a (.p 2 [] 0 0), .a (.p 3 [] 0 0), .a (.p 4 [] 0 0)]], [.arr 44 kL L false false, .box true [vI N, .sl 0 [] 0 L.length], .box true [vI k], .box true [.ff], .box true [vI (lk L k).1, vI (lk L k).2.1, vI (lk L k).2.2], .box true [vI N, .sl 0 [] 0 L.length], .box true [vI (lk L k).2.1], .box true [.v (.map none)], .lp l (slotsT 69 [1, 3, 5, 6, 7] [.a (.v (.map none)), .a (.p 1 [] 0 0), .a (.p 2 [] 0 0), .a (.p 3 [] 0 0), .a (.p 4 [] 0 0)]) { state := .ready, pending := none, fn := fn, tmps := T, params := #[22, 23], assign := asg74, body := body74, defers := Db } .ready none]⟩, fun i => L.length - i, 0, [], ⟨Nat.zero_le _, fun j hj => absurd hj (Nat.not_lt_zero _)⟩, ?_, ?_⟩
  · repeat' ((conv => whnf); (first | apply And.intro | intro _))
    all_goals first | rfl | trivial | exact Nat.le_of_ble_eq_true rfl | exact ⟨rfl, rfl, rfl⟩ | exact ⟨rfl, rfl, rfl, rfl⟩ | exact ⟨rfl, rfl, rfl, rfl, rfl⟩
  rintro i ⟨hi, hno⟩
  by_cases hi1 : i < L.length
  · repeat' ((conv => whnf); (first | apply And.intro | intro _))
    all_goals try (conv => whnf)
    all_goals try exact (key_ge (i := i) (n := L.length) hi1 (by assumption)).elim
    all_goals try exact ⟨Nat.le_of_ble_eq_true rfl⟩
    all_goals try exact ⟨rfl⟩
    all_goals try (refine Ob.mk ?_; (try simp only [Duty.of_p, inRQ]); subst_vars; (try simp only [getL, getI, getB, castL_rfl] at *); (try dsimp only [kL, kI, Tup, CK.ty] at *); (try simp only [getL, getI, getB, gi_nn, castL_rfl, Nat.zero_add, Nat.add_zero, Nat.sub_zero, Int.toNat_natCast, List.length_set, List.length_replicate, List.length_cons, List.length_nil, decide_eq_true_eq, decide_eq_false_iff_not, cap40, inR] at *); (all_goals first | omega | (split <;> omega)))
    all_goals try (simp only [get0] at *; first
      | exact hit_t hT hi1 (by assumption) (by assumption) (by assumption) (by assumption) (by assumption) (by assumption) (by assumption) (by assumption) (.inl (by assumption))
      | exact hit_t hT hi1 (by assumption) (by assumption) (by assumption) (by assumption) (by assumption) (by assumption) (by assumption) (by assumption) (.inr (by assumption)))
    all_goals (have hnh : ¬ hitP L ([] : List (Int × Bool)) k i := by
                      simp only [get0] at *
                      first
                      | exact nh1 (by assumption) (by assumption)
                      | exact nh2 (by assumption) (by assumption)
                      | exact nh3 (by assumption)
                      | exact nh4 (by assumption) (by assumption)
                      | exact nh5 (by assumption) (by assumption) (by assumption) (by assumption) (by assumption))
    all_goals refine ⟨i + 1, [], ⟨hi1, fun j hj => (Nat.lt_succ_iff_lt_or_eq.1 hj).elim (hno j) (fun e => e ▸ hnh)⟩, ?_, by show L.length - (i + 1) < L.length - i; omega⟩
    all_goals repeat' ((conv => whnf); (first | apply And.intro | intro _))
    all_goals first | rfl | trivial | exact Nat.le_of_ble_eq_true rfl | exact ⟨rfl, rfl, rfl⟩ | exact ⟨rfl, rfl, rfl, rfl⟩ | omega
  obtain rfl : L.length = i := by omega
  repeat' ((conv => whnf); (first | apply And.intro | intro _))
  all_goals try (conv => whnf)
  all_goals try exact (key_lt (i := L.length) (n := L.length) hi1 (by assumption)).elim
  all_goals try exact ⟨Nat.le_of_ble_eq_true rfl⟩
  all_goals try exact ⟨rfl⟩
  all_goals try (refine Ob.mk ?_; (try simp only [Duty.of_p, inRQ]); subst_vars; (try simp only [getL, getI, getB, castL_rfl] at *); (try dsimp only [kL, kI, Tup, CK.ty] at *); (try simp only [getL, getI, getB, gi_nn, castL_rfl, Nat.zero_add, Nat.add_zero, Nat.sub_zero, Int.toNat_natCast, List.length_set, List.length_replicate, List.length_cons, List.length_nil, decide_eq_true_eq, decide_eq_false_iff_not, cap40, inR] at *); (all_goals first | omega | (split <;> omega)))
  subst_vars
  refine ⟨List Nat × List (Int × Bool), fun p => SeenI ([] : List (Int × Bool)) k p, fun p => ⟨slotsT 69 [3, 6, 7, 10, 50] [.a (.p 1 [] 0 0), .a (.p 3 [] 0 0), .a (.p 4 [] 0 0), .a (.mp 9), .a (.it 10)], [], [.arr 44 kL L false false, .box true [vI N, .sl 0 [] 0 L.length], .dead, .box true [.ff], .box true [vI (lk L k).1, vI (lk L k).2.1, vI (lk L k).2.2], .dead, .dead, .dead, .dead, .map 91 .i64 .bool p.2 true, .iter none 0 []]⟩, fun p => ([] : List (Int × Bool)).length - p.1.length, ([], mset [] (k : Int) true), [], SeenI.zero ([] : List (Int × Bool)) k, ?_, ?_⟩
  · repeat' ((conv => whnf); (first | apply And.intro | intro _))
    all_goals first | rfl | trivial | exact Nat.le_of_ble_eq_true rfl | exact ⟨rfl, rfl, rfl⟩ | exact ⟨rfl, rfl, rfl, rfl⟩
  rintro p hp
  repeat' ((conv => whnf); (first | apply And.intro | intro _))
  all_goals try (conv => whnf)
  all_goals try exact LexP.mk (by kernel_rfl)
  all_goals try exact ForcedP.mk (by kernel_rfl)
  all_goals try exact ⟨Nat.le_of_ble_eq_true rfl⟩
  all_goals try exact ⟨rfl⟩
  all_goals try (refine Ob.mk ?_; (try simp only [Duty.of_p, inRQ]); subst_vars; (try simp only [getL, getI, getB, castL_rfl] at *); (try dsimp only [kL, kI, Tup, CK.ty] at *); (try simp only [getL, getI, getB, gi_nn, castL_rfl, Nat.zero_add, Nat.add_zero, Nat.sub_zero, Int.toNat_natCast, List.length_set, List.length_replicate, List.length_cons, List.length_nil, decide_eq_true_eq, decide_eq_false_iff_not, cap40, inR] at *); (all_goals first | omega | (split <;> omega)))
  all_goals try first | exact rfl | exact trivial | exact ha | exact (hlk k hk).1.1.1 | exact (hlk k hk).1.1.2
  · exact ⟨(hlk k hk).1.2⟩
  · refine ⟨?_⟩
    have e1 := bounds_len (es := p.2) ha (hlk k hk).1.1
    have e2 := (hlk k hk).1.2
    show 0 + (lk L k).2.1.toNat < (boundsF N L p.2 (lk L k).1).length
    rw [e1]
    unfold inN at e2
    omega
  · rename_i m hm
    subst hm
    rw [Nat.zero_add]
    show decide (gi (boundsF N L p.2 (lk L k).1) (lk L k).2.1 ≤ (lk L k).2.2) = r
    rw [hF fun i hi => hno i hi, bounds_congr (hp.done (fun j hj => absurd hj (Nat.not_lt_zero _)))]
end Go.Proofs.Ytlmhkeoblgodiaa
end

section
/-
  Chapter 2: the contract of idle; contracts for runs at fixed numbers.
-/
namespace Go.Proofs.Ytlmhkeoblgodiaa
open Go Go.Sy Go.Chn
set_option maxRecDepth 100000
set_option linter.unusedVariables false
variable {Γ : Glob}

/-- Does Check accept a system? -/
def askB (N : Nat) (L : List Lk) : Bool :=
  decide (1 ≤ N) && decide (N ≤ 60) && decide (L.length ≤ 300) && L.all fun l => decide (0 ≤ l.1) && decide (l.1 < N) && decide (0 ≤ l.2.1) && decide (l.2.1 < N) && !(l.1 == l.2.1) && decide (-4503599627370496 ≤ l.2.2) && decide (l.2.2 ≤ 4503599627370496)
theorem askB_iff {N : Nat} {L : List Lk} : askB N L = true ↔ AskL N L := by
  simp only [askB, Bool.and_eq_true, decide_eq_true_eq, List.all_eq_true, Bool.not_eq_true', beq_eq_false_iff_ne]
  constructor
  · rintro ⟨⟨⟨h1, h2⟩, h3⟩, h4⟩
    exact ⟨⟨h1, h2⟩, h3, ⟨h2, fun l hl => ⟨⟨(h4 l hl).1.1.1.1.1.1, (h4 l hl).1.1.1.1.1.2⟩, (h4 l hl).1.1.1.1.2, (h4 l hl).1.1.1.2⟩, fun l hl => (h4 l hl).1.1.2, fun l hl => ⟨(h4 l hl).1.2, (h4 l hl).2⟩⟩⟩
  · intro h
    exact ⟨⟨⟨h.n.1, h.n.2⟩, h.l⟩, fun l hl => ⟨⟨⟨⟨⟨⟨(h.ok.nd l hl).1.1, (h.ok.nd l hl).1.2⟩, (h.ok.nd l hl).2.1⟩, (h.ok.nd l hl).2.2⟩, h.ok.ne l hl⟩, (h.ok.ms l hl).1⟩, (h.ok.ms l hl).2⟩⟩
def askD (N : Nat) (L : List Lk) : Duty := ⟨AskL N L, askB N L, askB_iff⟩
instance (L : List Lk) (es : List (Int × Bool)) (k i : Nat) : Decidable (hitP L es k i) := by unfold hitP; exact inferInstance
/-- Can a link be left out, besides others? -/
def idleF (N : Nat) (L : List Lk) (es : List (Int × Bool)) (k : Nat) : Bool :=
  (List.range L.length).any (fun i => decide (hitP L es k i)) || decide (gi (boundsF N L (lessF es k) (lk L k).1) (lk L k).2.1 ≤ (lk L k).2.2)
def c74 : Ctr := .fn fun args rg => match args with
  | [.agg [.v (.int .i64 N), xs], .a o, .a (.v (.int .i64 k))] => (match lksOf rg xs, esOf rg o with
     | some (q, L), some es => some (q ++ [(Duty.of (N = N.toNat)), askD N.toNat L, (Duty.of (0 ≤ k)), (Duty.of (k < L.length))], .a (.v (.bool (idleF N.toNat L es k.toNat))))
     | _, _ => none)
  | _ => none
theorem c74_ok : Ctr.Ok Try.prog Γ 74 c74 := Ctr.fn_ok (d := 3) e74_ok (b := b74) (body_of Try.func74 rfl rfl) (by
  intro args rg q t hF hq
  split at hF
  next N xs o k =>
    split at hF
    next q0 L es hx ho =>
      obtain ⟨rfl, rfl⟩ := Prod.mk.inj (Option.some.inj hF); clear hF
      obtain ⟨hq0, hN, ha, hk0, hk1, _⟩ := (obl_append _ _).1 hq
      simp only [Duty.of_p] at hN hk0 hk1
      replace ha : AskL N.toNat L := ha
      obtain ⟨n, hn⟩ : ∃ n : Nat, N = n := ⟨_, hN⟩
      obtain ⟨m, hm⟩ : ∃ m : Nat, k = m := ⟨k.toNat, by omega⟩
      subst hn hm
      simp only [Int.toNat_natCast] at ha ⊢
      have hk : m < L.length := by omega
      refine ⟨rfl, ?_⟩
      have hT : ∀ es : List (Int × Bool), ∀ i, i < L.length → hitP L es m i → idleF n L es m = true := fun es i hi hh => by
        unfold idleF
        rw [List.any_eq_true.2 ⟨i, List.mem_range.2 hi, decide_eq_true hh⟩]; rfl
      have hF : ∀ es : List (Int × Bool), (∀ i, i < L.length → ¬ hitP L es m i) → idleF n L es m = decide (gi (boundsF n L (lessF es m) (lk L m).1) (lk L m).2.1 ≤ (lk L m).2.2) := fun es hno => by
        unfold idleF
        rw [show (List.range L.length).any (fun i => decide (hitP L es m i)) = false from List.any_eq_false.2 fun i hi => by simpa using hno i (List.mem_range.1 hi)]; rfl
      rcases pas_sys hx hq0 ho with ⟨rfl, rfl, is, p1, p2⟩ | ⟨is, p1, p2, p3⟩
      · exact ⟨is, [.agg [vI n, .sl 0 [] 0 L.length], .a (.v (.map none)), .a (vI m)], [.arr 44 kL L false false], ⟨⟨⟨rfl, p1, trivial⟩, rfl, rfl, trivial⟩, p2⟩, idle_nil ha hk (hT _) (hF _)⟩
      · exact ⟨is, [.agg [vI n, .sl 0 [] 0 L.length], .a (.mp 1), .a (vI m)], [.arr 44 kL L false false, .map 91 .i64 .bool es false], ⟨⟨⟨rfl, p1, trivial⟩, p2, rfl, trivial⟩, p3⟩, idle_map ha hk (hT _) (hF _)⟩
    next => cases hF
  next => cases hF)

/-! ### For runs at fixed numbers: what must hold is looked at, what is reckoned is written out -/
def c72c : Ctr := .new fun args rg K => match args with
  | [.agg [.v (.int .i64 N), xs], .a o, .a (.v (.int .i64 v))] => (match lksOf rg xs, esOf rg o with
     | some (q, L), some es => oblige true (q ++ [(Duty.of (N = N.toNat)), askD N.toNat L, (Duty.of (0 ≤ v)), (Duty.of (v < N.toNat))]) (eachK intK (boundsF N.toNat L es v) fun ys => natK N.toNat fun n => K ⟨[.arr 3 kI ys true true], .a (.sl 0 [] 0 n)⟩)
     | _, _ => False)
  | _ => False
theorem c72c_ok : Ctr.Ok Try.prog Γ 72 c72c := Ctr.new_mono c72_ok (by
  intro args rg K h
  split at h
  next N xs o v =>
    split at h
    next q L es hx ho =>
      rw [oblige_iff, obl_append, eachK_id intK_eq, natK_eq] at h
      obtain ⟨⟨hq, hN, ha, hv0, hv1, _⟩, hK⟩ := h
      simp only [hx, ho]
      exact ⟨⟨hq, hN, ha, hv0, hv1⟩, hK⟩
    next => exact h.elim
  next => exact h.elim)
def c65c : Ctr := .new fun args rg K => match args with
  | [.agg [.v (.int .i64 N), xs], .a o] => (match lksOf rg xs, esOf rg o with
     | some (q, L), some es => oblige true (q ++ [(Duty.of (N = N.toNat)), askD N.toNat L]) (boolK (relaxF N.toNat L es (List.replicate N.toNat 0)).1 fun b => match b with
        | true => eachK intK (solF N.toNat L es) fun ys => natK N.toNat fun n => K ⟨[.arr 3 kI ys true true], .tup [.a (.sl 0 [] 0 n), .a .tt]⟩
        | false => K ⟨[], .tup [.a (.v (.slice none 0 0)), .a .ff]⟩)
     | _, _ => False)
  | _ => False
theorem c65c_ok : Ctr.Ok Try.prog Γ 65 c65c := Ctr.new_mono c65_ok (by
  intro args rg K h
  split at h
  next N xs o =>
    split at h
    next q L es hx ho =>
      rw [oblige_iff, obl_append, boolK_eq] at h
      obtain ⟨⟨hq, hN, ha, _⟩, hK⟩ := h
      simp only [hx, ho]
      refine ⟨⟨hq, hN, ha⟩, fun hT => ?_, fun hF => ?_⟩
      · rw [hT] at hK
        simp only [natK_eq, eachK_id intK_eq] at hK
        exact hK
      · rw [hF] at hK
        exact hK
    next => exact h.elim
  next => exact h.elim)
end Go.Proofs.Ytlmhkeoblgodiaa
end

section
/-
  Chapter 2: the tests that follow is handed.
-/
namespace Go.Proofs.Ytlmhkeoblgodiaa
open Go Go.Sy Go.Chn
set_option maxRecDepth 100000
set_option linter.unusedVariables false
variable {Γ : Glob}
def c67 : Ctr := .fn fun args rg => match args with
  | [.a (.v (.int .i64 n))] => some ([], .a (.v (.bool (decide (n < 0)))))
  | _ => none
theorem c67_ok : Ctr.Ok Try.prog Γ 67 c67 := Ctr.fn_ok (d := 0) (prog_ok CsOk.nil BsOk.nil false 0) (body_of Try.func67 rfl rfl) (by
  intro args rg q t hF hq
  split at hF
  next n =>
    obtain ⟨rfl, rfl⟩ := Prod.mk.inj (Option.some.inj hF); clear hF
    refine ⟨rfl, [], [.a (vI n)], [], ⟨⟨rfl, trivial⟩, fun r g hg => by simp at hg⟩, ?_⟩
    repeat' ((conv => whnf); (first | apply And.intro | intro _))
    all_goals try (conv => whnf)
    all_goals try exact LexB.mk (by kernel_rfl)
    all_goals first | rfl | trivial
  next => cases hF)
def boxI (rg : List Reg) (r : Nat) : Option Int := match rg.getD r .dead with | .box _ [.v (.int .i64 n)] => some n | _ => none
def c78 : Ctr := .fn fun args rg => match args with
  | [.a (.v (.int .i64 n)), .a (.p r [] 0 0)] => (match boxI rg r with | some m => some ([], .a (.v (.bool (n == m)))) | none => none)
  | _ => none
theorem c78_ok : Ctr.Ok Try.prog Γ 78 c78 := Ctr.fn_ok (d := 0) (prog_ok CsOk.nil BsOk.nil false 0) (body_of Try.func78 rfl rfl) (by
  intro args rg q t hF hq
  split at hF
  next n r =>
    split at hF
    next m hm =>
      obtain ⟨rfl, rfl⟩ := Prod.mk.inj (Option.some.inj hF); clear hF
      refine ⟨rfl, [some (r, [])], [.a (vI n), .a (.p 0 [] 0 0)], [.box false [vI m]], ⟨⟨rfl, ⟨r, [], rfl, Nat.zero_lt_one, rfl⟩, trivial⟩, fun r2 g hg => ?_⟩, ?_⟩
      · match r2, hg with
        | 0, hg =>
          obtain rfl := Option.some.inj hg
          unfold boxI at hm
          split at hm
          · rename_i o n' hb
            obtain rfl := Option.some.inj hm
            exact ⟨rfl, r, o, _, rfl, getD_reg (st := ⟨⟨0, .nil⟩, [], rg⟩) hb (by simp), rfl, trivial⟩
          · cases hm
      · repeat' ((conv => whnf); (first | apply And.intro | intro _))
        all_goals try (conv => whnf)
        all_goals try exact LexB.mk (by kernel_rfl)
        all_goals first | rfl | trivial
    next => cases hF
  next => cases hF)
end Go.Proofs.Ytlmhkeoblgodiaa
end

section
/-
  Chapter 2: runs at the example's numbers: slices.Reverse.
-/
namespace Go.Proofs.Ytlmhkeoblgodiaa
open Go Go.Sy Go.Chn
set_option maxRecDepth 100000
set_option maxHeartbeats 1000000
set_option linter.unusedVariables false
variable {Γ : Glob}
noncomputable def bo (fn : Func) : Body := match fn.body with | some c => ⟨fn.ntmps, c, fn.results.toList⟩ | none => ⟨0, .skip, []⟩
def t75 : OT := (.take 0 (.take 1 (.take 2 (.take 3 (.take 4 (.take 5 (.take 6 (.take 8 (.take 9 (.take 10 (.alt 7 (.alt 11 (.take 12 (.alt 13 (.take 14 (.alt 15 .fin .fin)) .fin)) .fin) (.alt 11 (.alt 7 (.take 12 (.alt 13 (.take 14 (.alt 15 .fin .fin)) .fin)) .fin) .fin))))))))))))
noncomputable def e75 : Env := { tabs.env [] [] false 3 with tree := fun id => match Nat.beq id 3 with | true => some t75 | false => none }
theorem run75 : evTopW e75 0 (bo Try.f75) [.a (.sl 0 [] 0 4)] [.arr 3 kI [(4 : Int), (3 : Int), (1 : Int), (0 : Int)] true true] 0 4 (fun x st => eqT x (.tup []) ∧ backW st 3 kI [(0 : Int), (1 : Int), (3 : Int), (4 : Int)] 4) := by
  repeat' ((conv => whnf); (first | apply And.intro | intro _))
  all_goals try (conv => whnf)
  all_goals try exact LexT.mk (by kernel_rfl)
  all_goals subst_vars
  all_goals try first | rfl | trivial | exact ⟨(Duty.h _).1 (by decide +kernel)⟩ | exact ⟨_, rfl⟩
  all_goals try (exfalso; simp at *; done)

theorem body_bo {f : FuncId} {fn : Func} (h : Try.prog.funcs[f]? = some fn) (h2 : (fn.name == "runtime.NumGoroutine") = false) {c : Code} (h3 : fn.body = some c) : BodyOk Try.prog f (bo fn) := by
  have : bo fn = ⟨fn.ntmps, c, fn.results.toList⟩ := by unfold bo; rw [h3]
  rw [this]; exact body_of h h2 h3
theorem _root_.Go.Sy.ProgOk.trees {E : Env} (h : ProgOk Try.prog Γ E) (o : Nat → Option OT) : ProgOk Try.prog Γ { E with tree := o } := ⟨h.mixed, h.fn, h.inl, { h.env with }⟩
theorem e75_ok : ProgOk Try.prog Γ e75 := (prog_ok CsOk.nil BsOk.nil false 3).trees _
/-- Four numbers turned round. -/
def c75p : Ctr := .rel fun args rg K => match args with
  | [.a (.sl r [] 0 k)] => (match rg.getD r .dead with
     | .arr 3 tg x true i => (match tagEq tg kI, Nat.beq k 4 with
        | some h, true => (match tupsB kI (castL h.down x) [(4 : Int), (3 : Int), (1 : Int), (0 : Int)] with
           | true => K [(r, .arr 3 kI [(0 : Int), (1 : Int), (3 : Int), (4 : Int)] true i)] ⟨[], .tup []⟩
           | false => False)
        | _, _ => False)
     | _ => False)
  | _ => False
theorem c75p_ok : Ctr.Ok Try.prog Γ 75 c75p := Ctr.rel1_ok (d := 0) e75_ok (b := bo Try.f75) (body_bo Try.func75 rfl rfl) (by
  intro args rg K hC
  split at hC
  next r k =>
    split at hC
    next tg x i hr =>
      split at hC
      next h _ hk =>
        split at hC
        next hx =>
          obtain rfl := Nat.eq_of_beq_eq_true hk
          obtain ⟨h⟩ := h
          subst h
          have hx := tupsB_eq (by decide) hx
          have hx : x = [(4 : Int), (3 : Int), (1 : Int), (0 : Int)] := hx
          subst hx
          have hr' := getD_reg (st := ⟨⟨0, .nil⟩, [], rg⟩) hr (by simp)
          refine ⟨[some (r, [])], [.a (.sl 0 [] 0 4)], [.arr 3 kI [(4 : Int), (3 : Int), (1 : Int), (0 : Int)] false false], r, 0, 0, 4, 3, kI, [(4 : Int), (3 : Int), (1 : Int), (0 : Int)], [(0 : Int), (1 : Int), (3 : Int), (4 : Int)], .tup [], i,
            ⟨⟨.inr ⟨r, [], rfl, by show 0 < 1; omega, rfl⟩, trivial⟩, fun r2 g hg => ?_⟩, rfl, rfl, hr', rfl, by omega, rfl, fun r2 r3 π h1 h2 => ?_, hC, rfl, run75⟩
          · match r2, hg with
            | 0, hg => obtain rfl := Option.some.inj hg; exact ⟨rfl, rfl, .inr ⟨r, [], [], rfl, by rw [hr]; rfl, trivial⟩⟩
          · match r2, h1 with
            | 0, _ => rfl
        next => exact hC.elim
      next => exact hC.elim
    next => exact hC.elim
  next => exact hC.elim)
end Go.Proofs.Ytlmhkeoblgodiaa
end

section
/-
  Chapter 2: runs at the example's numbers, by the kernel.
-/
namespace Go.Proofs.Ytlmhkeoblgodiaa
open Go Go.Sy Go.Chn
set_option maxRecDepth 100000
set_option maxHeartbeats 1000000
set_option linter.unusedVariables false
variable {Γ : Glob}
noncomputable def bsA : List (Nat × Body) := [(24, bo Try.f24), (25, bo Try.f25), (30, bo Try.f30), (31, bo Try.f31), (32, bo Try.f32), (33, bo Try.f33), (38, bo Try.f38), (39, bo Try.f39), (45, bo Try.f45), (52, bo Try.f52),
  (62, bo Try.f62), (63, bo Try.f63), (64, bo Try.f64), (66, bo Try.f66), (73, bo Try.f73), (76, bo Try.f76), (77, bo Try.f77), (79, bo Try.f79),
  (81, bo Try.f81), (83, bo Try.f83), (84, bo Try.f84), (85, bo Try.f85), (86, bo Try.f86), (88, bo Try.f88), (90, bo Try.f90), (91, bo Try.f91), (92, bo Try.f92)]
def exL : List Lk := [(0, 1, 5), (1, 2, 3), (0, 2, 9), (2, 0, -6), (2, 1, -2)]
def exL2 : List Lk := [(0, 1, 5), (1, 2, 3), (0, 2, 9), (2, 0, -6), (2, 1, -2), (1, 0, -6)]
def exT : List (List Int) := [[0, 1152921504606846976, 1152921504606846976, 1152921504606846976], [1152921504606846976, -6, -6, 1152921504606846976], [-1, -3, -8, 1152921504606846976], [1, -7, -7, 1152921504606846976], [-2, -5, -9, 1152921504606846976]]
def kT : List CK := [.sl 3 kI]
def csA : List (Nat × Ctr) := [(22, c22), (65, c65c), (72, c72c), (74, c74), (67, c67), (78, c78), (75, c75p)]

/-- The elements that a slice has, of any kind. -/
def arrOf (te : TypeId) (tg : List CK) (rg : List Reg) : At → Option (List Duty × List (Tup tg))
  | .sl r π lo n => (match (rg.getD r .dead).dn π with | some (q, ⟨te', tg', xs⟩) => (match natEq te' te, tagEq tg' tg with | some _, some h => some (q ++ [(Duty.of (lo = 0)), (Duty.of (n = xs.length))], castL h.down xs) | _, _ => none) | _ => none)
  | .v (.slice none 0 0) => some ([], [])
  | .z => some ([], [])
  | _ => none
theorem pas_arr {te : TypeId} {tg : List CK} (htg : tg ≠ []) {rg : List Reg} {x : At} {q : List Duty} {L : List (Tup tg)} (h : arrOf te tg rg x = some (q, L)) (hq : obl q) :
    ∃ e : Option (Nat × Path), ∀ (is : Pas) (k n : Nat), is[k]? = some e → k < n → paA is n x (.sl k [] 0 L.length) ∧ paR rg is n k (.arr te tg L false false) := by
  unfold arrOf at h
  split at h
  · rename_i r π lo n
    split at h
    · rename_i q0 te' tg' xs hd
      split at h
      · rename_i h1 h2 _ _
        obtain ⟨rfl, rfl⟩ := Prod.mk.inj (Option.some.inj h)
        obtain rfl := h1.down
        obtain ⟨h2⟩ := h2
        subst h2
        obtain ⟨h1, h2, h3, _⟩ := (obl_append _ _).1 hq
        simp only [Duty.of_p] at h2 h3
        subst h2 h3
        exact ⟨some (r, π), fun is k m hi hm => ⟨.inr ⟨r, π, rfl, hm, hi⟩, rfl, rfl, .inr ⟨r, π, q0, hi, hd, h1⟩⟩⟩
      · cases h
    · cases h
  · obtain ⟨rfl, rfl⟩ := Prod.mk.inj (Option.some.inj h)
    exact ⟨none, fun is k m hi hm => ⟨.inl ⟨.inl rfl, rfl, rfl, hm, hi⟩, rfl, rfl, .inl ⟨hi, rfl, htg⟩⟩⟩
  · obtain ⟨rfl, rfl⟩ := Prod.mk.inj (Option.some.inj h)
    exact ⟨none, fun is k m hi hm => ⟨.inl ⟨.inr rfl, rfl, rfl, hm, hi⟩, rfl, rfl, .inl ⟨hi, rfl, htg⟩⟩⟩
  · cases h
def eqT2 (T U : List (List Int)) : Duty := (Duty.of (T = U))
/-- A slice handed back. -/
def slB1 (te : TypeId) (tg : List CK) (xs : List (Tup tg)) (x : Tm) (st : St) : Bool :=
  match x with
  | .a (.sl i [] 0 n) => Nat.beq n xs.length && regB te tg xs (st.rg.getD i .dead)
  | _ => false
theorem slB1_sound {te : TypeId} {tg : List CK} {xs : List (Tup tg)} {x : Tm} {st : St} {K : Res → Prop} (hn : noStr tg = true) (hK : K ⟨[.arr te tg xs true true], .a (.sl 0 [] 0 xs.length)⟩) (h : slB1 te tg xs x st = true) : resK K x st := by
  unfold slB1 at h
  split at h
  · rename_i i n
    simp only [Bool.and_eq_true] at h
    obtain rfl := Nat.eq_of_beq_eq_true h.1
    exact ⟨_, [i], hK, ⟨regB_sound hn h.2, rfl, (by simp), trivial⟩, rfl, rfl, rfl, rfl, rfl⟩
  · cases h
def csB : List (Nat × Ctr) := [(67, c67), (78, c78)]
noncomputable def bs68 : List (Nat × Body) := [(68, bo Try.f68)]
noncomputable def e68 : Env := tabs.env csB [] true 100
noncomputable def q68 : Prop := evTop e68 2 (bo Try.f68) [.agg [vI 4, .sl 0 [] 0 6], .a (vI 0), .a (vI 2), .a (.sl 1 [] 0 5), .a (.fn 67 [])] [.arr 44 kL exL2 false false, .arr 32 kT exT false false] (fun x st => isT (slB1 3 kI [(0 : Int), (5 : Int)] x st))
theorem run68 : q68 := of_eq_true (by kernel_rfl)
theorem csB_ok : CsOk Try.prog Γ csB := (CsOk.nil.cons (body_of Try.func78 rfl rfl).fn c78_ok).cons (body_of Try.func67 rfl rfl).fn c67_ok
/-- The chain that follow finds in the example. -/
def c68p : Ctr := .new fun args rg K => match args with
  | [.agg [.v (.int .i64 N), xs], .a (.v (.int .i64 f)), .a (.v (.int .i64 k)), .a t, .a (.fn 67 [])] => (match lksOf rg xs, arrOf 32 kT rg t with
     | some (q, L), some (q', T) => oblige true (q ++ (q' ++ [(Duty.of (N = 4)), (Duty.of (L = exL2)), (Duty.of (f = 0)), (Duty.of (k = 2)), eqT2 T exT])) (K ⟨[.arr 3 kI [(0 : Int), (5 : Int)] true true], .a (.sl 0 [] 0 2)⟩)
     | _, _ => False)
  | _ => False
theorem c68p_ok : Ctr.Ok Try.prog Γ 68 c68p := Ctr.new_okX (d := 2) (prog_ok csB_ok BsOk.nil true 100) (b := bo Try.f68) (body_bo Try.func68 rfl rfl) (by
  intro args rg K hC
  split at hC
  next N xs f k t =>
    split at hC
    next q L q' T hx ht =>
      rw [oblige_iff, obl_append, obl_append] at hC
      obtain ⟨⟨hq, hq', h1, h2, h3, h4, h5, _⟩, hK⟩ := hC
      simp only [Duty.of_p] at h1 h2 h3 h4
      replace h5 : T = exT := h5
      subst h1 h2 h3 h4 h5
      obtain ⟨e, he, _⟩ := pas_lks' hx hq
      obtain ⟨e', he'⟩ := pas_arr (by simp [kT]) ht hq'
      obtain ⟨p1, p2⟩ := he [e, e'] 2 rfl (by omega)
      obtain ⟨p3, p4⟩ := he' [e, e'] 1 2 rfl (by omega)
      refine ⟨[e, e'], [.agg [vI 4, .sl 0 [] 0 6], .a (vI 0), .a (vI 2), .a (.sl 1 [] 0 5), .a (.fn 67 [])], [.arr 44 kL exL2 false false, .arr 32 kT exT false false], ⟨⟨⟨rfl, p1, trivial⟩, rfl, rfl, p3, ⟨[], rfl, trivial⟩, trivial⟩, fun r g hg => ?_⟩,
        _, run68, fun x st h => slB1_sound (by decide) hK (isT_iff.1 h)⟩
      match r, hg with
      | 0, hg => obtain rfl := Option.some.inj hg; exact p2
      | 1, hg => obtain rfl := Option.some.inj hg; exact p4
    next => exact hC.elim
  next => exact hC.elim)
end Go.Proofs.Ytlmhkeoblgodiaa
end
