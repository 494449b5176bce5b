/-
  Texts of the claims on chapter 2: Yk4. No condition: lemmas and contracts.
-/
import Derived.Test.YtlmhkeoblgodiaaYa
import Derived.Test.YtlmhkeoblgodiaaSy4
import Derived.Test.YtlmhkeoblgodiaaRows
import Derived.ProofKit
import Derived.Deep.DeepHandedRow
import Derived.Deep.Slices
import Derived.Lib.LaidTab
import Derived.Lib.SmallJoins
import Derived.Stop.LaidErr
import Derived.Carry
set_option linter.all false
section
/-
  Chapter 2: from the walks to the rows: what all statements share.
-/
namespace Go.Proofs.Ytlmhkeoblgodiaa
open Go Go.Sy Go.ChangeShapes Go.WideShapes Go.RowKit
set_option maxRecDepth 100000

theorem own : ownKnob Try.prog.godebug = none := by kernel_rfl
theorem laidOut : laidOutB Try.prog = true := by kernel_rfl

/-- Arguments of plain types read in a later world as they did. -/
theorem trodAll_below {H : Type} {enc : TypeId × Value → H} {W W' : World} (hb : Below W.heap.size W W') :
    ∀ (ts : List TypeId) (vs : List Value) (ds : List (DataW H)) (ps : List MemPlace), ts.all (fun t => Try.prog.readableRec t && decide (t < Try.prog.types.size)) = true →
      DataW.TrodAll enc Try.prog W 0 (fun _ => true) true ts vs ds ps → (∀ x ∈ ps, x.block < W.heap.size) → DataW.TrodAll enc Try.prog W' 0 (fun b => decide (b < W.heap.size)) true ts vs ds ps := by
  intro ts
  induction ts with
  | nil =>
    intro vs ds ps _ h _
    obtain ⟨rfl, rfl, rfl⟩ := trodAll_nil h
    exact rfl
  | cons t ts ih =>
    intro vs ds ps ht h hlt
    obtain ⟨v, vs, d, ds, p, q, rfl, rfl, rfl, h1, h2⟩ := trodAll_cons h
    rw [List.all_cons, Bool.and_eq_true, Bool.and_eq_true, decide_eq_true_eq] at ht
    exact ⟨p, q, Below.trod laidOut ht.1.1 ht.1.2 h1 hb (fun x hx => hlt x (List.mem_append_left _ hx)), ih vs ds q ht.2 h2 (fun x hx => hlt x (List.mem_append_right _ hx)), rfl⟩

/-- A call that returns true and leaves old memory alone meets the row's word. -/
theorem post_true {H : Type} {enc : TypeId × Value → H} {f : Func} {s : ChangeSpec} {W W' : World} {args : Array Value} {ds gs : List (DataW H)} {before : List MemPlace}
    (hrt : f.resultTypes = #[4]) (hvars : s.vars = []) (hps : f.params.toList.all (fun t => Try.prog.readableRec t && decide (t < Try.prog.types.size)) = true)
    (hW : DataW.Whole enc Try.prog f.params.toList s.vars false W args.toList ds gs before) (hfn : (s.fn H (ds ++ [])) = { results := [.lit (.bool true)], args := ds })
    (hb : Below W.heap.size W W') : s.post enc Try.prog f false true false false W args (.bool true) W' := by
  have hW' := hW
  obtain ⟨p, q, hA, hV, rfl, hfz, hnd⟩ := hW
  rw [hvars] at hV
  obtain ⟨rfl, rfl⟩ := trodVars_none hV
  have hlt := fun x (hx : x ∈ p ++ []) => hW'.lt x hx
  refine ⟨ds, [], p ++ [], [], p, [], hW', ?_, ?_, ?_, Below.frame hb _, (fun h => by cases h)⟩
  · rw [hfn, hrt]
    exact trodAll_mk1 (shut_bool Try.underlying4 true)
  · rw [hfn]
    exact trodAll_below hb _ _ _ _ hps hA (fun x hx => hlt x (List.mem_append_left _ hx))
  · rw [hvars, hfn]
    exact rfl

/-! ### Arguments opened -/
/-- An array of plain cells in memory. -/
structure SlAt (w : World) (te : TypeId) (tg : List CK) (xs : List (Tup tg)) (I : RI) : Prop where
  ar : Ar.lies w (fun _ => I) [] ⟨te, tg, xs⟩
  lt : I.void = false → I.b < w.heap.size
section
variable {H : Type} {enc : TypeId × Value → H} {w : World} {base : Nat} {spare : Nat → Bool} {held : Bool}
theorem arg_int {r : Reach} {b0 : Nat} {v : Value} {d : DataW H} {p : List MemPlace} (hv : Value.okWide Try.prog w r b0 3 v) (h : DataW.Trod enc Try.prog w base spare held 3 v d p) : ∃ n, v = .int .i64 n := by
  obtain ⟨n, rfl, _, _, hw⟩ := open_int Try.underlying3 hv h
  exact ⟨n, rfl⟩
theorem cell_int {fuel : Nat} {c : Value} {y : DataW H × List MemPlace} (h : DataW.trod enc Try.prog w base spare held fuel 3 [c] = some y) : ∃ n, c = .int .i64 n := by
  obtain ⟨n, h1, _, hw⟩ := DataW.trod_int Try.underlying3 h
  simp only [List.cons.injEq, and_true] at h1
  exact ⟨n, h1⟩
theorem get_len {α : Type} {m : Nat} {f : Nat → α} {x : α} {i : Nat} (h : ((List.range m).map f)[i]? = some x) : i < m ∧ x = f i := by
  rw [List.getElem?_map] at h
  rcases Nat.lt_or_ge i m with hi | hi
  · rw [List.getElem?_range hi] at h
    exact ⟨hi, (Option.some.inj h).symm⟩
  · rw [List.getElem?_eq_none (by simpa using hi)] at h; cases h
theorem getD_range {tg : List CK} {te : TypeId} {m : Nat} {X : Nat → Tup tg} {i : Nat} (hi : i < m) : Ar.get ⟨te, tg, (List.range m).map X⟩ i = X i := by
  simp only [Ar.get, List.getD_eq_getElem?_getD, List.getElem?_map, List.getElem?_range hi, Option.map_some, Option.getD_some]
/-- A slice of plain structs in memory, as its type's reading finds it. -/
theorem sl_at {t te : TypeId} {tg : List CK} (htg : tg ≠ []) (ht : Try.prog.underlying t = some (.slice te)) (hc : Try.prog.cellsOf te = tg.length)
    (hone : ∀ (fuel : Nat) (cs : List Value) (y : DataW H × List MemPlace), cs.length = tg.length → DataW.trod enc Try.prog w base spare held fuel te cs = some y → ∃ x : Tup tg, ∀ η i, Tup.lies η [] i 0 tg x cs)
    {fuel : Nat} {v : Value} {y : DataW H × List MemPlace} (hlt : ∀ a len cap, v = .slice (some a) len cap → a.spot = none ∧ a.block < w.heap.size) (h : DataW.trod enc Try.prog w base spare held fuel t [v] = some y) :
    ∃ (I : RI) (xs : List (Tup tg)), I.head 0 xs.length v ∧ SlAt w te tg xs I := by
  rcases Go.Deep.open_slice ht h with ⟨hv, _⟩ | ⟨a, len, cap, m, n, D, Pl, hv, _, hl, hm, hmm, _, hx⟩
  · simp only [List.cons.injEq, and_true] at hv
    subst hv
    exact ⟨⟨0, 0, tg.length, 0, true⟩, [], ⟨fun _ => ⟨rfl, _, rfl⟩, (fun h => by cases h)⟩, ⟨htg, rfl, fun _ => rfl, (fun h => by cases h), fun i hi => by simp at hi⟩, (fun h => by cases h)⟩
  · simp only [List.cons.injEq, and_true] at hv
    subst hv
    obtain ⟨hs, hb⟩ := hlt a len cap rfl
    have hml : len ≤ m := by rw [hmm]; split <;> omega
    rw [hc] at hx
    have hX : ∀ i, i < len → ∃ p : Tup tg × List Value, w.cells? base (a.add (i * tg.length)) tg.length = some p.2 ∧ ∀ η j, Tup.lies η [] j 0 tg p.1 p.2 := fun i hi => by
      obtain ⟨cs, h1, h2⟩ := hx i (by omega)
      obtain ⟨_, h3, _⟩ := World.cells?_some h1
      obtain ⟨x, h4⟩ := hone _ _ _ h3 h2
      exact ⟨(x, cs), h1, h4⟩
    have : Inhabited (Tup tg × List Value) := ⟨(Tup.d tg, [])⟩
    obtain ⟨X, hX⟩ := Go.Deep.choose_lt hX
    obtain ⟨blk, off, spot⟩ := a
    obtain rfl : spot = none := hs
    refine ⟨⟨blk, off, tg.length, cap, false⟩, (List.range len).map fun i => (X i).1, ⟨(fun h => by cases h), fun _ => ⟨by simpa using hl, some ⟨blk, off, none⟩, by simp, fun _ => by simp [RI.at]⟩⟩, ⟨htg, rfl, (fun h => by cases h), fun _ => by simpa using hl, fun i hi => ?_⟩, fun _ => hb⟩
    have hi' : i < len := by simpa using hi
    obtain ⟨h1, h2⟩ := hX i hi'
    obtain ⟨_, h3, h4⟩ := World.cells?_some h1
    refine ⟨(X i).2, ?_, fun s y hs => ?_⟩
    · have := getD_range (te := te) (X := fun i => (X i).1) hi'
      rw [this]
      exact h2 _ _
    · have hsl : s < tg.length := by rw [← h3]; exact (List.getElem?_eq_some_iff.1 hs).1
      have := h4 s hsl
      rw [hs] at this
      rw [← this]
      congr 1
      show (⟨blk, off + (i * tg.length + s), none⟩ : Addr) = ((Addr.mk blk off none).add (i * tg.length)).add s
      rw [Addr.add_lit, Addr.add_lit, Nat.add_assoc]
theorem kI_one (fuel : Nat) (cs : List Value) (y : DataW H × List MemPlace) (hl : cs.length = kI.length) (h : DataW.trod enc Try.prog w base spare held fuel 3 cs = some y) : ∃ x : Tup kI, ∀ η i, Tup.lies η [] i 0 kI x cs := by
  match cs, hl with
  | [c], _ =>
    obtain ⟨n, rfl⟩ := cell_int h
    exact ⟨n, fun η i => ⟨_, rfl, rfl⟩⟩
theorem kL_one (fuel : Nat) (cs : List Value) (y : DataW H × List MemPlace) (hl : cs.length = kL.length) (h : DataW.trod enc Try.prog w base spare held fuel 44 cs = some y) : ∃ x : Tup kL, ∀ η i, Tup.lies η [] i 0 kL x cs := by
  match cs, hl with
  | [c0, c1, c2], _ =>
    obtain ⟨xs, n, _, _, _, hlen, hf⟩ := DataW.trod_struct Try.underlying44 h
    match xs, hlen with
    | [y0, y1, y2], _ =>
      have e : Try.prog.cellsOf 3 = 1 := by kernel_rfl
      obtain ⟨a, rfl⟩ := cell_int (c := c0) (by simpa [e] using hf 0 _ rfl)
      obtain ⟨b, rfl⟩ := cell_int (c := c1) (by simpa [e] using hf 1 _ rfl)
      obtain ⟨c, rfl⟩ := cell_int (c := c2) (by simpa [e] using hf 2 _ rfl)
      exact ⟨(a, b, c), fun η i => ⟨_, _, rfl, rfl, _, _, rfl, rfl, _, rfl, rfl⟩⟩
theorem slice_lt {r : Reach} {b0 : Nat} {t e : TypeId} (hu : Try.prog.underlying t = some (.slice e)) {v : Value} (hv : Cell.okWide Try.prog w r b0 t v) : ∀ a len cap, v = .slice (some a) len cap → a.spot = none ∧ a.block < w.heap.size := by
  rintro a len cap rfl
  simp only [hu, Cell.okWide, Cell.ok] at hv
  obtain ⟨_, _, _, h1, row, cells, h2, _⟩ := hv
  refine ⟨h1, ?_⟩
  unfold World.shape? at h2
  rcases Nat.lt_or_ge a.block w.heap.size with h3 | h3
  · exact h3
  · rw [Array.getElem?_eq_none h3] at h2; simp at h2
theorem okWide_cell {r : Reach} {b0 : Nat} {t e : TypeId} (hu : Try.prog.underlying t = some (.slice e)) {v : Value} (hv : Value.okWide Try.prog w r b0 t v) : Cell.okWide Try.prog w r b0 t v := by
  simpa only [Value.okWide, hu] using hv
theorem arg_ints {r : Reach} {b0 : Nat} {v : Value} {d : DataW H} {p : List MemPlace} (hv : Value.okWide Try.prog w r b0 32 v) (h : DataW.Trod enc Try.prog w base spare held 32 v d p) :
    ∃ (I : RI) (xs : List Int), I.head 0 xs.length v ∧ SlAt w 3 kI xs I := by
  obtain ⟨a0, len0, cap0, rfl⟩ := okWide_slice Try.underlying32 hv
  obtain ⟨fuel, hf⟩ := h
  exact sl_at (by simp [kI]) Try.underlying32 (by kernel_rfl) kI_one (slice_lt Try.underlying32 (okWide_cell Try.underlying32 hv)) (by simpa [Value.cells] using hf)
theorem arg_links {r : Reach} {b0 : Nat} {v : Value} {d : DataW H} {p : List MemPlace} (hv : Value.okWide Try.prog w r b0 22 v) (h : DataW.Trod enc Try.prog w base spare held 22 v d p) :
    ∃ (I : RI) (xs : List (Tup kL)), I.head 0 xs.length v ∧ SlAt w 44 kL xs I := by
  obtain ⟨a0, len0, cap0, rfl⟩ := okWide_slice Try.underlying22 hv
  obtain ⟨fuel, hf⟩ := h
  exact sl_at (by simp [kL]) Try.underlying22 (by kernel_rfl) kL_one (slice_lt Try.underlying22 (okWide_cell Try.underlying22 hv)) (by simpa [Value.cells] using hf)
theorem types24 : Try.prog.cellTypes Try.prog.depth 24 = some [3, 22] := by kernel_rfl
theorem arg_sys {r : Reach} {b0 : Nat} {v : Value} {d : DataW H} {p : List MemPlace} (hv : Value.okWide Try.prog w r b0 24 v) (h : DataW.Trod enc Try.prog w base spare held 24 v d p) :
    ∃ (N : Int) (c : Value) (I : RI) (xs : List (Tup kL)), v = .agg #[.int .i64 N, c] ∧ I.head 0 xs.length c ∧ SlAt w 44 kL xs I := by
  have hv' := hv
  simp only [Value.okWide, Try.underlying24] at hv'
  obtain ⟨cs, rfl, hsz, ts, hts, -, hrow⟩ := hv'
  obtain rfl : ts = [3, 22] := Option.some.inj (hts.symm.trans types24)
  obtain ⟨l⟩ := cs
  have hl : l.length = 2 := hsz.trans (by kernel_rfl)
  match l, hl with
  | [c0, c1], _ =>
    obtain ⟨fuel, hf⟩ := h
    obtain ⟨xs, n, _, _, _, hlen, hf⟩ := DataW.trod_struct Try.underlying24 hf
    match xs, hlen with
    | [y0, y1], _ =>
      have e : Try.prog.cellsOf 3 = 1 := by kernel_rfl
      have e' : Try.prog.cellsOf 22 = 1 := by kernel_rfl
      obtain ⟨a, rfl⟩ := cell_int (c := c0) (by simpa [e, Value.cells] using hf 0 _ rfl)
      obtain ⟨u, hu, hc⟩ := hrow 1 c1 rfl
      obtain rfl : (22 : TypeId) = u := Option.some.inj hu
      obtain ⟨I, ys, h1, h2⟩ := sl_at (t := 22) (te := 44) (tg := kL) (by simp [kL]) Try.underlying22 (by kernel_rfl) kL_one (slice_lt Try.underlying22 hc) (v := c1) (by simpa [e', Value.cells] using hf 1 _ rfl)
      exact ⟨a, c1, I, ys, rfl, h1, h2⟩
end

/-! ### A statement's walk -/
def ky (Is : List RI) : Keys := fun r _ => Is.getD r ⟨0, 0, 0, 0, true⟩
structure AtR where
  te : TypeId
  tg : List CK
  xs : List (Tup tg)
  I : RI
def AtR.ok (w : World) (A : AtR) : Prop := flatK A.tg = true ∧ SlAt w A.te A.tg A.xs A.I
def AtR.reg (A : AtR) : Reg := .arr A.te A.tg A.xs false false
theorem lies_flatAt {w : World} {te : TypeId} {tg : List CK} {xs : List (Tup tg)} (hf : flatK tg = true) {I : RI} (h : Ar.lies w (fun _ => I) [] ⟨te, tg, xs⟩) {η : Path → RI} (hk : η [] = I) : Ar.lies w η [] ⟨te, tg, xs⟩ := by
  subst hk
  exact ⟨h.tg, h.m, h.void, h.len, fun i hi => by obtain ⟨ys, h1, h2⟩ := h.cell i hi; exact ⟨ys, lies_flat hf h1, h2⟩⟩
/-- The program's variables: nothing is asked of them. -/
def Γ0 : Glob := ⟨0, fun _ => True, fun _ _ _ _ => trivial⟩
theorem regs_of {w : World} (As : List AtR) (h : ∀ A ∈ As, A.ok w) : Regs (fun _ => False) w As.length (ky (As.map (·.I))) (As.map AtR.reg) w := by
  have one : ∀ (r : Nat) (g : Reg) π o B, (As.map AtR.reg)[r]? = some g → g.has π o B → ∃ A, A ∈ As ∧ ky (As.map (·.I)) r [] = A.I ∧ π = [] ∧ o = false ∧ B = .arr ⟨A.te, A.tg, A.xs⟩ := by
    intro r g π o B hg hh
    rw [List.getElem?_map] at hg
    obtain ⟨A, hA, rfl⟩ := Option.map_eq_some_iff.1 hg
    have hm := List.mem_of_getElem? hA
    obtain ⟨rfl, ho, rfl⟩ := flat_has (h A hm).1 hh
    exact ⟨A, hm, by simp [ky, List.getD_eq_getElem?_getD, List.getElem?_map, hA], rfl, ho, rfl⟩
  constructor
  · intro r g π o B hg hh
    obtain ⟨A, hm, hk, rfl, rfl, rfl⟩ := one r g π o B hg hh
    exact lies_flatAt (h A hm).1 (h A hm).2.ar hk
  · intro r g π o B hg hh hv
    obtain ⟨A, hm, hk, rfl, rfl, rfl⟩ := one r g π o B hg hh
    rw [hk] at hv ⊢
    exact (h A hm).2.lt hv
  · intro r g π B hg hh
    obtain ⟨A, hm, hk, rfl, ho, rfl⟩ := one r g π _ B hg hh
    cases ho
  · intro r r' g g' π π' o' B B' hg _ hh
    obtain ⟨A, hm, hk, rfl, ho, rfl⟩ := one r g π _ B hg hh
    cases ho
theorem law_calls {f : FuncId} {F : List Tm → List Reg → Option (List Duty × Tm)} (hc : Ctr.Ok Try.prog Γ0 f (.fn F)) (As : List AtR) {args : List Tm} {q : List Duty} (hF : F args (As.map AtR.reg) = some (q, bl true)) (hq : obl q) {W : World} {vs : List Value}
    (hA : ∀ A ∈ As, A.ok W) (hargs : okL (Tm.ok As.length (ky (As.map (·.I)))) args vs) : Calls Try.prog f vs.toArray W fun e W' => e = .returned (.bool true) ∧ Below W.heap.size W W' := by
  have hl : (As.map AtR.reg).length = As.length := List.length_map _
  exact (hc args _ q _ hF hq (fun _ => False) W (ky (As.map (·.I))) W vs (Nat.le_refl _) (fun b hb => absurd hb (Nat.not_lt_zero b)) trivial (by rw [hl]; exact hargs) (by rw [hl]; exact regs_of As hA)).mono fun e w' ⟨v, he, hv, hb⟩ => by
    obtain ⟨rfl, _⟩ := hv
    exact ⟨he, hb⟩
/-- Types of parameters that no stand-in is wanted for. -/
def plainT (t : TypeId) : Bool := t == 3 || t == 24 || t == 32 || t == 22
theorem ok_int {N : Nat} {ρ : Keys} (n : Int) : Tm.ok N ρ (.a (.v (.int .i64 n))) (.int .i64 n) := ⟨rfl, rfl⟩
theorem ok_sl {N : Nat} {ρ : Keys} {r n : Nat} {v : Value} (hr : r < N) (h : (ρ r []).head 0 n v) : Tm.ok N ρ (.a (.sl r [] 0 n)) v := ⟨hr, h⟩
theorem ok_sys {N : Nat} {ρ : Keys} {r n : Nat} {M : Int} {v : Value} (hr : r < N) (h : (ρ r []).head 0 n v) : Tm.ok N ρ (.agg [.v (.int .i64 M), .sl r [] 0 n]) (.agg #[.int .i64 M, v]) := ⟨[_, _], rfl, ⟨rfl, rfl⟩, ⟨hr, h⟩, trivial⟩
end Go.Proofs.Ytlmhkeoblgodiaa
end
