/-
  From the walks to the rows: what all statements of chapter 1 share.
-/
import Derived.Test.YtoggkjobihlohaaDoorF18
import Derived.Test.YtoggkjobihlohaaDoorCards
import Derived.Test.YtoggkjobihlohaaDoorTie
import Derived.ProofKit
import Derived.Deep.DeepHandedRow
import Derived.Lib.LaidTab
import Derived.Lib.SmallJoins
import Derived.Stop.LaidErr
import Derived.Carry
namespace Go.Proofs.YtoggkjobihlohaaDoor
open Go Go.Sx Go.ChangeShapes Go.WideShapes Go.RowKit
set_option maxRecDepth 100000

theorem own : ownKnob Tryd.prog.godebug = none := by kernel_rfl
theorem laidOut : laidOutB Tryd.prog = true := by kernel_rfl
def pow10L : List Int := [1, 10, 100, 1000, 10000, 100000, 1000000, 10000000, 100000000, 1000000000, 10000000000, 100000000000, 1000000000000, 10000000000000, 100000000000000, 1000000000000000, 10000000000000000, 100000000000000000, 1000000000000000000, 10000000000000000000]
theorem pow10L_eq : pow10L = Lib.pow10Tab := by decide +kernel
theorem gTabType : (Tryd.prog.globals[3]?).map (·.type) = some 147 := by kernel_rfl
theorem u147 : Tryd.prog.underlying 147 = some (.array 20 89) := by kernel_rfl
theorem u89 : Tryd.prog.underlying 89 = some (.int .u64) := by kernel_rfl
theorem cells89 : Tryd.prog.cellsOf 89 = 1 := by kernel_rfl
theorem cells147 : Tryd.prog.cellsOf 147 = 20 := by kernel_rfl
/-- What the rows list, three tables. -/
def laid3 : List (String × DataW Unit) := [("math/bits.deBruijn32tab", Rows.laid_math_bits_deBruijn32tab), ("math/bits.deBruijn64tab", Rows.laid_math_bits_deBruijn64tab), ("internal/strconv.uint64pow10", Rows.laid_internal_strconv_uint64pow10)]
theorem beginSize : Nat.blt 6 (begin Tryd.prog (fun _ _ => 0) default).world.heap.size = true := by kernel_rfl
theorem nGlobals : Tryd.prog.globals.size = 6 := by kernel_rfl
theorem size_of_shape {W : World} (h : W.ShapedOpen Tryd.prog) : 6 ≤ W.heap.size := by
  obtain ⟨o, o0, h1, _⟩ := h.2 6 (by rw [nGlobals]; exact Nat.le_refl _) (by have := beginSize; rw [Nat.blt_eq] at this; exact this)
  have := (Array.getElem?_eq_some_iff.1 h1).1
  omega
theorem laid_of {W : World} (h : laidMetH Tryd.prog laid3 W) (hs : W.ShapedOpen Tryd.prog) : Laid W := by
  have h1 : laidMet Tryd.prog laid3 W := h
  have h2 : Lib.TabIs Tryd.prog W "internal/strconv.uint64pow10" .u64 pow10L := Lib.tabIs_of_head (rest := []) pow10_at gTabType u147 u89 cells89 cells147 h1.tail.tail
  rw [pow10L_eq] at h2
  exact ⟨h2, Tryd.laysM145.s1_3 W hs⟩

/-- A world that holds the tables. -/
def tabs : Nat → Option (List Int)
  | 3 => some pow10L
  | 4 => some [0, 1, 28, 2, 29, 14, 24, 3, 30, 22, 20, 15, 25, 17, 4, 8, 31, 27, 13, 23, 21, 19, 16, 7, 26, 12, 18, 6, 11, 5, 10, 9]
  | 5 => some [0, 1, 56, 2, 57, 49, 28, 3, 61, 58, 42, 50, 38, 29, 17, 4, 62, 47, 59, 36, 45, 43, 51, 22, 53, 39, 33, 30, 24, 18, 12, 5, 63, 55, 48, 27, 60, 41, 37, 16, 46, 35, 44, 21, 52, 32, 23, 11, 54, 26, 40, 15, 34, 20, 31, 10, 25, 14, 19, 9, 13, 8, 7, 6]
  | _ => none
def kindAt : Nat → IntKind
  | 3 => .u64
  | _ => .u8
def layTab (g : Nat) (h : Array Obj) : Array Obj := h.modify g fun o => match o, tabs g with
  | .cells _ t frozen, some zs => .cells (zs.map fun z => Value.int (kindAt g) z).toArray t frozen
  | o, _ => o
noncomputable def laidWorld (os : Os) : World :=
  { World.holding Tryd.prog os ⟨#[], #[], []⟩ with heap := layTab 5 (layTab 4 (layTab 3 (World.holding Tryd.prog os ⟨#[], #[], []⟩).heap)) }

theorem w_vars (os : Os) (args : Array Value) : ((laidWorld os).forCall (fun _ _ => 0) ⟨#[], args, []⟩).variablesB Tryd.checked.prog = true := by kernel_rfl
theorem w_rest (os : Os) (args : Array Value) : ((((laidWorld os).forCall (fun _ _ => 0) ⟨#[], args, []⟩).heap.toList.drop Tryd.checked.prog.globals.size).take ((begin Tryd.checked.prog (fun _ _ => 0) default).world.heap.size - Tryd.checked.prog.globals.size) =
      (begin Tryd.checked.prog (fun _ _ => 0) default).world.heap.toList.drop Tryd.checked.prog.globals.size) := by kernel_rfl
theorem w_laid (os : Os) (args : Array Value) : laidMet Tryd.prog laid3 ((laidWorld os).forCall (fun _ _ => 0) ⟨#[], args, []⟩).memory :=
  laidMet_of_run' 8 (by kernel_rfl) (by kernel_rfl)

/-- Arguments of plain types read in a later world as they did. -/
theorem trodAll_below {H : Type} {enc : TypeId × Value → H} {W W' : World} (hb : Below W.heap.size W W') :
    ∀ (ts : List TypeId) (vs : List Value) (ds : List (DataW H)) (ps : List MemPlace), ts.all (fun t => Tryd.prog.readableRec t && decide (t < Tryd.prog.types.size)) = true →
      DataW.TrodAll enc Tryd.prog W 0 (fun _ => true) true ts vs ds ps → (∀ x ∈ ps, x.block < W.heap.size) → DataW.TrodAll enc Tryd.prog W' 0 (fun b => decide (b < W.heap.size)) true ts vs ds ps := by
  intro ts
  induction ts with
  | nil =>
    intro vs ds ps _ h _
    obtain ⟨rfl, rfl, rfl⟩ := trodAll_nil h
    exact rfl
  | cons t ts ih =>
    intro vs ds ps ht h hlt
    obtain ⟨v, vs, d, ds, p, q, rfl, rfl, rfl, h1, h2⟩ := trodAll_cons h
    rw [List.all_cons, Bool.and_eq_true, Bool.and_eq_true, decide_eq_true_eq] at ht
    exact ⟨p, q, Below.trod laidOut ht.1.1 ht.1.2 h1 hb (fun x hx => hlt x (List.mem_append_left _ hx)), ih vs ds q ht.2 h2 (fun x hx => hlt x (List.mem_append_right _ hx)), rfl⟩

/-- A call that returns true and leaves old memory alone meets the row's word. -/
theorem post_true {H : Type} {enc : TypeId × Value → H} {f : Func} {s : ChangeSpec} {W W' : World} {args : Array Value} {ds gs : List (DataW H)} {before : List MemPlace}
    (hrt : f.resultTypes = #[4]) (hvars : s.vars = []) (hps : f.params.toList.all (fun t => Tryd.prog.readableRec t && decide (t < Tryd.prog.types.size)) = true)
    (hW : DataW.Whole enc Tryd.prog f.params.toList s.vars false W args.toList ds gs before) (hfn : (s.fn H (ds ++ [])) = { results := [.lit (.bool true)], args := ds })
    (hb : Below W.heap.size W W') : s.post enc Tryd.prog f false true false false W args (.bool true) W' := by
  have hW' := hW
  obtain ⟨p, q, hA, hV, rfl, hfz, hnd⟩ := hW
  rw [hvars] at hV
  obtain ⟨rfl, rfl⟩ := trodVars_none hV
  have hlt := fun x (hx : x ∈ p ++ []) => hW'.lt x hx
  refine ⟨ds, [], p ++ [], [], p, [], hW', ?_, ?_, ?_, Below.frame hb _, (fun h => by cases h)⟩
  · rw [hfn, hrt]
    exact trodAll_mk1 (shut_bool Tryd.underlying4 true)
  · rw [hfn]
    exact trodAll_below hb _ _ _ _ hps hA (fun x hx => hlt x (List.mem_append_left _ hx))
  · rw [hvars, hfn]
    exact rfl

/-! ### Arguments opened -/
section
variable {H : Type} {enc : TypeId × Value → H} {w : World} {base : Nat} {spare : Nat → Bool} {held : Bool}
theorem wf_inR {n : Int} (h : (Lit.int .i64 n).wf = true) : inR .i64 n := by
  have h1 : IntKind.i64.min = -9223372036854775808 := rfl
  have h2 : IntKind.i64.max = 9223372036854775807 := rfl
  simp only [Lit.wf, Bool.and_eq_true, decide_eq_true_eq] at h
  simp only [inR]
  omega
theorem arg_int {r : Reach} {b0 : Nat} {v : Value} {d : DataW H} {p : List MemPlace} (hv : Value.okWide Tryd.prog w r b0 3 v) (h : DataW.Trod enc Tryd.prog w base spare held 3 v d p) : ∃ n, v = .int .i64 n ∧ inR .i64 n := by
  obtain ⟨n, rfl, _, _, hw⟩ := open_int Tryd.underlying3 hv h
  exact ⟨n, rfl, wf_inR hw⟩
theorem cell_int {fuel : Nat} {c : Value} {y : DataW H × List MemPlace} (h : DataW.trod enc Tryd.prog w base spare held fuel 3 [c] = some y) : ∃ n, c = .int .i64 n ∧ inR .i64 n := by
  obtain ⟨n, h1, _, hw⟩ := DataW.trod_int Tryd.underlying3 h
  simp only [List.cons.injEq, and_true] at h1
  exact ⟨n, h1, wf_inR hw⟩
theorem cells_rat {fuel : Nat} {c0 c1 : Value} {y : DataW H × List MemPlace} (h : DataW.trod enc Tryd.prog w base spare held fuel 23 [c0, c1] = some y) : ∃ n d, c0 = .int .i64 n ∧ c1 = .int .i64 d ∧ inR .i64 n ∧ inR .i64 d := by
  obtain ⟨xs, n, _, _, _, hlen, hf⟩ := DataW.trod_struct Tryd.underlying23 h
  match xs, hlen with
  | [y0, y1], _ =>
    have h0 := hf 0 _ rfl
    have h1 := hf 1 _ rfl
    obtain ⟨a, rfl, ha⟩ := cell_int (c := c0) (by simpa [show Tryd.prog.cellsOf 3 = 1 by kernel_rfl] using h0)
    obtain ⟨b, rfl, hb⟩ := cell_int (c := c1) (by simpa [show Tryd.prog.cellsOf 3 = 1 by kernel_rfl] using h1)
    exact ⟨a, b, rfl, rfl, ha, hb⟩
theorem arg_rat {r : Reach} {b0 : Nat} {v : Value} {d : DataW H} {p : List MemPlace} (hv : Value.okWide Tryd.prog w r b0 23 v) (h : DataW.Trod enc Tryd.prog w base spare held 23 v d p) :
    ∃ a b, v = .agg #[.int .i64 a, .int .i64 b] ∧ inR .i64 a ∧ inR .i64 b := by
  obtain ⟨cs, rfl, hsz⟩ := okWide_struct Tryd.underlying23 hv
  obtain ⟨l⟩ := cs
  have hl : l.length = 2 := hsz.trans (by kernel_rfl)
  match l, hl with
  | [c0, c1], _ =>
    obtain ⟨fuel, hf⟩ := h
    obtain ⟨a, b, rfl, rfl, ha, hb⟩ := cells_rat (c0 := c0) (c1 := c1) (y := (d, p)) hf
    exact ⟨a, b, rfl, ha, hb⟩
theorem arg_range {r : Reach} {b0 : Nat} {v : Value} {d : DataW H} {p : List MemPlace} (hv : Value.okWide Tryd.prog w r b0 35 v) (h : DataW.Trod enc Tryd.prog w base spare held 35 v d p) :
    ∃ a b c e, v = .agg #[.int .i64 a, .int .i64 b, .int .i64 c, .int .i64 e] ∧ inR .i64 a ∧ inR .i64 b ∧ inR .i64 c ∧ inR .i64 e := by
  obtain ⟨cs, rfl, hsz⟩ := okWide_struct Tryd.underlying35 hv
  obtain ⟨l⟩ := cs
  have hl : l.length = 4 := hsz.trans (by kernel_rfl)
  match l, hl with
  | [c0, c1, c2, c3], _ =>
    obtain ⟨fuel, hf⟩ := h
    obtain ⟨xs, n, _, _, _, hlen, hf⟩ := DataW.trod_struct Tryd.underlying35 hf
    match xs, hlen with
    | [y0, y1], _ =>
      have h0 := hf 0 _ rfl
      have h1 := hf 1 _ rfl
      have e : Tryd.prog.cellsOf 23 = 2 := by kernel_rfl
      obtain ⟨a, b, rfl, rfl, ha, hb⟩ := cells_rat (c0 := c0) (c1 := c1) (y := y0) (by simpa [e, Value.cells] using h0)
      obtain ⟨a', b', rfl, rfl, ha', hb'⟩ := cells_rat (c0 := c2) (c1 := c3) (y := y1) (by simpa [e, Value.cells] using h1)
      exact ⟨a, b, a', b', rfl, ha, hb, ha', hb'⟩
end

/-- A statement's walk, at plain arguments. -/
theorem law_calls {f : FuncId} {F : List Tm → List Reg → Option (List Prop × Tm)} (hc : Ctr.Ok Tryd.prog ΓL f (.fn F)) {args : List Tm} {q : List Prop} (hF : F args [] = some (q, bl true)) (hq : obl q) {W : World} {vs : List Value}
    (hL : Laid W) (h6 : 6 ≤ W.heap.size) (hargs : okL (Tm.ok 0 (fun _ => ⟨0, 0, 0, true, 0⟩)) args vs) : Calls Tryd.prog f vs.toArray W fun e W' => e = .returned (.bool true) ∧ Below W.heap.size W W' :=
  (hc args [] q _ hF hq W.heap.size (fun _ => ⟨0, 0, 0, true, 0⟩) W vs (Nat.le_refl _) h6 hL hargs (fun r g h => by cases h) (fun r r' g g' h => by cases h)).mono fun e w' ⟨v, he, hv, hb⟩ => by
    obtain ⟨rfl, _⟩ := hv
    exact ⟨he, hb⟩
/-- Types of parameters that no stand-in is wanted for. -/
def plainT (t : TypeId) : Bool := t == 3 || t == 23 || t == 35 || t == 9 || t == 56
theorem plain_types (t : TypeId) (h : plainT t = true) : Tryd.prog.wantsStandIn t = false := by
  simp only [plainT, Bool.or_eq_true, beq_iff_eq] at h
  rcases h with (((rfl | rfl) | rfl) | rfl) | rfl
  · exact (show Tryd.prog.wantsStandIn 3 = false by kernel_rfl)
  · exact (show Tryd.prog.wantsStandIn 23 = false by kernel_rfl)
  · exact (show Tryd.prog.wantsStandIn 35 = false by kernel_rfl)
  · exact (show Tryd.prog.wantsStandIn 9 = false by kernel_rfl)
  · exact (show Tryd.prog.wantsStandIn 56 = false by kernel_rfl)
theorem pinnedProg : Tryd.pinned.checked.prog = Tryd.prog := rfl
theorem looksT : true = Tryd.prog.looks [] := by kernel_rfl
theorem plain2 {name : String} {g : FuncId} {gn : Func} {ps : Array TypeId} (h1 : Tryd.prog.funcNamed name = some g) (h2 : Tryd.prog.funcs[g]? = some gn) (h3 : gn.params = ps) (h4 : ps.toList.all plainT = true) (f : FuncId) (fn : Func) (hf : Tryd.pinned.checked.prog.funcNamed name = some f) (hfn : Tryd.pinned.checked.prog.funcs[f]? = some fn) :
    true = Tryd.pinned.checked.prog.looks [] ∧ ∀ (j : Nat) t, fn.params[j]? = some t → Tryd.pinned.checked.prog.wantsStandIn t = false := by
  rw [pinnedProg] at hf hfn ⊢
  obtain rfl : g = f := Option.some.inj (h1.symm.trans hf)
  obtain rfl : gn = fn := Option.some.inj (h2.symm.trans hfn)
  refine ⟨looksT, fun j t ht => ?_⟩
  rw [h3] at ht
  exact plain_types t (List.all_eq_true.1 h4 t (Array.mem_toList_iff.2 (Array.mem_of_getElem? ht)))
theorem ok_int {N : Nat} {ρ : Nat → RI} (n : Int) : Tm.ok N ρ (.a (.v (.int .i64 n))) (.int .i64 n) := ⟨rfl, rfl⟩
theorem ok_rat {N : Nat} {ρ : Nat → RI} (a b : Int) : Tm.ok N ρ (.agg [.v (.int .i64 a), .v (.int .i64 b)]) (.agg #[.int .i64 a, .int .i64 b]) := ⟨[_, _], rfl, ⟨rfl, rfl⟩, ⟨rfl, rfl⟩, trivial⟩
theorem ok_range {N : Nat} {ρ : Nat → RI} (a b c d : Int) : Tm.ok N ρ (.agg [.v (.int .i64 a), .v (.int .i64 b), .v (.int .i64 c), .v (.int .i64 d)]) (.agg #[.int .i64 a, .int .i64 b, .int .i64 c, .int .i64 d]) :=
  ⟨[_, _, _, _], rfl, ⟨rfl, rfl⟩, ⟨rfl, rfl⟩, ⟨rfl, rfl⟩, ⟨rfl, rfl⟩, trivial⟩
end Go.Proofs.YtoggkjobihlohaaDoor
