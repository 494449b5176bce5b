/-
  The evaluator's tables for this seat's program: types, zero values, arrays; each entry a closed fact.
-/
import Derived.Test.YtoggkjobihlohaaDoorProg
import Derived.Test.YtoggkjobihlohaaDoorSxGen
import Derived.KernelRfl
import Derived.Laws.StructEq
namespace Go.Proofs.YtoggkjobihlohaaDoor
open Go Go.Sx
set_option maxRecDepth 100000

def ty (t : TypeId) : Ty :=
  match t with
  | 3 => .int .i64
  | 4 => .bool
  | 5 => .int .u8
  | 9 => .str
  | 23 => .st [(0, 1), (1, 1)] 2
  | 24 => .int .i64
  | 30 => .st [(0, 2), (2, 1)] 3
  | 35 => .st [(0, 2), (2, 2)] 4
  | 47 => .st [(0, 1), (1, 1)] 2
  | 56 => .sl 3 1
  | 66 => .word
  | 73 => .st [(0, 4), (4, 1)] 5
  | 89 => .int .u64
  | 102 => .word
  | 104 => .word
  | 109 => .ar 23 2 2
  | 111 => .word
  | 121 => .sl 23 2
  | 122 => .word
  | 124 => .sl 5 1
  | _ => .other

def z0 : At := .v (.int .i64 0)
def zero (t : TypeId) : Option (List At) :=
  match t with
  | 3 => some [z0]
  | 4 => some [.ff]
  | 23 => some [z0, z0]
  | 24 => some [z0]
  | 30 => some [z0, z0, z0]
  | 35 => some [z0, z0, z0, z0]
  | 47 => some [z0, z0]
  | 56 => some [.v (.slice none 0 0)]
  | 73 => some [z0, z0, z0, z0, z0]
  | 109 => some [z0, z0, z0, z0]
  | _ => none

def kI : List CK := [.int .i64]
def kII : List CK := [.int .i64, .int .i64]
def kd (t : TypeId) : Option (List CK) :=
  match t with
  | 3 => some kI
  | 23 => some kII
  | 5 => some [.int .u8]
  | _ => none
def eqs (t : TypeId) : Option Nat :=
  match t with
  | 23 => some 2
  | 47 => some 2
  | 35 => some 4
  | _ => none

def ifc (t : TypeId) : Bool := Nat.beq t 117

def mkEnv (l : List (Nat × Ctr)) (exact : Bool) : Env := { ty, zero, eqs, kd, ct := Sx.look l, exact, ifc }

/-! ### The closed facts -/
theorem mixed : Tryd.prog.follows .mixedOrders = true := by kernel_rfl

theorem ty_ok (t : TypeId) : TyOk Tryd.prog t (ty t) := by
  unfold ty
  split
  · exact ⟨by kernel_rfl, by kernel_rfl⟩
  · exact ⟨by kernel_rfl, by kernel_rfl⟩
  · exact ⟨by kernel_rfl, by kernel_rfl⟩
  · exact ⟨by kernel_rfl, by kernel_rfl⟩
  · exact ⟨structAs_spec (by kernel_rfl), by kernel_rfl⟩
  · exact ⟨by kernel_rfl, by kernel_rfl⟩
  · exact ⟨structAs_spec (by kernel_rfl), by kernel_rfl⟩
  · exact ⟨structAs_spec (by kernel_rfl), by kernel_rfl⟩
  · exact ⟨structAs_spec (by kernel_rfl), by kernel_rfl⟩
  · exact ⟨by kernel_rfl, by kernel_rfl, by kernel_rfl⟩
  · exact ⟨wordAs_spec (by kernel_rfl), by kernel_rfl⟩
  · exact ⟨structAs_spec (by kernel_rfl), by kernel_rfl⟩
  · exact ⟨by kernel_rfl, by kernel_rfl⟩
  · exact ⟨wordAs_spec (by kernel_rfl), by kernel_rfl⟩
  · exact ⟨wordAs_spec (by kernel_rfl), by kernel_rfl⟩
  · exact ⟨by kernel_rfl, by kernel_rfl, by kernel_rfl⟩
  · exact ⟨wordAs_spec (by kernel_rfl), by kernel_rfl⟩
  · exact ⟨by kernel_rfl, by kernel_rfl, by kernel_rfl⟩
  · exact ⟨wordAs_spec (by kernel_rfl), by kernel_rfl⟩
  · exact ⟨by kernel_rfl, by kernel_rfl, by kernel_rfl⟩
  · trivial

theorem zero_of {t : TypeId} {l : List At} {z : Value} (h : (Tryd.prog.info? t).bind (·.zero) = some z) (h1 : allL At.one l = true) (h2 : ∀ N ρ, okL (At.ok N ρ) l z.cells.toList) :
    allL At.one l = true ∧ ∃ i z, Tryd.prog.info? t = some i ∧ i.zero = some z ∧ ∀ N ρ, okL (At.ok N ρ) l z.cells.toList := by
  obtain ⟨i, hi, hz⟩ := Option.bind_eq_some_iff.1 h
  exact ⟨h1, i, z, hi, hz, h2⟩
theorem zz {N : Nat} {ρ : Nat → RI} : z0.ok N ρ (.int .i64 0) := ⟨rfl, rfl⟩

theorem zero_ok (t : TypeId) (l : List At) (h : zero t = some l) : allL At.one l = true ∧ ∃ i z, Tryd.prog.info? t = some i ∧ i.zero = some z ∧ ∀ N ρ, okL (At.ok N ρ) l z.cells.toList := by
  unfold zero at h
  split at h
  · obtain rfl := Option.some.inj h; exact zero_of (z := .int .i64 0) (by kernel_rfl) rfl fun _ _ => ⟨zz, trivial⟩
  · obtain rfl := Option.some.inj h; exact zero_of (z := .bool false) (by kernel_rfl) rfl fun _ _ => ⟨rfl, trivial⟩
  · obtain rfl := Option.some.inj h; exact zero_of (z := .agg #[.int .i64 0, .int .i64 0]) (by kernel_rfl) rfl fun _ _ => ⟨zz, zz, trivial⟩
  · obtain rfl := Option.some.inj h; exact zero_of (z := .int .i64 0) (by kernel_rfl) rfl fun _ _ => ⟨zz, trivial⟩
  · obtain rfl := Option.some.inj h; exact zero_of (z := .agg #[.int .i64 0, .int .i64 0, .int .i64 0]) (by kernel_rfl) rfl fun _ _ => ⟨zz, zz, zz, trivial⟩
  · obtain rfl := Option.some.inj h; exact zero_of (z := .agg #[.int .i64 0, .int .i64 0, .int .i64 0, .int .i64 0]) (by kernel_rfl) rfl fun _ _ => ⟨zz, zz, zz, zz, trivial⟩
  · obtain rfl := Option.some.inj h; exact zero_of (z := .agg #[.int .i64 0, .int .i64 0]) (by kernel_rfl) rfl fun _ _ => ⟨zz, zz, trivial⟩
  · obtain rfl := Option.some.inj h; exact zero_of (z := .slice none 0 0) (by kernel_rfl) rfl fun _ _ => ⟨⟨rfl, rfl⟩, trivial⟩
  · obtain rfl := Option.some.inj h; exact zero_of (z := .agg #[.int .i64 0, .int .i64 0, .int .i64 0, .int .i64 0, .int .i64 0]) (by kernel_rfl) rfl fun _ _ => ⟨zz, zz, zz, zz, zz, trivial⟩
  · obtain rfl := Option.some.inj h; exact zero_of (z := .agg #[.int .i64 0, .int .i64 0, .int .i64 0, .int .i64 0]) (by kernel_rfl) rfl fun _ _ => ⟨zz, zz, zz, zz, trivial⟩
  · cases h

theorem kd_of {t : TypeId} {tg : List CK} {z : Value} {n : Nat} (h : (Tryd.prog.info? t).map (fun i => (i.size, i.zero, i.bytes)) = some (tg.length, some z, n)) (hb : n ≤ 16 * tg.length) (hz : z.cells.toList = Tup.enc tg (Tup.d tg)) (hne : tg ≠ []) :
    (kindOf tg).Ok ∧ (∃ i z, Tryd.prog.info? t = some i ∧ i.size = (kindOf tg).m ∧ i.zero = some z ∧ z.cells.toList = (kindOf tg).enc (kindOf tg).d ∧ i.bytes ≤ 16 * (kindOf tg).m) := by
  obtain ⟨i, hi, he⟩ := Option.map_eq_some_iff.1 h
  simp only [Prod.mk.injEq] at he
  exact ⟨kindOf_ok tg hne, i, z, hi, he.1, he.2.1, hz, by rw [he.2.2]; exact hb⟩
theorem kd_ok (t : TypeId) (tg : List CK) (h : kd t = some tg) : (kindOf tg).Ok ∧ (∃ i z, Tryd.prog.info? t = some i ∧ i.size = (kindOf tg).m ∧ i.zero = some z ∧ z.cells.toList = (kindOf tg).enc (kindOf tg).d ∧ i.bytes ≤ 16 * (kindOf tg).m) := by
  unfold kd at h
  split at h
  · obtain rfl := Option.some.inj h; exact kd_of (z := .int .i64 0) (n := 8) (by kernel_rfl) (by decide) rfl (by simp [kI])
  · obtain rfl := Option.some.inj h; exact kd_of (z := .agg #[.int .i64 0, .int .i64 0]) (n := 16) (by kernel_rfl) (by decide) rfl (by simp [kII])
  · obtain rfl := Option.some.inj h; exact kd_of (z := .int .u8 0) (n := 1) (by kernel_rfl) (by decide) rfl (by simp)
  · cases h

/-! ### Structs compared -/
theorem run_equalIn_two {t : TypeId} (ht : Tryd.prog.underlying t = some (.struct (Tryd.prog.fieldsOf t))) (hp : Tryd.prog.stoodInHeld t = false)
    (hf : (Tryd.prog.fieldsOf t).toList.map (fun f => (f.name == "_", f.type, f.offset)) = [(false, 3, 0), (false, 3, 1)]) (d : Nat) (k k' : IntKind) (a b a' b' : Int) (w : World) :
    (Op.equalIn (d + 2) t (.agg #[.int k a, .int k' b]) (.agg #[.int k a', .int k' b'])).run Tryd.prog w = .ok (a == a' && (b == b' && true)) w := by
  have h3 : Tryd.prog.underlying 3 = some (.int .i64) := by kernel_rfl
  rw [run_equalIn_agg (ht := ht) (hp := hp)]
  have hlen : (Tryd.prog.fieldsOf t).toList.length = 2 := by simpa using congrArg List.length hf
  match (Tryd.prog.fieldsOf t).toList, hlen, hf with
  | [f, g], _, hf =>
    simp only [List.map_cons, List.map_nil, List.cons.injEq, Prod.mk.injEq, beq_eq_false_iff_ne, ne_eq, and_true] at hf
    obtain ⟨⟨n1, t1, o1⟩, n2, t2, o2⟩ := hf
    simp only [Op.eqFields, n1, n2, t1, t2, o1, o2, ne_eq, not_false_eq_true, if_true]
    by_cases h1 : a = a' <;> by_cases h2 : b = b' <;>
      simp [part, isAgg, run_underlying h3, run_equalIn_int (h := h3), h1, h2]

theorem run_equalIn_35 (d : Nat) (k1 k2 k3 k4 : IntKind) (a b c e a' b' c' e' : Int) (w : World) :
    (Op.equalIn (d + 3) 35 (.agg #[.int k1 a, .int k2 b, .int k3 c, .int k4 e]) (.agg #[.int k1 a', .int k2 b', .int k3 c', .int k4 e'])).run Tryd.prog w = .ok (a == a' && (b == b' && (c == c' && (e == e' && true)))) w := by
  have ht : Tryd.prog.underlying 35 = some (.struct (Tryd.prog.fieldsOf 35)) := by kernel_rfl
  have hp : Tryd.prog.stoodInHeld 35 = false := by kernel_rfl
  have hf : (Tryd.prog.fieldsOf 35).toList.map (fun f => (f.name == "_", f.type, f.offset)) = [(false, 23, 0), (false, 23, 2)] := by kernel_rfl
  have h23 : Tryd.prog.underlying 23 = some (.struct (Tryd.prog.fieldsOf 23)) := by kernel_rfl
  have hs : (Tryd.prog.info? 23).map (·.size) = some 2 := by kernel_rfl
  have H := fun k k' a b a' b' w => run_equalIn_two (t := 23) h23 (by kernel_rfl) (by kernel_rfl) d k k' a b a' b' w
  rw [run_equalIn_agg (ht := ht) (hp := hp)]
  have hlen : (Tryd.prog.fieldsOf 35).toList.length = 2 := by simpa using congrArg List.length hf
  match (Tryd.prog.fieldsOf 35).toList, hlen, hf with
  | [f, g], _, hf =>
    simp only [List.map_cons, List.map_nil, List.cons.injEq, Prod.mk.injEq, beq_eq_false_iff_ne, ne_eq, and_true] at hf
    obtain ⟨⟨n1, t1, o1⟩, n2, t2, o2⟩ := hf
    simp only [Op.eqFields, n1, n2, t1, t2, o1, o2, ne_eq, not_false_eq_true, if_true]
    have e1 : ∀ (x y z u : Value), (#[x, y, z, u] : Array Value).extract 0 2 = #[x, y] := fun _ _ _ _ => rfl
    have e2 : ∀ (x y z u : Value), (#[x, y, z, u] : Array Value).extract 2 4 = #[z, u] := fun _ _ _ _ => rfl
    simp only [part, isAgg, Sem.run_bind, run_underlying h23, Result.andThen_ok, Sem.run_pure, if_true, run_size hs, Nat.zero_add, Nat.reduceAdd, e1, e2, H, Sem.run_ite]
    by_cases h1 : a = a' <;> by_cases h2 : b = b' <;> by_cases h3 : c = c' <;> by_cases h4 : e = e' <;> simp [h1, h2, h3, h4]

theorem cellsEq_nil {l' : List At} {e : Bool} (h : cellsEq [] l' = some e) : l' = [] ∧ e = true := by
  cases l' with
  | nil => simp [cellsEq] at h; exact ⟨rfl, h⟩
  | cons x l' => simp [cellsEq] at h
theorem cellsEq_cons {x : At} {xs l' : List At} {e : Bool} (h : cellsEq (x :: xs) l' = some e) :
    ∃ k a b ys e', x = .v (.int k a) ∧ l' = .v (.int k b) :: ys ∧ cellsEq xs ys = some e' ∧ e = (a == b && e') := by
  unfold cellsEq at h
  split at h
  next h1 h2 => cases h2
  next k a xs' k' b ys h1 =>
    split at h
    next e' hk he =>
      obtain rfl := sameKind_eq hk
      obtain rfl := Option.some.inj h
      simp only [List.cons.injEq] at h1
      obtain ⟨rfl, rfl⟩ := h1
      exact ⟨_, _, _, _, _, rfl, rfl, he, rfl⟩
    next => cases h
  next => cases h

theorem eqs_ok (t : TypeId) (n : Nat) (h : eqs t = some n) (l l' : List At) (e : Bool) (hl : l.length = n) (hc : cellsEq l l' = some e) (N : Nat) (ρ : Nat → RI) (ys ys' : List Value)
    (h1 : okL (At.ok N ρ) l ys) (h2 : okL (At.ok N ρ) l' ys') (x y : Operand) (w : World) :
    (do eqGuard .eql t x y (.agg ys.toArray) (.agg ys'.toArray); binOp .eql t (.agg ys.toArray) (.agg ys'.toArray) : Sem Value).run Tryd.prog w = .ok (.bool e) w ∧
    (do eqGuard .neq t x y (.agg ys.toArray) (.agg ys'.toArray); binOp .neq t (.agg ys.toArray) (.agg ys'.toArray) : Sem Value).run Tryd.prog w = .ok (.bool !e) w := by
  have two : ∀ {t : TypeId}, Tryd.prog.underlying t = some (.struct (Tryd.prog.fieldsOf t)) → Tryd.prog.stoodInHeld t = false →
      (Tryd.prog.fieldsOf t).toList.map (fun f => (f.name == "_", f.type, f.offset)) = [(false, 3, 0), (false, 3, 1)] → Tryd.prog.eqGuardType Tryd.prog.depth t = false → l.length = 2 →
      (do eqGuard .eql t x y (.agg ys.toArray) (.agg ys'.toArray); binOp .eql t (.agg ys.toArray) (.agg ys'.toArray) : Sem Value).run Tryd.prog w = .ok (.bool e) w ∧
      (do eqGuard .neq t x y (.agg ys.toArray) (.agg ys'.toArray); binOp .neq t (.agg ys.toArray) (.agg ys'.toArray) : Sem Value).run Tryd.prog w = .ok (.bool !e) w := by
    intro t ht hp hf hg hl
    match l, hl, hc, h1 with
    | [x1, x2], _, hc, h1 =>
    obtain ⟨k, a, a', l1, e1, rfl, rfl, hc1, rfl⟩ := cellsEq_cons hc
    obtain ⟨k', b, b', l2, e2, rfl, rfl, hc2, rfl⟩ := cellsEq_cons hc1
    obtain ⟨rfl, rfl⟩ := cellsEq_nil hc2
    match ys, h1, ys', h2 with
    | [y1, y2], h1, [z1, z2], h2 =>
      obtain ⟨⟨rfl, _⟩, ⟨rfl, _⟩, _⟩ := h1
      obtain ⟨⟨rfl, _⟩, ⟨rfl, _⟩, _⟩ := h2
      have H := run_equalIn_two ht hp hf 9998 k k' a b a' b' w
      constructor
      · rw [Sem.run_bind, run_eqGuard_agg (hm := hg), Result.andThen_ok, run_eql_struct]
        exact congrArg (fun r => r.andThen fun b w' => Result.ok (Value.bool b) w') H
      · rw [Sem.run_bind, run_eqGuard_agg (hm := hg), Result.andThen_ok, run_neq_struct]
        exact congrArg (fun r => r.andThen fun b w' => Result.ok (Value.bool !b) w') H
  unfold eqs at h
  split at h
  · obtain rfl := Option.some.inj h; exact two (by kernel_rfl) (by kernel_rfl) (by kernel_rfl) (by kernel_rfl) hl
  · obtain rfl := Option.some.inj h; exact two (by kernel_rfl) (by kernel_rfl) (by kernel_rfl) (by kernel_rfl) hl
  · obtain rfl := Option.some.inj h
    match l, hl, hc, h1 with
    | [x1, x2, x3, x4], _, hc, h1 =>
      obtain ⟨k1, a, a', l1, e1, rfl, rfl, hc1, rfl⟩ := cellsEq_cons hc
      obtain ⟨k2, b, b', l2, e2, rfl, rfl, hc2, rfl⟩ := cellsEq_cons hc1
      obtain ⟨k3, c, c', l3, e3, rfl, rfl, hc3, rfl⟩ := cellsEq_cons hc2
      obtain ⟨k4, d, d', l4, e4, rfl, rfl, hc4, rfl⟩ := cellsEq_cons hc3
      obtain ⟨rfl, rfl⟩ := cellsEq_nil hc4
      match ys, h1, ys', h2 with
      | [y1, y2, y3, y4], h1, [z1, z2, z3, z4], h2 =>
        obtain ⟨⟨rfl, _⟩, ⟨rfl, _⟩, ⟨rfl, _⟩, ⟨rfl, _⟩, _⟩ := h1
        obtain ⟨⟨rfl, _⟩, ⟨rfl, _⟩, ⟨rfl, _⟩, ⟨rfl, _⟩, _⟩ := h2
        have H := run_equalIn_35 9997 k1 k2 k3 k4 a b c d a' b' c' d' w
        have hg : Tryd.prog.eqGuardType Tryd.prog.depth 35 = false := by kernel_rfl
        constructor
        · rw [Sem.run_bind, run_eqGuard_agg (hm := hg), Result.andThen_ok, run_eql_struct]
          exact congrArg (fun r => r.andThen fun b w' => Result.ok (Value.bool b) w') H
        · rw [Sem.run_bind, run_eqGuard_agg (hm := hg), Result.andThen_ok, run_neq_struct]
          exact congrArg (fun r => r.andThen fun b w' => Result.ok (Value.bool !b) w') H
  · cases h

theorem ifc_ok (t : TypeId) (h : ifc t = true) : Tryd.prog.underlying t = some (.interface (Tryd.prog.methodsAt t)) := by
  obtain rfl := Nat.eq_of_beq_eq_true h
  kernel_rfl
theorem prog_ok {Γ : Glob} {l : List (Nat × Ctr)} (h : LOk Tryd.prog Γ l) (ex : Bool) : ProgOk Tryd.prog Γ (mkEnv l ex) where
  mixed := mixed
  fn f c hc := (h.h f c hc).1
  env := { ty := ty_ok, zero := zero_ok, kd := kd_ok, ct := fun f c hc => (h.h f c hc).2, eqs := eqs_ok, ifc := ifc_ok }


/-- With places at which the ways meet again. -/
def mkEnvC (l : List (Nat × Ctr)) (exact : Bool) (cut : List Nat) : Env := { ty, zero, eqs, kd, ct := Sx.look l, exact, ifc, cut := fun t => memN t cut }
theorem prog_okC {Γ : Glob} {l : List (Nat × Ctr)} (h : LOk Tryd.prog Γ l) (ex : Bool) (cut : List Nat) : ProgOk Tryd.prog Γ (mkEnvC l ex cut) where
  mixed := mixed
  fn f c hc := (h.h f c hc).1
  env := { ty := ty_ok, zero := zero_ok, kd := kd_ok, ct := fun f c hc => (h.h f c hc).2, eqs := eqs_ok, ifc := ifc_ok }
/-- With regions whose every order is walked, and loops of so many rounds. -/
def treeOf : List (Nat × OT) → Nat → Option OT
  | [], _ => none
  | (r, t) :: l, id => match Nat.beq r id with | true => some t | false => treeOf l id
def mkEnvT (l : List (Nat × Ctr)) (exact : Bool) (cut : List Nat) (tr : List (Nat × OT)) (un : Nat) : Env := { ty, zero, eqs, kd, ct := Sx.look l, exact, ifc, cut := fun t => memN t cut, tree := treeOf tr, un := un }
theorem prog_okT {Γ : Glob} {l : List (Nat × Ctr)} (h : LOk Tryd.prog Γ l) (ex : Bool) (cut : List Nat) (tr : List (Nat × OT)) (un : Nat) : ProgOk Tryd.prog Γ (mkEnvT l ex cut tr un) where
  mixed := mixed
  fn f c hc := (h.h f c hc).1
  env := { ty := ty_ok, zero := zero_ok, kd := kd_ok, ct := fun f c hc => (h.h f c hc).2, eqs := eqs_ok, ifc := ifc_ok }

end Go.Proofs.YtoggkjobihlohaaDoor
