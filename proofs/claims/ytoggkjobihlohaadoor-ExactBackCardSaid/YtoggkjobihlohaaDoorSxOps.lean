/-
  The evaluator's reading operations are sound.
-/
import Derived.Test.YtoggkjobihlohaaDoorSxRel
namespace Go.Sx
open Go Go.RowKit
universe u

def obl : List Prop → Prop
  | [] => True
  | q :: qs => q ∧ obl qs
theorem oblige_iff : ∀ (q : List Prop) (p : Prop), oblige q p ↔ obl q ∧ p
  | [], p => by show p ↔ _; simp [obl]
  | q :: qs, p => by
    show Ob q ∧ oblige qs p ↔ _
    simp only [obl, oblige_iff qs p, and_assoc, show Ob q ↔ q from ⟨Ob.h, Ob.mk⟩]
theorem obl_append : ∀ (q q' : List Prop), obl (q ++ q') ↔ obl q ∧ obl q'
  | [], q' => by simp [obl]
  | q :: qs, q' => by simp only [List.cons_append, obl, obl_append qs q', and_assoc]

/-- A type of one cell. -/
def plainD : TypeDesc → Bool
  | .struct _ | .array _ _ => false
  | _ => true

def TyOk (P : Program) (t : TypeId) : Ty → Prop
  | .int k => P.underlying t = some (.int k) ∧ (P.info? t).map (·.size) = some 1
  | .bool => P.underlying t = some .bool ∧ (P.info? t).map (·.size) = some 1
  | .str => P.underlying t = some .string ∧ (P.info? t).map (·.size) = some 1
  | .st fs n => (∃ fields, P.underlying t = some (.struct fields) ∧ fields.toList.mapM (fun f => (P.info? f.type).map fun i => (f.offset, i.size)) = some fs) ∧ (P.info? t).map (·.size) = some n
  | .sl e m => P.underlying t = some (.slice e) ∧ (P.info? e).map (·.size) = some m ∧ (P.info? t).map (·.size) = some 1
  | .ar e m n => P.underlying t = some (.array n e) ∧ (P.info? e).map (·.size) = some m ∧ (P.info? t).map (·.size) = some (n * m)
  | .word => (∃ d, P.underlying t = some d ∧ plainD d = true) ∧ (P.info? t).map (·.size) = some 1
  | .other => True

/-- A region whose block is the call's own, by its flag. -/
def Reg.flag : Reg → Bool
  | .dead => true
  | .box o _ => o
  | .arr _ _ _ o => o

def Ctr.Ok (P : Program) (Γ : Glob) (f : FuncId) : Ctr → Prop
  | .fn F => ∀ args rg q t, F args rg = some (q, t) → obl q → ∀ (N0 : Nat) (ρ : Nat → RI) (w : World) (vs : List Value), N0 ≤ w.heap.size → Γ.n ≤ N0 → Γ.G w →
      okL (Tm.ok rg.length ρ) args vs → (∀ (r : Nat) (g : Reg), rg[r]? = some g → g.ok rg.length ρ N0 w (ρ r)) →
      (∀ (r r' : Nat) (g g' : Reg), rg[r]? = some g → rg[r']? = some g' → g.own (ρ r) → g'.own (ρ r') → r ≠ r' → (ρ r).b ≠ (ρ r').b) →
      Calls P f vs.toArray w fun e w' => ∃ v, e = .returned v ∧ t.ok rg.length ρ v ∧ Below w.heap.size w w'
  | .rel C => ∀ args rg K, C args rg K → ∀ (N0 : Nat) (ρ : Nat → RI) (w : World) (vs : List Value), N0 ≤ w.heap.size → Γ.n ≤ N0 → Γ.G w →
      okL (Tm.ok rg.length ρ) args vs → (∀ (r : Nat) (g : Reg), rg[r]? = some g → g.ok rg.length ρ N0 w (ρ r)) →
      (∀ (r r' : Nat) (g g' : Reg), rg[r]? = some g → rg[r']? = some g' → g.own (ρ r) → g'.own (ρ r') → r ≠ r' → (ρ r).b ≠ (ρ r').b) →
      Calls P f vs.toArray w fun e w' => ∃ (v : Value) (res : Res) (ρ' : Nat → RI), e = .returned v ∧ K res ∧ Below w.heap.size w w' ∧
        (∀ r, r < rg.length → ρ' r = ρ r) ∧ (res.tm.ren (fun r => rg.length + r)).ok (rg.length + res.rg.length) ρ' v ∧ (∀ g ∈ res.rg, g.flag = true) ∧
        (∀ (r : Nat) (g : Reg), res.rg[r]? = some g → g.ok (rg.length + res.rg.length) ρ' w.heap.size w' (ρ' (rg.length + r))) ∧
        (∀ (r r' : Nat) (g g' : Reg), res.rg[r]? = some g → res.rg[r']? = some g' → g.own (ρ' (rg.length + r)) → g'.own (ρ' (rg.length + r')) → r ≠ r' → (ρ' (rg.length + r)).b ≠ (ρ' (rg.length + r')).b)

structure EnvOk (P : Program) (Γ : Glob) (E : Env) : Prop where
  ty : ∀ t, TyOk P t (E.ty t)
  zero : ∀ t l, E.zero t = some l → allL At.one l = true ∧ ∃ i z, P.info? t = some i ∧ i.zero = some z ∧ ∀ N ρ, okL (At.ok N ρ) l z.cells.toList
  eqs : ∀ t n, E.eqs t = some n → ∀ l l' e, l.length = n → cellsEq l l' = some e → ∀ (N : Nat) (ρ : Nat → RI) (ys ys' : List Value), okL (At.ok N ρ) l ys → okL (At.ok N ρ) l' ys' → ∀ (x y : Operand) (w : World),
    (do eqGuard .eql t x y (.agg ys.toArray) (.agg ys'.toArray); binOp .eql t (.agg ys.toArray) (.agg ys'.toArray) : Sem Value).run P w = .ok (.bool e) w ∧
    (do eqGuard .neq t x y (.agg ys.toArray) (.agg ys'.toArray); binOp .neq t (.agg ys.toArray) (.agg ys'.toArray) : Sem Value).run P w = .ok (.bool !e) w
  kd : ∀ t tg, E.kd t = some tg → (kindOf tg).Ok ∧ (∃ i z, P.info? t = some i ∧ i.size = (kindOf tg).m ∧ i.zero = some z ∧ z.cells.toList = (kindOf tg).enc (kindOf tg).d ∧ i.bytes ≤ 16 * (kindOf tg).m)
  ct : ∀ f c, E.ct f = some c → Ctr.Ok P Γ f c
  ifc : ∀ t, E.ifc t = true → P.underlying t = some (.interface (P.methodsAt t))

section
variable {P : Program} {Γ : Glob} {E : Env} {N0 : Nat} {w0 : World} {ρ : Nat → RI} {st : St} {a : Act} {w : World}

theorem getD_ok (h : Rel Γ N0 w0 ρ st a w) (t : Nat) : ((st.tm.getD t (.a .any))).ok st.rg.length ρ (a.tmps.getD t undef) := by
  rcases Nat.lt_or_ge t st.tm.length with hlt | hge
  · obtain ⟨y, hy, hr⟩ := h.tm.get t st.tm[t] (by simp [hlt])
    have e1 : st.tm.getD t (.a .any) = st.tm[t] := by simp [List.getD, hlt]
    have e2 : a.tmps.getD t undef = y := by
      have : a.tmps[t]? = some y := by rw [← hy]; simp
      simp [Array.getD_eq_getD_getElem?, this]
    rw [e1, e2]; exact hr
  · have e1 : st.tm.getD t (.a .any) = .a .any := by simp [List.getD, List.getElem?_eq_none hge]
    rw [e1]; trivial

theorem ev_sound (h : Rel Γ N0 w0 ρ st a w) {o : Operand} {x : Tm} (he : ev st o = some x) : x.ok st.rg.length ρ (a.eval o) := by
  cases o with
  | tmp t =>
    simp only [ev, Option.some.injEq] at he
    subst he
    exact getD_ok h t
  | const v =>
    simp only [ev] at he
    cases v <;> simp only [constTm] at he
    case bool b => cases b <;> simp only [Option.some.injEq] at he <;> subst he <;> rfl
    all_goals first | (simp only [Option.some.injEq] at he; subst he; exact ⟨rfl, rfl⟩) | cases he
  | global g =>
    simp only [ev, Option.some.injEq] at he
    subst he
    exact ⟨rfl, rfl⟩
  | func f =>
    simp only [ev, Option.some.injEq] at he
    subst he
    exact ⟨by simp, by simp [Act.eval]⟩

theorem boolOf_sound {N : Nat} {x : Tm} {b : Bool} {y : Value} (hx : x.ok N ρ y) (hb : boolOf x = some b) : y = .bool b := by
  unfold boolOf at hb
  split at hb <;> simp only [Option.some.injEq, reduceCtorEq] at hb <;> subst hb
  · exact hx
  · exact hx
  · exact hx.1

theorem inR_wrap {k : IntKind} {n : Int} (h : inR k n) : k.wrap n = n := by
  cases k <;> simp only [inR] at h
  · exact IntWalk.i8_in n h
  · exact IntWalk.i16_in n h
  · exact IntWalk.i32_in n h
  · exact IntWalk.i64_in n h
  · exact IntWalk.u8_in n h
  · exact IntWalk.u16_in n h
  · exact IntWalk.u32_in n h
  · exact IntWalk.u64_in n h

theorem wrapped_sound {q q0 : List Prop} {k : IntKind} {n : Int} {x : Tm} (he : wrapped E q0 k n = some (q, x)) (hq : obl q) {N : Nat} : obl q0 ∧ x.ok N ρ (.int k (k.wrap n)) := by
  unfold wrapped at he
  split at he <;> simp only [Option.some.injEq, Prod.mk.injEq] at he <;> obtain ⟨rfl, rfl⟩ := he
  · rw [obl_append] at hq
    exact ⟨hq.1, ⟨by rw [inR_wrap hq.2.1], rfl⟩⟩
  · exact ⟨hq, ⟨rfl, rfl⟩⟩

theorem evInt_sound {op : BinOp} {t : TypeId} {k : IntKind} {m n : Int} {q : List Prop} {x : Tm} (he : evInt E op k m n = some (q, x)) (hq : obl q) (u v : Operand) {N : Nat} :
    ∃ y, (do eqGuard op t u v (.int k m) (.int k n); binOp op t (.int k m) (.int k n) : Sem Value).run P w = .ok y w ∧ x.ok N ρ y := by
  cases op <;> simp only [evInt] at he
  case add => exact ⟨_, by simp [eqGuard, binOp, Op.intArith], (wrapped_sound he hq).2⟩
  case sub => exact ⟨_, by simp [eqGuard, binOp, Op.intArith], (wrapped_sound he hq).2⟩
  case mul => exact ⟨_, by simp [eqGuard, binOp, Op.intArith], (wrapped_sound he hq).2⟩
  case quo =>
    have h1 := wrapped_sound (ρ := ρ) (N := N) he hq
    exact ⟨_, by simp [eqGuard, binOp, Op.intDiv, h1.1.1], h1.2⟩
  all_goals first | (simp only [Option.some.injEq, Prod.mk.injEq] at he; obtain ⟨rfl, rfl⟩ := he) | cases he
  case rem => exact ⟨_, by simp [eqGuard, binOp, Op.intDiv, hq.1], rfl, rfl⟩
  all_goals exact ⟨_, by simp [eqGuard, binOp, Op.intCmp], rfl, rfl⟩

theorem lenIs_length {α : Type} : ∀ {l : List α} {n : Nat}, lenIs l n = true → l.length = n
  | [], 0, _ => rfl
  | _ :: l, n + 1, h => by simp [lenIs_length (l := l) (n := n) h]
  | [], n + 1, h => by simp [lenIs] at h
  | _ :: _, 0, h => by simp [lenIs] at h

theorem run_equal_bool {t : TypeId} (hu : P.underlying t = some .bool) (c d : Bool) : (Op.equal t (.bool c) (.bool d)).run P w = .ok (c == d) w := by
  have : ∀ n, (Op.equalIn (n + 1) t (.bool c) (.bool d)).run P w = .ok (c == d) w := fun n => by
    simp [Op.equalIn, run_underlying hu]
  exact this 9999

theorem evBin_sound (hE : EnvOk P Γ E) {op : BinOp} {t : TypeId} {x y z : Tm} {q : List Prop} (he : evBin E op t x y = some (q, z)) (hq : obl q) (u v : Operand) {N : Nat} {vx vy : Value}
    (hx : x.ok N ρ vx) (hy : y.ok N ρ vy) : ∃ r, (do eqGuard op t u v vx vy; binOp op t vx vy : Sem Value).run P w = .ok r w ∧ z.ok N ρ r := by
  unfold evBin at he
  split at he
  · rename_i k m k' n
    split at he
    · rename_i hk
      obtain rfl := sameKind_eq hk
      obtain ⟨rfl, _⟩ := hx
      obtain ⟨rfl, _⟩ := hy
      exact evInt_sound he hq u v
    · cases he
  · rename_i x y
    obtain ⟨rfl, _⟩ := hx
    obtain ⟨rfl, _⟩ := hy
    split at he <;> simp only [Option.some.injEq, Prod.mk.injEq, reduceCtorEq] at he <;> obtain ⟨rfl, rfl⟩ := he
    · have h1 : ¬ (((x.size + y.size : Nat) : Int) > IntKind.i64.max) := by
        have := hq.1
        have h2 : IntKind.i64.max = 9223372036854775807 := by decide
        rw [h2]; omega
      exact ⟨.string (x ++ y), by simp only [eqGuard, binOp, Op.stringOp, Sem.run_bind, Sem.run_pure, Result.andThen_ok]; rw [if_neg h1]; rfl, rfl, rfl⟩
    · exact ⟨.bool (x.toList == y.toList), by simp [eqGuard, binOp, Op.stringOp], rfl, rfl⟩
    · exact ⟨.bool (!(x.toList == y.toList)), by simp [eqGuard, binOp, Op.stringOp], rfl, rfl⟩
  · rename_i l l'
    split at he
    · rename_i n e hb hce
      obtain ⟨ys, rfl, h1⟩ := hx
      obtain ⟨ys', rfl, h2⟩ := hy
      have H := fun hl => hE.eqs t n hb l l' e (lenIs_length hl) hce N ρ ys ys' h1 h2 u v w
      split at he <;> simp only [Option.some.injEq, Prod.mk.injEq, reduceCtorEq] at he <;> rename_i hlen <;> replace H := H hlen
      · obtain ⟨rfl, rfl⟩ := he; exact ⟨_, H.1, rfl, rfl⟩
      · obtain ⟨rfl, rfl⟩ := he; exact ⟨_, H.2, rfl, rfl⟩
    · cases he
  · split at he
    · rename_i c d htb hbx hby
      have hu : P.underlying t = some .bool := by have := hE.ty t; rw [htb] at this; exact this.1
      have h1 := boolOf_sound hx hbx
      have h2 := boolOf_sound hy hby
      subst h1 h2
      split at he <;> simp only [Option.some.injEq, Prod.mk.injEq, reduceCtorEq] at he <;> obtain ⟨rfl, rfl⟩ := he
      · exact ⟨.bool (c == d), by simp [eqGuard, binOp, run_equal_bool hu], rfl, rfl⟩
      · exact ⟨.bool (!(c == d)), by simp [eqGuard, binOp, run_equal_bool hu], rfl, rfl⟩
    · cases he

theorem evUn_sound {op : UnOp} {x z : Tm} {q : List Prop} (he : evUn E op x = some (q, z)) (hq : obl q) {N : Nat} {vx : Value} (hx : x.ok N ρ vx) :
    ∃ r, (Op.unary op vx).run P w = .ok r w ∧ z.ok N ρ r := by
  unfold evUn at he
  split at he
  · obtain ⟨rfl, _⟩ := hx
    exact ⟨_, by simp [Op.unary, Op.intArith], (wrapped_sound he hq).2⟩
  · simp only [Option.some.injEq, Prod.mk.injEq] at he; obtain ⟨rfl, rfl⟩ := he
    obtain rfl : vx = .bool true := hx
    exact ⟨_, by simp [Op.unary], rfl⟩
  · simp only [Option.some.injEq, Prod.mk.injEq] at he; obtain ⟨rfl, rfl⟩ := he
    obtain rfl : vx = .bool false := hx
    exact ⟨_, by simp [Op.unary], rfl⟩
  · simp only [Option.some.injEq, Prod.mk.injEq] at he; obtain ⟨rfl, rfl⟩ := he
    obtain ⟨rfl, _⟩ := hx
    exact ⟨_, by simp [Op.unary], rfl, rfl⟩
  · cases he

theorem evConv_sound (hE : EnvOk P Γ E) {src dst : TypeId} {k : IntKind} (hs : E.ty src = .int k) {x z : Tm} {q : List Prop} (he : evConv E dst x = some (q, z)) (hq : obl q) {N : Nat} {vx : Value}
    (hx : x.ok N ρ vx) : ∃ r, (convert src dst vx).run P w = .ok r w ∧ z.ok N ρ r := by
  unfold evConv at he
  split at he
  · rename_i k' k'' n hd
    have h1 : P.underlying src = some (.int k) := by have := hE.ty src; rw [hs] at this; exact this.1
    have h2 : P.underlying dst = some (.int k') := by have := hE.ty dst; rw [hd] at this; exact this.1
    obtain ⟨rfl, _⟩ := hx
    exact ⟨_, by simp [convert, run_underlying h1, run_underlying h2, Conv.intToInt], (wrapped_sound he hq).2⟩
  · cases he

/-- The cells that a piece of a region stands for. -/
theorem cellsAt_sound (h : Rel Γ N0 w0 ρ st a w) {r i j n : Nat} {q : List Prop} {l : List At} (he : cellsAt (st.rg.getD r .dead) i j n = some (q, l)) (hq : obl q) :
    ∃ ys, okL (At.ok st.rg.length ρ) l ys ∧ l.length = n ∧ ∀ (s : Nat) y, ys[s]? = some y → w.cell? ((ρ r).at (i * (ρ r).m + j + s)) = some y := by
  cases hg : st.rg[r]? with
  | none => simp [List.getD, hg, cellsAt] at he
  | some g =>
    have hok := h.rg r g hg
    have e1 : st.rg.getD r .dead = g := by simp [List.getD, hg]
    rw [e1] at he
    cases g with
    | dead => simp [cellsAt] at he
    | box o cells =>
      simp only [cellsAt] at he
      split at he
      · rename_i hlen
        simp only [Option.some.injEq, Prod.mk.injEq] at he
        obtain ⟨rfl, rfl⟩ := he
        obtain ⟨h1, h2, h3, h4⟩ := hok
        have hl := lenIs_length hlen
        -- each cell has its value
        have hget : ∀ (s : Nat) x, ((cells.drop j).take n)[s]? = some x → ∃ y, x.ok st.rg.length ρ y ∧ w.cell? ((ρ r).at (j + s)) = some y := fun s x hx => by
          have hs : s < n := by
            rcases Nat.lt_or_ge s n with hs | hs
            · exact hs
            · rw [List.getElem?_eq_none (by rw [hl]; exact hs)] at hx; cases hx
          rw [List.getElem?_take_of_lt hs, List.getElem?_drop] at hx
          exact h4 (j + s) x hx
        let ys := (List.range n).map fun s => (w.cell? ((ρ r).at (j + s))).getD undef
        have hys : ∀ (m : Nat) (xs : List At), (∀ (s : Nat) x, xs[s]? = some x → ∃ y, x.ok st.rg.length ρ y ∧ w.cell? ((ρ r).at (m + s)) = some y) →
            ∃ ys, okL (At.ok st.rg.length ρ) xs ys ∧ ∀ (s : Nat) y, ys[s]? = some y → w.cell? ((ρ r).at (m + s)) = some y := by
          intro m xs
          induction xs generalizing m with
          | nil => intro _; exact ⟨[], trivial, by simp⟩
          | cons x xs ih =>
            intro hh
            obtain ⟨y, hy, hc⟩ := hh 0 x (by simp)
            obtain ⟨ys, h1, h2⟩ := ih (m + 1) (fun s x hx => by
              obtain ⟨y, hy, hc⟩ := hh (s + 1) x (by simpa using hx)
              exact ⟨y, hy, by rw [show m + 1 + s = m + (s + 1) by omega]; exact hc⟩)
            refine ⟨y :: ys, ⟨hy, h1⟩, fun s z hz => ?_⟩
            cases s with
            | zero => simp at hz; subst hz; exact hc
            | succ s => rw [show m + (s + 1) = m + 1 + s by omega]; exact h2 s z (by simpa using hz)
        obtain ⟨ys, h5, h6⟩ := hys j _ hget
        exact ⟨ys, h5, hl, fun s y hy => by simpa using h6 s y hy⟩
      · cases he
    | arr te tg xs o =>
      simp only [cellsAt] at he
      split at he
      · rename_i hlen
        simp only [Option.some.injEq, Prod.mk.injEq] at he
        obtain ⟨rfl, rfl⟩ := he
        obtain ⟨h1, h2, h3, h4, h5⟩ := hok
        have hl := lenIs_length hlen
        have hi : i < xs.length := hq.1
        have hxi : xs[i]? = some (xs.getD i (kindOf tg).d) := by simp [List.getD, hi]
        have hone := h1.one (xs.getD i (kindOf tg).d)
        have hmem : ∀ y ∈ (((kindOf tg).enc (xs.getD i (kindOf tg).d)).drop j).take n, y.oneCell' = true := fun y hy => hone y (List.mem_of_mem_drop (List.mem_of_mem_take hy))
        have hok : ∀ (ys : List Value), (∀ y ∈ ys, y.oneCell' = true) → okL (At.ok st.rg.length ρ) (ys.map .v) ys := by
          intro ys
          induction ys with
          | nil => intro _; trivial
          | cons y ys ih => intro hh; exact ⟨⟨rfl, hh y (by simp)⟩, ih fun z hz => hh z (by simp [hz])⟩
        refine ⟨_, hok _ hmem, by simpa using hl, fun s y hy => ?_⟩
        have hs : s < n := by
          rcases Nat.lt_or_ge s n with hs | hs
          · exact hs
          · rw [List.getElem?_eq_none (by rw [hl]; exact hs)] at hy; cases hy
        rw [List.getElem?_take_of_lt hs, List.getElem?_drop] at hy
        have := h5 i _ hxi (j + s) y hy
        rw [h2, show i * (kindOf tg).m + j + s = i * (kindOf tg).m + (j + s) by omega]
        exact this
      · cases he

theorem RI.at_add (I : RI) (o n : Nat) : (I.at o).add n = I.at (o + n) := by
  simp only [RI.at, Addr.add_lit, Nat.add_assoc]

theorem info_of {t : TypeId} {n : Nat} (h : (P.info? t).map (·.size) = some n) : ∃ i, P.info? t = some i ∧ i.size = n := by
  simpa using h

theorem run_size {t : TypeId} {n : Nat} (h : (P.info? t).map (·.size) = some n) : (sizeOf t).run P w = .ok n w := by
  obtain ⟨i, h1, h2⟩ := info_of h
  simp [sizeOf, typeInfo, h1, h2]

theorem run_loadVar_agg {t : TypeId} {fields : Array Field} (hu : P.underlying t = some (.struct fields)) {n : Nat} (hs : (P.info? t).map (·.size) = some n) (ad : Addr) (ys : List Value)
    (hl : ys.length = n) (hc : ∀ (s : Nat) y, ys[s]? = some y → w.cell? (ad.add s) = some y) : (loadVar t ad).run P w = .ok (.agg ys.toArray) w := by
  subst hl
  have := run_loadCells_list (P := P) w ad ys hc
  simp [loadVar, isAgg, run_underlying hu, run_size hs, this]

theorem run_loadVar_arr {t e : TypeId} {k : Nat} (hu : P.underlying t = some (.array k e)) {n : Nat} (hs : (P.info? t).map (·.size) = some n) (ad : Addr) (ys : List Value)
    (hl : ys.length = n) (hc : ∀ (s : Nat) y, ys[s]? = some y → w.cell? (ad.add s) = some y) : (loadVar t ad).run P w = .ok (.agg ys.toArray) w := by
  subst hl
  have := run_loadCells_list (P := P) w ad ys hc
  simp [loadVar, isAgg, run_underlying hu, run_size hs, this]

theorem run_loadVar_one {t : TypeId} {d : TypeDesc} (hu : P.underlying t = some d) (hd : plainD d = true) (ad : Addr) (y : Value)
    (hc : w.cell? ad = some y) : (loadVar t ad).run P w = .ok y w := by
  cases d <;> first | (simp [plainD] at hd; done) | simp [loadVar, isAgg, run_underlying hu, run_load, hc]

theorem evLoad_sound (hE : EnvOk P Γ E) (h : Rel Γ N0 w0 ρ st a w) {t : TypeId} {ad x : Tm} {q : List Prop} {va : Value} (ha : ad.ok st.rg.length ρ va) (he : evLoad E st t ad = some (q, x)) (hq : obl q) :
    ∃ y, (Instr.loadAt t va).run P w = .ok y w ∧ x.ok st.rg.length ρ y := by
  unfold evLoad at he
  split at he
  · rename_i r i j
    obtain ⟨hr, rfl⟩ := ha
    have hty := hE.ty t
    have one : ∀ {d : TypeDesc}, P.underlying t = some d → plainD d = true →
        (match cellsAt (st.rg.getD r .dead) i j 1 with | some (q, [x]) => some (q, Tm.a x) | _ => none) = some (q, x) →
        ∃ y, (Instr.loadAt t (.pointer (some ((ρ r).at (i * (ρ r).m + j))))).run P w = .ok y w ∧ x.ok st.rg.length ρ y := by
      intro d hu hd he
      split at he
      · rename_i q' x' hc
        simp only [Option.some.injEq, Prod.mk.injEq] at he
        obtain ⟨rfl, rfl⟩ := he
        obtain ⟨ys, h1, h2, h3⟩ := cellsAt_sound h hc hq
        match ys, h1 with
        | [y], h1 =>
          have := h3 0 y rfl
          exact ⟨y, by simpa [Instr.loadAt, Instr.sureAddr] using run_loadVar_one hu hd _ y this, h1.1⟩
      · cases he
    split at he
    · rename_i fs n htt
      rw [htt] at hty
      obtain ⟨⟨fields, hu, _⟩, hs⟩ := hty
      split at he
      · rename_i q' l hc
        simp only [Option.some.injEq, Prod.mk.injEq] at he
        obtain ⟨rfl, rfl⟩ := he
        obtain ⟨ys, h1, h2, h3⟩ := cellsAt_sound h hc hq
        refine ⟨.agg ys.toArray, ?_, ys, rfl, h1⟩
        have := run_loadVar_agg (w := w) hu hs ((ρ r).at (i * (ρ r).m + j)) ys (by rw [← h1.length, h2]) (fun s y hy => by rw [RI.at_add]; exact h3 s y hy)
        simpa [Instr.loadAt, Instr.sureAddr] using this
      · cases he
    · rename_i e m n htt
      rw [htt] at hty
      obtain ⟨hu, _, hs⟩ := hty
      split at he
      · rename_i q' l hc
        simp only [Option.some.injEq, Prod.mk.injEq] at he
        obtain ⟨rfl, rfl⟩ := he
        obtain ⟨ys, h1, h2, h3⟩ := cellsAt_sound h hc hq
        refine ⟨.agg ys.toArray, ?_, ys, rfl, h1⟩
        have := run_loadVar_arr (w := w) hu hs ((ρ r).at (i * (ρ r).m + j)) ys (by rw [← h1.length, h2]) (fun s y hy => by rw [RI.at_add]; exact h3 s y hy)
        simpa [Instr.loadAt, Instr.sureAddr] using this
      · cases he
    · cases he
    · rename_i hn1 hn3 hn2
      cases htt : E.ty t with
      | st fs n => exact absurd htt (hn1 fs n)
      | ar e m n => exact absurd htt (hn3 e m n)
      | other => exact absurd htt hn2
      | int k => rw [htt] at hty; exact one hty.1 rfl he
      | bool => rw [htt] at hty; exact one hty.1 rfl he
      | str => rw [htt] at hty; exact one hty.1 rfl he
      | sl e m => rw [htt] at hty; exact one hty.1 rfl he
      | word => rw [htt] at hty; obtain ⟨⟨d, hu, hd⟩, _⟩ := hty; exact one hu hd he
  · cases he

theorem places_get : ∀ (fields : List Field) (fs : List (Nat × Nat)), fields.mapM (fun f => (P.info? f.type).map fun i => (f.offset, i.size)) = some fs →
    ∀ (f : Nat) off size, fs[f]? = some (off, size) → ∃ fd, fields[f]? = some fd ∧ fd.offset = off ∧ (P.info? fd.type).map (·.size) = some size
  | [], fs, h, f, off, size, hf => by simp at h; subst h; simp at hf
  | fd :: fields, fs, h, f, off, size, hf => by
    simp only [List.mapM_cons, Option.bind_eq_bind, Option.pure_def] at h
    cases hi : P.info? fd.type with
    | none => simp [hi] at h
    | some i =>
      cases hr : fields.mapM (fun f => (P.info? f.type).map fun i => (f.offset, i.size)) with
      | none => simp [hi, hr] at h
      | some rest =>
        simp [hi, hr] at h
        subst h
        cases f with
        | zero =>
          simp at hf
          exact ⟨fd, by simp, hf.1, by simp [hi, hf.2]⟩
        | succ f =>
          obtain ⟨fd', h1, h2⟩ := places_get fields rest hr f off size (by simpa using hf)
          exact ⟨fd', by simpa using h1, h2⟩

theorem run_fieldAt_st {s : TypeId} {fields : Array Field} (hu : P.underlying s = some (.struct fields)) {f : Nat} {fd : Field} (hf : fields[f]? = some fd) {size : Nat} (hs : (P.info? fd.type).map (·.size) = some (size + 1)) (ad : Addr) :
    (Instr.fieldAt s (.pointer (some ad)) f).run P w = .ok (.pointer (some (ad.add fd.offset))) w := by
  simp [Instr.fieldAt, run_underlying hu, hf, Instr.sureAddr, fieldPlace, run_size hs]

theorem okL_caps : ∀ {os : List Operand} {l : List Nat}, Rel Γ N0 w0 ρ st a w → evCaps st os = some l → (∀ r ∈ l, r < st.rg.length) ∧ os.map a.eval = l.map (fun r => Value.pointer (some ((ρ r).at 0)))
  | [], l, _, he => by simp [evCaps] at he; subst he; simp
  | o :: os, l, h, he => by
    simp only [evCaps] at he
    split at he
    · rename_i r l' h1 h2
      simp only [Option.some.injEq] at he
      subst he
      obtain ⟨h3, h4⟩ := okL_caps h h2
      obtain ⟨hr, hp⟩ := ev_sound h h1
      refine ⟨fun r' hr' => ?_, ?_⟩
      · rcases List.mem_cons.1 hr' with rfl | hr'
        · exact hr
        · exact h3 r' hr'
      · simp only [List.map_cons, h4, hp]
        simp
    · cases he

end
end Go.Sx
