/-
  The evaluator is sound: an operation, a list of operations, code, a call.
-/
import Derived.Test.YtoggkjobihlohaaDoorSxOps
import Derived.WideLaws
namespace Go.Sx
open Go Go.RowKit
universe u

section
variable {P : Program} {Γ : Glob} {E : Env} {N0 : Nat} {w0 : World} {ρ : Nat → RI} {st : St} {a : Act} {w : World}

theorem allL_forall {α : Type} {f : α → Bool} : ∀ {l : List α}, allL f l = true → ∀ x ∈ l, f x = true
  | x :: l, h, y, hy => by
    simp only [allL] at h
    split at h
    · rename_i hx
      rcases List.mem_cons.1 hy with rfl | hy
      · exact hx
      · exact allL_forall h y hy
    · cases h

theorem At.one_cell {N : Nat} {x : At} {y : Value} (h : x.ok N ρ y) (h1 : x.one = true) : y.oneCell' = true := by
  cases x <;> first | (simp [At.one] at h1; done) | skip
  case v x => obtain ⟨rfl, h⟩ := h; exact h
  case tt => obtain rfl : y = .bool true := h; rfl
  case ff => obtain rfl : y = .bool false := h; rfl
  case p r i j => obtain ⟨_, rfl⟩ := h; rfl
  case sl r lo n => obtain ⟨_, _, h⟩ := h; obtain ⟨p, rfl⟩ := h.len; rfl
  case fn f caps => obtain ⟨_, rfl⟩ := h; rfl

theorem oneCell_cells {y : Value} (h : y.oneCell' = true) : y.cells = #[y] := by
  cases y <;> first | rfl | simp [Value.oneCell'] at h

theorem ones_of {N : Nat} : ∀ {l : List At} {ys : List Value}, okL (At.ok N ρ) l ys → allL At.one l = true → ∀ y ∈ ys, y.oneCell' = true
  | [], [], _, _ => by simp
  | x :: l, y :: ys, h, h1 => by
    simp only [allL] at h1
    split at h1
    · rename_i hx
      intro z hz
      rcases List.mem_cons.1 hz with rfl | hz
      · exact At.one_cell h.1 hx
      · exact ones_of h.2 h1 z hz
    · cases h1

/-- The cells of a value. -/
theorem tmCells_sound {N : Nat} {x : Tm} {l : List At} {y : Value} (hx : x.ok N ρ y) (he : tmCells x = some l) : okL (At.ok N ρ) l y.cells.toList ∧ allL At.one l = true ∧ ∀ z ∈ y.cells.toList, z.oneCell' = true := by
  unfold tmCells at he
  split at he
  · rename_i x
    split at he
    · rename_i h1
      simp only [Option.some.injEq] at he
      subst he
      have h2 := At.one_cell hx h1
      rw [oneCell_cells h2]
      exact ⟨⟨hx, trivial⟩, by simp [allL, h1], by simp [h2]⟩
    · cases he
  · split at he
    · rename_i l' h1
      simp only [Option.some.injEq] at he
      subst he
      obtain ⟨ys, rfl, h2⟩ := hx
      exact ⟨by simpa [Value.cells] using h2, h1, by simpa [Value.cells] using ones_of h2 h1⟩
    · cases he
  · cases he

theorem okL_fill {N : Nat} : ∀ {l : List At} {ys : List Value} {cells : List At} {zs : List Value} (off : Nat), okL (At.ok N ρ) l ys → okL (At.ok N ρ) cells zs →
    okL (At.ok N ρ) (fillL cells off l) ((ys.zipIdx.foldl (fun cs cj => cs.set (off + cj.2) cj.1) zs)) := by
  intro l
  have gen : ∀ (l : List At) (ys : List Value) (cells : List At) (zs : List Value) (off k : Nat), okL (At.ok N ρ) l ys → okL (At.ok N ρ) cells zs →
      okL (At.ok N ρ) (fillL cells (off + k) l) ((ys.zipIdx k).foldl (fun cs cj => cs.set (off + cj.2) cj.1) zs) := by
    intro l
    induction l with
    | nil => intro ys cells zs off k h h'; cases ys with | nil => exact h' | cons => exact h.elim
    | cons x l ih =>
      intro ys cells zs off k h h'
      cases ys with
      | nil => exact h.elim
      | cons y ys =>
        simp only [fillL, List.zipIdx_cons, List.foldl_cons]
        have := ih ys (cells.set (off + k) x) (zs.set (off + k) y) off (k + 1) h.2 (h'.set _ _ _ h.1)
        rw [show off + (k + 1) = off + k + 1 by omega] at this
        exact this
  intro ys cells zs off h h'
  exact gen l ys cells zs off 0 h h'

theorem fillL_length : ∀ (l : List At) (cells : List At) (off : Nat), (fillL cells off l).length = cells.length
  | [], _, _ => rfl
  | x :: l, cells, off => by simp [fillL, fillL_length l]

theorem EnvOk.tySt (hE : EnvOk P Γ E) {t : TypeId} {fs : List (Nat × Nat)} {n : Nat} (h : E.ty t = .st fs n) : TyOk P t (.st fs n) := h ▸ hE.ty t
theorem EnvOk.tySl (hE : EnvOk P Γ E) {t e : TypeId} {n : Nat} (h : E.ty t = .sl e n) : TyOk P t (.sl e n) := h ▸ hE.ty t
theorem EnvOk.tyAr (hE : EnvOk P Γ E) {t e : TypeId} {m n : Nat} (h : E.ty t = .ar e m n) : TyOk P t (.ar e m n) := h ▸ hE.ty t
theorem EnvOk.tyStr (hE : EnvOk P Γ E) {t : TypeId} (h : E.ty t = .str) : TyOk P t .str := h ▸ hE.ty t

/-- A struct literal's parts. -/
theorem evParts_sound (h : Rel Γ N0 w0 ρ st a w) {fs : List (Nat × Nat)} : ∀ (parts : List (Nat × Operand)) (cells l : List At) (zs : List Value), evParts fs st parts cells = some l → okL (At.ok st.rg.length ρ) cells zs →
    ∃ ys : List Value, Instr.fill (fs.toArray[·]?) zs.toArray (parts.map fun p => (p.1, a.eval p.2)) = some ys.toArray ∧ okL (At.ok st.rg.length ρ) l ys
  | [], cells, l, zs, he, hz => by simp only [evParts, Option.some.injEq] at he; subst he; exact ⟨zs, rfl, hz⟩
  | (i, o) :: rest, cells, l, zs, he, hz => by
    simp only [evParts] at he
    split at he
    · rename_i off size x hf hx
      split at he
      · rename_i lc hc
        split at he
        · rename_i h1 h2
          have hv := ev_sound h hx
          obtain ⟨c1, c2, c3⟩ := tmCells_sound hv hc
          have hlen : (a.eval o).cells.size = size := by
            have := c1.length
            rw [lenIs_length h1] at this
            simpa using this.symm
          have hfit : off + size ≤ zs.length := by
            have := Nat.le_of_ble_eq_true h2
            rw [hz.length] at this
            exact this
          have hfill := okL_fill (ρ := ρ) off c1 hz
          obtain ⟨ys, h3, h4⟩ := evParts_sound h rest _ l _ he hfill
          refine ⟨ys, ?_, h4⟩
          simp only [List.map_cons, Instr.fill]
          have e1 : (fs.toArray[i]? : Option (Nat × Nat)) = some (off, size) := by simpa using hf
          rw [e1]
          simp only []
          rw [if_neg (by rw [hlen]; simp; omega)]
          rw [← h3]
          congr 1
          have gen : ∀ (cs : List (Value × Nat)) (zs : List Value), cs.foldl (fun (cs : Array Value) (x : Value × Nat) => cs.setIfInBounds (off + x.2) x.1) zs.toArray =
              (cs.foldl (fun cs cj => cs.set (off + cj.2) cj.1) zs).toArray := by
            intro cs
            induction cs with
            | nil => intro zs; rfl
            | cons c cs ih => intro zs; simp only [List.foldl_cons, List.setIfInBounds_toArray]; exact ih _
          have e2 : (a.eval o).cells.zipIdx = ((a.eval o).cells.toList.zipIdx).toArray := by
            rw [← Array.toList_zipIdx]
          rw [e2]
          simp only [List.foldl_toArray']
          exact gen _ zs
        · cases he
      · cases he
    · cases he

theorem evPartsA_sound (h : Rel Γ N0 w0 ρ st a w) {m : Nat} : ∀ (parts : List (Nat × Operand)) (cells l : List At) (zs : List Value), evPartsA m st parts cells = some l → okL (At.ok st.rg.length ρ) cells zs →
    ∃ ys : List Value, Instr.fill (fun i => some (i * m, m)) zs.toArray (parts.map fun p => (p.1, a.eval p.2)) = some ys.toArray ∧ okL (At.ok st.rg.length ρ) l ys
  | [], cells, l, zs, he, hz => by simp only [evPartsA, Option.some.injEq] at he; subst he; exact ⟨zs, rfl, hz⟩
  | (i, o) :: rest, cells, l, zs, he, hz => by
    simp only [evPartsA] at he
    split at he
    · rename_i x hx
      split at he
      · rename_i lc hc
        split at he
        · rename_i h1 h2
          have hv := ev_sound h hx
          obtain ⟨c1, c2, c3⟩ := tmCells_sound hv hc
          have hlen : (a.eval o).cells.size = m := by
            have := c1.length
            rw [lenIs_length h1] at this
            simpa using this.symm
          have hfit : i * m + m ≤ zs.length := by
            have := Nat.le_of_ble_eq_true h2
            rw [hz.length] at this
            exact this
          have hfill := okL_fill (ρ := ρ) (i * m) c1 hz
          obtain ⟨ys, h3, h4⟩ := evPartsA_sound h rest _ l _ he hfill
          refine ⟨ys, ?_, h4⟩
          simp only [List.map_cons, Instr.fill]
          rw [if_neg (by rw [hlen]; simp; omega)]
          rw [← h3]
          congr 1
          have gen : ∀ (cs : List (Value × Nat)) (zs : List Value), cs.foldl (fun (cs : Array Value) (x : Value × Nat) => cs.setIfInBounds (i * m + x.2) x.1) zs.toArray =
              (cs.foldl (fun cs cj => cs.set (i * m + cj.2) cj.1) zs).toArray := by
            intro cs
            induction cs with
            | nil => intro zs; rfl
            | cons c cs ih => intro zs; simp only [List.foldl_cons, List.setIfInBounds_toArray]; exact ih _
          have e2 : (a.eval o).cells.zipIdx = ((a.eval o).cells.toList.zipIdx).toArray := by
            rw [← Array.toList_zipIdx]
          rw [e2]
          simp only [List.foldl_toArray']
          exact gen _ zs
        · cases he
      · cases he
    · cases he

theorem run_build_ar {t e : TypeId} {m n : Nat} (hu : P.underlying t = some (.array n e)) (hs : (P.info? e).map (·.size) = some m) {i : TypeInfo} {z : Value} (hi : P.info? t = some i) (hz : i.zero = some z)
    (parts : Array (Nat × Value)) (ys : List Value) (hf : Instr.fill (fun i => some (i * m, m)) z.cells parts.toList = some ys.toArray) : (Instr.build t parts).run P w = .ok (.agg ys.toArray) w := by
  apply run_build
  obtain ⟨ie, hie, rfl⟩ := Option.map_eq_some_iff.1 hs
  simp only [Program.built, hi, hu, hz, hie]
  exact hf
theorem okL_drop {α β : Type} {R : α → β → Prop} : ∀ {xs : List α} {ys : List β}, okL R xs ys → ∀ k, okL R (xs.drop k) (ys.drop k)
  | _, _, h, 0 => h
  | [], [], _, _ + 1 => trivial
  | _ :: _, _ :: _, h, k + 1 => okL_drop (xs := _) (ys := _) h.2 k
theorem okL_take {α β : Type} {R : α → β → Prop} : ∀ {xs : List α} {ys : List β}, okL R xs ys → ∀ k, okL R (xs.take k) (ys.take k)
  | _, _, _, 0 => trivial
  | [], [], _, _ + 1 => trivial
  | _ :: _, _ :: _, h, k + 1 => ⟨h.1, okL_take h.2 k⟩

theorem run_build_st {t : TypeId} {fields : Array Field} {fs : List (Nat × Nat)} (hu : P.underlying t = some (.struct fields))
    (hp : fields.toList.mapM (fun f => (P.info? f.type).map fun i => (f.offset, i.size)) = some fs) {i : TypeInfo} {z : Value} (hi : P.info? t = some i) (hz : i.zero = some z)
    (parts : Array (Nat × Value)) (ys : List Value) (hf : Instr.fill (fs.toArray[·]?) z.cells parts.toList = some ys.toArray) : (Instr.build t parts).run P w = .ok (.agg ys.toArray) w := by
  apply run_build
  simp only [Program.built, hi, hu, hz, hp]
  exact hf

/-- An interface's value against nil. -/
theorem evNil_sound (hE : EnvOk P Γ E) {op : BinOp} {t : TypeId} {x z : Tm} {q : List Prop} {y : Operand} (hn : isNilOp y = true) (he : evNil E op t x = some (q, z)) (u : Operand) {N : Nat} {vx : Value} (hx : x.ok N ρ vx) :
    ∃ r, (do eqGuard op t u y vx (a.eval y); binOp op t vx (a.eval y) : Sem Value).run P w = .ok r w ∧ z.ok N ρ r := by
  have hy : y = .const .nilIface := by
    cases y with
    | const v => cases v <;> first | rfl | cases hn
    | _ => cases hn
  subst hy
  have ev : a.eval (.const .nilIface) = .nilIface := rfl
  rw [ev]
  unfold evNil at he
  split at he
  · rename_i hi
    obtain ⟨rfl, _⟩ := hx
    have h1 := run_equal_nil_nil (P := P) w t (hE.ifc t hi)
    split at he <;> simp only [Option.some.injEq, Prod.mk.injEq, reduceCtorEq] at he <;> obtain ⟨rfl, rfl⟩ := he
    · exact ⟨.bool true, by simp [eqGuard, binOp, h1], rfl⟩
    · exact ⟨.bool false, by simp [eqGuard, binOp, h1], rfl⟩
  · rename_i ti vi hi
    obtain ⟨rfl, _⟩ := hx
    have h1 := run_equal_held_nil (P := P) w t ti vi (hE.ifc t hi)
    split at he <;> simp only [Option.some.injEq, Prod.mk.injEq, reduceCtorEq] at he <;> obtain ⟨rfl, rfl⟩ := he
    · exact ⟨.bool false, by simp [eqGuard, binOp, h1], rfl⟩
    · exact ⟨.bool true, by simp [eqGuard, binOp, h1], rfl⟩
  · cases he

/-- A string of bytes. -/
theorem evBytes_sound (hE : EnvOk P Γ E) (h : Rel Γ N0 w0 ρ st a w) {src e dst : TypeId} {m : Nat} (hs : E.ty src = .sl e m) {x z : Tm} {q : List Prop} (he : evBytes E st e dst x = some (q, z)) (hq : obl q) {vx : Value}
    (hx : x.ok st.rg.length ρ vx) : ∃ r, (convert src dst vx).run P w = .ok r w ∧ z.ok st.rg.length ρ r := by
  obtain ⟨hu, _, _⟩ := hE.tySl hs
  unfold evBytes at he
  split at he
  · rename_i r n hte htd
    have h1 : P.underlying e = some (.int .u8) := by have := hE.ty e; rw [hte] at this; exact this.1
    have h2 : P.underlying dst = some .string := by have := hE.ty dst; rw [htd] at this; exact this.1
    split at he
    · rename_i te xs o hg
      simp only [Option.some.injEq, Prod.mk.injEq] at he
      obtain ⟨rfl, rfl⟩ := he
      obtain ⟨hr, hnil, hv⟩ := hx
      have hn : n = @List.length Int xs := hq.1
      have hgr : st.rg[r]? = some (.arr te [.int .u8] xs o) := by
        have : st.rg[r]? = some st.rg[r] := List.getElem?_eq_getElem hr
        simpa [List.getD, this] using hg
      obtain ⟨hK, hm, hxn, hwh, hc⟩ := h.rg r _ hgr
      have hm1 : (ρ r).m = 1 := hm
      obtain rfl := hv.pos (.inl rfl)
      cases hnn : (ρ r).nil with
      | true =>
        have hx0 := hxn hnn
        subst hx0
        exact ⟨_, run_convert_bytes_nil w src e hu h1 _ _ dst h2, rfl, rfl⟩
      | false =>
        refine ⟨_, run_convert_bytes_arg w src e hu h1 (ρ r).b ((ρ r).off + 0 * (ρ r).m) n _ xs hn.symm (fun i hi => ?_) dst h2, rfl, rfl⟩
        have hlt : i < @List.length Int xs := by omega
        have := hc i (@List.getD Int xs i 0) (by
          show (@getElem? (List Int) Nat Int _ _ xs i) = _
          simp [List.getD, List.getElem?_eq_getElem hlt]; rfl) 0 (.int .u8 (@List.getD Int xs i 0)) rfl
        rw [← this]
        have e1 : (kindOf [CK.int IntKind.u8]).m = 1 := rfl
        show w.cell? (Addr.mk (ρ r).b ((ρ r).off + 0 * (ρ r).m + i) none) = w.cell? (Addr.mk (ρ r).b ((ρ r).off + (i * (kindOf [CK.int IntKind.u8]).m + 0)) none)
        rw [e1, show (ρ r).off + 0 * (ρ r).m + i = (ρ r).off + (i * 1 + 0) by omega]
    · cases he
  · cases he

/-- A slice from some element on. -/
theorem run_slice_lo {t e : TypeId} {m : Nat} (hu : P.underlying t = some (.slice e)) (hm : (P.info? e).map (·.size) = some m) {I : RI} (hI : I.m = m) {lo n : Nat} {y : Value} (hnil : I.nil = true → n = 0 ∧ I.cap = 0) (hv : I.hd lo n y)
    (k : IntKind) (i : Int) (h0 : 0 ≤ i) (hn : i ≤ n) : ∃ z, (Instr.sliceAt t y (some (.int k i)) none none).run P w = .ok z w ∧ I.hd (lo + i.toNat) (n - i.toNat) z := by
  obtain ⟨p, rfl⟩ := hv.len
  have hb : (Instr.sliceBound (.int k i) n .sliceB).run P w = .ok i.toNat w := run_sliceBound (P := P) w k i n .sliceB h0 (by omega)
  have hbs : (Instr.sliceBounds true n (I.cap - lo) (some (.int k i)) none none).run P w = .ok (i.toNat, n, I.cap - lo) w := by
    simp only [Instr.sliceBounds, Sem.run_bind, Sem.run_pure, Result.andThen_ok, Option.isSome_none, Bool.false_eq_true, if_false]
    rw [show (Instr.sliceBound (.int k i) n .sliceB).run P w = _ from hb]; rfl
  have hrun : (Instr.sliceAt t (.slice p n (I.cap - lo)) (some (.int k i)) none none).run P w = .ok (.slice (if I.cap - lo = i.toNat then p else p.map (·.add (i.toNat * m))) (n - i.toNat) (I.cap - lo - i.toNat)) w := by
    have : (Instr.sliceAt t (.slice p n (I.cap - lo)) (some (.int k i)) none none).run P w = (Instr.slice t (.slice p n (I.cap - lo)) (some (.int k i)) none none).run P w := by simp [Instr.sliceAt, run_underlying hu]
    rw [this]
    simp only [Instr.slice, Sem.run_bind, run_underlying hu, Result.andThen_ok, hbs, run_size hm, Sem.run_pure]
  refine ⟨_, hrun, ?_⟩
  obtain ⟨h1, h2⟩ := hv
  refine ⟨by omega, ?_⟩
  by_cases hc : I.cap - lo = i.toNat
  · rw [if_pos hc]
    by_cases hp : 0 < lo + i.toNat
    · exact .inr ⟨hp, by omega, p, by simp only [Value.slice.injEq, true_and]; omega⟩
    · have e1 : lo = 0 := by omega
      have e2 : i.toNat = 0 := by omega
      subst e1
      rw [e2]
      rcases h2 with h2 | ⟨h2, _⟩
      · left; simpa using h2
      · omega
  · rw [if_neg hc]
    rcases h2 with h2 | ⟨hlo, rfl, _⟩
    · left
      obtain ⟨rfl, _⟩ := Value.slice.inj h2
      simp only [Value.slice.injEq, true_and]
      refine ⟨?_, by omega⟩
      cases hnn : I.nil with
      | true => simp
      | false => simp only [Bool.false_eq_true, if_false, Option.map_some, RI.at_add]; rw [hI, Nat.add_mul]
    · exact .inr ⟨by omega, by omega, _, by rw [Nat.zero_sub, Nat.sub_sub]⟩

theorem evP_sound (hE : EnvOk P Γ E) (h : Rel Γ N0 w0 ρ st a w) {o : Oper} {q : List Prop} {x : Tm} (he : evP E st o = some (q, x)) (hq : obl q) :
    ∃ y, (execOp a.eval o).run P w = .ok (.value y) w ∧ x.ok st.rg.length ρ y := by
  unfold evP at he
  unfold execOp
  split at he <;> rename_i hop <;> simp only [hop]
  · -- move
    split at he
    · rename_i hx; simp only [Option.some.injEq, Prod.mk.injEq] at he; obtain ⟨rfl, rfl⟩ := he
      exact ⟨_, rfl, ev_sound h hx⟩
    · cases he
  · split at he
    · rename_i hx; simp only [Option.some.injEq, Prod.mk.injEq] at he; obtain ⟨rfl, rfl⟩ := he
      exact ⟨_, rfl, ev_sound h hx⟩
    · cases he
  · -- pick
    split at he
    · rename_i hc ha; simp only [Option.some.injEq, Prod.mk.injEq] at he; obtain ⟨rfl, rfl⟩ := he
      have h1 : a.eval _ = .bool true := ev_sound h hc
      exact ⟨_, by simp [h1, asBool], ev_sound h ha⟩
    · rename_i hc ha; simp only [Option.some.injEq, Prod.mk.injEq] at he; obtain ⟨rfl, rfl⟩ := he
      have h1 : a.eval _ = .bool false := ev_sound h hc
      exact ⟨_, by simp [h1, asBool], ev_sound h ha⟩
    · rename_i c x y hc ha hb
      split at he
      · rename_i hx hy; simp only [Option.some.injEq, Prod.mk.injEq] at he; obtain ⟨rfl, rfl⟩ := he
        have h1 : a.eval _ = .bool c := (ev_sound h hc).1
        have h2 := boolOf_sound (ev_sound h ha) hx
        have h3 := boolOf_sound (ev_sound h hb) hy
        refine ⟨_, by simp [h1, asBool]; rfl, ?_, ?_⟩
        · rw [h2, h3]; cases c <;> rfl
        · rfl
      · cases he
    · cases he
  · -- load
    split at he
    · rename_i hx
      obtain ⟨y, h1, h2⟩ := evLoad_sound hE h (ev_sound h hx) he hq
      exact ⟨y, by simp [h1], h2⟩
    · cases he
  · -- binOp
    split at he
    · rename_i hnil
      split at he
      · rename_i hx
        obtain ⟨y, h1, h2⟩ := evNil_sound (ρ := ρ) (P := P) (w := w) hE hnil he _ (ev_sound h hx)
        refine ⟨y, ?_, h2⟩
        change Sem.run P (do let x ← (do eqGuard _ _ _ _ _ _; binOp _ _ _ _ : Sem Value); pure (Next.value x)) w = _
        rw [Sem.run_bind, h1]; rfl
      · cases he
    split at he
    · rename_i hx hy
      obtain ⟨y, h1, h2⟩ := evBin_sound (ρ := ρ) (P := P) (w := w) hE he hq _ _ (ev_sound h hx) (ev_sound h hy)
      refine ⟨y, ?_, h2⟩
      change Sem.run P (do let x ← (do eqGuard _ _ _ _ _ _; binOp _ _ _ _ : Sem Value); pure (Next.value x)) w = _
      rw [Sem.run_bind, h1]; rfl
    · cases he
  · -- unOp
    split at he
    · rename_i hx
      obtain ⟨y, h1, h2⟩ := evUn_sound (ρ := ρ) (P := P) (w := w) he hq (ev_sound h hx)
      exact ⟨y, by simp [h1], h2⟩
    · cases he
  · -- convert
    split at he
    · rename_i hs hx
      obtain ⟨y, h1, h2⟩ := evConv_sound (ρ := ρ) (P := P) (w := w) hE hs he hq (ev_sound h hx)
      exact ⟨y, by simp [h1], h2⟩
    · rename_i hs hx
      obtain ⟨y, h1, h2⟩ := evBytes_sound hE h hs he hq (ev_sound h hx)
      exact ⟨y, by simp [h1], h2⟩
    · cases he
  · -- fieldAddr
    split at he
    · rename_i fs n r i j hs hx
      split at he
      · rename_i off size hf; simp only [Option.some.injEq, Prod.mk.injEq] at he; obtain ⟨rfl, rfl⟩ := he
        have hty := hE.tySt hs
        obtain ⟨⟨fields, hu, hp⟩, _⟩ := hty
        obtain ⟨fd, h1, h2, h3⟩ := places_get fields.toList fs hp _ off (size + 1) hf
        obtain ⟨hr, hv⟩ := ev_sound h hx
        rw [hv]
        refine ⟨_, by simp [run_fieldAt_st hu (by simpa using h1) h3]; rfl, hr, ?_⟩
        rw [RI.at_add, h2, Nat.add_assoc]
      · cases he
    · cases he
  · -- indexAddr
    split at he
    · rename_i e m r lo n k i hs hx hi
      split at he
      · rename_i te tg xs ow hg
        split at he
        · rename_i hm'
          simp only [Option.some.injEq, Prod.mk.injEq] at he; obtain ⟨rfl, rfl⟩ := he
          obtain ⟨hu, hm, _⟩ := hE.tySl hs
          obtain ⟨hr, hnil, hv⟩ := ev_sound h hx
          have hvi : a.eval _ = .int k i := (ev_sound h hi).1
          have hin := hq.1
          have hnn : (ρ r).nil = false := by
            cases hh : (ρ r).nil with
            | false => rfl
            | true => have := (hnil hh).1; omega
          have hgr : st.rg[r]? = some (.arr te tg xs ow) := by
            have : st.rg[r]? = some st.rg[r] := List.getElem?_eq_getElem hr
            simpa [List.getD, this] using hg
          have hKm : (ρ r).m = m := ((h.rg r _ hgr).2.1).trans (Nat.eq_of_beq_eq_true hm')
          rw [hv.pos (.inr (by omega)), hvi, hnn]
          refine ⟨_, by simp [Instr.indexAt, run_underlying hu, asIntOf, run_size hm, hin]; rfl, hr, ?_⟩
          rw [RI.at_add, hKm, Nat.add_mul, Nat.add_zero]
        · cases he
      · cases he
    · rename_i e m n r a' j k i hs hx hi
      simp only [Option.some.injEq, Prod.mk.injEq] at he; obtain ⟨rfl, rfl⟩ := he
      obtain ⟨hu, hm, _⟩ := hE.tyAr hs
      obtain ⟨hr, hv⟩ := ev_sound h hx
      have hvi : a.eval _ = .int k i := (ev_sound h hi).1
      have hin := hq.1
      rw [hv, hvi]
      refine ⟨_, by simp [Instr.indexAt, Instr.sureAddr, run_underlying hu, asIntOf, run_size hm, hin]; rfl, hr, ?_⟩
      rw [RI.at_add, Nat.add_assoc]
    · cases he
  · -- index
    split at he
    · rename_i e m n l k i hs hx hi
      split at he
      · rename_i fs en hse
        simp only [Option.some.injEq, Prod.mk.injEq] at he; obtain ⟨rfl, rfl⟩ := he
        obtain ⟨hu, hm, _⟩ := hE.tyAr hs
        obtain ⟨⟨fields, hue, _⟩, _⟩ := hE.tySt hse
        obtain ⟨ys, hv, hl⟩ := ev_sound h hx
        have hvi : a.eval _ = .int k i := (ev_sound h hi).1
        have hin := hq.1
        refine ⟨.agg ((ys.drop (i.toNat * m)).take m).toArray, ?_, _, rfl, okL_take (okL_drop hl _) _⟩
        rw [hv, hvi]
        simp [Instr.index, run_underlying hu, asIntOf, run_size hm, hin, part, isAgg, run_underlying hue]
      · cases he
    · rename_i s k i hs hx hi
      simp only [Option.some.injEq, Prod.mk.injEq] at he; obtain ⟨rfl, rfl⟩ := he
      obtain ⟨hu, _⟩ := hE.tyStr hs
      obtain ⟨hv, _⟩ := ev_sound h hx
      have hvi : a.eval _ = .int k i := (ev_sound h hi).1
      have hin := hq.1
      rw [hv, hvi]
      have hget : s[i.toNat]? = some (s.data.getD i.toNat 0) := by
        have hlt : i.toNat < s.data.size := by have := hin; simp only [ByteArray.size] at this; omega
        show (if h : i.toNat < s.data.size then some s.data[i.toNat] else none) = _
        rw [dif_pos hlt]
        unfold Array.getD
        rw [dif_pos hlt]
        rfl
      generalize s.data.getD i.toNat 0 = b at hget
      have hc : ∀ t', P.underlying t' = some .string → (Instr.index t' (.string s) (.int k i)).run P w = .ok (.int .u8 b.toNat) w := by
        intro t' hu'
        simp only [Instr.index, run_underlying hu', Sem.run_bind, Result.andThen_ok, asIntOf, Sem.run_pure]
        rw [if_pos hin.1, hget]
        rfl
      exact ⟨_, by simp only [Sem.run_bind, hc _ hu, Result.andThen_ok]; rfl, rfl, rfl⟩
    · cases he
  · -- slice
    split at he
    · rename_i e m r lo n k i hs hx hi
      split at he
      · rename_i te tg xs ow hg
        split at he
        · rename_i hm'
          simp only [Option.some.injEq, Prod.mk.injEq] at he; obtain ⟨rfl, rfl⟩ := he
          obtain ⟨hu, hm, _⟩ := hE.tySl hs
          obtain ⟨hr, hnil, hv⟩ := ev_sound h hx
          have hvi : a.eval _ = .int k i := (ev_sound h hi).1
          have hin := hq.1
          have hgr : st.rg[r]? = some (.arr te tg xs ow) := by
            have : st.rg[r]? = some st.rg[r] := List.getElem?_eq_getElem hr
            simpa [List.getD, this] using hg
          have hKm : (ρ r).m = m := ((h.rg r _ hgr).2.1).trans (Nat.eq_of_beq_eq_true hm')
          obtain ⟨y, h1, h2⟩ := run_slice_lo (w := w) hu hm hKm hnil hv k i hin.1 hin.2
          simp only [Option.map_some, Option.map_none, hvi]
          exact ⟨y, by simp [h1], hr, fun hn => by have := hnil hn; omega, h2⟩
        · cases he
      · cases he
    · cases he
  · -- extract
    split at he
    · rename_i l hx
      split at he
      · rename_i c hc; simp only [Option.some.injEq, Prod.mk.injEq] at he; obtain ⟨rfl, rfl⟩ := he
        obtain ⟨ys, hv, hl⟩ := ev_sound h hx
        obtain ⟨y, hy, hcy⟩ := hl.get _ _ hc
        refine ⟨y, by simp [hv, Instr.extract, hy], ?_⟩
        cases c <;> exact hcy
      · cases he
    · cases he
  · -- build
    split at he
    · rename_i fs n z hs hz
      split at he
      · rename_i l hlen hl; simp only [Option.some.injEq, Prod.mk.injEq] at he; obtain ⟨rfl, rfl⟩ := he
        have hty := hE.tySt hs
        obtain ⟨⟨fields, hu, hp⟩, _⟩ := hty
        obtain ⟨_, i, zv, h1, h2, h3⟩ := hE.zero _ _ hz
        obtain ⟨ys, h4, h5⟩ := evParts_sound h _ _ _ _ hl (h3 _ ρ)
        refine ⟨.agg ys.toArray, ?_, ys, rfl, h5⟩
        have := run_build_st (w := w) hu hp h1 h2 ((_ : Array (Nat × Operand)).map fun x => (x.1, a.eval x.2)) ys (by simpa using h4)
        simp [this]
      · cases he
    · rename_i e m n z hs hz
      split at he
      · rename_i l hlen hl; simp only [Option.some.injEq, Prod.mk.injEq] at he; obtain ⟨rfl, rfl⟩ := he
        obtain ⟨hu, hm, _⟩ := hE.tyAr hs
        obtain ⟨_, i, zv, h1, h2, h3⟩ := hE.zero _ _ hz
        obtain ⟨ys, h4, h5⟩ := evPartsA_sound h _ _ _ _ hl (h3 _ ρ)
        refine ⟨.agg ys.toArray, ?_, ys, rfl, h5⟩
        have := run_build_ar (w := w) hu hm h1 h2 ((_ : Array (Nat × Operand)).map fun x => (x.1, a.eval x.2)) ys (by simpa using h4)
        simp [this]
      · cases he
    · cases he
  · -- makeFunc
    split at he
    · rename_i f l hfirst hc; simp only [Option.some.injEq, Prod.mk.injEq] at he; obtain ⟨rfl, rfl⟩ := he
      obtain ⟨h1, h2⟩ := okL_caps h hc
      refine ⟨_, by simp [Instr.makeFunc]; rfl, h1, ?_⟩
      have e1 : ∀ (first : Array Operand), first.toList = [] → first = #[] := fun first hh => by simpa using hh
      rename_i first caps _ _ _
      rw [e1 _ hfirst]
      have e2 : caps.map a.eval = (l.map fun r => Value.pointer (some ((ρ r).at 0))).toArray := Array.ext' (by simpa using h2)
      rw [e2]
      simp
    · cases he
  · -- len
    rename_i c
    split at he
    · rename_i hcal
      split at he
      · rename_i x t harg hty
        have e1 : c = { callee := .builtin .len, args := #[x], argTypes := #[t] } := by
          cases c
          simp only at hcal harg hty
          subst hcal
          congr 1
          · exact Array.ext' (by simpa using harg)
          · exact Array.ext' (by simpa using hty)
        subst e1
        have hrun : ∀ (d : TypeDesc) (v y : Value), P.underlying t = some d → a.eval x = v → (Builtin.len_ #[t] o.type #[v]).run P w = .ok y w →
            (do let d ← resolve a.eval { callee := .builtin .len, args := #[x], argTypes := #[t] } o.type; invoke d.target d.args : Sem Next).run P w = .ok (.value y) w := by
          intro d v y hu hv hr
          subst hv
          simp [resolve, invoke, builtin, hr]
        split at he
        · rename_i e m r lo n hs hx
          simp only [Option.some.injEq, Prod.mk.injEq] at he; obtain ⟨rfl, rfl⟩ := he
          obtain ⟨hu, _, _⟩ := hE.tySl hs
          obtain ⟨hr, hnil, hv⟩ := ev_sound h hx
          obtain ⟨p, hv⟩ := hv.len
          exact ⟨_, hrun _ _ _ hu hv (by simp [Builtin.len_, run_underlying hu]; rfl), rfl, rfl⟩
        · rename_i e m n cap hs hx
          simp only [Option.some.injEq, Prod.mk.injEq] at he; obtain ⟨rfl, rfl⟩ := he
          obtain ⟨hu, _, _⟩ := hE.tySl hs
          obtain ⟨hv, _⟩ := ev_sound h hx
          exact ⟨_, hrun _ _ _ hu hv (by simp [Builtin.len_, run_underlying hu]; rfl), rfl, rfl⟩
        · rename_i s hs hx
          simp only [Option.some.injEq, Prod.mk.injEq] at he; obtain ⟨rfl, rfl⟩ := he
          obtain ⟨hu, _⟩ := hE.tyStr hs
          obtain ⟨hv, _⟩ := ev_sound h hx
          exact ⟨_, hrun _ _ _ hu hv (by simp [Builtin.len_, run_underlying hu]; rfl), rfl, rfl⟩
        · cases he
      · cases he
    · rename_i hcal
      split at he
      · rename_i x y hargs
        split at he
        · rename_i k m k' n hx hy
          simp only [Option.some.injEq, Prod.mk.injEq] at he; obtain ⟨rfl, rfl⟩ := he
          obtain ⟨hvx, _⟩ := ev_sound h hx
          obtain ⟨hvy, _⟩ := ev_sound h hy
          have e1 : c.args = #[x, y] := Array.ext' (by simpa using hargs)
          exact ⟨_, by simp [resolve, invoke, builtin, hcal, e1, hvx, hvy, run_min_int2], rfl, rfl⟩
        · cases he
      · cases he
    · rename_i hcal
      split at he
      · rename_i x y hargs
        split at he
        · rename_i k m k' n hx hy
          simp only [Option.some.injEq, Prod.mk.injEq] at he; obtain ⟨rfl, rfl⟩ := he
          obtain ⟨hvx, _⟩ := ev_sound h hx
          obtain ⟨hvy, _⟩ := ev_sound h hy
          have e1 : c.args = #[x, y] := Array.ext' (by simpa using hargs)
          exact ⟨_, by simp [resolve, invoke, builtin, hcal, e1, hvx, hvy, run_max_int2], rfl, rfl⟩
        · cases he
      · cases he
    · cases he
  · cases he

end
end Go.Sx
