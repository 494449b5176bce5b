/-
  The evaluator's operations that make and write memory are sound.
-/
import Derived.Test.YtoggkjobihlohaaDoorSxRun
namespace Go.Sx
open Go Go.RowKit
universe u

section
variable {P : Program} {Γ : Glob} {E : Env} {N0 : Nat} {w0 : World} {ρ : Nat → RI} {st : St} {a : Act} {w : World}

def setρ (ρ : Nat → RI) (n : Nat) (I : RI) : Nat → RI := fun r => if r = n then I else ρ r
theorem setρ_lt {n r : Nat} {I : RI} (h : r < n) : setρ ρ n I r = ρ r := by simp [setρ, Nat.ne_of_lt h]
theorem setρ_at {n : Nat} {I : RI} : setρ ρ n I n = I := by simp [setρ]

/-- One more region, over a new block. -/
theorem Rel.grow (h : Rel Γ N0 w0 ρ st a w) {w' : World} {I : RI} {g : Reg} (hb : Below w.heap.size w w')
    (hnew : g.own I → w.heap.size ≤ I.b) (hg : g.ok (st.rg.length + 1) (setρ ρ st.rg.length I) N0 w' I) : Rel Γ N0 w0 (setρ ρ st.rg.length I) (st.push [g]) a w' := by
  have h' := h.later hb
  have hN : (st.push [g]).rg.length = st.rg.length + 1 := by simp [St.push]
  have hlt : ∀ (r : Nat) (g' : Reg), (st.push [g]).rg[r]? = some g' → (r < st.rg.length ∧ st.rg[r]? = some g') ∨ (r = st.rg.length ∧ g' = g) := by
    intro r g' hr
    simp only [St.push] at hr
    rcases Nat.lt_or_ge r st.rg.length with hl | hl
    · rw [List.getElem?_append_left hl] at hr; exact .inl ⟨hl, hr⟩
    · rw [List.getElem?_append_right hl] at hr
      rcases Nat.eq_or_lt_of_le hl with he | he
      · rw [← he] at hr; simp at hr; exact .inr ⟨he.symm, hr.symm⟩
      · rw [List.getElem?_eq_none (by simp; omega)] at hr; cases hr
  refine ⟨?_, h.df, fun r g' hr => ?_, fun r r' g1 g2 h1 h2 o1 o2 hne => ?_, h'.bl, h'.lo, h'.gl, h'.gn⟩
  · rw [hN]
    exact h.tm.mono fun _ _ hx => hx.mono (Nat.le_succ _) fun r hr => setρ_lt hr
  · rw [hN]
    rcases hlt r g' hr with ⟨hl, hr⟩ | ⟨rfl, rfl⟩
    · rw [setρ_lt hl]
      exact (h'.rg r g' hr).later (Nat.le_succ _) (fun r hr => setρ_lt hr) (fun _ => rfl) (Nat.le_refl _)
    · rw [setρ_at]; exact hg
  · rcases hlt r g1 h1 with ⟨hl1, hr1⟩ | ⟨rfl, rfl⟩ <;> rcases hlt r' g2 h2 with ⟨hl2, hr2⟩ | ⟨rfl, rfl⟩
    · rw [setρ_lt hl1] at o1 ⊢; rw [setρ_lt hl2] at o2 ⊢; exact h.dj r r' g1 g2 hr1 hr2 o1 o2 hne
    · rw [setρ_lt hl1] at o1 ⊢; rw [setρ_at] at o2 ⊢
      have := (h.rg r g1 hr1).block_lt h.lo (.inl o1)
      have := hnew o2
      omega
    · rw [setρ_lt hl2] at o2 ⊢; rw [setρ_at] at o1 ⊢
      have := (h.rg r' g2 hr2).block_lt h.lo (.inl o2)
      have := hnew o1
      omega
    · exact absurd rfl hne

theorem cell_alloc_at (cs : List Value) (t : TypeId) (o : Nat) : (w.alloc (.cells cs.toArray t)).cell? ⟨w.heap.size, o, none⟩ = cs[o]? := by
  simp [World.cell?_alloc_new]

theorem below_alloc (o : Obj) : Below w.heap.size w (w.alloc o) := (Below.refl _ _).alloc (Nat.le_refl _) o

/-- A new box. -/
theorem Rel.box (h : Rel Γ N0 w0 ρ st a w) {l : List At} {ys : List Value} (hl : okL (At.ok st.rg.length ρ) l ys) (t : TypeId) :
    Rel Γ N0 w0 (setρ ρ st.rg.length ⟨w.heap.size, 0, ys.length, false, 0⟩) (st.push [.box true l]) a (w.alloc (.cells ys.toArray t)) := by
  refine h.grow (below_alloc _) (fun _ => Nat.le_refl _) ⟨rfl, fun _ => ⟨h.lo, by simp, fun j => by simp⟩, fun hf => by simp at hf, fun j x hx => ?_⟩
  obtain ⟨y, hy, hr⟩ := hl.get j x hx
  exact ⟨y, hr.mono (Nat.le_succ _) fun r hr => setρ_lt hr, by simp only [RI.at, Nat.zero_add]; rw [cell_alloc_at]; exact hy⟩

theorem flat_get {α : Type} {enc : α → List Value} {m : Nat} (hm : ∀ a, (enc a).length = m) : ∀ (xs : List α) (i : Nat) (a : α), xs[i]? = some a → ∀ j, j < m → (xs.flatMap enc)[i * m + j]? = (enc a)[j]?
  | [], i, a, h, _, _ => by simp at h
  | x :: xs, 0, a, h, j, hj => by
    simp at h; subst h
    rw [List.flatMap_cons, Nat.zero_mul, Nat.zero_add, List.getElem?_append_left (by rw [hm]; exact hj)]
  | x :: xs, i + 1, a, h, j, hj => by
    rw [List.flatMap_cons, List.getElem?_append_right (by rw [hm, Nat.add_mul]; omega), hm]
    rw [show (i + 1) * m + j - m = i * m + j by rw [Nat.add_mul]; omega]
    exact flat_get hm xs i a (by simpa using h) j hj
theorem flat_length {α : Type} {enc : α → List Value} {m : Nat} (hm : ∀ a, (enc a).length = m) (xs : List α) : (xs.flatMap enc).length = xs.length * m := by
  induction xs with
  | nil => simp
  | cons x xs ih => simp [List.flatMap_cons, hm, ih, Nat.add_mul]; omega

/-- A new array. -/
theorem Rel.arr (h : Rel Γ N0 w0 ρ st a w) {tg : List CK} (hK : (kindOf tg).Ok) (xs : List (Tup tg)) (t : TypeId) (hx : xs.length ≤ maxLen) :
    Rel Γ N0 w0 (setρ ρ st.rg.length ⟨w.heap.size, 0, (kindOf tg).m, false, xs.length⟩) (st.push [.arr t tg xs true]) a (w.alloc (.cells (xs.flatMap (kindOf tg).enc).toArray t)) := by
  refine h.grow (below_alloc _) (fun _ => Nat.le_refl _) ⟨hK, rfl, fun hh => by simp at hh, fun _ => ⟨fun _ => ⟨h.lo, by simp, fun j => by simp, rfl, Nat.le_refl _, hx, (xs.flatMap (kindOf tg).enc).toArray, (by show (w.heap.push _)[w.heap.size]? = _; simp), (by rw [List.size_toArray, flat_length hK.len])⟩, fun hf => by simp at hf⟩, fun i b hb j y hy => ?_⟩
  simp only [RI.at, Nat.zero_add]
  rw [cell_alloc_at]
  have hj : j < (kindOf tg).m := by
    rw [← hK.len b]
    exact (List.getElem?_eq_some_iff.1 hy).1
  rw [flat_get hK.len xs i b hb j hj]; exact hy

/-! ### Slice literals -/
theorem flat_set {α : Type} {enc : α → List Value} {m : Nat} (hm : ∀ a, (enc a).length = m) (xs : List α) (i : Nat) (a : α) (hi : i < xs.length) :
    ((enc a).zipIdx.foldl (fun cs cj => cs.set (i * m + cj.2) cj.1) (xs.flatMap enc)) = (xs.set i a).flatMap enc := by
  have fold_get : ∀ (ys : List Value) (k : Nat) (cs : List Value) (o p : Nat), o + k + ys.length ≤ cs.length →
      ((ys.zipIdx k).foldl (fun cs cj => cs.set (o + cj.2) cj.1) cs)[p]? = if o + k ≤ p ∧ p < o + k + ys.length then ys[p - (o + k)]? else cs[p]? := by
    intro ys
    induction ys with
    | nil => intro k cs o p _; simp; intro _ _; omega
    | cons y ys ih =>
      intro k cs o p hle
      simp only [List.zipIdx_cons, List.foldl_cons]
      rw [ih (k + 1) _ o p (by simp at hle ⊢; omega)]
      simp only [List.length_cons] at hle ⊢
      by_cases h1 : p = o + k
      · subst h1
        rw [if_neg (by omega), if_pos (by omega)]
        rw [List.getElem?_set_self (by omega), Nat.sub_self]; rfl
      · by_cases h2 : o + (k + 1) ≤ p ∧ p < o + (k + 1) + ys.length
        · rw [if_pos h2, if_pos (by omega), show p - (o + k) = (p - (o + (k + 1))) + 1 by omega]
          simp
        · rw [if_neg h2, if_neg (by omega), List.getElem?_set_ne (by omega)]
  apply List.ext_getElem?
  intro p
  have hlen := flat_length hm xs
  have hfit : i * m + m ≤ xs.length * m := by
    have : (i + 1) * m ≤ xs.length * m := Nat.mul_le_mul_right m hi
    rw [Nat.add_mul] at this; omega
  rw [fold_get (enc a) 0 _ (i * m) p (by rw [hlen, hm]; omega)]
  rw [hm, Nat.add_zero]
  rcases Nat.eq_zero_or_pos m with h0 | hpos
  · subst h0
    rw [if_neg (by omega)]
    have e1 : (xs.flatMap enc) = [] := List.eq_nil_of_length_eq_zero (by rw [hlen]; omega)
    have e2 : ((xs.set i a).flatMap enc) = [] := List.eq_nil_of_length_eq_zero (by rw [flat_length hm]; omega)
    rw [e1, e2]
  by_cases hp : p < xs.length * m
  · have hq : p / m < xs.length := Nat.div_lt_of_lt_mul (by rw [Nat.mul_comm]; exact hp)
    have hr : p % m < m := Nat.mod_lt _ hpos
    have hdm : p / m * m + p % m = p := by rw [Nat.mul_comm]; exact Nat.div_add_mod p m
    by_cases he : p / m = i
    · have e1 : (xs.set i a)[p / m]? = some a := by rw [he]; simp [hi]
      have := flat_get hm (xs.set i a) (p / m) a e1 (p % m) hr
      rw [hdm] at this
      rw [this, if_pos (by rw [he] at hdm; omega)]
      congr 1
      rw [he] at hdm; omega
    · have e1 : (xs.set i a)[p / m]? = xs[p / m]? := by rw [List.getElem?_set_ne (Ne.symm he)]
      have e3 : xs[p / m]? = some xs[p / m] := List.getElem?_eq_getElem hq
      have h1 := flat_get hm (xs.set i a) (p / m) xs[p / m] (by rw [e1, e3]) (p % m) hr
      have h2 := flat_get hm xs (p / m) xs[p / m] e3 (p % m) hr
      rw [hdm] at h1 h2
      rw [h1, ← h2, if_neg]
      intro hh
      apply he
      have : p / m * m ≤ p := Nat.div_mul_le_self p m
      rcases Nat.lt_trichotomy (p / m) i with hlt | heq | hgt
      · have : (p / m + 1) * m ≤ i * m := Nat.mul_le_mul_right m hlt
        rw [Nat.add_mul] at this; omega
      · exact heq
      · have : (i + 1) * m ≤ p / m * m := Nat.mul_le_mul_right m hgt
        rw [Nat.add_mul] at this; omega
  · rw [if_neg (by omega), List.getElem?_eq_none (by omega), List.getElem?_eq_none (by rw [flat_length hm]; simp; omega)]

theorem updAll_get {α : Type} {K : Kind α} (hK : K.Ok) {N : Nat} : ∀ (l : List At) (vs : List Value) (b b' : α) (j : Nat), updAll K b j l = some b' → okL (At.ok N ρ) l vs →
    (∀ s, s < l.length → j + s < K.m) ∧ ∀ p, (K.enc b')[p]? = if j ≤ p ∧ p < j + l.length then vs[p - j]? else (K.enc b)[p]?
  | [], vs, b, b', j, he, _ => by
    simp only [updAll, Option.some.injEq] at he; subst he
    exact ⟨by simp, fun p => by rw [if_neg (by simp)]⟩
  | x :: l, [], _, _, _, _, h => h.elim
  | x :: l, v :: vs, b, b', j, he, h => by
    have main : ∀ u, K.upd b j u = none ∨ ∃ b1, K.upd b j u = some b1 ∧ (updAll K b1 (j + 1) l = some b' → v = u →
        (∀ s, s < l.length + 1 → j + s < K.m) ∧ ∀ p, (K.enc b')[p]? = if j ≤ p ∧ p < j + (l.length + 1) then (v :: vs)[p - j]? else (K.enc b)[p]?) := by
      intro u
      cases hu : K.upd b j u with
      | none => exact .inl rfl
      | some b1 =>
        refine .inr ⟨b1, rfl, fun he hv => ?_⟩
        subst hv
        obtain ⟨hj, henc⟩ := hK.upd b j v b1 hu
        obtain ⟨h1, h2⟩ := updAll_get hK l vs b1 b' (j + 1) he h.2
        refine ⟨fun s hs => ?_, fun p => ?_⟩
        · cases s with
          | zero => exact hj
          | succ s => have := h1 s (by omega); omega
        · rw [h2 p, henc]
          by_cases e1 : p = j
          · subst e1
            rw [if_neg (by omega), if_pos (by omega), List.getElem?_set_self (by rw [hK.len]; exact hj), Nat.sub_self]; rfl
          · by_cases e2 : j + 1 ≤ p ∧ p < j + 1 + l.length
            · rw [if_pos e2, if_pos (by omega), show p - j = (p - (j + 1)) + 1 by omega]; rfl
            · rw [if_neg e2, if_neg (by omega), List.getElem?_set_ne (by omega)]
    cases x <;> simp only [updAll] at he <;> try (cases he; done)
    case v u =>
      rcases main u with hn | ⟨b1, hb, hh⟩
      · rw [hn] at he; cases he
      · rw [hb] at he; exact hh he h.1.1
    case tt =>
      rcases main (.bool true) with hn | ⟨b1, hb, hh⟩
      · rw [hn] at he; cases he
      · rw [hb] at he; exact hh he h.1
    case ff =>
      rcases main (.bool false) with hn | ⟨b1, hb, hh⟩
      · rw [hn] at he; cases he
      · rw [hb] at he; exact hh he h.1

theorem updAll_all {α : Type} {K : Kind α} (hK : K.Ok) {N : Nat} {l : List At} {vs : List Value} {b' : α} (h : updAll K K.d 0 l = some b') (hl : okL (At.ok N ρ) l vs) (hlen : l.length = K.m) : K.enc b' = vs := by
  obtain ⟨_, h2⟩ := updAll_get hK l vs _ b' 0 h hl
  apply List.ext_getElem?
  intro p
  rw [h2 p]
  split
  · simp
  · rename_i hp
    have hp' : K.m ≤ p := by omega
    rw [List.getElem?_eq_none (by rw [hK.len]; exact hp'), List.getElem?_eq_none (by rw [← hl.length, hlen]; exact hp')]

theorem ofAt_enc {c : CK} {x : At} {b : c.ty} {N : Nat} {y : Value} (h : c.ofAt x = some b) (hy : x.ok N ρ y) : c.enc b = y := by
  cases x <;> simp only [CK.ofAt] at h <;> try (cases h; done)
  · rw [hy.1]; exact CK.of_enc c _ b h
  · rw [show y = .bool true from hy]; exact CK.of_enc c _ b h
  · rw [show y = .bool false from hy]; exact CK.of_enc c _ b h
theorem ofCells_enc {N : Nat} : ∀ (tg : List CK) (l : List At) (ys : List Value), okL (At.ok N ρ) l ys → ∀ b, ofCells tg l = some b → Tup.enc tg b = ys := by
  intro tg
  induction tg with
  | nil =>
    intro l ys hl b h
    cases l with
    | nil => cases ys with
      | nil => rfl
      | cons y ys => exact hl.elim
    | cons x l => cases h
  | cons c cs ih =>
    intro l ys hl b h
    cases cs with
    | nil =>
      cases l with
      | nil => cases h
      | cons x l =>
        cases l with
        | cons x' l => cases h
        | nil =>
          cases ys with
          | nil => exact hl.elim
          | cons y ys =>
            cases ys with
            | cons y' ys => exact hl.2.elim
            | nil =>
              have h1 : c.ofAt x = some b := h
              have h2 : c.enc b = y := ofAt_enc h1 hl.1
              show [c.enc b] = [y]
              rw [h2]
    | cons c' cs =>
      cases l with
      | nil => cases h
      | cons x l =>
        cases ys with
        | nil => exact hl.elim
        | cons y ys =>
          have h1 : (match c.ofAt x, ofCells (c' :: cs) l with | some y, some z => some ((y, z) : c.ty × Tup (c' :: cs)) | _, _ => none) = some b := h
          split at h1
          · rename_i u v hu hv
            have hb : b = ((u, v) : c.ty × Tup (c' :: cs)) := (Option.some.inj h1).symm
            subst hb
            show c.enc u :: Tup.enc (c' :: cs) v = y :: ys
            rw [ofAt_enc hu hl.1, ih l ys hl.2 v hv]
          · cases h1
theorem evLit_elems {tg : List CK} : ∀ (parts : List (Nat × Operand)) (pos : Nat) (xs pre : List (Tup tg)), evLit st tg pos parts = some xs → pre.length = pos →
    evElems st tg (pre ++ List.replicate xs.length (kindOf tg).d) parts = some (pre ++ xs)
  | [], pos, xs, pre, h, _ => by simp only [evLit, Option.some.injEq] at h; subst h; simp [evElems]
  | (i, o) :: rest, pos, xs, pre, h, hp => by
    simp only [evLit] at h
    split at h
    · rename_i x hx
      split at h
      · rename_i l hl
        split at h
        · rename_i a xs' hi ha hr
          obtain rfl := Option.some.inj h
          obtain rfl := Nat.eq_of_beq_eq_true hi
          subst hp
          have ih := evLit_elems rest (pre.length + 1) xs' (pre ++ [a]) hr (by simp)
          have e1 : (pre ++ List.replicate (a :: xs').length (kindOf tg).d).set pre.length a = pre ++ [a] ++ List.replicate xs'.length (kindOf tg).d := by
            simp [List.replicate_succ]
          have e2 : Nat.blt pre.length (pre ++ List.replicate (a :: xs').length (kindOf tg).d).length = true := by simp [Nat.blt_eq]
          simp only [evElems, hx, hl, ha, e2, e1]
          rw [ih]; simp
        · cases h
      · cases h
    · cases h

theorem evElems_sound (hE : EnvOk P Γ E) (h : Rel Γ N0 w0 ρ st a w) {e : TypeId} {tg : List CK} (hD : E.kd e = some tg) : ∀ (parts : List (Nat × Operand)) (xs xs' : List (Tup tg)), evElems st tg xs parts = some xs' →
    xs'.length = xs.length ∧ Instr.fill (fun i => some (i * (kindOf tg).m, (kindOf tg).m)) (xs.flatMap (kindOf tg).enc).toArray (parts.map fun p => (p.1, a.eval p.2)) = some (xs'.flatMap (kindOf tg).enc).toArray
  | [], xs, xs', he => by simp only [evElems, Option.some.injEq] at he; subst he; exact ⟨rfl, rfl⟩
  | (i, o) :: rest, xs, xs', he => by
    obtain ⟨hK, _⟩ := hE.kd e tg hD
    simp only [evElems] at he
    split at he
    · rename_i x hx
      split at he
      · rename_i l hl
        split at he
        · rename_i b hb hi
          have hi' : i < xs.length := by simpa [Nat.blt_eq] using hi
          obtain ⟨c1, _, _⟩ := tmCells_sound (ev_sound h hx) hl
          have henc : (kindOf tg).enc b = _ := ofCells_enc _ _ _ c1 _ hb
          obtain ⟨h1, h2⟩ := evElems_sound hE h hD rest _ _ he
          refine ⟨by rw [h1]; simp, ?_⟩
          simp only [List.map_cons, Instr.fill]
          have hsz : (a.eval o).cells.size = (kindOf tg).m := by rw [← hK.len b, henc]; simp
          have hfit : ¬ ((a.eval o).cells.size ≠ (kindOf tg).m ∨ i * (kindOf tg).m + (a.eval o).cells.size > (xs.flatMap (kindOf tg).enc).toArray.size) := by
            rw [hsz]
            simp only [ne_eq, not_true, false_or, List.size_toArray, flat_length hK.len]
            have : (i + 1) * (kindOf tg).m ≤ xs.length * (kindOf tg).m := Nat.mul_le_mul_right _ hi'
            rw [Nat.add_mul] at this; omega
          rw [if_neg (by simpa using hfit)]
          rw [← h2, ← flat_set hK.len xs i b hi', henc]
          congr 1
          have gen : ∀ (cs : List (Value × Nat)) (zs : List Value), cs.foldl (fun (cs : Array Value) (x : Value × Nat) => cs.setIfInBounds (i * (kindOf tg).m + x.2) x.1) zs.toArray =
              (cs.foldl (fun cs cj => cs.set (i * (kindOf tg).m + cj.2) cj.1) zs).toArray := by
            intro cs
            induction cs with
            | nil => intro zs; rfl
            | cons c cs ih => intro zs; simp only [List.foldl_cons, List.setIfInBounds_toArray]; exact ih _
          have e2 : (a.eval o).cells.zipIdx = ((a.eval o).cells.toList.zipIdx).toArray := by
            rw [← Array.toList_zipIdx]
          rw [e2]
          simp only [List.foldl_toArray']
          exact gen _ _
        · cases he
      · cases he
    · cases he

theorem run_buildSlice (hE : EnvOk P Γ E) (h : Rel Γ N0 w0 ρ st a w) {t e : TypeId} {m : Nat} (ht : E.ty t = .sl e m) {tg : List CK} (hD : E.kd e = some tg) {n : Nat} {parts : Array (Nat × Operand)} {xs : List (Tup tg)}
    (he : evElems st tg (List.replicate n (kindOf tg).d) parts.toList = some xs) (hn : 0 < n) (hsz : n * (kindOf tg).m ≤ 16777216) :
    (Instr.buildSlice t n (parts.map fun (i, x) => (i, a.eval x))).run P w = .ok (.slice (some ⟨w.heap.size, 0, none⟩) n n) (w.alloc (.cells (xs.flatMap (kindOf tg).enc).toArray e)) ∧ xs.length = n := by
  obtain ⟨hu, _, _⟩ := hE.tySl ht
  obtain ⟨hK, ⟨i, z, h1, h2, h3, h4, _⟩⟩ := hE.kd e tg hD
  obtain ⟨h5, h6⟩ := evElems_sound hE h hD _ _ _ he
  refine ⟨?_, by simpa using h5⟩
  have hpos : ¬ (n * (kindOf tg).m = 0) := by
    have := Nat.mul_pos hn hK.pos
    omega
  have hstart : (Array.range (n * (kindOf tg).m)).map (fun k => z.cells[k % z.cells.size]!) = ((List.replicate n (kindOf tg).d).flatMap (kindOf tg).enc).toArray := by
    have hzs : z.cells.size = (kindOf tg).m := by rw [← hK.len (kindOf tg).d, ← h4]; simp
    apply Array.ext_getElem?
    intro k
    by_cases hk : k < n * (kindOf tg).m
    · have hq : k / (kindOf tg).m < n := Nat.div_lt_of_lt_mul (by rw [Nat.mul_comm]; exact hk)
      have hr : k % (kindOf tg).m < (kindOf tg).m := Nat.mod_lt _ hK.pos
      have hdm : k / (kindOf tg).m * (kindOf tg).m + k % (kindOf tg).m = k := by rw [Nat.mul_comm]; exact Nat.div_add_mod k (kindOf tg).m
      have := flat_get hK.len (List.replicate n (kindOf tg).d) (k / (kindOf tg).m) (kindOf tg).d (by simp [hq]) (k % (kindOf tg).m) hr
      rw [hdm] at this
      simp only [Array.getElem?_map, List.getElem?_toArray, this]
      rw [Array.getElem?_range]
      simp only [hk, if_true, Option.map_some, hzs]
      rw [← h4]
      have hlt : k % (kindOf tg).m < z.cells.size := by rw [hzs]; exact hr
      simp [hlt]
    · rw [Array.getElem?_eq_none (by simp; omega), Array.getElem?_eq_none (by simp [flat_length hK.len]; omega)]
  have hpt : (parts.map fun (i, x) => (i, a.eval x)).toList = parts.toList.map fun p => (p.1, a.eval p.2) := by simp
  simp only [Instr.buildSlice, run_underlying hu, Sem.run_bind, Result.andThen_ok]
  simp only [sizeOf, typeInfo, h1, Sem.run_bind, run_program, Result.andThen_ok, Sem.run_pure, h2, hpt]
  rw [if_neg (by omega), if_neg hpos]
  simp only [Sem.run_bind, Sem.run_pure, Result.andThen_ok, zeroValue, typeInfo, run_program, h1, h3, hstart, h6]
  simp [newRow]

end
end Go.Sx
