/-
  The evaluator's stores are sound.
-/
import Derived.Test.YtoggkjobihlohaaDoorSxMem
namespace Go.Sx
open Go Go.RowKit
universe u

section
variable {P : Program} {Γ : Glob} {E : Env} {N0 : Nat} {w0 : World} {ρ : Nat → RI} {st : St} {a : Act} {w : World}

theorem heap_setCells (b : Nat) : ∀ (vs : List Value) (o : Nat) (w : World) (k : Nat), k ≠ b → (w.setCells b o vs).heap[k]? = w.heap[k]?
  | [], _, _, _, _ => rfl
  | v :: vs, o, w, k, hk => by rw [World.setCells, heap_setCells b vs _ _ k hk, Below.heap_setCell _ _ _ _ hk]
theorem size_setCells (b : Nat) : ∀ (vs : List Value) (o : Nat) (w : World), (w.setCells b o vs).heap.size = w.heap.size
  | [], _, _ => rfl
  | v :: vs, o, w => by rw [World.setCells, size_setCells b vs, World.size_setCell]
theorem below_setCells {B b : Nat} (hb : B ≤ b) : ∀ (vs : List Value) (o : Nat) {w w' : World}, Below B w w' → Below B w (w'.setCells b o vs)
  | [], _, _, _, h => h
  | v :: vs, o, w, w', h => by rw [World.setCells]; exact below_setCells hb vs _ (h.setCell (p := ⟨b, o, none⟩) hb v)

theorem whole_setCells {I : RI} {e : TypeId} {m k : Nat} (hw : I.whole w e m k) : ∀ (vs : List Value) (o : Nat), I.whole (w.setCells I.b o vs) e m k := by
  intro vs
  induction vs generalizing w with
  | nil => exact fun o => hw
  | cons v vs ih =>
    intro o
    rw [World.setCells]
    refine ih ?_ _
    obtain ⟨h1, h2, h3, cur, h4, h5⟩ := hw
    refine ⟨h1, h2, h3, cur.setIfInBounds o v, ?_, by simpa using h5⟩
    have hlt := (Array.getElem?_eq_some_iff.1 h4).1
    have hv := (Array.getElem?_eq_some_iff.1 h4).2
    show (w.heap.modify I.b _)[I.b]? = _
    rw [Array.getElem?_eq_getElem (by rw [Array.size_modify]; exact hlt), Array.getElem_modify_self, hv]
    rfl

theorem Rel.write (h : Rel Γ N0 w0 ρ st a w) {r : Nat} {g0 g : Reg} (hr : st.rg[r]? = some g0) (ho : g0.own (ρ r)) {base : Nat} {vs : List Value}
    (hg : g.ok st.rg.length ρ N0 (w.setCells (ρ r).b base vs) (ρ r)) : Rel Γ N0 w0 ρ ⟨st.tm, st.rg.set r g⟩ a (w.setCells (ρ r).b base vs) := by
  have hge := (h.rg r g0 hr).own_ge ho
  have hlt : r < st.rg.length := (List.getElem?_eq_some_iff.1 hr).1
  have hget : ∀ (r' : Nat) (g' : Reg), (st.rg.set r g)[r']? = some g' → (r' = r ∧ g' = g) ∨ (r' ≠ r ∧ st.rg[r']? = some g') := by
    intro r' g' h'
    by_cases he : r' = r
    · subst he; rw [List.getElem?_set_self hlt] at h'; exact .inl ⟨rfl, (Option.some.inj h').symm⟩
    · rw [List.getElem?_set_ne (Ne.symm he)] at h'; exact .inr ⟨he, h'⟩
  refine ⟨?_, h.df, fun r' g' hr' => ?_, fun r1 r2 g1 g2 h1 h2 o1 o2 hne => ?_, below_setCells hge vs _ h.bl, by rw [size_setCells]; exact h.lo, Γ.st _ _ h.gl fun b hb => heap_setCells _ _ _ _ _ (by have := h.gn; omega), h.gn⟩
  · simp only [List.length_set]; exact h.tm
  · simp only [List.length_set]
    rcases hget r' g' hr' with ⟨rfl, rfl⟩ | ⟨hne, hr''⟩
    · exact hg
    · refine (h.rg r' g' hr'').later (Nat.le_refl _) (fun _ _ => rfl) (fun hh => heap_setCells _ _ _ _ _ ?_) (by rw [size_setCells]; exact Nat.le_refl _)
      rcases hh with hh | hh
      · exact fun e => h.dj r' r g' g0 hr'' hr hh ho hne e
      · omega
  · rcases hget r1 g1 h1 with ⟨rfl, rfl⟩ | ⟨n1, e1⟩ <;> rcases hget r2 g2 h2 with ⟨rfl, rfl⟩ | ⟨n2, e2⟩
    · exact absurd rfl hne
    · exact h.dj _ _ g0 g2 hr e2 ho o2 hne
    · exact h.dj _ _ g1 g0 e1 hr o1 ho hne
    · exact h.dj _ _ g1 g2 e1 e2 o1 o2 hne

theorem fillL_get : ∀ (l : List At) (cells : List At) (off p : Nat), off + l.length ≤ cells.length → (fillL cells off l)[p]? = if off ≤ p ∧ p < off + l.length then l[p - off]? else cells[p]?
  | [], cells, off, p, _ => by simp [fillL]; intro _ _; omega
  | x :: l, cells, off, p, h => by
    simp only [List.length_cons] at h ⊢
    rw [fillL, fillL_get l _ (off + 1) p (by simp; omega)]
    by_cases h1 : p = off
    · subst h1
      rw [if_neg (by omega), if_pos (by omega), List.getElem?_set_self (by omega), Nat.sub_self]; rfl
    · by_cases h2 : off + 1 ≤ p ∧ p < off + 1 + l.length
      · rw [if_pos h2, if_pos (by omega), show p - off = (p - (off + 1)) + 1 by omega]; rfl
      · rw [if_neg h2, if_neg (by omega), List.getElem?_set_ne (by omega)]

theorem ty_size (hE : EnvOk P Γ E) {t : TypeId} (hn : E.ty t ≠ .other) : (P.info? t).map (·.size) = some (E.ty t).cells := by
  have := hE.ty t
  cases hh : E.ty t <;> rw [hh] at this
  case other => exact absurd hh hn
  case st => exact this.2
  case sl => exact this.2.2
  case ar => exact this.2.2
  all_goals exact this.2

theorem evStore_sound (hE : EnvOk P Γ E) (h : Rel Γ N0 w0 ρ st a w) {t : TypeId} {ad x : Tm} {va vx : Value} (ha : ad.ok st.rg.length ρ va) (hx : x.ok st.rg.length ρ vx) {q : List Prop} {r : Nat} {g : Reg}
    (he : evStore E st t ad x = some (q, r, g)) (hq : obl q) : ∃ w', (Instr.storeAt t va vx).run P w = .ok () w' ∧ Rel Γ N0 w0 ρ ⟨st.tm, st.rg.set r g⟩ a w' := by
  unfold evStore at he
  split at he
  · rename_i r' i j l hl
    obtain ⟨hr, rfl⟩ := ha
    obtain ⟨c1, c2, c3⟩ := tmCells_sound hx hl
    split at he
    · cases he
    · rename_i hno
      split at he
      · rename_i q' g' hlen hput
        simp only [Option.some.injEq, Prod.mk.injEq] at he
        obtain ⟨rfl, rfl, rfl⟩ := he
        have hl' := lenIs_length hlen
        have hsz := ty_size hE (t := t) hno
        have hgr : ∃ g0, st.rg[r']? = some g0 := ⟨_, List.getElem?_eq_getElem hr⟩
        obtain ⟨g0, hg0⟩ := hgr
        have e0 : st.rg.getD r' .dead = g0 := by simp [List.getD, hg0]
        rw [e0] at hput
        have hok := h.rg r' g0 hg0
        have hvlen : vx.cells.toList.length = l.length := c1.length.symm
        -- the store, given that its cells are there
        have run : (∀ s, s < l.length → (w.cell? ((ρ r').at (i * (ρ r').m + j + s))).isSome = true) → (∀ o, w.frozen? ⟨(ρ r').b, o, none⟩ = false) →
            (Instr.storeAt t (.pointer (some ((ρ r').at (i * (ρ r').m + j)))) vx).run P w = .ok () (w.setCells (ρ r').b ((ρ r').off + (i * (ρ r').m + j)) vx.cells.toList) := by
          intro hc hf
          have hst := run_storeCells_cells (P := P) (ρ r').b ((ρ r').off + (i * (ρ r').m + j)) vx.cells.toList 0 w
            (fun s hs => by have := hc s (by omega); simpa [RI.at, Nat.add_assoc] using this) (fun s _ => hf _) c3
          have hcs : vx.cells.size = (E.ty t).cells := by
            have : vx.cells.toList.length = (E.ty t).cells := by rw [hvlen, hl']
            simpa using this
          simp only [Nat.add_zero] at hst
          simp [Instr.storeAt, Instr.sureAddr, storeVar, run_size hsz, hcs, RI.at, hst]
        cases g0 with
        | dead => simp [putCells] at hput
        | box o cells =>
          cases o with
          | false => simp [putCells] at hput
          | true =>
            simp only [putCells] at hput
            split at hput
            · rename_i hfit
              simp only [Option.some.injEq, Prod.mk.injEq] at hput
              obtain ⟨rfl, rfl⟩ := hput
              have hfit := Nat.le_of_ble_eq_true hfit
              obtain ⟨h1, h2, h3, h4⟩ := hok
              obtain ⟨_, _, hfz⟩ := h2 rfl
              have hcell : ∀ s, s < l.length → (w.cell? ((ρ r').at (0 * (ρ r').m + j + s))).isSome = true := fun s hs => by
                obtain ⟨y, _, hy⟩ := h4 (j + s) cells[j + s] (List.getElem?_eq_getElem (by omega))
                rw [show 0 * (ρ r').m + j + s = j + s by omega, hy]; rfl
              refine ⟨_, run hcell hfz, h.write hg0 rfl ?_⟩
              refine ⟨h1, fun _ => ?_, fun hf => by simp at hf, fun p x hx => ?_⟩
              · obtain ⟨b1, b2, b3⟩ := h2 rfl
                exact ⟨b1, by rw [size_setCells]; exact b2, fun o => by rw [World.frozen?_setCells]; exact b3 o⟩
              · rw [fillL_get _ _ _ _ hfit] at hx
                split at hx
                · rename_i hp
                  obtain ⟨y, hy, hr⟩ := c1.get _ _ hx
                  refine ⟨y, hr, ?_⟩
                  have hplt : p - j < vx.cells.toList.length := by omega
                  have := World.cell?_setCells_in (ρ r').b vx.cells.toList ((ρ r').off + (0 * (ρ r').m + j)) w (fun s hs => by have := hcell s (by omega); simpa [RI.at, Nat.add_assoc] using this) (p - j) hplt
                  rw [show (ρ r').at p = ⟨(ρ r').b, (ρ r').off + (0 * (ρ r').m + j) + (p - j), none⟩ by simp only [RI.at]; congr 1; omega]
                  rw [this]
                  rw [← List.getElem?_eq_getElem hplt]; exact hy
                · rename_i hp
                  obtain ⟨y, hy, hc⟩ := h4 p x hx
                  refine ⟨y, hy, ?_⟩
                  rw [World.cell?_setCells_out]
                  · exact hc
                  · intro _ _
                    simp only [RI.at]
                    omega
            · cases hput
        | arr te tg xs o =>
          cases o with
          | false => simp [putCells] at hput
          | true =>
            simp only [putCells] at hput
            split at hput
            · rename_i b' hupd
              simp only [Option.some.injEq, Prod.mk.injEq] at hput
              obtain ⟨rfl, rfl⟩ := hput
              obtain ⟨hK, h2, h3, h4, h5⟩ := hok
              have hi : i < xs.length := hq.1
              have hxi : xs[i]? = some (xs.getD i (kindOf tg).d) := by simp [List.getD, hi]
              have hnn : (ρ r').nil = false := by
                cases hh : (ρ r').nil with
                | false => rfl
                | true => have := h3 hh; subst this; simp at hi
              obtain ⟨b1, b2, b3, b4⟩ := (h4 hnn).1 rfl
              obtain ⟨u1, u2⟩ := updAll_get hK l vx.cells.toList _ b' j hupd c1
              have hcell : ∀ s, s < l.length → (w.cell? ((ρ r').at (i * (ρ r').m + j + s))).isSome = true := fun s hs => by
                have hjs := u1 s hs
                have hjs' : j + s < ((kindOf tg).enc (xs.getD i (kindOf tg).d)).length := by rw [hK.len]; exact hjs
                have := h5 i _ hxi (j + s) ((kindOf tg).enc (xs.getD i (kindOf tg).d))[j + s] (List.getElem?_eq_getElem hjs')
                rw [h2, show i * (kindOf tg).m + j + s = i * (kindOf tg).m + (j + s) by omega, this]; rfl
              refine ⟨_, run hcell b3, h.write hg0 ⟨rfl, hnn⟩ ?_⟩
              refine ⟨hK, h2, (fun (hh : (ρ r').nil = true) => absurd hh (by rw [hnn]; simp)), fun _ => ⟨fun _ => ⟨b1, by rw [size_setCells]; exact b2, fun o => by rw [World.frozen?_setCells]; exact b3 o, by rw [List.length_set]; exact whole_setCells b4 _ _⟩, fun hf => by simp at hf⟩, fun i' c hc p y hy => ?_⟩
              have hp : p < (kindOf tg).m := by rw [← hK.len c]; exact (List.getElem?_eq_some_iff.1 hy).1
              by_cases hii : i' = i
              · subst hii
                rw [List.getElem?_set_self hi] at hc
                obtain rfl := Option.some.inj hc
                rw [u2 p] at hy
                split at hy
                · rename_i hpj
                  have hplt : p - j < vx.cells.toList.length := by omega
                  have := World.cell?_setCells_in (ρ r').b vx.cells.toList ((ρ r').off + (i' * (ρ r').m + j)) w (fun s hs => by have := hcell s (by omega); simpa [RI.at, Nat.add_assoc] using this) (p - j) hplt
                  rw [show (ρ r').at (i' * (kindOf tg).m + p) = ⟨(ρ r').b, (ρ r').off + (i' * (ρ r').m + j) + (p - j), none⟩ by simp only [RI.at, h2]; congr 1; omega]
                  rw [this]
                  rw [← List.getElem?_eq_getElem hplt]; exact hy
                · rename_i hpj
                  rw [World.cell?_setCells_out]
                  · exact h5 i' _ hxi p y hy
                  · intro _ _
                    simp only [RI.at, h2]
                    omega
              · rw [List.getElem?_set_ne (Ne.symm hii)] at hc
                rw [World.cell?_setCells_out]
                · exact h5 i' c hc p y hy
                · intro _ _
                  simp only [RI.at, h2]
                  rcases Nat.lt_or_gt_of_ne hii with hlt | hgt
                  · have : (i' + 1) * (kindOf tg).m ≤ i * (kindOf tg).m := Nat.mul_le_mul_right _ hlt
                    rw [Nat.add_mul] at this; omega
                  · have : (i + 1) * (kindOf tg).m ≤ i' * (kindOf tg).m := Nat.mul_le_mul_right _ hgt
                    rw [Nat.add_mul] at this
                    by_cases hz : l.length = 0
                    · omega
                    · have := u1 (l.length - 1) (by omega)
                      omega
            · cases hput
      · cases he
  · cases he

end
end Go.Sx
