/-
  Texts of the claims on chapter 2: Sy3. No condition: lemmas and contracts.
-/
import Derived.Test.YtlmhkeoblgodiaaSy2
import Derived.Laws.MakeOwn
import Derived.WalkSpells
import Derived.Lib.SliceRun
import Derived.Deep.LoopGhost
import Derived.RangeFuncLeaves
import Derived.RangeFuncRecord
import Derived.TacticsIn
import Derived.LoopNIn
import Derived.Sort.LoopGhostIn
set_option linter.all false
section
/-
  A region built anew out of what lies in it and in another one: appends and stores of slices.
-/
namespace Go.Sy
open Go Go.RowKit
universe u
section
variable {P : Program} {Γ : Glob} {E : Env} {M : Nat → Prop} {w0 : World} {ρ : Keys} {st : St} {vs : Fv} {a : Act} {w : World}

theorem isNil_true {α : Type u} {l : List α} (h : isNil l = true) : l = [] := by cases l; rfl; cases h
theorem At.killF_ok {N r : Nat} {η : Path → RI} {top : Bool} (ht : top = false → η [] = ρ r []) {x : At} {y : Value} (h : x.ok N ρ y) : (x.kill top true r).ok N (setρ ρ r η) y := by
  have hne : ∀ {r'}, r' ≠ r → setρ ρ r η r' = ρ r' := fun hh => by simp [setρ, hh]
  have hat : ∀ r', top = false → setρ ρ r η r' [] = ρ r' [] := fun r' h0 => by
    by_cases e : r' = r
    · subst e; rw [setρ_at]; exact ht h0
    · rw [hne e]
  cases x with
  | p r' π i j =>
    simp only [At.kill]
    split
    · rename_i hb; obtain ⟨h1, h2⟩ := h; exact ⟨h1, by rw [hne (beq_ne hb)]; exact h2⟩
    · rename_i hb hn
      split
      · trivial
      · obtain rfl := isNil_true hn; exact ⟨h.1, by rw [hat _ rfl]; exact h.2⟩
    · trivial
  | sl r' π lo n =>
    simp only [At.kill]
    split
    · rename_i hb; obtain ⟨h1, h2⟩ := h; exact ⟨h1, by rw [hne (beq_ne hb)]; exact h2⟩
    · rename_i hb hn
      split
      · trivial
      · obtain rfl := isNil_true hn; exact ⟨h.1, by rw [hat _ rfl]; exact h.2⟩
    · trivial
  | fn f l =>
    obtain ⟨h1, h2⟩ := h
    cases top with
    | false =>
      refine ⟨h1, ?_⟩
      rw [h2]
      congr 2
      exact List.map_congr_left fun r' hr' => by rw [hat _ rfl]
    | true =>
      simp only [At.kill]
      split
      · trivial
      · rename_i hm
        have hm : memN r l = false := by
          cases hh : memN r l with
          | false => rfl
          | true => exact absurd hh (hm rfl)
        refine ⟨h1, ?_⟩
        rw [h2]
        congr 2
        exact List.map_congr_left fun r' hr' => by rw [hne (memN_mem hm r' hr')]
  | mp r' =>
    obtain ⟨h1, h2⟩ := h
    cases top with
    | false =>
      simp only [At.kill]
      split
      · exact absurd ‹false = true› (by simp)
      · exact ⟨h1, by rw [hat _ rfl]; exact h2⟩
    | true =>
      simp only [At.kill]
      split
      · trivial
      · rename_i hm
        have : r' ≠ r := fun e => by subst e; exact hm (by simp) rfl
        exact ⟨h1, by rw [hne this]; exact h2⟩
  | it r' =>
    obtain ⟨h1, h2⟩ := h
    cases top with
    | false =>
      simp only [At.kill]
      split
      · exact absurd ‹false = true› (by simp)
      · exact ⟨h1, by rw [hat _ rfl]; exact h2⟩
    | true =>
      simp only [At.kill]
      split
      · trivial
      · rename_i hm
        have : r' ≠ r := fun e => by subst e; exact hm (by simp) rfl
        exact ⟨h1, by rw [hne this]; exact h2⟩
  | yl r' =>
    obtain ⟨h1, h2⟩ := h
    cases top with
    | false =>
      simp only [At.kill]
      split
      · exact absurd ‹false = true› (by simp)
      · exact ⟨h1, by rw [hat _ rfl]; exact h2⟩
    | true =>
      simp only [At.kill]
      split
      · trivial
      · rename_i hm
        have : r' ≠ r := fun e => by subst e; exact hm (by simp) rfl
        exact ⟨h1, by rw [hne this]; exact h2⟩
  | _ => exact h
theorem C1.killF_ok {N r : Nat} {η : Path → RI} {top : Bool} (ht : top = false → η [] = ρ r []) {x : C1} {y : Value} (h : x.ok N ρ y) : (x.mapA (At.kill top true r)).ok N (setρ ρ r η) y := by
  cases x with
  | a x => exact At.killF_ok ht h
  | agg l => obtain ⟨ys, h1, h2⟩ := h; exact ⟨ys, h1, okL_map (fun _ _ h => At.killF_ok ht h) h2⟩
theorem Tm.killF_ok {N r : Nat} {η : Path → RI} {top : Bool} (ht : top = false → η [] = ρ r []) {x : Tm} {y : Value} (h : x.ok N ρ y) : (x.mapA (At.kill top true r)).ok N (setρ ρ r η) y := by
  cases x with
  | a x => exact At.killF_ok ht h
  | agg l => obtain ⟨ys, h1, h2⟩ := h; exact ⟨ys, h1, okL_map (fun _ _ h => At.killF_ok ht h) h2⟩
  | tup l => obtain ⟨ys, h1, h2⟩ := h; exact ⟨ys, h1, okL_map (fun _ _ h => C1.killF_ok ht h) h2⟩
theorem Sl.killF_ok {N r : Nat} {η : Path → RI} {top : Bool} (ht : top = false → η [] = ρ r []) {s : Sl} {xs : Array Value} (h : s.ok N ρ xs) : (s.map (At.kill top true r)).ok N (setρ ρ r η) xs :=
  ⟨h.n, fun i => by
    show ((s.t.map _).get i).ok _ _ _
    rw [Tr.get_map rfl]
    exact Tm.killF_ok ht (h.h i)⟩
theorem okL_killF {N r : Nat} {η : Path → RI} {top : Bool} (ht : top = false → η [] = ρ r []) : ∀ {fr : List Sl} {vs : List (Array Value)}, okL (Sl.ok N ρ) fr vs → okL (Sl.ok N (setρ ρ r η)) (fr.map (Sl.map (At.kill top true r))) vs
  | [], [], _ => trivial
  | _ :: _, _ :: _, h => ⟨Sl.killF_ok ht h.1, okL_killF ht h.2⟩
theorem killF_has {r : Nat} {g : Reg} {π : Path} {o : Bool} {B' : Blk} {top : Bool} (h : (g.mapA (At.kill top true r)).has π o B') : ∃ B, g.has π o B ∧
    (∀ N (η : Path → RI) r' w', (top = false → η [] = ρ r []) → r' ≠ r → B.lies N ρ r' π w' → B'.lies N (setρ ρ r η) r' π w') ∧ (∀ w' I, B.mine M w0 w' I → B'.mine M w0 w' I) := by
  cases g with
  | box ow l =>
    obtain ⟨rfl, rfl, rfl⟩ := h
    refine ⟨.box l, ⟨rfl, rfl, rfl⟩, fun N η r' w' ht hne hl => ?_, fun _ _ hh => hh⟩
    have e : setρ ρ r η r' = ρ r' := by simp [setρ, hne]
    obtain ⟨_, h1, h2, h3⟩ := hl
    refine ⟨rfl, by rw [e]; exact h1, by rw [e]; exact h2, fun j x hx => ?_⟩
    simp only [List.getElem?_map, Option.map_eq_some_iff] at hx
    obtain ⟨x', hx', rfl⟩ := hx
    obtain ⟨y, hy, hc⟩ := h3 j x' hx'
    exact ⟨y, At.killF_ok ht hy, by rw [e]; exact hc⟩
  | arr te tg xs ow i =>
    obtain ⟨hf, A, hA, rfl⟩ := h
    refine ⟨.arr A, ⟨hf, A, hA, rfl⟩, fun N η r' w' _ hne hl => ?_, fun _ _ hh => hh⟩
    have e : setρ ρ r η r' = ρ r' := by simp [setρ, hne]
    show Ar.lies w' (setρ ρ r η r') π A
    rw [e]; exact hl
  | dead => exact h.elim
  | map t k c es ow =>
    obtain ⟨rfl, rfl, rfl⟩ := h
    refine ⟨.map k c es, ⟨rfl, rfl, rfl⟩, fun N η r' w' _ hne hl => ?_, fun _ _ hh => hh⟩
    have e : setρ ρ r η r' = ρ r' := by simp [setρ, hne]
    obtain ⟨_, h1, h2⟩ := hl
    exact ⟨rfl, by rw [e]; exact h1, by rw [e]; exact h2⟩
  | iter m n l =>
    cases m with
    | none =>
      obtain ⟨rfl, rfl, rfl⟩ := h
      refine ⟨.it none n l, ⟨rfl, rfl, rfl⟩, fun N η r' w' _ hne hl => ?_, fun _ _ hh => hh⟩
      have e : setρ ρ r η r' = ρ r' := by simp [setρ, hne]
      obtain ⟨_, h1, h2, h3⟩ := hl
      exact ⟨rfl, by rw [e]; exact h1, h2, by rw [e]; exact h3⟩
    | some m =>
      simp only [Reg.mapA, At.kill] at h
      split at h
      · rename_i hm
        split at hm
        · cases hm
        · rename_i hk
          injection hm with hm
          subst hm
          obtain ⟨rfl, rfl, rfl⟩ := h
          refine ⟨.it (some m) n l, ⟨rfl, rfl, rfl⟩, fun N η r' w' ht hne hl => ?_, fun _ _ hh => hh⟩
          have e : setρ ρ r η r' = ρ r' := by simp [setρ, hne]
          have e' : setρ ρ r η m [] = ρ m [] := by
            by_cases hmr : m = r
            · subst hmr
              rw [setρ_at]
              refine ht ?_
              exact Bool.eq_false_iff.2 (fun hh => hk (by simp) hh)
            · simp [setρ, hmr]
          obtain ⟨_, h1, h2, h3⟩ := hl
          exact ⟨rfl, by rw [e]; exact h1, h2, by rw [e]; simp only [Option.map_some] at h3 ⊢; rw [e']; exact h3⟩
      · exact h.elim
  | lp b s L q j =>
    obtain ⟨rfl, rfl, rfl⟩ := h
    refine ⟨.lp b s L q j, ⟨rfl, rfl, rfl⟩, fun N η r' w' ht hne hl => ?_, fun _ _ hh => hh⟩
    have e : setρ ρ r η r' = ρ r' := by simp [setρ, hne]
    obtain ⟨_, h1, h2, h3, h4⟩ := hl
    exact ⟨rfl, by rw [e]; exact h1, Sl.killF_ok ht h2, by rw [e]; exact h3, by rw [e]; exact h4⟩

theorem CK.lies.tail {η η' : Path → RI} {p p' σ : Path} {i j : Nat} (he : ∀ τ, η' (τ ++ p') = η (τ ++ p)) : ∀ {c : CK} {x : c.ty} {y : Value}, c.lies η (σ ++ p) i j x y → c.lies η' (σ ++ p') i j x y
  | .int _, _, _, h => h
  | .bool, _, _, h => h
  | .str, _, _, h => h
  | .sl _ _, _, _, h => by
    show RI.head (η' ((i, j) :: (σ ++ p'))) 0 _ _
    rw [← List.cons_append, he]; exact h
theorem Tup.lies.tail {η η' : Path → RI} {p p' σ : Path} {i : Nat} (he : ∀ τ, η' (τ ++ p') = η (τ ++ p)) : ∀ {tg : List CK} {j : Nat} {x : Tup tg} {ys : List Value}, Tup.lies η (σ ++ p) i j tg x ys → Tup.lies η' (σ ++ p') i j tg x ys
  | [], _, _, _, h => h
  | [c], _, _, _, h => by obtain ⟨y, h1, h2⟩ := h; exact ⟨y, h1, h2.tail he⟩
  | c :: c' :: cs, _, _, _, h => by obtain ⟨y, ys', h1, h2, h3⟩ := h; exact ⟨y, ys', h1, h2.tail he, h3.tail (tg := c' :: cs) he⟩
theorem Ar.lies.tail {η η' : Path → RI} {p p' σ : Path} {A : Ar} (he : ∀ τ, η' (τ ++ p') = η (τ ++ p)) (h : A.lies w η (σ ++ p)) : A.lies w η' (σ ++ p') where
  tg := h.tg
  m := by rw [he]; exact h.m
  void := by rw [he]; exact h.void
  len := by rw [he]; exact h.len
  cell := fun i hi => by
    obtain ⟨ys, h1, h2⟩ := h.cell i hi
    exact ⟨ys, h1.tail he, fun s y hy => by rw [he]; exact h2 s y hy⟩
/-- An element's cells at another place. -/
theorem Tup.lies.move {η η' : Path → RI} {π π' : Path} {i i' : Nat} : ∀ {tg : List CK} {j : Nat} {x : Tup tg} {ys : List Value}, (∀ s, s < tg.length → η' ((i', j + s) :: π') = η ((i, j + s) :: π)) → Tup.lies η π i j tg x ys → Tup.lies η' π' i' j tg x ys := by
  have one : ∀ {c : CK} {j : Nat} {x : c.ty} {y : Value}, η' ((i', j) :: π') = η ((i, j) :: π) → c.lies η π i j x y → c.lies η' π' i' j x y := by
    intro c j x y he h
    cases c with
    | sl e t => show RI.head (η' ((i', j) :: π')) 0 _ _; rw [he]; exact h
    | _ => exact h
  intro tg
  induction tg with
  | nil => intro j x ys _ h; exact h
  | cons c cs ih =>
    intro j x ys he h
    have h0 := he 0 (by simp)
    rw [Nat.add_zero] at h0
    cases cs with
    | nil => obtain ⟨y, h1, h2⟩ := h; exact ⟨y, h1, one h0 h2⟩
    | cons c' cs =>
      obtain ⟨y, ys', h1, h2, h3⟩ := h
      exact ⟨y, ys', h1, one h0 h2, ih (fun s hs => by have := he (s + 1) (by simpa using hs); rw [show j + 1 + s = j + (s + 1) by omega]; exact this) h3⟩

/-- **A region built anew.** -/
theorem Rel.rebuild (h : Rel Γ M w0 ρ st vs a w) {r r2 : Nat} {e : TypeId} {tg : List CK} {xs xs' : List (Tup tg)} {inn inn' top : Bool} {g2 : Reg}
    (hr : st.rg[r]? = some (.arr e tg xs true inn)) (hr2 : st.rg[r2]? = some g2) (hne2 : r ≠ r2) {w' : World} (hf : Frame M w0 w')
    (hs : w.heap.size ≤ w'.heap.size) (hsame : ∀ b, b < w.heap.size → ((ρ r []).void = true ∨ b ≠ (ρ r []).b) → w'.heap[b]? = w.heap[b]?) {I : RI} (htop : top = false → I = ρ r []) {src : Nat → Nat → Nat × Path}
    (hsrc : ∀ i j C, i < xs'.length → Tup.sub tg (xs'.getD i (Tup.d tg)) j = some C → ∃ g f, st.rg[(src i j).1]? = some g ∧ (((src i j).1 = r ∧ (src i j).2 ≠ []) ∨ (src i j).1 = r2) ∧ (inn' = true → f = true) ∧ ∀ σ D, C.has σ D → g.has (σ ++ (src i j).2) f (.arr D))
    (hinj : ∀ i j i' j' C C', i < xs'.length → i' < xs'.length → Tup.sub tg (xs'.getD i (Tup.d tg)) j = some C → Tup.sub tg (xs'.getD i' (Tup.d tg)) j' = some C' → (src i j).1 = (src i' j').1 →
      ∀ σ σ', σ ++ (src i j).2 = σ' ++ (src i' j').2 → i = i' ∧ j = j' ∧ σ = σ')
    (htg : tg ≠ []) (hm : I.m = tg.length) (hvoid : I.void = true → xs' = []) (hcap : I.void = false → xs'.length ≤ I.cap)
    (hcell : ∀ i, i < xs'.length → ∃ ys, Tup.lies (Go.Sy.gl I fun i j σ => ρ (src i j).1 (σ ++ (src i j).2)) [] i 0 tg (xs'.getD i (Tup.d tg)) ys ∧ ∀ s y, ys[s]? = some y → w'.cell? (I.at (i * I.m + s)) = some y)
    (hlt : I.void = false → I.b < w'.heap.size) (hmine : I.void = false → Mine M w0 w' I ∧ Whole w' I e) (hI : I.void = false → w.heap.size ≤ I.b ∨ ((ρ r []).void = false ∧ I.b = (ρ r []).b)) :
    Rel Γ M w0 (setρ ρ r (Go.Sy.gl I fun i j σ => ρ (src i j).1 (σ ++ (src i j).2))) (((st.setR r2 .dead).map (At.kill top true r)).setR r (.arr e tg xs' true inn')) vs a w' := by
  generalize hη : (Go.Sy.gl I fun i j σ => ρ (src i j).1 (σ ++ (src i j).2)) = η at hcell ⊢
  have η0 : η [] = I := by rw [← hη]; rfl
  have ηs : ∀ σ i j, η (σ ++ [(i, j)]) = ρ (src i j).1 (σ ++ (src i j).2) := fun σ i j => by rw [← hη, gl_snoc]
  have ht : top = false → η [] = ρ r [] := fun h0 => by rw [η0]; exact htop h0
  have hlt' : r < st.rg.length := reg_lt hr
  have hB : (Reg.arr e tg xs true inn).has [] true (.arr ⟨e, tg, xs⟩) := ⟨rfl, _, rfl, rfl⟩
  have hlen : (((st.setR r2 .dead).map (At.kill top true r)).setR r (.arr e tg xs' true inn')).rg.length = st.rg.length := by simp [St.setR, St.map]
  have old : (ρ r []).void = false → Mine M w0 w (ρ r []) := fun hv => (h.rs.own r _ [] _ hr hB hv).1
  have get : ∀ (r1 : Nat) (g1 : Reg), (((st.setR r2 .dead).map (At.kill top true r)).setR r (.arr e tg xs' true inn')).rg[r1]? = some g1 →
      (r1 = r ∧ g1 = .arr e tg xs' true inn') ∨ (r1 ≠ r ∧ r1 = r2 ∧ g1 = .dead) ∨ (r1 ≠ r ∧ r1 ≠ r2 ∧ ∃ g0, st.rg[r1]? = some g0 ∧ g1 = g0.mapA (At.kill top true r)) := by
    intro r1 g1 h1
    rcases set_get (l := ((st.setR r2 .dead).map (At.kill top true r)).rg) h1 with ⟨rfl, rfl, _⟩ | ⟨hne, h1⟩
    · exact .inl ⟨rfl, rfl⟩
    · simp only [St.map, List.getElem?_map, Option.map_eq_some_iff] at h1
      obtain ⟨g0, h1, h2⟩ := h1
      rcases set_get (l := st.rg) h1 with ⟨rfl, rfl, _⟩ | ⟨hne', h1⟩
      · exact .inr (.inl ⟨hne, rfl, h2.symm⟩)
      · exact .inr (.inr ⟨hne, hne', g0, h1, h2.symm⟩)
  have hne : ∀ {r'}, r' ≠ r → setρ ρ r η r' = ρ r' := fun hh => by simp [setρ, hh]
  -- blocks that lie apart from the root stay
  have stay : ∀ (r1 : Nat) (g0 : Reg) π o B, ¬ (r1 = r ∧ π = []) → st.rg[r1]? = some g0 → g0.has π o B → (ρ r1 π).void = false → w'.heap[(ρ r1 π).b]? = w.heap[(ρ r1 π).b]? ∧ (I.void = false → I.b ≠ (ρ r1 π).b) := by
    intro r1 g0 π o B hn h1 h2 hv
    have hl := h.rs.lt r1 g0 π o B h1 h2 hv
    have hd : (ρ r []).void = true ∨ (ρ r1 π).b ≠ (ρ r []).b := by
      cases hv0 : (ρ r []).void with
      | true => exact .inl rfl
      | false => exact .inr fun e => h.rs.dj r r1 _ g0 [] π o _ B hr h1 hB h2 hv0 hv (fun e' => hn ⟨e'.1.symm, e'.2.symm⟩) e.symm
    refine ⟨hsame _ hl hd, fun hIv e => ?_⟩
    rcases hI hIv with hI | ⟨h3, h4⟩
    · omega
    · rcases hd with hd | hd
      · rw [h3] at hd; cases hd
      · exact hd (e.symm.trans h4)
  -- what lies deeper
  have deep : ∀ (σ : Path) (i j : Nat) (D : Ar), Ar.has ⟨e, tg, xs'⟩ (σ ++ [(i, j)]) D → ∃ C g f, i < xs'.length ∧ Tup.sub tg (xs'.getD i (Tup.d tg)) j = some C ∧ C.has σ D ∧ st.rg[(src i j).1]? = some g ∧ (inn' = true → f = true) ∧
      g.has (σ ++ (src i j).2) f (.arr D) ∧ ¬ ((src i j).1 = r ∧ σ ++ (src i j).2 = []) ∧ ((src i j).1 = r ∨ (src i j).1 = r2) := by
    intro σ i j D hD
    obtain ⟨C, h1, h2, h3⟩ := has_snoc.1 hD
    obtain ⟨g, f, k1, k2, k3, k4⟩ := hsrc i j C h1 h2
    refine ⟨C, g, f, h1, h2, h3, k1, k3, k4 σ D h3, fun hh => ?_, ?_⟩
    · rcases k2 with ⟨_, k2⟩ | k2
      · exact k2 (List.append_eq_nil_iff.1 hh.2).2
      · exact hne2 (hh.1.symm.trans k2)
    · rcases k2 with ⟨k2, _⟩ | k2
      · exact .inl k2
      · exact .inr k2
  refine ⟨?_, ?_, h.df, ?_, hf, Γ.st _ _ h.gl fun b hb => hsame b (Nat.lt_of_lt_of_le (h.gn b hb).2 h.bl.size) ?_, h.gn⟩
  · rw [hlen]; exact Sl.killF_ok ht h.tm
  · rw [hlen]; exact okL_killF ht h.fr
  · rw [hlen]
    refine ⟨fun r1 g1 π o B h1 h2 => ?_, fun r1 g1 π o B h1 h2 hv => ?_, fun r1 g1 π B h1 h2 hv => ?_, fun r1 r2' g1 g2' π π' o' B B' h1 h2 k1 k2 v1 v2 hn => ?_⟩
    · rcases get r1 g1 h1 with ⟨rfl, rfl⟩ | ⟨_, _, rfl⟩ | ⟨hn, _, g0, p1, rfl⟩
      · obtain ⟨_, A, hA, rfl⟩ := h2
        show Ar.lies w' (setρ ρ r1 η r1) π A
        rw [setρ_at]
        rcases path_last π with rfl | ⟨σ, i, j, rfl⟩
        · obtain rfl : A = ⟨e, tg, xs'⟩ := hA
          exact ⟨htg, by rw [η0]; exact hm, by rw [η0]; exact hvoid, by rw [η0]; exact hcap, fun i hi => by
            obtain ⟨ys, c1, c2⟩ := hcell i hi
            exact ⟨ys, c1, fun s y hy => by rw [η0]; exact c2 s y hy⟩⟩
        · obtain ⟨C, g, f, d1, d2, d3, d4, d5, d6, d7, _⟩ := deep σ i j A hA
          have hl : A.lies w (ρ (src i j).1) (σ ++ (src i j).2) := h.rs.blk _ g _ f (.arr A) d4 d6
          have hl' : A.lies w' (ρ (src i j).1) (σ ++ (src i j).2) := hl.later (fun _ => rfl) (fun hv => (stay _ g _ f (.arr A) d7 d4 d6 hv).1)
          exact hl'.tail (fun τ => ηs τ i j)
      · exact h2.elim
      · obtain ⟨B0, b1, b2, _⟩ := killF_has (ρ := ρ) (M := M) (w0 := w0) h2
        refine b2 _ _ r1 w' ht hn ?_
        exact (h.rs.blk r1 g0 π o B0 p1 b1).later (fun _ => rfl) (Nat.le_refl _) (fun _ _ _ => rfl) (fun hv => (stay r1 g0 π o B0 (fun hh => hn hh.1) p1 b1 hv).1)
    · rcases get r1 g1 h1 with ⟨rfl, rfl⟩ | ⟨_, _, rfl⟩ | ⟨hn, _, g0, p1, rfl⟩
      · rw [setρ_at] at hv ⊢
        obtain ⟨_, A, hA, rfl⟩ := h2
        rcases path_last π with rfl | ⟨σ, i, j, rfl⟩
        · rw [η0] at hv ⊢; exact hlt hv
        · obtain ⟨C, g, f, d1, d2, d3, d4, d5, d6, d7, _⟩ := deep σ i j A hA
          rw [ηs] at hv ⊢
          exact Nat.lt_of_lt_of_le (h.rs.lt _ g _ f (.arr A) d4 d6 hv) hs
      · exact h2.elim
      · obtain ⟨B0, b1, _, _⟩ := killF_has (ρ := ρ) (M := M) (w0 := w0) h2
        rw [hne hn] at hv ⊢
        exact Nat.lt_of_lt_of_le (h.rs.lt r1 g0 π o B0 p1 b1 hv) hs
    · rcases get r1 g1 h1 with ⟨rfl, rfl⟩ | ⟨_, _, rfl⟩ | ⟨hn, _, g0, p1, rfl⟩
      · rw [setρ_at] at hv ⊢
        obtain ⟨ho, A, hA, rfl⟩ := h2
        rcases path_last π with rfl | ⟨σ, i, j, rfl⟩
        · obtain rfl : A = ⟨e, tg, xs'⟩ := hA
          rw [η0] at hv ⊢; exact hmine hv
        · obtain ⟨C, g, f, d1, d2, d3, d4, d5, d6, d7, _⟩ := deep σ i j A hA
          rw [ηs] at hv ⊢
          have hinn : inn' = true := by cases σ <;> exact ho.symm
          obtain rfl := d5 hinn
          exact (h.rs.own _ g _ (.arr A) d4 d6 hv).later (stay _ g _ true (.arr A) d7 d4 d6 hv).1
      · exact h2.elim
      · obtain ⟨B0, b1, _, b3⟩ := killF_has (ρ := ρ) (M := M) (w0 := w0) h2
        rw [hne hn] at hv ⊢
        exact b3 _ _ ((h.rs.own r1 g0 π B0 p1 b1 hv).later (stay r1 g0 π true B0 (fun hh => hn hh.1) p1 b1 hv).1)
    · -- where a region's part lies: the root, or what it was
      have spot : ∀ (r1 : Nat) (g1 : Reg) π o B, (((st.setR r2 .dead).map (At.kill top true r)).setR r (.arr e tg xs' true inn')).rg[r1]? = some g1 → g1.has π o B → (setρ ρ r η r1 π).void = false →
          (r1 = r ∧ π = [] ∧ setρ ρ r η r1 π = I) ∨ ∃ rs g πs f B0, st.rg[rs]? = some g ∧ g.has πs f B0 ∧ (o = true → f = true) ∧ setρ ρ r η r1 π = ρ rs πs ∧ ¬ (rs = r ∧ πs = []) ∧
            ((r1 ≠ r ∧ r1 ≠ r2 ∧ rs = r1 ∧ πs = π) ∨ (r1 = r ∧ (rs = r ∨ rs = r2) ∧ ∃ σ i j C, π = σ ++ [(i, j)] ∧ i < xs'.length ∧ Tup.sub tg (xs'.getD i (Tup.d tg)) j = some C ∧ rs = (src i j).1 ∧ πs = σ ++ (src i j).2)) := by
        intro r1 g1 π o B h1 h2 hv
        rcases get r1 g1 h1 with ⟨rfl, rfl⟩ | ⟨_, _, rfl⟩ | ⟨hn, hn', g0, p1, rfl⟩
        · obtain ⟨ho, A, hA, rfl⟩ := h2
          rw [setρ_at]
          rcases path_last π with rfl | ⟨σ, i, j, rfl⟩
          · exact .inl ⟨rfl, rfl, η0⟩
          · obtain ⟨C, g, f, d1, d2, d3, d4, d5, d6, d7, d8⟩ := deep σ i j A hA
            refine .inr ⟨_, g, _, f, _, d4, d6, fun h0 => d5 ?_, ηs σ i j, d7, .inr ⟨rfl, d8, σ, i, j, C, rfl, d1, d2, rfl, rfl⟩⟩
            rw [h0] at ho; cases σ <;> exact ho.symm
        · exact h2.elim
        · obtain ⟨B0, b1, _, _⟩ := killF_has (ρ := ρ) (M := M) (w0 := w0) h2
          exact .inr ⟨r1, g0, π, o, B0, p1, b1, id, by rw [hne hn], fun hh => hn hh.1, .inl ⟨hn, hn', rfl, rfl⟩⟩
      have s1 := spot r1 g1 π true B h1 k1 v1
      have s2 := spot r2' g2' π' o' B' h2 k2 v2
      rcases s1 with ⟨e1, e2, e3⟩ | ⟨rs, g, πs, f, B0, p1, p2, p3, p4, p5, p6⟩ <;> rcases s2 with ⟨f1, f2, f3⟩ | ⟨rs', g', πs', f', B0', q1, q2, q3, q4, q5, q6⟩
      · exact absurd ⟨e1.trans f1.symm, e2.trans f2.symm⟩ hn
      · rw [e3] at v1 ⊢; rw [q4] at v2 ⊢
        exact (stay rs' g' πs' f' B0' q5 q1 q2 v2).2 v1
      · rw [f3] at v2 ⊢; rw [p4] at v1 ⊢
        exact ((stay rs g πs f B0 p5 p1 p2 v1).2 v2).symm
      · rw [p4] at v1 ⊢; rw [q4] at v2 ⊢
        obtain rfl := p3 rfl
        refine h.rs.dj rs rs' g g' πs πs' f' B0 B0' p1 q1 p2 q2 v1 v2 ?_
        rintro ⟨rfl, rfl⟩
        rcases p6 with ⟨a1, a2, a3, a4⟩ | ⟨a1, a2, σ, i, j, C, a3, a4, a5, a6, a7⟩ <;> rcases q6 with ⟨b1, b2, b3, b4⟩ | ⟨b1, b2, σ', i', j', C', b3, b4, b5, b6, b7⟩
        · exact hn ⟨a3.symm.trans b3, a4.symm.trans b4⟩
        · rcases b2 with b2 | b2
          · exact a1 (a3.symm.trans b2)
          · exact a2 (a3.symm.trans b2)
        · rcases a2 with a2 | a2
          · exact b1 (b3.symm.trans a2)
          · exact b2 (b3.symm.trans a2)
        · obtain ⟨c1, c2, c3⟩ := hinj i j i' j' C C' a4 b4 a5 b5 (a6.symm.trans b6) σ σ' (a7.symm.trans b7)
          subst c1 c2 c3
          exact hn ⟨a1.trans b1.symm, a3.trans b3.symm⟩
  · cases hv : (ρ r []).void with
    | true => exact .inl rfl
    | false =>
      have := h.gn b hb
      refine .inr fun e => ?_
      subst e
      rcases (old hv).own with ho | ho
      · exact this.1 ho
      · omega
end
end Go.Sy
end

section
/-
  Appends of slices to arrays of slices; a slice stored into an element.
-/
namespace Go.Sy
open Go Go.RowKit
universe u
section
variable {P : Program} {Γ : Glob} {E : Env} {M : Nat → Prop} {w0 : World} {ρ : Keys} {st : St} {vs : Fv} {a : Act} {w : World}

theorem lies_one' {η : Path → RI} {π : Path} {i : Nat} : ∀ {tg : List CK} {j : Nat} {x : Tup tg} {ys : List Value}, Tup.lies η π i j tg x ys → ∀ y ∈ ys, y.oneCell' = true := by
  have one : ∀ {c : CK} {j : Nat} {x : c.ty} {y : Value}, c.lies η π i j x y → y.oneCell' = true := fun {c} _ _ _ h => by
    cases c with
    | int => obtain rfl := show _ = _ from h; rfl
    | bool => obtain rfl := show _ = _ from h; rfl
    | str => obtain rfl := show _ = _ from h; rfl
    | sl => obtain ⟨ad, c, rfl, _⟩ := head_form (show RI.head _ _ _ _ from h); rfl
  intro tg
  induction tg with
  | nil => intro j x ys h y hy; have h : ys = [] := h; subst h; simp at hy
  | cons c cs ih =>
    intro j x ys h
    cases cs with
    | nil => obtain ⟨y, rfl, h2⟩ := h; intro z hz; simp at hz; subst hz; exact one h2
    | cons c' cs =>
      obtain ⟨y, ys', rfl, h2, h3⟩ := h
      intro z hz
      rcases List.mem_cons.1 hz with rfl | hz
      · exact one h2
      · exact ih h3 z hz
/-- Some of an array's cells, one behind the other. -/
theorem cells_of {η : Path → RI} {π : Path} {A : Ar} (h : A.lies w η π) (lo : Nat) : ∀ N, lo + N ≤ A.xs.length → ∃ vals : List Value, vals.length = N * A.tg.length ∧ (∀ j v, vals[j]? = some v → w.cell? ((η π).at (lo * A.tg.length + j)) = some v) ∧
    (∀ i, i < N → ∃ ys, Tup.lies η π (lo + i) 0 A.tg (A.get (lo + i)) ys ∧ ∀ s, s < A.tg.length → vals[i * A.tg.length + s]? = ys[s]?) ∧ ∀ v ∈ vals, v.oneCell' = true
  | 0, _ => ⟨[], by simp, by simp, by simp, by simp⟩
  | N + 1, hN => by
    obtain ⟨vals, h1, h2, h3, h4⟩ := cells_of h lo N (by omega)
    obtain ⟨ys, h5, h6⟩ := h.cell (lo + N) (by omega)
    have hy := lies_length h5
    refine ⟨vals ++ ys, by rw [List.length_append, h1, hy, Nat.add_mul, Nat.one_mul], fun j v hv => ?_, fun i hi => ?_, fun v hv => ?_⟩
    · rcases Nat.lt_or_ge j vals.length with hl | hl
      · rw [List.getElem?_append_left hl] at hv; exact h2 j v hv
      · rw [List.getElem?_append_right hl] at hv
        have := h6 _ v hv
        rw [h.m, h1, Nat.add_mul] at this
        rw [show lo * A.tg.length + N * A.tg.length + (j - N * A.tg.length) = lo * A.tg.length + j by omega] at this
        exact this
    · rcases Nat.lt_or_ge i N with hl | hl
      · obtain ⟨zs, z1, z2⟩ := h3 i hl
        refine ⟨zs, z1, fun s hs => ?_⟩
        rw [List.getElem?_append_left, z2 s hs]
        rw [h1]
        have : (i + 1) * A.tg.length ≤ N * A.tg.length := Nat.mul_le_mul_right _ hl
        rw [Nat.add_mul] at this; omega
      · obtain rfl : i = N := by omega
        refine ⟨ys, h5, fun s hs => ?_⟩
        rw [List.getElem?_append_right (by omega), h1, Nat.add_sub_cancel_left]
    · rcases List.mem_append.1 hv with hv | hv
      · exact h4 v hv
      · exact lies_one' h5 v hv
structure AppendedD (M : Nat → Prop) (w0 w w' : World) (I0 I : RI) (e : TypeId) (m k n : Nat) (C : Nat → List Value → Prop) (v : Value) : Prop where
  head : I.head 0 (k + n) v
  hm : I.m = m
  void : I.void = true → k + n = 0
  len : I.void = false → k + n ≤ I.cap
  cell : ∀ i, i < k + n → ∃ ys, C i ys ∧ ∀ s y, ys[s]? = some y → w'.cell? (I.at (i * m + s)) = some y
  mine : I.void = false → I.b < w'.heap.size ∧ Mine M w0 w' I ∧ Whole w' I e
  fr : Frame M w0 w'
  size : w.heap.size ≤ w'.heap.size
  same : ∀ b, b < w.heap.size → (I0.void = true ∨ b ≠ I0.b) → w'.heap[b]? = w.heap[b]?
  at_ : I.void = false → w.heap.size ≤ I.b ∨ (I0.void = false ∧ I.b = I0.b)
theorem run_append_deep (hE : EnvOk P Γ E) {t ty e : TypeId} {m : Nat} (ht : E.ty t = .sl e m) {tg : List CK} (hD : E.kd e = some tg) {η0 : Path → RI} {xs : List (Tup tg)} {l k : Nat} {v0 : Value}
    (h0 : Ar.lies w η0 [] ⟨e, tg, xs⟩) (hk : l + k = xs.length) (hs : (η0 []).head l k v0) (hown : (η0 []).void = false → Mine M w0 w (η0 []) ∧ Whole w (η0 []) e ∧ (η0 []).b < w.heap.size)
    {η2 : Path → RI} {π2 : Path} {te2 : TypeId} {ys : List (Tup tg)} {lo n : Nat} {vx : Value} (h2 : Ar.lies w η2 π2 ⟨te2, tg, ys⟩) (hx : (η2 π2).head lo n vx) (hn : lo + n ≤ ys.length) (hcap : (k + n) * tg.length ≤ cap40) (hfr : Frame M w0 w) :
    ∃ v w' I, (Builtin.append_ #[t, t] ty #[v0, vx]).run P w = .ok v w' ∧ AppendedD M w0 w w' (η0 []) I e tg.length k n
      (fun i zs => (i < k → Tup.lies η0 [] (l + i) 0 tg (Ar.get ⟨e, tg, xs⟩ (l + i)) zs) ∧ (k ≤ i → Tup.lies η2 π2 (lo + (i - k)) 0 tg (Ar.get ⟨te2, tg, ys⟩ (lo + (i - k))) zs)) v := by
  obtain ⟨hu, _, _⟩ := hE.tySl ht
  obtain ⟨htg, ⟨i, z, hi, hsz, hz, hzc, hby⟩⟩ := hE.kd e tg hD
  have hm : (P.info? e).map (·.size) = some tg.length := by rw [hi]; simp [hsz]
  have hmpos : 0 < tg.length := List.length_pos_iff.2 htg
  have hI0m : (η0 []).m = tg.length := h0.m
  have hI2m : (η2 π2).m = tg.length := h2.m
  have hvd0 : (η0 []).void = true → xs = [] := h0.void
  have hln0 : (η0 []).void = false → xs.length ≤ (η0 []).cap := h0.len
  obtain ⟨news, w1, w2, w3, w4⟩ := cells_of h2 lo n hn
  obtain ⟨olds, u1, u2, u3, u4⟩ := cells_of h0 l k (by simpa using Nat.le_of_eq hk)
  simp only at w1 w2 w3 u1 u2 u3
  have hl2 : n ≠ 0 → (η2 π2).void = false := fun h0 => by
    cases hh : (η2 π2).void with
    | false => rfl
    | true => have := (hx.1 hh).1; omega
  generalize η0 [] = I0 at *
  generalize η2 π2 = I2 at *
  obtain ⟨ad, c, rfl, hkc, hvo, hnv⟩ := head_form hs
  obtain ⟨bd, c2, rfl, hnc, hvo2, hnv2⟩ := head_form hx
  rcases Nat.eq_zero_or_pos n with rfl | hnpos
  · -- nothing is appended
    refine ⟨_, w, I0.shift l, run_append_zero hu hm ad bd k c c2 hkc, ?_, hI0m, fun hv => ?_, fun hv => ?_, fun i hi => ?_, fun hv => ?_, hfr, Nat.le_refl _, fun _ _ _ => rfl, fun hv => .inr ⟨hv, rfl⟩⟩
    · rw [Nat.add_zero]; exact head_shift hs
    · have := hvd0 hv; subst this; simp at hk; omega
    · have := (hnv hv).2.1; simp only [RI.shift]; omega
    · obtain ⟨zs, z1, z2⟩ := u3 i (by omega)
      refine ⟨zs, ⟨fun _ => z1, fun hh => by omega⟩, fun s y hy => ?_⟩
      have hs : s < tg.length := by rw [← lies_length z1]; exact (List.getElem?_eq_some_iff.1 hy).1
      rw [RI.shift_at, hI0m]
      exact u2 _ y (by rw [z2 s hs]; exact hy)
    · obtain ⟨o1, o2, o3⟩ := hown hv
      exact ⟨o3, ⟨o1.own, o1.fz⟩, whole_shift o2 (by have := (hnv hv).2.1; omega)⟩
  · -- something is
    have hv2 : I2.void = false := hl2 (by omega)
    obtain ⟨hc2, hlc2, hbd⟩ := hnv2 hv2
    have hbd := hbd (by omega)
    subst hbd
    have hnews : ∀ j v, news[j]? = some v → w.cell? ((I2.at (lo * I2.m)).add j) = some v := fun j v hv => by
      rw [RI.at_add, hI2m]; exact w2 j v hv
    have bytes : (k + n) * i.bytes ≤ 140737488355328 := by
      have h1 : (k + n) * i.bytes ≤ (k + n) * (32 * tg.length) := Nat.mul_le_mul_left _ hby
      have h2 : (k + n) * (32 * tg.length) = 32 * ((k + n) * tg.length) := by rw [← Nat.mul_assoc, Nat.mul_comm _ 32, Nat.mul_assoc]
      simp only [cap40] at hcap
      omega
    have hkn : k + n ≤ 1099511627776 := Nat.le_trans (Nat.le_mul_of_pos_right _ hmpos) hcap
    by_cases hroom : k + n ≤ c
    · -- in its place
      have hv0 : I0.void = false := by
        cases hh : I0.void with
        | false => rfl
        | true => have := (hvo hh).2; omega
      obtain ⟨hc, hlc, had⟩ := hnv hv0
      have had := had (by omega)
      subst had
      obtain ⟨o1, o2, o3⟩ := hown hv0
      have hmul : (l + (k + n)) * tg.length ≤ I0.cap * tg.length := Nat.mul_le_mul_right _ (by omega)
      have hexp : (l + (k + n)) * tg.length = l * tg.length + k * tg.length + n * tg.length := by rw [Nat.add_mul, Nat.add_mul]; omega
      have hcell : ∀ s, s < news.length → (w.cell? ⟨I0.b, I0.off + l * I0.m + k * tg.length + s, none⟩).isSome = true := fun s hs => whole_cell o2 (by rw [hI0m]; rw [w1] at hs; omega)
      have hrun := run_append_in (P := P) (w := w) (ty := ty) hu hm I0.b (I0.off + l * I0.m) k c (I2.at (lo * I2.m)) n c2 news w1 hnews w4 hroom hcell o1.fz
      refine ⟨_, _, I0.shift l, by simpa only [RI.at] using hrun, ?_, hI0m, fun hv => ?_, fun _ => ?_, fun i hi => ?_, fun hv => ?_, frame_setCells o1.own _ _ hfr, by rw [size_setCells]; exact Nat.le_refl _, fun b hb hd => heap_setCells _ _ _ _ _ ?_, fun hv => .inr ⟨hv0, rfl⟩⟩
      · refine ⟨fun hv => (by simp only [RI.shift] at hv; rw [hv0] at hv; cases hv), fun _ => ⟨by simp only [RI.shift]; omega, _, by simp only [RI.shift, Nat.sub_zero]; rw [hc], fun _ => by simp [RI.shift, RI.at]⟩⟩
      · simp only [RI.shift] at hv; rw [hv0] at hv; cases hv
      · simp only [RI.shift]; omega
      · by_cases hik : i < k
        · obtain ⟨zs, z1, z2⟩ := u3 i hik
          refine ⟨zs, ⟨fun _ => z1, fun hh => by omega⟩, fun s y hy => ?_⟩
          have hs : s < tg.length := by rw [← lies_length z1]; exact (List.getElem?_eq_some_iff.1 hy).1
          rw [World.cell?_setCells_out]
          · rw [RI.shift_at, hI0m]; exact u2 _ y (by rw [z2 s hs]; exact hy)
          · intro _ _
            have : (i + 1) * tg.length ≤ k * tg.length := Nat.mul_le_mul_right _ hik
            rw [Nat.add_mul] at this
            simp only [RI.shift, RI.at]
            omega
        · obtain ⟨zs, z1, z2⟩ := w3 (i - k) (by omega)
          refine ⟨zs, ⟨fun hh => absurd hh hik, fun _ => z1⟩, fun s y hy => ?_⟩
          have hs : s < tg.length := by rw [← lies_length z1]; exact (List.getElem?_eq_some_iff.1 hy).1
          have hlt : (i - k) * tg.length + s < news.length := by
            have := z2 s hs
            rw [hy] at this
            exact (List.getElem?_eq_some_iff.1 this).1
          have := World.cell?_setCells_in I0.b news (I0.off + l * I0.m + k * tg.length) w hcell _ hlt
          have e1 : (I0.shift l).at (i * tg.length + s) = ⟨I0.b, I0.off + l * I0.m + k * tg.length + ((i - k) * tg.length + s), none⟩ := by
            have : i * tg.length = k * tg.length + (i - k) * tg.length := by rw [← Nat.add_mul]; congr 1; omega
            simp only [RI.shift, RI.at]
            congr 1
            omega
          rw [e1, this, ← List.getElem?_eq_getElem hlt, z2 s hs]; exact hy
      · refine ⟨by rw [size_setCells]; exact o3, ⟨o1.own, fun j => by rw [World.frozen?_setCells]; exact o1.fz j⟩, whole_shift (whole_setCells _ _ o2) (by omega)⟩
      · rcases hd with hd | hd
        · rw [hv0] at hd; cases hd
        · exact hd
    · -- in a new place
      have hrun : ∃ cp, k + n ≤ cp ∧ cp ≤ maxLen ∧ (Builtin.append_ #[t, t] ty #[.slice ad k c, .slice (some (I2.at (lo * I2.m))) n c2]).run P w =
          .ok (.slice (some ⟨w.heap.size, 0, none⟩) (k + n) cp) (w.drew.alloc (.cells (olds ++ news ++ (Builtin.zeroCells z.cells (cp - (k + n))).toList).toArray e)) := by
        have hgl : ∀ old, grownCap w (k + n) old e ≤ maxLen := fun old => grownCap_le_maxLen w _ _ _ (Nat.le_trans hkn (Nat.le_of_ble_eq_true rfl))
        cases ad with
        | none =>
          have hk0 : k = 0 ∧ c = 0 := by
            cases hh : I0.void with
            | true => exact hvo hh
            | false =>
              obtain ⟨g1, g2, g3⟩ := hnv hh
              by_cases hlt : l < I0.cap
              · have := g3 hlt; cases this
              · omega
          obtain ⟨rfl, rfl⟩ := hk0
          have hr := run_append_nil (P := P) w t ty e i z hu hi hz (I2.at (lo * I2.m)) n c2 news (by rw [w1, hsz]) hnews hnpos (by omega) (by rw [Nat.zero_add] at bytes; omega)
          have ho : olds = [] := List.eq_nil_of_length_eq_zero (by rw [u1]; simp)
          refine ⟨grownCap w n 0 e, by rw [Nat.zero_add]; exact grownCap_ge w n 0 e, by have := hgl 0; rwa [Nat.zero_add] at this, ?_⟩
          rw [hr, ho, Nat.zero_add]
          congr 3
          apply Array.ext'
          simp
        | some b =>
          have hr := run_append_grow (P := P) w t ty e i z hu hi hz b k c olds (by rw [u1, hsz]) (fun j v hv => by
            have hk' : 0 < k := by
              rcases Nat.eq_zero_or_pos k with rfl | hk'
              · have := (List.getElem?_eq_some_iff.1 hv).1
                rw [u1] at this; simp at this
              · exact hk'
            have hv0 : I0.void = false := by
              cases hh : I0.void with
              | false => rfl
              | true => have := (hvo hh).1; omega
            obtain ⟨g1, g2, g3⟩ := hnv hv0
            have := g3 (by omega)
            obtain rfl := Option.some.inj this
            rw [RI.at_add, hI0m]
            exact u2 j v hv) (I2.at (lo * I2.m)) n c2 news (by rw [w1, hsz]) hnews (by omega) (by omega) (growslice_fits (by omega) bytes)
          refine ⟨grownCap w (k + n) c e, grownCap_ge w _ _ e, hgl c, ?_⟩
          rw [hr]
          congr 3
          apply Array.ext'
          simp [List.append_assoc]
      obtain ⟨cp, hcp1, hcp2, hrun⟩ := hrun
      have hbel : Below w.heap.size w (w.drew.alloc (.cells (olds ++ news ++ (Builtin.zeroCells z.cells (cp - (k + n))).toList).toArray e)) := ((Below.refl _ _).drew).alloc (Nat.le_refl _) _
      have hzl : z.cells.size = tg.length := by
        have := congrArg List.length hzc
        simpa [zero_length] using this
      have hcellN : ∀ j, (w.drew.alloc (.cells (olds ++ news ++ (Builtin.zeroCells z.cells (cp - (k + n))).toList).toArray e)).cell? ⟨w.heap.size, j, none⟩ = (olds ++ news ++ (Builtin.zeroCells z.cells (cp - (k + n))).toList)[j]? := fun j => cell_alloc_at (w := w.drew) _ e j
      refine ⟨_, _, ⟨w.heap.size, 0, tg.length, cp, false⟩, hrun, ?_, rfl, fun hv => (by cases hv), fun _ => hcp1, fun i hi => ?_, fun _ => ?_, hfr.below hbel, hbel.size, fun b hb _ => hbel.block b hb, fun _ => .inl (Nat.le_refl _)⟩
      · exact ⟨fun hv => (by cases hv), fun _ => ⟨by rw [Nat.zero_add]; exact hcp1, _, rfl, fun _ => by simp [RI.at]⟩⟩
      · by_cases hik : i < k
        · obtain ⟨zs, z1, z2⟩ := u3 i hik
          refine ⟨zs, ⟨fun _ => z1, fun hh => by omega⟩, fun s y hy => ?_⟩
          have hs : s < tg.length := by rw [← lies_length z1]; exact (List.getElem?_eq_some_iff.1 hy).1
          simp only [RI.at, Nat.zero_add]
          have hg := z2 s hs
          rw [hy] at hg
          rw [hcellN, List.append_assoc, List.getElem?_append_left (List.getElem?_eq_some_iff.1 hg).1]; exact hg
        · obtain ⟨zs, z1, z2⟩ := w3 (i - k) (by omega)
          refine ⟨zs, ⟨fun hh => absurd hh hik, fun _ => z1⟩, fun s y hy => ?_⟩
          have hs : s < tg.length := by rw [← lies_length z1]; exact (List.getElem?_eq_some_iff.1 hy).1
          simp only [RI.at, Nat.zero_add]
          have hg := z2 s hs
          rw [hy] at hg
          have e1 : i * tg.length + s = olds.length + ((i - k) * tg.length + s) := by
            have : i * tg.length = k * tg.length + (i - k) * tg.length := by rw [← Nat.add_mul]; congr 1; omega
            rw [u1]; omega
          rw [hcellN, List.append_assoc, e1, List.getElem?_append_right (by omega), Nat.add_sub_cancel_left, List.getElem?_append_left (List.getElem?_eq_some_iff.1 hg).1]; exact hg
      · have hheap : (w.drew.alloc (.cells (olds ++ news ++ (Builtin.zeroCells z.cells (cp - (k + n))).toList).toArray e)).heap[w.heap.size]? = some (.cells (olds ++ news ++ (Builtin.zeroCells z.cells (cp - (k + n))).toList).toArray e) := by
          show (w.heap.push _)[w.heap.size]? = _
          simp
        refine ⟨(Array.getElem?_eq_some_iff.1 hheap).1, ⟨.inr hfr.size, fun j => ?_⟩, hcp2, _, hheap, ?_⟩
        · have hheap' : (w.drew.alloc (.cells (olds ++ news ++ (Builtin.zeroCells z.cells (cp - (k + n))).toList).toArray e)).heap[w.heap.size]? = _ := hheap
          simp only [World.frozen?]
          rw [hheap']
          simp
        show _ = 0 + cp * tg.length
        simp only [List.size_toArray, List.length_append, u1, w1, Array.length_toList, size_zeroCells, hzl]
        rw [← Nat.add_mul, ← Nat.add_mul, Nat.zero_add]
        congr 1
        omega

theorem getD_get {te : TypeId} {tg : List CK} {xs : List (Tup tg)} {i : Nat} : Ar.get ⟨te, tg, xs⟩ i = xs.getD i (Tup.d tg) := rfl
theorem getD_drop_app {α : Type} {xs ys : List α} {d : α} {l k i : Nat} (hk : l + k = xs.length) : (xs.drop l ++ ys).getD i d = if i < k then xs.getD (l + i) d else ys.getD (i - k) d := by
  simp only [List.getD_eq_getElem?_getD]
  split
  · rw [List.getElem?_append_left (by rw [List.length_drop]; omega), List.getElem?_drop]
  · rw [List.getElem?_append_right (by rw [List.length_drop]; omega), List.length_drop]; congr 2; omega
/-- An append that moves slices into an array of slices. -/
theorem app_arr_deep (hE : EnvOk P Γ E) (h : Rel Γ M w0 ρ st vs a w) {t ty e te2 : TypeId} {m : Nat} (ht : E.ty t = .sl e m) {tg : List CK} (hD : E.kd e = some tg) {r r2 l k n : Nat} {xs ys : List (Tup tg)} {inn : Bool}
    (hr : st.rg[r]? = some (.arr e tg xs true inn)) (hr2 : st.rg[r2]? = some (.arr te2 tg ys true true)) (hne : r ≠ r2) (hk : l + k = xs.length) {v0 : Value} (hs : (ρ r []).head l k v0) {vx : Value}
    (hx : (ρ r2 []).head 0 n vx) (hn : n = ys.length) (hcap : (k + n) * tg.length ≤ cap40) :
    ∃ v w' ρ', (Builtin.append_ #[t, t] ty #[v0, vx]).run P w = .ok v w' ∧ Rel Γ M w0 ρ' (((st.setR r2 .dead).map (At.kill true true r)).setR r (.arr e tg (xs.drop l ++ ys) true inn)) vs a w' ∧ (ρ' r []).head 0 (k + n) v := by
  obtain ⟨htg, _⟩ := hE.kd e tg hD
  have hhas : (Reg.arr e tg xs true inn).has [] true (.arr ⟨e, tg, xs⟩) := ⟨rfl, _, rfl, rfl⟩
  have hhas2 : (Reg.arr te2 tg ys true true).has [] true (.arr ⟨te2, tg, ys⟩) := ⟨rfl, _, rfl, rfl⟩
  have h0 : Ar.lies w (ρ r) [] ⟨e, tg, xs⟩ := h.rs.blk r _ [] true _ hr hhas
  have h2 : Ar.lies w (ρ r2) [] ⟨te2, tg, ys⟩ := h.rs.blk r2 _ [] true _ hr2 hhas2
  obtain ⟨v, w', I, hrun, hA⟩ := run_append_deep (ty := ty) hE ht hD h0 hk hs (fun hv => ⟨(h.rs.own r _ [] _ hr hhas hv).1, (h.rs.own r _ [] _ hr hhas hv).2, h.rs.lt r _ [] true _ hr hhas hv⟩) h2 hx (by omega) hcap h.bl
  have hlen : (xs.drop l ++ ys).length = k + n := by rw [List.length_append, List.length_drop]; omega
  have sub : ∀ i j C, Tup.sub tg ((xs.drop l ++ ys).getD i (Tup.d tg)) j = some C → (i < k ∧ Tup.sub tg (xs.getD (l + i) (Tup.d tg)) j = some C) ∨ (¬ i < k ∧ Tup.sub tg (ys.getD (i - k) (Tup.d tg)) j = some C) := by
    intro i j C hC
    rw [getD_drop_app hk] at hC
    split at hC
    · exact .inl ⟨‹_›, hC⟩
    · exact .inr ⟨‹_›, hC⟩
  refine ⟨v, w', _, hrun, h.rebuild (src := fun i j => if i < k then (r, [(l + i, j)]) else (r2, [(i - k, j)])) (I := I) hr hr2 hne hA.fr hA.size hA.same (fun hh => by cases hh) ?_ ?_ htg hA.hm ?_ ?_ ?_ (fun hv => (hA.mine hv).1) (fun hv => (hA.mine hv).2) hA.at_, by rw [setρ_at]; exact hA.head⟩
  · intro i j C hi hC
    rw [hlen] at hi
    rcases sub i j C hC with ⟨hik, hC⟩ | ⟨hik, hC⟩
    · simp only [if_pos hik]
      exact ⟨_, inn, hr, .inl ⟨trivial, by simp⟩, id, fun σ D hD => ⟨by cases σ <;> rfl, D, has_snoc.2 ⟨C, by simp only; omega, hC, hD⟩, rfl⟩⟩
    · simp only [if_neg hik]
      exact ⟨_, true, hr2, .inr trivial, fun _ => rfl, fun σ D hD => ⟨by cases σ <;> rfl, D, has_snoc.2 ⟨C, by simp only; omega, hC, hD⟩, rfl⟩⟩
  · intro i j i' j' C C' hi hi' hC hC' he σ σ' hσ
    have lastEq : ∀ {p q : Nat × Nat} {σ σ' : Path}, σ ++ [p] = σ' ++ [q] → σ = σ' ∧ p = q := fun hh => by
      have := List.append_inj' hh rfl
      exact ⟨this.1, by simpa using this.2⟩
    by_cases h1 : i < k <;> by_cases h2 : i' < k
    · simp only [if_pos h1, if_pos h2] at hσ
      obtain ⟨e1, e2⟩ := lastEq hσ
      simp only [Prod.mk.injEq] at e2
      exact ⟨by omega, e2.2, e1⟩
    · simp only [if_pos h1, if_neg h2] at he; exact absurd he hne
    · simp only [if_neg h1, if_pos h2] at he; exact absurd he.symm hne
    · simp only [if_neg h1, if_neg h2] at hσ
      obtain ⟨e1, e2⟩ := lastEq hσ
      simp only [Prod.mk.injEq] at e2
      exact ⟨by omega, e2.2, e1⟩
  · intro hv
    have := hA.void hv
    exact List.eq_nil_of_length_eq_zero (by rw [hlen]; exact this)
  · intro hv; rw [hlen]; exact hA.len hv
  · intro i hi
    rw [hlen] at hi
    obtain ⟨zs, ⟨z1, z2⟩, z3⟩ := hA.cell i hi
    refine ⟨zs, ?_, fun s y hy => by rw [hA.hm]; exact z3 s y hy⟩
    rw [getD_drop_app hk]
    by_cases hik : i < k
    · rw [if_pos hik]
      refine (z1 hik).move fun s _ => ?_
      rw [show [(i, 0 + s)] = [] ++ [(i, 0 + s)] from rfl, gl_snoc]
      simp only [if_pos hik]; rfl
    · rw [if_neg hik]
      have := z2 (by omega)
      rw [Nat.zero_add] at this
      refine this.move fun s _ => ?_
      rw [show [(i, 0 + s)] = [] ++ [(i, 0 + s)] from rfl, gl_snoc]
      simp only [if_neg hik]; rfl
end
end Go.Sy
end

section
/-
  A slice stored into an element is moved there: the evaluator's stores are sound.
-/
namespace Go.Sy
open Go Go.RowKit
universe u
section
variable {cc : Bool} {P : Program} {Γ : Glob} {E : Env} {M : Nat → Prop} {w0 : World} {ρ : Keys} {st : St} {vs : Fv} {a : Act} {w : World}

theorem setSub_put {η η' : Path → RI} {π π' : Path} {i i' : Nat} : ∀ {tg : List CK} {x b : Tup tg} {j j0 : Nat} {C : Ar} {ys : List Value} {y : Value}, Tup.setSub tg x j C = some b →
    (∀ s, s < tg.length → s ≠ j → η' ((i', j0 + s) :: π') = η ((i, j0 + s) :: π)) → (η' ((i', j0 + j) :: π')).head 0 C.xs.length y → Tup.lies η π i j0 tg x ys → j < tg.length ∧ Tup.lies η' π' i' j0 tg b (ys.set j y) := by
  have one : ∀ {c : CK} {j : Nat} {x : c.ty} {y : Value}, η' ((i', j) :: π') = η ((i, j) :: π) → c.lies η π i j x y → c.lies η' π' i' j x y := by
    intro c j x y he h
    cases c with
    | sl e t => show RI.head (η' ((i', j) :: π')) 0 _ _; rw [he]; exact h
    | _ => exact h
  have put : ∀ {c : CK} {j : Nat} {C : Ar} {z : c.ty} {y : Value}, c.setSub C = some z → (η' ((i', j) :: π')).head 0 C.xs.length y → c.lies η' π' i' j z y := by
    intro c j C z y h hy
    cases c with
    | sl e tg =>
      have := setSubC_same h
      obtain rfl := Option.some.inj this
      exact hy
    | _ => cases h
  intro tg
  induction tg with
  | nil => intro x b j j0 C ys y h; cases h
  | cons c cs ih =>
    intro x b j j0 C ys y h he hy hl
    cases cs with
    | nil => cases j with
      | zero => obtain ⟨v, rfl, h2⟩ := hl; exact ⟨by simp, y, rfl, put h hy⟩
      | succ j => cases h
    | cons c' cs => cases j with
      | zero =>
        simp only [Tup.setSub] at h
        split at h
        · rename_i z hz; obtain rfl := Option.some.inj h
          obtain ⟨v, ys', rfl, h2, h3⟩ := hl
          exact ⟨by simp, y, ys', rfl, put hz hy, h3.move fun s hs => by have := he (s + 1) (by simpa using hs) (by omega); rw [show j0 + 1 + s = j0 + (s + 1) by omega]; exact this⟩
        · cases h
      | succ j =>
        simp only [Tup.setSub] at h
        split at h
        · rename_i z hz; obtain rfl := Option.some.inj h
          obtain ⟨v, ys', rfl, h2, h3⟩ := hl
          obtain ⟨k1, k2⟩ := ih (j0 := j0 + 1) hz (fun s hs hne => by have := he (s + 1) (by simpa using hs) (by omega); rw [show j0 + 1 + s = j0 + (s + 1) by omega]; exact this)
            (by rw [show j0 + 1 + j = j0 + (j + 1) by omega]; exact hy) h3
          exact ⟨by simpa using k1, v, ys'.set j y, rfl, one (by have := he 0 (by simp) (by omega); rwa [Nat.add_zero] at this) h2, k2⟩
        · cases h

theorem setSub_lt : ∀ {tg : List CK} {x b : Tup tg} {j : Nat} {C : Ar}, Tup.setSub tg x j C = some b → j < tg.length := by
  intro tg
  induction tg with
  | nil => intro x b j C h; cases h
  | cons c cs ih =>
    intro x b j C h
    cases cs with
    | nil => cases j with
      | zero => simp
      | succ j => cases h
    | cons c' cs => cases j with
      | zero => simp
      | succ j =>
        simp only [Tup.setSub] at h
        split at h
        · rename_i z hz; have := ih hz; simpa using this
        · cases h
/-- A slice moved into an element. -/
theorem store_deep (h : Rel Γ M w0 ρ st vs a w) {r r2 i j n : Nat} {te e2 : TypeId} {tg tg2 : List CK} {xs : List (Tup tg)} {ys : List (Tup tg2)} {b : Tup tg} (hr : st.rg[r]? = some (.arr te tg xs true true)) (hr2 : st.rg[r2]? = some (.arr e2 tg2 ys true true)) (hne : r ≠ r2)
    (hi : i < xs.length) (hset : Tup.setSub tg (Ar.get ⟨te, tg, xs⟩ i) j ⟨e2, tg2, ys⟩ = some b) {y : Value} (hx : (ρ r2 []).head 0 n y) (hn : n = ys.length) :
    (∀ s, s < 1 → (w.cell? ((ρ r []).at (i * (ρ r []).m + j + s))).isSome = true) ∧ (∀ o, w.frozen? ⟨(ρ r []).b, o, none⟩ = false) ∧
    ∃ ρ', Rel Γ M w0 ρ' (((st.setR r2 .dead).map (At.kill false true r)).setR r (.arr te tg (xs.set i b) true true)) vs a (w.setCells (ρ r []).b ((ρ r []).off + (i * (ρ r []).m + j)) [y]) := by
  have hhas : (Reg.arr te tg xs true true).has [] true (.arr ⟨te, tg, xs⟩) := ⟨rfl, _, rfl, rfl⟩
  have hhas2 : (Reg.arr e2 tg2 ys true true).has [] true (.arr ⟨e2, tg2, ys⟩) := ⟨rfl, _, rfl, rfl⟩
  have h0 : Ar.lies w (ρ r) [] ⟨te, tg, xs⟩ := h.rs.blk r _ [] true _ hr hhas
  have hv : (ρ r []).void = false := by
    cases hv : (ρ r []).void with
    | false => rfl
    | true => have := h0.void hv; simp only at this; rw [this] at hi; simp at hi
  obtain ⟨hmine, hwhole⟩ := h.rs.own r _ [] _ hr hhas hv
  have hlt := h.rs.lt r _ [] true _ hr hhas hv
  have hm : (ρ r []).m = tg.length := h0.m
  obtain ⟨ys0, c1, c2⟩ := h0.cell i hi
  simp only at c1 c2
  have hj : j < tg.length := setSub_lt hset
  have hcell : ∀ s, s < 1 → (w.cell? ((ρ r []).at (i * (ρ r []).m + j + s))).isSome = true := fun s hs => by
    have := c2 (j + s) (ys0[j + s]'(by rw [lies_length c1]; omega)) (List.getElem?_eq_getElem _)
    rw [Nat.add_assoc, this]; rfl
  refine ⟨hcell, hmine.fz, _, h.rebuild (src := fun k s => if k = i ∧ s = j then (r2, []) else (r, [(k, s)])) (I := ρ r []) (xs' := xs.set i b) hr hr2 hne (frame_setCells hmine.own _ _ h.bl) (by rw [size_setCells]; exact Nat.le_refl _) (fun b' hb hd => heap_setCells _ _ _ _ _ ?_) (fun _ => rfl) ?_ ?_ h0.tg hm
    (fun hh => by rw [hv] at hh; cases hh) (fun hh => by simpa using h0.len hh) ?_ (fun _ => by rw [size_setCells]; exact hlt) (fun _ => ⟨⟨hmine.own, fun j => by rw [World.frozen?_setCells]; exact hmine.fz j⟩, whole_setCells _ _ hwhole⟩) (fun hh => .inr ⟨hh, rfl⟩)⟩
  · rcases hd with hd | hd
    · rw [hv] at hd; cases hd
    · exact hd
  · intro k s C hk hC
    have hk' : k < xs.length := by simpa using hk
    have hC : Tup.sub tg (Ar.get ⟨te, tg, xs.set i b⟩ k) s = some C := hC
    rw [get_set hi] at hC
    by_cases e1 : k = i
    · rw [if_pos e1] at hC
      by_cases e3 : s = j
      · subst e3
        rw [setSub_same hset] at hC
        obtain rfl := Option.some.inj hC
        rw [if_pos (And.intro e1 rfl)]
        exact ⟨_, true, hr2, .inr rfl, fun _ => rfl, fun σ D hD => ⟨by rw [List.append_nil]; cases σ <;> rfl, D, by rw [List.append_nil]; exact hD, rfl⟩⟩
      · rw [setSub_other hset s e3] at hC
        simp only [if_neg (fun hh : k = i ∧ s = j => e3 hh.2)]
        exact ⟨_, true, hr, .inl ⟨trivial, by simp⟩, fun _ => rfl, fun σ D hD => ⟨by cases σ <;> rfl, D, has_snoc.2 ⟨C, hk', by rw [e1]; exact hC, hD⟩, rfl⟩⟩
    · rw [if_neg e1] at hC
      simp only [if_neg (fun hh : k = i ∧ s = j => e1 hh.1)]
      exact ⟨_, true, hr, .inl ⟨trivial, by simp⟩, fun _ => rfl, fun σ D hD => ⟨by cases σ <;> rfl, D, has_snoc.2 ⟨C, hk', hC, hD⟩, rfl⟩⟩
  · intro k s k' s' C C' _ _ _ _ he σ σ' hσ
    by_cases e1 : k = i ∧ s = j <;> by_cases e3 : k' = i ∧ s' = j
    · simp only [if_pos e1, if_pos e3, List.append_nil] at hσ
      exact ⟨e1.1.trans e3.1.symm, e1.2.trans e3.2.symm, hσ⟩
    · simp only [if_pos e1, if_neg e3] at he; exact absurd he.symm hne
    · simp only [if_neg e1, if_pos e3] at he; exact absurd he hne
    · simp only [if_neg e1, if_neg e3] at hσ
      have := List.append_inj' hσ rfl
      obtain ⟨q1, q2⟩ := this
      simp only [List.cons.injEq, Prod.mk.injEq, and_true] at q2
      exact ⟨q2.1, q2.2, q1⟩
  · intro k hk
    have hk' : k < xs.length := by simpa using hk
    show ∃ zs, Tup.lies _ [] k 0 tg (Ar.get ⟨te, tg, xs.set i b⟩ k) zs ∧ _
    rw [get_set hi]
    by_cases e : k = i
    · subst e
      rw [if_pos rfl]
      refine ⟨ys0.set j y, (setSub_put hset (fun s hs hs' => ?_) ?_ c1).2, fun s z hz => ?_⟩
      · rw [show [(k, 0 + s)] = [] ++ [(k, 0 + s)] from rfl, gl_snoc, Nat.zero_add]
        rw [if_neg (fun hh : k = k ∧ s = j => hs' hh.2)]
        try rfl
      · rw [show [(k, 0 + j)] = [] ++ [(k, 0 + j)] from rfl, gl_snoc, Nat.zero_add, if_pos ⟨rfl, rfl⟩, ← hn]
        exact hx
      · by_cases e3 : s = j
        · subst e3
          rw [List.getElem?_set_self (by rw [lies_length c1]; exact hj)] at hz
          obtain rfl := Option.some.inj hz
          have := World.cell?_setCells_in (ρ r []).b [y] ((ρ r []).off + (k * (ρ r []).m + s)) w (fun s' hs' => by have := hcell s' (by simpa using hs'); simpa [RI.at, Nat.add_assoc] using this) 0 (by simp)
          simpa [RI.at] using this
        · rw [List.getElem?_set_ne (Ne.symm e3)] at hz
          rw [World.cell?_setCells_out]
          · exact c2 s z hz
          · intro _ _; simp only [RI.at, List.length_cons, List.length_nil]; omega
    · rw [if_neg e]
      obtain ⟨zs, z1, z2⟩ := h0.cell k hk'
      refine ⟨zs, z1.move fun s _ => ?_, fun s z hz => ?_⟩
      · rw [show [(k, 0 + s)] = [] ++ [(k, 0 + s)] from rfl, gl_snoc, if_neg (fun hh : k = i ∧ 0 + s = j => e hh.1)]
        try rfl
      · have hs : s < tg.length := by rw [← lies_length z1]; exact (List.getElem?_eq_some_iff.1 hz).1
        rw [World.cell?_setCells_out]
        · exact z2 s z hz
        · intro _ _
          simp only [RI.at, List.length_cons, List.length_nil]
          rcases Nat.lt_or_gt_of_ne e with hlt | hgt
          · have h1 : (k + 1) * (ρ r []).m ≤ i * (ρ r []).m := Nat.mul_le_mul_right _ hlt
            rw [Nat.add_mul] at h1
            omega
          · have h1 : (i + 1) * (ρ r []).m ≤ k * (ρ r []).m := Nat.mul_le_mul_right _ hgt
            rw [Nat.add_mul] at h1
            omega

theorem storeK2_sound (hE : EnvOk P Γ E) (h : Rel Γ M w0 ρ st vs a w) {t : TypeId} (hno : E.ty t ≠ .other) {r i j : Nat} {π : Path} {l : List At} {vx : Value} (hr : r < st.rg.length) (hl : okL (At.ok st.rg.length ρ) l vx.cells.toList) (hone : ∀ z ∈ vx.cells.toList, z.oneCell' = true)
    (hlen : l.length = (E.ty t).cells) {K : St → Prop} (hK : storeK2 cc st r π i j l K) :
    ∃ (w' : World) (st' : St) (ρ' : Keys), (Instr.storeAt t (.pointer (some ((ρ r π).at (i * (ρ r π).m + j)))) vx).run P w = .ok () w' ∧ Rel Γ M w0 ρ' st' vs a w' ∧ K st' := by
  unfold storeK2 at hK
  split at hK
  · rename_i r2 q g hq
    unfold storeMv at hq
    split at hq
    case h_2 => cases hq
    rename_i r2' n te tg xs hg
    split at hq
    case h_2 => cases hq
    rename_i e2 tg2 ys hg2 hb
    split at hq
    case h_2 => cases hq
    rename_i b hset
    simp only [Option.some.injEq, Prod.mk.injEq] at hq
    obtain ⟨rfl, rfl, rfl⟩ := hq
    rw [oblige_iff] at hK
    obtain ⟨⟨hi, hn, _⟩, hK⟩ := hK
    simp only [Duty.of_p] at hi hn
    simp only [St.setRK_eq, St.mapK_eq, St.setNK_eq] at hK
    -- the value stored
    have hcs : ∃ y, vx.cells.toList = [y] ∧ (ρ r2' []).head 0 n y := by
      match hc : vx.cells.toList, hl with
      | [y], hl => exact ⟨y, rfl, hl.1.2⟩
    obtain ⟨y, hy, hx⟩ := hcs
    obtain ⟨s1, s2, ρ', s3⟩ := store_deep h (getD_reg hg (by simp)) (getD_reg hg2 (by simp)) (beq_ne hb) hi hset hx hn
    have hsz := ty_size hE hno
    refine ⟨_, _, ρ', ?_, s3, hK⟩
    have hst := run_storeCells_cells (P := P) (ρ r []).b ((ρ r []).off + (i * (ρ r []).m + j)) vx.cells.toList 0 w
      (fun s hs => by rw [hy] at hs; have := s1 s (by simpa using hs); simpa [RI.at, Nat.add_assoc] using this) (fun s _ => s2 _) hone
    have hcs' : vx.cells.size = (E.ty t).cells := by
      have : vx.cells.toList.length = (E.ty t).cells := by rw [← hlen, hl.length]
      simpa using this
    simp only [Nat.add_zero] at hst
    rw [← hy]
    simp [Instr.storeAt, Instr.sureAddr, storeVar, run_size hsz, hcs', RI.at, hst]
  · obtain ⟨w', st', h1, h2, h3⟩ := storeK_sound hE h hno hr hl hone hlen hK
    exact ⟨w', st', ρ, h1, h2, h3⟩
end
end Go.Sy
end

section
/-
  The append of the evaluator is sound.
-/
namespace Go.Sy
open Go Go.RowKit
universe u
section
variable {P : Program} {Γ : Glob} {E : Env} {M : Nat → Prop} {w0 : World} {ρ : Keys} {st : St} {vs : Fv} {a : Act} {w : World}

theorem lies_const {te : TypeId} {tg : List CK} {xs : List (Tup tg)} (hf : flatK tg = true) {η : Path → RI} {π : Path} (te' : TypeId) (h : Ar.lies w η π ⟨te, tg, xs⟩) : Ar.lies w (fun _ => η π) [] ⟨te', tg, xs⟩ :=
  ⟨h.tg, h.m, h.void, h.len, fun i hi => by obtain ⟨ys, h1, h2⟩ := h.cell i hi; exact ⟨ys, lies_flat hf h1, h2⟩⟩
theorem newsOf_sound (h : Rel Γ M w0 ρ st vs a w) {tg : List CK} (hf : flatK tg = true) {r lo n : Nat} {π : Path} {q : List Duty} {news : List (Tup tg)} (he : newsOf st tg r π lo n = some (q, news)) (hq : obl q) :
    ∃ te ys, Ar.lies w (fun _ => ρ r π) [] ⟨te, tg, ys⟩ ∧ lo + n ≤ ys.length ∧ news = (ys.drop lo).take n := by
  unfold newsOf at he
  split at he
  · rename_i q' B hB
    split at he
    · rename_i hh _
      simp only [Option.some.injEq, Prod.mk.injEq] at he
      obtain ⟨rfl, rfl⟩ := he
      rw [obl_append] at hq
      obtain ⟨_, hl⟩ := dn_sound h hB hq.1
      obtain ⟨te, tg', ys⟩ := B
      obtain ⟨hh⟩ := hh
      have hh' : tg' = tg := hh
      subst hh'
      exact ⟨te, ys, lies_const hf te hl, hq.2.1, rfl⟩
    · cases he
  · cases he
theorem tySize (hE : EnvOk P Γ E) {e : TypeId} {tg : List CK} (hD : E.kd e = some tg) : (P.info? e).map (·.size) = some tg.length := by
  obtain ⟨_, i, z, hi, hsz, _⟩ := hE.kd e tg hD
  rw [hi]; simp [hsz]

/-- The append to a slice that has an array, in the state. -/
theorem app_arr (hE : EnvOk P Γ E) (h : Rel Γ M w0 ρ st vs a w) {t ty e : TypeId} {m : Nat} (ht : E.ty t = .sl e m) {tg : List CK} (hD : E.kd e = some tg) (hflat : flatK tg = true) {r l k : Nat} {xs : List (Tup tg)} {inn inn' : Bool}
    (hr : st.rg[r]? = some (.arr e tg xs true inn)) (hk : l + k = xs.length) {v0 : Value} (hs : (ρ r []).head l k v0) {I2 : RI} {te2 : TypeId} {ys : List (Tup tg)} {lo n : Nat} {vx : Value}
    (h2 : Ar.lies w (fun _ => I2) [] ⟨te2, tg, ys⟩) (hx : I2.head lo n vx) (hn : lo + n ≤ ys.length) (hcap : (k + n) * tg.length ≤ cap40) :
    ∃ v w' ρ', (Builtin.append_ #[t, t] ty #[v0, vx]).run P w = .ok v w' ∧ Rel Γ M w0 ρ' ((st.map (At.kill true true r)).setR r (.arr e tg (xs.drop l ++ (ys.drop lo).take n) true inn')) vs a w' ∧ (ρ' r []).head 0 (k + n) v := by
  have hhas : (Reg.arr e tg xs true inn).has [] true (.arr ⟨e, tg, xs⟩) := ⟨rfl, _, rfl, rfl⟩
  have h0 := lies_const hflat e (h.rs.blk r _ [] true _ hr hhas)
  obtain ⟨v, w', I, hrun, hA⟩ := run_append_flat (ty := ty) hE ht hD hflat h0 hk hs (fun hv => ⟨(h.rs.own r _ [] _ hr hhas hv).1, (h.rs.own r _ [] _ hr hhas hv).2, h.rs.lt r _ [] true _ hr hhas hv⟩) h2 hx hn hcap h.bl
  exact ⟨v, w', _, hrun, h.replace hr hflat hA.fr hA.size hA.same hA.lies (fun hv => (hA.mine hv).1) (fun hv => (hA.mine hv).2) hA.at_, by rw [setρ_at]; exact hA.head⟩

/-- The append to a slice that has none. -/
theorem app_new (hE : EnvOk P Γ E) (h : Rel Γ M w0 ρ st vs a w) {t ty e : TypeId} {m : Nat} (ht : E.ty t = .sl e m) {tg : List CK} (hD : E.kd e = some tg) (hflat : flatK tg = true) {v0 : Value} (hs : ∃ a0, v0 = .slice a0 0 0) {b : Bool}
    {I2 : RI} {te2 : TypeId} {ys : List (Tup tg)} {lo n : Nat} {vx : Value} (h2 : Ar.lies w (fun _ => I2) [] ⟨te2, tg, ys⟩) (hx : I2.head lo n vx) (hn : lo + n ≤ ys.length) (hcap : n * tg.length ≤ cap40) :
    ∃ v w' ρ', (Builtin.append_ #[t, t] ty #[v0, vx]).run P w = .ok v w' ∧ Rel Γ M w0 ρ' (st.push [.arr e tg ((ys.drop lo).take n) true b]) vs a w' ∧ (ρ' st.rg.length []).head 0 n v := by
  obtain ⟨htg, _⟩ := hE.kd e tg hD
  have h0 : Ar.lies w (fun _ => { noRI with m := tg.length }) [] ⟨e, tg, ([] : List (Tup tg))⟩ := ⟨htg, rfl, fun _ => rfl, fun hv => (by cases hv), fun i hi => (by simp at hi)⟩
  obtain ⟨v, w', I, hrun, hA⟩ := run_append_flat (ty := ty) (k := 0) (l := 0) hE ht hD hflat h0 rfl ⟨fun _ => ⟨rfl, hs⟩, fun hv => (by cases hv)⟩ (fun hv => (by cases hv)) h2 hx hn (by rw [Nat.zero_add]; exact hcap) h.bl
  simp only [List.drop_nil, List.nil_append, Nat.zero_add] at hA
  have hbel : Below w.heap.size w w' := ⟨hA.fr.os.trans h.bl.os.symm, hA.fr.tape.trans h.bl.tape.symm, hA.fr.output.trans h.bl.output.symm, hA.size, fun b hb => hA.same b hb (.inl rfl)⟩
  refine ⟨v, w', setρ ρ st.rg.length fun _ => I, hrun, h.grow hbel (fun r hr π => by rw [setρ_lt hr]) (h.rs.fresh hbel ?_ ?_ ?_ ?_), by rw [setρ_at]; exact hA.head⟩
  · rintro π o B ⟨_, A, hA', rfl⟩
    obtain ⟨rfl, rfl⟩ := has_flat hflat hA'
    show Ar.lies w' (setρ ρ st.rg.length _ st.rg.length) [] _
    rw [setρ_at]; exact hA.lies
  · rintro π o B _ hv
    rcases hA.at_ hv with hI | ⟨hI, _⟩
    · exact ⟨hI, (hA.mine hv).1⟩
    · cases hI
  · rintro π B ⟨_, A, hA', rfl⟩ hv
    obtain ⟨rfl, rfl⟩ := has_flat hflat hA'
    exact (hA.mine hv).2
  · rintro π π' o o' B B' ⟨_, A, hA', rfl⟩ ⟨_, A', hA'', rfl⟩ _ _
    obtain ⟨rfl, rfl⟩ := has_flat hflat hA'
    obtain ⟨rfl, rfl⟩ := has_flat hflat hA''
    rfl

theorem app_zero (hE : EnvOk P Γ E) (h : Rel Γ M w0 ρ st vs a w) {t ty e : TypeId} {m : Nat} (ht : E.ty t = .sl e m) {tg : List CK} (hD : E.kd e = some tg) {d : Option Nat} {s : Tm} {vS vX : Value} {K : St → Prop}
    (hz : ∃ a0, vX = .slice a0 0 0) (hk : match s with
          | .a (.sl _ _ _ _) => st.putK d s K
          | .a (.v (.slice none 0 0)) => st.putK d s K
          | .a .z => st.putK d s K
          | _ => False) (hs : s.ok st.rg.length ρ vS) : ∃ v w' st' ρ' y, (Builtin.append_ #[t, t] ty #[vS, vX]).run P w = .ok v w' ∧ Rel Γ M w0 ρ' st' vs a w' ∧ Tm.ok st'.rg.length ρ' y v ∧ st'.fits d ∧ K (st'.put d y) := by
  obtain ⟨hu, _, _⟩ := hE.tySl ht
  have hsz := tySize hE hD
  have zero : ∀ a0 k c, vS = .slice a0 k c → k ≤ c → st.putK d s K →
      ∃ v w' st' ρ' y, (Builtin.append_ #[t, t] ty #[vS, vX]).run P w = .ok v w' ∧ Rel Γ M w0 ρ' st' vs a w' ∧ Tm.ok st'.rg.length ρ' y v ∧ st'.fits d ∧ K (st'.put d y) := by
    intro a0 k c hv hkc hk
    obtain ⟨b0, hx0⟩ := hz
    rw [St.putK_iff] at hk
    refine ⟨_, w, st, ρ, s, ?_, h, hs, hk.1, hk.2⟩
    rw [hv, hx0]
    exact run_append_zero hu hsz a0 b0 k c 0 hkc
  split at hk
  · obtain ⟨ad, c, hv, hkc, _, _⟩ := head_form (show RI.head _ _ _ _ from hs.2)
    exact zero _ _ _ hv hkc hk
  · exact zero _ _ _ hs.1 (Nat.le_refl _) hk
  · obtain ⟨a0, hv⟩ := hs
    exact zero _ _ _ hv (Nat.le_refl _) hk
  · exact hk.elim

/-- An append that moves slices, in the state. -/
theorem appMv_sound (hE : EnvOk P Γ E) (h : Rel Γ M w0 ρ st vs a w) {d : Option Nat} {t ty e : TypeId} {m : Nat} (ht : E.ty t = .sl e m) {tg : List CK} (hD : E.kd e = some tg) {r l k r2 n : Nat} {v0 vx : Value} (hs : (ρ r []).head l k v0) (hx : (ρ r2 []).head 0 n vx) {K : St → Prop}
    (hK : appMv E st d e tg r l k r2 n K) :
    ∃ v w' st' ρ' y, (Builtin.append_ #[t, t] ty #[v0, vx]).run P w = .ok v w' ∧ Rel Γ M w0 ρ' st' vs a w' ∧ Tm.ok st'.rg.length ρ' y v ∧ st'.fits d ∧ K (st'.put d y) := by
  unfold appMv at hK
  split at hK
  case h_2 => exact hK.elim
  rename_i e' tg' xs inn te2 tg2 ys hg hg2 hb
  split at hK
  case h_2 => exact hK.elim
  rename_i h1 h2 he _ _
  obtain rfl := Nat.eq_of_beq_eq_true he
  obtain ⟨h1⟩ := h1
  obtain ⟨h2⟩ := h2
  have h1' : tg = tg' := h1
  subst h1'
  have h2' : tg2 = tg := h2
  subst h2'
  rw [oblige_iff] at hK
  obtain ⟨⟨q1, q2, q3, _⟩, hK⟩ := hK
  simp only [Duty.of_p] at q1 q2 q3
  simp only [St.setRK_eq, St.mapK_eq, St.setNK_eq, appPut_iff] at hK
  have hr := getD_reg hg (by simp)
  obtain ⟨v, w', ρ', c1, c2, c3⟩ := app_arr_deep (ty := ty) hE h ht hD hr (getD_reg hg2 (by simp)) (beq_ne hb) q2 hs hx q1 q3
  exact ⟨v, w', _, ρ', .a (.sl r [] 0 (k + n)), c1, c2, ⟨by simpa [St.setR, St.map] using reg_lt hr, c3⟩, hK.1, hK.2⟩
/-- A region of no element. -/
theorem Rel.voidArr (h : Rel Γ M w0 ρ st vs a w) (e : TypeId) {tg : List CK} (htg : tg ≠ []) :
    Rel Γ M w0 (setρ ρ st.rg.length fun _ => { noRI with m := tg.length }) (st.push [.arr e tg [] true true]) vs a w := by
  have hbel : Below w.heap.size w w := Below.refl _ _
  refine h.grow hbel (fun r hr π => by rw [setρ_lt hr]) (h.rs.fresh hbel ?_ ?_ ?_ ?_)
  · rintro π o B hB
    obtain ⟨rfl, rfl⟩ := has_nil hB
    show Ar.lies w (setρ ρ st.rg.length _ st.rg.length) [] _
    rw [setρ_at]
    exact ⟨htg, rfl, fun _ => rfl, fun hh => (by cases hh), fun i hi => (by simp at hi)⟩
  · rintro π o B _ hv; cases hv
  · rintro π B _ hv; cases hv
  · rintro π π' o o' B B' _ _ hv; cases hv

theorem appK1_sound (hE : EnvOk P Γ E) (h : Rel Γ M w0 ρ st vs a w) {d : Option Nat} {t ty : TypeId} {s x : Tm} {vS vX : Value} (hs : s.ok st.rg.length ρ vS) (hx : x.ok st.rg.length ρ vX) {K : St → Prop} (hK : appK1 E st d t s x K) :
    ∃ v w' st' ρ' y, (Builtin.append_ #[t, t] ty #[vS, vX]).run P w = .ok v w' ∧ Rel Γ M w0 ρ' st' vs a w' ∧ Tm.ok st'.rg.length ρ' y v ∧ st'.fits d ∧ K (st'.put d y) := by
  unfold appK1 at hK
  split at hK
  case h_2 => exact hK.elim
  rename_i e m ht
  split at hK
  case h_2 => exact hK.elim
  rename_i tg hD
  obtain ⟨hu, _, _⟩ := hE.tySl ht
  have hsz := tySize hE hD
  have zero' := fun hz hk => app_zero hE h ht hD (ty := ty) (d := d) (vX := vX) (K := K) hz hk hs
  split at hK
  · -- nothing
    rename_i hxx
    split at hxx <;> try dsimp only at hK
    · exact zero' ⟨_, hx.1⟩ hK
    · exact zero' hx hK
    · cases hxx
    · cases hxx
  · rename_i r2 π2 lo n hxx
    split at hxx
    · cases hxx
    · cases hxx
    · rename_i r2' π2' lo' n'
      simp only [Option.some.injEq, Prod.mk.injEq] at hxx
      obtain ⟨rfl, rfl, rfl, rfl⟩ := hxx
      have hx' := hx.2
      have new : (∃ a0, vS = .slice a0 0 0) → newsK E.conc st tg r2' π2' lo' n' (fun st news b => oblige E.conc [(Duty.of (n' * tg.length ≤ cap40))] (nameR E.conc (.arr e tg news true b) (fun g => lenC E.conc st.rg (fun r => st.pushK [g] (fun st => appPut E.conc st d r n' K))))) →
          ∃ v w' st' ρ' y, (Builtin.append_ #[t, t] ty #[vS, vX]).run P w = .ok v w' ∧ Rel Γ M w0 ρ' st' vs a w' ∧ Tm.ok st'.rg.length ρ' y v ∧ st'.fits d ∧ K (st'.put d y) := by
        intro hz hk
        unfold newsK at hk
        split at hk
        · rename_i hflat
          split at hk
          · rename_i q xs hq
            rw [oblige_iff] at hk
            obtain ⟨te, ys, p1, p2, rfl⟩ := newsOf_sound h hflat hq hk.1
            obtain ⟨_, hk⟩ := hk
            rw [oblige_iff] at hk
            obtain ⟨⟨hcap, _⟩, hk⟩ := hk
            simp only [Duty.of_p] at hcap
            simp only [nameR_eq, lenC_eq, St.pushK_eq, appPut_iff] at hk
            obtain ⟨v, w', ρ', c1, c2, c3⟩ := app_new (ty := ty) (b := true) hE h ht hD hflat hz p1 hx' p2 hcap
            exact ⟨v, w', _, ρ', .a (.sl st.rg.length [] 0 n'), c1, c2, ⟨by simp [St.push], c3⟩, hk.1, hk.2⟩
          · exact hk.elim
        · exact hk.elim
      have nil : (∃ a0, vS = .slice a0 0 0) → π2' = [] → lo' = 0 → lenC E.conc st.rg (fun r => st.pushK [.arr e tg [] true true] (fun st => appMv E st d e tg r 0 0 r2' n' K)) →
          ∃ v w' st' ρ' y, (Builtin.append_ #[t, t] ty #[vS, vX]).run P w = .ok v w' ∧ Rel Γ M w0 ρ' st' vs a w' ∧ Tm.ok st'.rg.length ρ' y v ∧ st'.fits d ∧ K (st'.put d y) := by
        rintro hz rfl rfl hk
        simp only [lenC_eq, St.pushK_eq] at hk
        obtain ⟨htg, _⟩ := hE.kd e tg hD
        refine appMv_sound hE (h.voidArr e htg) ht hD ?_ ?_ hk
        · rw [setρ_at]; exact ⟨fun _ => ⟨rfl, hz⟩, fun hh => (by cases hh)⟩
        · rw [setρ_lt hx.1]; exact hx'
      split at hK
      · split at hK
        · exact appMv_sound hE h ht hD hs.2 hx' hK
        · obtain ⟨rfl, _⟩ := hs
          exact nil ⟨_, rfl⟩ rfl rfl hK
        · exact nil hs rfl rfl hK
        · exact hK.elim
      · rename_i hflat'
        split at hK
        · rename_i r l k
          split at hK
          · rename_i e' tg' xs inn hg
            have hr := getD_reg hg (by simp)
            split at hK
            · rename_i hh hne he _
              obtain rfl := Nat.eq_of_beq_eq_true he
              obtain ⟨hh⟩ := hh
              have hh' : tg = tg' := hh
              subst hh'
              unfold newsK at hK
              split at hK
              · rename_i hflat
                split at hK
                · rename_i q news hq
                  rw [oblige_iff] at hK
                  obtain ⟨te, ys, p1, p2, rfl⟩ := newsOf_sound h hflat hq hK.1
                  obtain ⟨_, hK⟩ := hK
                  rw [oblige_iff] at hK
                  obtain ⟨⟨hk1, hcap, _⟩, hK⟩ := hK
                  simp only [Duty.of_p] at hk1 hcap
                  simp only [St.mapK_eq, St.setNK_eq, appPut_iff] at hK
                  obtain ⟨v, w', ρ', c1, c2, c3⟩ := app_arr (ty := ty) (inn' := bAnd inn true) hE h ht hD hflat hr hk1 hs.2 p1 hx' p2 hcap
                  exact ⟨v, w', _, ρ', .a (.sl r [] 0 (k + n')), c1, c2, ⟨by simpa [St.setR, St.map] using hs.1, c3⟩, hK.1, hK.2⟩
                · exact hK.elim
              · exact hK.elim
            · exact hK.elim
          · exact hK.elim
        · obtain ⟨rfl, _⟩ := hs
          exact new ⟨_, rfl⟩ hK
        · exact new hs hK
        · exact hK.elim
    · cases hxx
  · exact hK.elim
end
end Go.Sy
end

section
/-
  The operations that make or write memory are sound.
-/
namespace Go.Sy
open Go Go.RowKit
universe u
section
variable {P : Program} {Γ : Glob} {E : Env} {M : Nat → Prop} {w0 : World} {ρ : Keys} {st : St} {vs : Fv} {a : Act} {w : World}

theorem Rel.put (h : Rel Γ M w0 ρ st vs a w) (d : Option Nat) {x : Tm} {y : Value} (hx : x.ok st.rg.length ρ y) : Rel Γ M w0 ρ (st.put d x) vs (a.put d y) w := by
  cases d with
  | none => exact h
  | some d => exact ⟨by simpa [St.put, Act.put] using h.tm.put d hx, h.fr, h.df, h.rs, h.bl, h.gl, h.gn⟩

theorem intArg_sound (h : Rel Γ M w0 ρ st vs a w) {o : Operand} {n : Int} (he : intArg st o = some n) : ∃ k, a.eval o = .int k n := by
  unfold intArg at he
  split at he
  · rename_i k m hx
    simp only [Option.some.injEq] at he
    subst he
    exact ⟨k, (ev_sound h hx).1⟩
  · cases he

theorem made_get (z : List Value) (n i s : Nat) (hi : i < n) (hs : s < z.length) : (madeCells z.toArray (n * z.length)).toList[i * z.length + s]? = z[s]? := by
  have hlt : i * z.length + s < n * z.length := by
    have : (i + 1) * z.length ≤ n * z.length := Nat.mul_le_mul_right _ hi
    rw [Nat.add_mul] at this
    omega
  simp only [madeCells, Array.toList_map, Array.toList_range, List.getElem?_map, List.getElem?_range hlt, Option.map_some, List.size_toArray]
  rw [Nat.mul_comm i, Nat.mul_add_mod, Nat.mod_eq_of_lt hs]
  rw [List.getElem?_eq_getElem hs]
  congr 1
  simp [hs]

theorem mapSetK_sound (hE : EnvOk P Γ E) (h : Rel Γ M w0 ρ st vs a w) {d : Option Nat} {t : TypeId} {m n x : Operand} {K : St → Prop} (hm : mapSetK E st d t m n x K) :
    ∃ w' st', (Instr.mapUpdate t (a.eval m) (a.eval n) (a.eval x)).run P w = .ok () w' ∧ Rel Γ M w0 ρ st' vs a w' ∧ K (st'.put d (.a .un)) := by
  unfold mapSetK at hm
  split at hm
  · rename_i kt et r k' n0 xa ht h1 h2 h3
    split at hm
    · rename_i k t' k2 c es hk hg
      split at hm
      · rename_i v hs1 hs2 hv
        obtain rfl := sameKind_eq hs1
        obtain rfl := sameKind_eq hs2
        rw [St.setNK_eq, St.putK_iff] at hm
        obtain ⟨hu, _⟩ := hE.tyMap ht
        obtain ⟨hr, em⟩ := ev_sound h h1
        obtain ⟨en, _⟩ := ev_sound h h2
        have ex := ofAt_val hv (ev_sound h h3)
        have hgr := getD_reg hg (by simp)
        obtain ⟨_, _, hat⟩ := h.rs.blk r _ [] true (.map k2 c es) hgr ⟨rfl, rfl, rfl⟩
        obtain ⟨ents, hrun, e1, e2⟩ := run_mapUpdate_map hu (k := k2) (by have := hE.ty kt; rw [hk] at this; exact this.1) hat n0 v
        refine ⟨_, _, ?_, h.writeMap hgr e1 e2, hm.2⟩
        rw [em, en, ex]; exact hrun
      · exact hm.elim
    · exact hm.elim
  · exact hm.elim

theorem run_nil {t e : TypeId} (hu : P.underlying t = some (.slice e)) {op : BinOp} {b : Bool} (hb : nilOp op = some b) (u v : Operand) (ad : Option Addr) (n c n' c' : Nat) :
    (do eqGuard op t u v (.slice ad n c) (.slice none n' c'); binOp op t (.slice ad n c) (.slice none n' c') : Sem Value).run P w = .ok (.bool (if ad.isNone then !b else b)) w := by
  unfold nilOp at hb
  split at hb
  · obtain rfl := Option.some.inj hb
    rw [Sem.run_bind, show (eqGuard .eql t u v (.slice ad n c) (.slice none n' c')).run P w = .ok () w by simp [eqGuard], Result.andThen_ok, Lib.run_eql_slice_nil w t e ad n c n' c' hu]
    cases ad <;> rfl
  · obtain rfl := Option.some.inj hb
    rw [Sem.run_bind, show (eqGuard .neq t u v (.slice ad n c) (.slice none n' c')).run P w = .ok () w by simp [eqGuard], Result.andThen_ok, run_neq_slice_nil_any w t e ad n c n' c' hu]
    cases ad <;> rfl
  · cases hb
theorem head_some {K : RI} {lo n : Nat} {y : Value} (h : K.head lo n y) : ∃ ad c, y = .slice ad n c ∧ (0 < n → ad.isNone = false) := by
  cases hv : K.void with
  | true => obtain ⟨rfl, ad, e⟩ := h.1 hv; exact ⟨ad, 0, e, fun h => absurd h (by omega)⟩
  | false =>
    obtain ⟨_, ad, e, h2⟩ := h.2 hv
    exact ⟨ad, _, e, fun h => by rw [h2 (by omega)]; rfl⟩
theorem nilK_sound (hE : EnvOk P Γ E) (h : Rel Γ M w0 ρ st vs a w) {d : Option Nat} {t : TypeId} {op : BinOp} {x y : Operand} {K : St → Prop} (hm : nilK E st d t op (ev st x) (ev st y) K) :
    ∃ z zt, (do eqGuard op t x y (a.eval x) (a.eval y); binOp op t (a.eval x) (a.eval y) : Sem Value).run P w = .ok z w ∧ zt.ok st.rg.length ρ z ∧ K (st.put d zt) := by
  unfold nilK at hm
  split at hm
  · rename_i e m b x' n' c' ht hb hx hy
    obtain ⟨hu, _⟩ := hE.tySl ht
    have hy' : a.eval y = .slice none n' c' := (ev_sound h hy).1
    rw [hy']
    split at hm
    · rename_i n c
      have hx' : a.eval x = .slice none n c := (ev_sound h hx).1
      rw [hx', run_nil hu hb]
      split at hm
      · rw [St.putK_iff] at hm
        exact ⟨_, .a .ff, rfl, rfl, hm.2⟩
      · rw [St.putK_iff] at hm
        exact ⟨_, .a .tt, rfl, rfl, hm.2⟩
    · obtain ⟨ad, hx'⟩ := ev_sound h hx
      split at hm
      · exact hm.elim
      · rw [hx', run_nil hu hb]
        have hk := hm (if ad.isNone then !b else b)
        rw [St.putK_iff] at hk
        exact ⟨_, bl _, rfl, ⟨rfl, rfl⟩, hk.2⟩
    · rename_i r π lo n
      obtain ⟨ad, c, hx', h0⟩ := head_some (ev_sound h hx).2
      rw [hx', run_nil hu hb]
      split at hm
      · rw [oblige_iff] at hm
        obtain ⟨⟨hn, _⟩, hk⟩ := hm
        simp only [Duty.of_p] at hn
        rw [St.putK_iff] at hk
        refine ⟨_, _, rfl, ?_, hk.2⟩
        rw [h0 hn]
        cases b <;> rfl
      · have hk := hm (if ad.isNone then !b else b) (fun hn => by rw [h0 hn]; rfl)
        rw [St.putK_iff] at hk
        exact ⟨_, bl _, rfl, ⟨rfl, rfl⟩, hk.2⟩
    · exact hm.elim
  · exact hm.elim
theorem run_build0 (hE : EnvOk P Γ E) {t e : TypeId} {m : Nat} (ht : E.ty t = .sl e m) {tg : List CK} (hD : E.kd e = some tg) {parts : Array (Nat × Value)} (hp : parts.toList = []) :
    (Instr.buildSlice t 0 parts).run P w = .ok (.slice (some ⟨w.heap.size, 0, none⟩) 0 0) (w.alloc (.cells #[] e)) := by
  obtain ⟨hu, _, _⟩ := hE.tySl ht
  obtain ⟨hne, ⟨i, z, h1, h2, h3, h4, _⟩⟩ := hE.kd e tg hD
  simp only [Instr.buildSlice, run_underlying hu, Sem.run_bind, Result.andThen_ok]
  simp only [sizeOf, typeInfo, h1, Sem.run_bind, run_program, Result.andThen_ok, Sem.run_pure, h2]
  rw [if_neg (by omega), if_pos (by omega)]
  simp only [Sem.run_bind, Sem.run_pure, Result.andThen_ok, hp, Instr.fill]
  simp [newRow]
  rw [show (Array.range 0) = #[] from by decide]
  simp only [List.map_toArray, List.map_nil]

/-- One operation that makes or writes memory. -/
theorem evM_sound (hE : EnvOk P Γ E) (h : Rel Γ M w0 ρ st vs a w) {o : Oper} {K : St → Prop} (hm : evM E st o K) {next : Act → World → Prop} {Q : Exit → Act → World → Prop}
    (hK : ∀ st' a' w' ρ', K st' → Rel Γ M w0 ρ' st' vs a' w' → (notStore o = true → Below w.heap.size w w') → next a' w') : o.wp P a w next Q := by
  unfold evM at hm
  unfold Oper.wp
  split at hm
  · -- box
    rename_i t x hop
    split at hm
    · exact hm.elim
    · rename_i xv hx hno
      split at hm
      · rename_i l hl
        split at hm
        · obtain ⟨c1, _, _⟩ := tmCells_sound (ev_sound h hx) hl
          simp only [lenC_eq, St.pushK_eq, St.putK_iff] at hm
          have hrun : (execOp a.eval o).run P w = .ok (.value (.pointer (some ⟨w.heap.size, 0, none⟩))) (w.alloc (.cells (a.eval x).cells.toList.toArray t)) := by
            simp [execOp, hop, Instr.box, newVar, newRow]
          rw [hrun]
          refine hK _ _ _ _ hm.2 ((h.box c1 t).put o.dst ⟨by simp [St.push], ?_⟩) (fun _ => below_alloc _)
          rw [setρ_at]; simp [RI.at, boxRI]
        · exact hm.elim
      · exact hm.elim
    · exact hm.elim
  · -- alloc
    rename_i t hop
    split at hm
    · exact hm.elim
    · rename_i z hz hno
      obtain ⟨_, i, zv, h1, h2, h3⟩ := hE.zero _ _ hz
      simp only [lenC_eq, St.pushK_eq, St.putK_iff] at hm
      have hrun : (execOp a.eval o).run P w = .ok (.value (.pointer (some ⟨w.heap.size, 0, none⟩))) (w.alloc (.cells zv.cells.toList.toArray t)) := by
        simp [execOp, hop, Instr.alloc, newVar, newRow, zeroValue, typeInfo, h1, h2]
      rw [hrun]
      refine hK _ _ _ _ hm.2 ((h.box (h3 _ _) t).put o.dst ⟨by simp [St.push], ?_⟩) (fun _ => below_alloc _)
      rw [setρ_at]; simp [RI.at, boxRI]
    · exact hm.elim
  · -- store
    rename_i t ad x hop
    split at hm
    · exact hm.elim
    · rename_i r π i j xv ha hx hno
      split at hm
      · rename_i l hl
        split at hm
        · rename_i hlen
          obtain ⟨c1, _, c3⟩ := tmCells_sound (ev_sound h hx) hl
          obtain ⟨hr, hp⟩ := ev_sound h ha
          obtain ⟨w', st', ρ', hrun, hrel, hk⟩ := storeK2_sound hE h hno hr c1 c3 (lenIs_length hlen) hm
          rw [St.putK_iff] at hk
          have hrun' : (execOp a.eval o).run P w = .ok .skip w' := by
            simp [execOp, hop, hp, hrun]
          rw [hrun']
          exact hK _ _ _ _ hk.2 (hrel.put o.dst (x := .a .un) (y := undef) rfl) (fun hns => by simp [notStore, hop] at hns)
        · exact hm.elim
      · exact hm.elim
    · exact hm.elim
  · -- binOp
    rename_i op t x y hop
    obtain ⟨z, zt, hrun, hz, hk⟩ := nilK_sound hE h hm
    have hrun' : (execOp a.eval o).run P w = .ok (.value z) w := by
      simp only [execOp, hop]
      change Sem.run P (do let x ← (do eqGuard _ _ _ _ _ _; binOp _ _ _ _ : Sem Value); pure (Next.value x)) w = _
      rw [Sem.run_bind, hrun]; rfl
    rw [hrun']
    exact hK _ _ _ _ hk (h.put o.dst hz) (fun _ => Below.refl _ _)
  · -- buildSlice
    rename_i t n parts hop
    split at hm
    · rename_i e m ht
      split at hm
      · rename_i tg hD
        split at hm
        · rename_i hn0 hp
          obtain rfl := Nat.eq_of_beq_eq_true hn0
          rw [St.putK_iff] at hm
          have hrun : (execOp a.eval o).run P w = .ok (.value (.slice (some ⟨w.heap.size, 0, none⟩) 0 0)) (w.alloc (.cells #[] e)) := by
            simp only [execOp, hop, Sem.run_bind, run_build0 hE ht hD (parts := parts.map fun (i, x) => (i, a.eval x)) (by simp [hp]), Result.andThen_ok, Sem.run_pure]
          rw [hrun]
          exact hK _ _ _ _ hm.2 ((h.later (below_alloc _)).put o.dst (x := .a .z) ⟨_, rfl⟩) (fun _ => below_alloc _)
        have hside : Side M w0 w ρ st [] := ⟨by simpa using h.rs⟩
        have hb : 0 < n ∧ n * tg.length ≤ 16777216 := by
          obtain ⟨st', xs, b, _, _, _, _, k1, _⟩ := litK_sound (a := a) (hE.kn e tg hD) hside (fun o x hx => ev_sound h hx) hm
          split at k1
          · rw [oblige_iff] at k1; exact ⟨k1.1.1, k1.1.2.1⟩
          · exact k1.elim
        obtain ⟨st', xs, b, ρ', k1, k2, k3, k4, k5, k6⟩ := litK_new hE h ht hD (hE.kn e tg hD) hm hb.1 hb.2 (fun st xs b hk => by split at hk; assumption; exact hk.elim)
        split at k1
        · rw [oblige_iff] at k1
          simp only [lenC_eq, St.pushK_eq, St.putK_iff, k5] at k1
          have hrun : (execOp a.eval o).run P w = .ok (.value (.slice (some ⟨w.heap.size, 0, none⟩) n n)) (w.alloc (.cells ((parts.toList.flatMap fun p => (a.eval p.2).cells.toList)).toArray e)) := by
            simp only [execOp, hop, Sem.run_bind, k2, Result.andThen_ok, Sem.run_pure]
          rw [hrun]
          exact hK _ _ _ _ k1.2.2 (k3.put o.dst (x := .a (.sl st.rg.length [] 0 n)) (by rw [show (st'.push [.arr e tg xs true b]).rg.length = st.rg.length + 1 by simp [St.push, k5]]; exact k6)) (fun _ => below_alloc _)
        · exact k1.elim
      · exact hm.elim
    · exact hm.elim
  · -- makeSlice
    rename_i t len cap hop
    split at hm
    · rename_i e m n c ht hn hc
      split at hm
      · rename_i tg hD
        rw [oblige_iff] at hm
        obtain ⟨⟨h0, hnc, hsz, _⟩, hm⟩ := hm
        simp only [Duty.of_p] at h0 hnc hsz
        subst hnc
        simp only [lenC_eq, nameR_eq, St.pushK_eq, appPut_iff] at hm
        obtain ⟨kl, el⟩ := intArg_sound h hn
        obtain ⟨kc, ec⟩ := intArg_sound h hc
        obtain ⟨hu, _, _⟩ := hE.tySl ht
        obtain ⟨htg, i, z, hi, hs, hz, hzc, hby⟩ := hE.kd e tg hD
        have hpos : 0 < tg.length := List.length_pos_iff.2 htg
        have hn1 : n ≤ 16777216 := Int.le_trans (by have := Int.mul_le_mul_of_nonneg_left (show (1 : Int) ≤ tg.length by omega) h0; omega) hsz
        have hbytes : (i.bytes : Int) * n ≤ 281474976710656 := by
          have h1 : (i.bytes : Int) * n ≤ (32 * tg.length : Nat) * n := Int.mul_le_mul_of_nonneg_right (by exact_mod_cast hby) h0
          have h2 : ((32 * tg.length : Nat) : Int) * n = 32 * (n * tg.length) := by push_cast; rw [Int.mul_assoc, Int.mul_comm (tg.length : Int)]
          omega
        have hrun := run_make (P := P) w t e i z hu hi hz kl kc n n h0 (Int.le_refl _) hbytes (by omega)
        have hzl : z.cells = (Tup.zero tg).toArray := Array.ext' (by simpa using hzc)
        rw [hs, hzl] at hrun
        have hmade := rel_made (te := e) h htg (hE.kn e tg hD) (n := n.toNat) (by simp only [maxLen]; omega) (cs := (madeCells (Tup.zero tg).toArray (n.toNat * tg.length)).toList) (by simp [madeCells])
          (fun i hi s hs => by have := made_get (Tup.zero tg) n.toNat i s hi (by rw [zero_length]; exact hs); rwa [zero_length] at this)
        simp only [Array.toArray_toList] at hmade
        have hrun' : (execOp a.eval o).run P w = .ok (.value (.slice (some ⟨w.heap.size, 0, none⟩) n.toNat n.toNat)) (w.alloc (.cells (madeCells (Tup.zero tg).toArray (n.toNat * tg.length)) e)) := by
          simp [execOp, hop, el, ec, hrun]
        rw [hrun']
        refine hK _ _ _ _ hm.2 (hmade.put o.dst ⟨by simp [St.push], ?_⟩) (fun _ => below_alloc _)
        rw [setρ_at]
        exact ⟨fun hv => by simp [gl_nil] at hv, fun _ => ⟨by simp [gl_nil], some ⟨w.heap.size, 0, none⟩, by simp [gl_nil], fun _ => by simp [RI.at, gl_nil]⟩⟩
      · exact hm.elim
    · exact hm.elim
  · -- makeMap
    rename_i t rv hop
    split at hm
    · rename_i kt et ht
      split at hm
      · rename_i k c hk hc
        simp only [lenC_eq, St.pushK_eq, St.putK_iff] at hm
        have hrun : (execOp a.eval o).run P w = .ok (.value (.map (some w.heap.size))) (w.alloc (.map #[] 0)) := by
          simp [execOp, hop, Instr.makeMap]
        rw [hrun]
        refine hK _ _ _ _ hm.2 ((h.newMap t k c).put o.dst ⟨by simp [St.push], ?_⟩) (fun _ => below_alloc _)
        rw [setρ_at]; rfl
      · exact hm.elim
    · exact hm.elim
  · -- range
    rename_i t x hop
    split at hm
    · rename_i k et ht hx
      obtain ⟨hu, _⟩ := hE.tyMap ht
      have hv : a.eval x = .map none := (ev_sound h hx).1
      simp only [lenC_eq, St.pushK_eq, St.putK_iff] at hm
      have hrun : (execOp a.eval o).run P w = .ok (.value (.pointer (some ⟨w.heap.size, 0, none⟩))) (w.alloc (.mapIter none 0 #[] 0)) := by
        simp [execOp, hop, Instr.range, hv, run_underlying hu]
      rw [hrun]
      refine hK _ _ _ _ hm.2 ((h.newIter (m := none) (n := 0) (fun r hr => by cases hr)).put o.dst ⟨by simp [St.push], ?_⟩) (fun _ => below_alloc _)
      rw [setρ_at]; rfl
    · rename_i k et m ht hx
      obtain ⟨hu, _⟩ := hE.tyMap ht
      obtain ⟨hlt, hv⟩ := ev_sound h hx
      split at hm
      · rename_i t2 k2 c2 es o2 hg
        simp only [cntC_eq, lenC_eq, St.pushK_eq, St.putK_iff] at hm
        obtain ⟨_, _, hmap⟩ := h.rs.blk m _ [] o2 (.map k2 c2 es) (getD_reg hg (by simp)) ⟨rfl, rfl, rfl⟩
        obtain ⟨ents, h1, h2, _⟩ := mapAt_get hmap
        have hrun : (execOp a.eval o).run P w = .ok (.value (.pointer (some ⟨w.heap.size, 0, none⟩))) (w.alloc (.mapIter (some (ρ m []).b) es.length #[] es.length)) := by
          rw [← h2]
          simp [execOp, hop, Instr.range, hv, run_underlying hu, getObj, Sem.run, h1]
        rw [hrun]
        refine hK _ _ _ _ hm.2 ((h.newIter (m := some m) (n := es.length) (fun r hr => by cases hr; exact hlt)).put o.dst ⟨by simp [St.push], ?_⟩) (fun _ => below_alloc _)
        rw [setρ_at]; rfl
      · exact hm.elim
    · exact hm.elim
  · -- next
    rename_i x isStr hop
    split at hm
    · rename_i r hx
      obtain ⟨hlt, hv⟩ := ev_sound h hx
      split at hm
      · rename_i n seen hg
        obtain ⟨_, _, _, h4⟩ := h.rs.blk r _ [] true (.it none n seen) (getD_reg hg (by simp)) ⟨rfl, rfl, rfl⟩
        rw [St.putK_iff] at hm
        have hrun : (execOp a.eval o).run P w = .ok (.value (.tuple #[.bool false])) w := by
          simp [execOp, hop, Instr.next, hv, getObj, Sem.run, h4]
        rw [hrun]
        exact hK _ _ _ _ hm.2 (h.put o.dst (x := .tup [.a .ff]) ⟨[.bool false], rfl, rfl, trivial⟩) (fun _ => Below.refl _ _)
      · rename_i m n seen hg
        split at hm
        · rename_i t k c es own hgm
          rw [oblige_iff] at hm
          obtain ⟨⟨hn, _⟩, hm1, hm2⟩ := hm
          simp only [Duty.of_p] at hn
          have hgr := getD_reg hg (by simp)
          obtain ⟨_, _, i3, i4⟩ := h.rs.blk r _ [] true (.it (some m) n seen) hgr ⟨rfl, rfl, rfl⟩
          obtain ⟨_, _, i6⟩ := h.rs.blk m _ [] own (.map k c es) (getD_reg hgm (by simp)) ⟨rfl, rfl, rfl⟩
          rcases run_next_mapAt (P := P) (ty := o.type) i6 i4 hn with ⟨hall, hrun0⟩ | ⟨j, hj, hns, w1, hw1, hrun0⟩
          · have hk := hm2 fun j hj => memN_true (hall j hj)
            rw [St.putK_iff] at hk
            have hrun : (execOp a.eval o).run P w = .ok (.value (.tuple #[.bool false])) w := by
              simp [execOp, hop, hv, hrun0]
            rw [hrun]
            exact hK _ _ _ _ hk.2 (h.put o.dst (x := .tup [.a .ff]) ⟨[.bool false], rfl, rfl, trivial⟩) (fun _ => Below.refl _ _)
          · have hk := hm1 j hj (memN_not hns)
            simp only [St.setRK_eq, St.putK_iff] at hk
            have h1 : Rel Γ M w0 ρ st vs a w1 := by
              rcases hw1 with rfl | rfl
              · exact h
              · exact h.later ((Below.refl _ _).drew)
            have hrun : (execOp a.eval o).run P w = .ok (.value (.tuple #[.bool true, .int k (es.getD j (0, c.d)).1, c.val (es.getD j (0, c.d)).2])) (w1.putObj (ρ r []).b (.mapIter (some (ρ m []).b) n (j :: seen).reverse.toArray n)) := by
              simp only [execOp, hop, hv, Sem.run_bind, hrun0, Result.andThen_ok, Sem.run_pure]
              rfl
            rw [hrun]
            exact hK _ _ _ _ hk.2 ((h1.nextIter (seen' := j :: seen) hgr).put o.dst (x := .tup [.a .tt, .a (.v (.int k (es.getD j (0, c.d)).1)), .a (c.pl (es.getD j (0, c.d)).2)]) ⟨[.bool true, .int k (es.getD j (0, c.d)).1, c.val (es.getD j (0, c.d)).2], rfl, rfl, ⟨rfl, rfl⟩, pl_ok, trivial⟩) (fun hns => by simp [notStore, hop] at hns)
        · exact hm.elim
      · exact hm.elim
    · exact hm.elim
  · -- mapUpdate
    rename_i t m n x hop
    obtain ⟨w', st', hrun, hrel, hk⟩ := mapSetK_sound hE h hm
    have hrun' : (execOp a.eval o).run P w = .ok .skip w' := by simp [execOp, hop, hrun]
    rw [hrun']
    exact hK _ _ _ _ hk (hrel.put o.dst (x := .a .un) (y := undef) rfl) (fun hns => by simp [notStore, hop] at hns)
  · -- insert
    rename_i t m n x hop
    obtain ⟨w', st', hrun, hrel, hk⟩ := mapSetK_sound hE h hm
    have hrun' : (execOp a.eval o).run P w = .ok .skip w' := by simp [execOp, hop, hrun]
    rw [hrun']
    exact hK _ _ _ _ hk (hrel.put o.dst (x := .a .un) (y := undef) rfl) (fun hns => by simp [notStore, hop] at hns)
  · -- append
    rename_i c hop
    split at hm
    · rename_i hcal
      split at hm
      · rename_i s x t t' hargs htys
        split at hm
        · rename_i sv xv ht hs hx
          obtain rfl := Nat.eq_of_beq_eq_true ht
          obtain ⟨v, w', st', ρ', y, hrun, hrel, hy, _, hk⟩ := appK1_sound (ty := o.type) hE h (ev_sound h hs) (ev_sound h hx) hm
          have e1 : c = { callee := .builtin .append, args := #[s, x], argTypes := #[t, t] } := by
            cases c with
            | mk callee args argTypes =>
              simp only at hcal hargs htys
              congr 1
              · exact Array.ext' (by simpa using hargs)
              · exact Array.ext' (by simpa using htys)
          subst e1
          have hrun' : (execOp a.eval o).run P w = .ok (.value v) w' := by
            simp [execOp, hop, resolve, invoke, builtin, hrun]
          rw [hrun']
          exact hK _ _ _ _ hk (hrel.put o.dst hy) (fun hns => by simp [notStore, hop] at hns)
        · exact hm.elim
      · exact hm.elim
    · exact hm.elim
  · exact hm.elim
end
end Go.Sy
end

section
/-
  The evaluator is sound: calls, lists of operations.
-/
namespace Go.Sy
open Go Go.RowKit
universe u

structure FnOk (P : Program) (f : FuncId) : Prop where
  h : ∃ fn, P.funcs[f]? = some fn ∧ (fn.name == "runtime.NumGoroutine") = false ∧ fn.body.isNone = false
structure BodyOk (P : Program) (f : FuncId) (b : Body) : Prop where
  h : ∃ fn, P.funcs[f]? = some fn ∧ (fn.name == "runtime.NumGoroutine") = false ∧ fn.body = some b.code ∧ fn.ntmps = b.n ∧ fn.results = b.rs.toArray
structure ProgOk (P : Program) (Γ : Glob) (E : Env) : Prop where
  mixed : P.follows .mixedOrders = true
  fn : ∀ f c, E.ct f = some c → FnOk P f
  inl : ∀ f b, E.inl f = some b → BodyOk P f b
  env : EnvOk P Γ E
theorem BodyOk.fn {P : Program} {f : FuncId} {b : Body} (h : BodyOk P f b) : FnOk P f := by
  obtain ⟨fn, h1, h2, h3, _⟩ := h.h
  exact ⟨fn, h1, h2, by rw [h3]; rfl⟩
/-- Bodies that are walked where they are called. -/
def ClOk (P : Program) (Γ : Glob) (E : Env) (cl : Cl) : Prop :=
  ∀ f b, E.inl f = some b → ∀ st args K, cl b args st K → ∀ (M : Nat → Prop) (w0 : World) (ρ : Keys) (vs : Fv) (a : Act) (w : World) (vals : List Value), Rel Γ M w0 ρ st vs a w → okL (Tm.ok st.rg.length ρ) args vals →
    Calls P f vals.toArray w fun e w' => ∃ v st' ρ' x, e = .returned v ∧ Rel Γ M w0 ρ' st' vs a w' ∧ Tm.ok st'.rg.length ρ' x v ∧ K x st'

section
variable {P : Program} {Γ : Glob} {E : Env} {cl : Cl} {M : Nat → Prop} {w0 : World} {ρ : Keys} {st : St} {vs : Fv} {a : Act} {w : World}

theorem evAll_sound (h : Rel Γ M w0 ρ st vs a w) : ∀ {os : List Operand} {l : List Tm}, evAll st os = some l → okL (Tm.ok st.rg.length ρ) l (os.map a.eval)
  | [], l, he => by simp only [evAll, Option.some.injEq] at he; subst he; trivial
  | o :: os, l, he => by
    simp only [evAll] at he
    split at he
    · rename_i x l' h1 h2
      simp only [Option.some.injEq] at he
      subst he
      exact ⟨ev_sound h h1, evAll_sound h h2⟩
    · cases he

theorem evCallee_sound (h : Rel Γ M w0 ρ st vs a w) {fo : Operand} {f : FuncId} {caps : List Tm} (he : evCallee st fo = some (f, caps)) :
    ∃ us : List Value, a.eval fo = .func (.func f) #[] us.toArray ∧ okL (Tm.ok st.rg.length ρ) caps us := by
  unfold evCallee at he
  split at he
  · rename_i f' l hx
    simp only [Option.some.injEq, Prod.mk.injEq] at he
    obtain ⟨rfl, rfl⟩ := he
    obtain ⟨h1, h2⟩ := ev_sound h hx
    refine ⟨_, h2, ?_⟩
    clear h2 hx
    induction l with
    | nil => trivial
    | cons r l ih => exact ⟨⟨h1 r (by simp), by simp⟩, ih fun r' hr' => h1 r' (by simp [hr'])⟩
  · cases he

/-- The run of a call of a Go function. -/
theorem run_call {f : FuncId} (hf : FnOk P f) {o : Oper} {c : Call} (ho : o.op = .call c) {fo : Operand} (hc : c.callee = .value fo) {us : List Value} (hv : a.eval fo = .func (.func f) #[] us.toArray) :
    (execOp a.eval o).run P w = .ok (.enter f ((c.args.toList.map a.eval) ++ us).toArray) w := by
  obtain ⟨fn, h1, h2, h3⟩ := hf.h
  have e : (c.args.map a.eval) ++ us.toArray = ((c.args.toList.map a.eval) ++ us).toArray := Array.ext' (by simp)
  cases c
  simp only at hc
  subst hc
  simp only [execOp, ho, resolve, hv, Deferred.ofValue]
  simp only [Sem.run_bind, Sem.run_pure, Result.andThen_ok, Array.empty_append, invoke]
  simp only at e
  rw [e]
  simp only [callFunc, Sem.run_bind, run_program, Result.andThen_ok, h1, h2, h3, Bool.false_eq_true, if_false, Sem.run_pure]

def St.chs (st : St) (ch : List (Nat × Reg)) : St := ⟨st.tm, st.fr, ch.foldl (fun rg c => rg.set c.1 c.2) st.rg⟩
theorem chK_eq (c : Bool) : ∀ (ch : List (Nat × Reg)) (st : St) (k : St → Prop), chK c st ch k = k (st.chs ch)
  | [], _, _ => rfl
  | (r, g) :: ch, st, k => by
    show St.setNK c st r g (fun st => chK c st ch k) = _
    rw [St.setNK_eq, chK_eq c ch]; rfl
theorem chs_length (ch : List (Nat × Reg)) : ∀ (rg : List Reg), (ch.foldl (fun rg c => rg.set c.1 c.2) rg).length = rg.length := by
  induction ch with
  | nil => intro rg; rfl
  | cons c ch ih => intro rg; rw [List.foldl_cons, ih, List.length_set]

/-- The state behind a call that made memory. -/
theorem Rel.called (h : Rel Γ M w0 ρ st vs a w) {w' : World} {ρ' : Keys} {ch : List (Nat × Reg)} {gs : List Reg}
    (hf : Frame (fun b => ∃ (r : Nat) (g : Reg) (π : Path) (B : Blk), st.rg[r]? = some g ∧ g.has π true B ∧ (ρ r π).void = false ∧ (ρ r π).b = b) w w') (hρ : ∀ r, r < st.rg.length → ∀ π, ρ' r π = ρ r π)
    (hr : Regs M w0 (st.rg.length + gs.length) ρ' (ch.foldl (fun rg c => rg.set c.1 c.2) st.rg ++ gs) w') : Rel Γ M w0 ρ' ((st.chs ch).push gs) vs a w' := by
  have hN : ((st.chs ch).push gs).rg.length = st.rg.length + gs.length := by simp [St.push, St.chs, chs_length]
  have keep : ∀ k, k < w0.heap.size → ¬ M k → k < w.heap.size → w'.heap[k]? = w.heap[k]? := fun k hk hm hkw => hf.block k hkw (by
    rintro ⟨r, g, π, B, h1, h2, h3, h4⟩
    have hown := h.rs.own r g π B h1 h2 h3
    have : M (ρ r π).b ∨ w0.heap.size ≤ (ρ r π).b := by cases B with | box => exact hown.own | map => exact hown.own | it => exact hown.own | lp => exact hown.own | arr => exact hown.1.own
    rw [h4] at this
    rcases this with h5 | h5
    · exact hm h5
    · omega)
  refine ⟨?_, ?_, h.df, ?_, ?_, Γ.st _ _ h.gl fun b hb => ?_, h.gn⟩
  · rw [hN]; exact h.tm.mono (Nat.le_add_right _ _) hρ
  · rw [hN]; exact h.fr.mono fun s v hs => hs.mono (Nat.le_add_right _ _) hρ
  · rw [hN]; exact hr
  · exact ⟨hf.os.trans h.bl.os, hf.tape.trans h.bl.tape, hf.output.trans h.bl.output, Nat.le_trans h.bl.size hf.size, fun k hk hm => (keep k hk hm (Nat.lt_of_lt_of_le hk h.bl.size)).trans (h.bl.block k hk hm)⟩
  · have := h.gn b hb
    exact keep b this.2 this.1 (Nat.lt_of_lt_of_le this.2 h.bl.size)

theorem splitIx_at {d : Option Nat} {m : Nat} {i : Int} {K : St → Prop} : ∀ {n : Nat} {l : List At} {k : Nat}, splitIx st d m i K n l k → ∀ j, j < n → i = ((k + j : Nat) : Int) → st.putK d (match (l.drop (j * m)).take m with | [x] => .a x | l => .agg l) K
  | 0, _, _, _, j, hj, _ => by omega
  | n + 1, l, k, h, j, hj, hi => by
    obtain ⟨h1, h2⟩ : (i = (k : Int) → st.putK d (match l.take m with | [x] => .a x | l => .agg l) K) ∧ splitIx st d m i K n (l.drop m) (k + 1) := h
    cases j with
    | zero => rw [Nat.zero_mul, List.drop_zero]; exact h1 (by simpa using hi)
    | succ j =>
      have := splitIx_at h2 j (by omega) (by rw [hi]; congr 1; omega)
      rw [List.drop_drop] at this
      rwa [show m + j * m = (j + 1) * m by rw [Nat.add_mul]; omega] at this
end
end Go.Sy
end

section
/-
  The evaluator is sound: one operation; lists of operations; regions that draw their order.
-/
namespace Go.Sy
open Go Go.RowKit
universe u
section
variable {P : Program} {Γ : Glob} {E : Env} {cl : Cl} {M : Nat → Prop} {w0 : World} {ρ : Keys} {st : St} {vs : Fv} {a : Act} {w : World}

theorem plain_size (hE : EnvOk P Γ E) {e : TypeId} (h1 : ∀ fs n, E.ty e ≠ .st fs n) (h2 : ∀ a b c, E.ty e ≠ .ar a b c) (h3 : E.ty e ≠ .other) : (∃ d, P.underlying e = some d ∧ plainD d = true) ∧ (P.info? e).map (·.size) = some 1 := by
  have hty := hE.ty e
  cases htt : E.ty e with
  | st fs n => exact absurd htt (h1 fs n)
  | ar a b c => exact absurd htt (h2 a b c)
  | other => exact absurd htt h3
  | int k => rw [htt] at hty; exact ⟨⟨_, hty.1, rfl⟩, hty.2⟩
  | bool => rw [htt] at hty; exact ⟨⟨_, hty.1, rfl⟩, hty.2⟩
  | str => rw [htt] at hty; exact ⟨⟨_, hty.1, rfl⟩, hty.2⟩
  | sl e m => rw [htt] at hty; exact ⟨⟨_, hty.1, rfl⟩, hty.2.2⟩
  | map k e => rw [htt] at hty; exact ⟨⟨_, hty.1, rfl⟩, hty.2⟩
  | word => rw [htt] at hty; exact hty

/-- An element of an array value that is one cell. -/
theorem run_index_one {t e : TypeId} {n : Nat} (hu : P.underlying t = some (.array n e)) (hs : (P.info? e).map (·.size) = some 1) {d : TypeDesc} (hue : P.underlying e = some d) (hd : plainD d = true) {ys : List Value} {k : IntKind} {i : Int} (hi : 0 ≤ i ∧ i < n) {y : Value} (hy : ys[i.toNat]? = some y) :
    (Instr.index t (.agg ys.toArray) (.int k i)).run P w = .ok y w := by
  have hlt := (List.getElem?_eq_some_iff.1 hy).1
  have hg := (List.getElem?_eq_some_iff.1 hy).2
  cases d <;> first
    | (simp [plainD] at hd; done)
    | simp [Instr.index, run_underlying hu, asIntOf, run_size hs, hi, part, isAgg, run_underlying hue, hy]

/-- One operation. -/
theorem evOp_soundB (hP : ProgOk P Γ E) (hC : ClOk P Γ E cl) (h : Rel Γ M w0 ρ st vs a w) {o : Oper} {K : St → Prop} (he : evOp E cl st o K) {next : Act → World → Prop} {Q : Exit → Act → World → Prop}
    (hK : ∀ st' a' w' ρ', K st' → Rel Γ M w0 ρ' st' vs a' w' → (keeps E o = true → Below w.heap.size w w') → next a' w') : o.wp P a w next Q := by
  unfold evOp at he
  split at he
  · -- a call
    rename_i c hco
    have hop : o.op = .call c ∧ ∃ fo, c.callee = .value fo := by
      unfold callOf at hco
      split at hco
      · rename_i c' hop
        split at hco
        · rename_i fo hcal
          simp only [Option.some.injEq] at hco
          subst hco
          exact ⟨hop, fo, hcal⟩
        · cases hco
      · cases hco
    obtain ⟨hop, fo, hcal⟩ := hop
    unfold Oper.wp
    unfold evCall at he
    rw [hcal] at he
    simp only at he
    split at he
    · rename_i f caps args hcl hargs
      obtain ⟨us, hv, hcaps⟩ := evCallee_sound h hcl
      have hall := (evAll_sound h hargs).append hcaps
      have hlo : w0.heap.size ≤ w.heap.size := h.bl.size
      have hgn : ∀ b, b < Γ.n → b < w.heap.size := fun b hb => Nat.lt_of_lt_of_le (h.gn b hb).2 hlo
      split at he
      · rename_i F hF
        split at he
        · rename_i q t hFt
          rw [oblige_iff, St.putN_iff] at he
          have hct : Ctr.Ok P Γ f (.fn F) := hP.env.ct f _ hF
          rw [run_call (hP.fn f _ hF) hop hcal hv]
          refine (hct _ _ _ _ hFt he.1 M w0 ρ w _ hlo hgn h.gl hall h.rs).mono ?_
          rintro e w' ⟨v, rfl, ht, hb⟩
          exact hK _ _ _ _ he.2.2 ((h.later hb).put o.dst ht) (fun _ => hb)
        · exact he.elim
      · rename_i C hF
        have hct : Ctr.Ok P Γ f (.new C) := hP.env.ct f _ hF
        rw [run_call (hP.fn f _ hF) hop hcal hv]
        refine (hct _ _ _ he M w0 ρ w _ hlo h.gn h.gl hall h.rs).mono ?_
        rintro e w' ⟨v, res, ρ', rfl, hk, hb, hρ, ht, hr⟩
        simp only [Res.intoK, lenK_eq, St.pushK_eq, St.putK_iff] at hk
        have hh := h.grow hb hρ hr
        exact hK _ _ _ _ hk.2 (hh.put o.dst (by simpa [St.push] using ht)) (fun _ => hb)
      · rename_i C hF
        have hct : Ctr.Ok P Γ f (.rel C) := hP.env.ct f _ hF
        rw [run_call (hP.fn f _ hF) hop hcal hv]
        refine (hct _ _ _ he M w0 ρ w _ hlo h.gn h.gl hall h.rs).mono ?_
        rintro e w' ⟨v, ch, res, ρ', rfl, hk, hf, hρ, _, ht, hr⟩
        simp only [chK_eq, Res.intoK, lenK_eq, St.pushK_eq, St.putK_iff] at hk
        have hh := h.called hf hρ hr
        have hl : (st.chs ch).rg.length = st.rg.length := chs_length ch st.rg
        rw [hl] at hk
        refine hK _ _ _ _ hk.2 (hh.put o.dst (by simpa [St.push, hl] using ht)) (fun hke => ?_)
        unfold keeps at hke
        rw [hop] at hke
        simp only [hcal] at hke
        split at hke
        · rename_i g hg
          have : f = g := by
            injection hg with hg
            subst hg
            simp only [evCallee, ev, Option.some.injEq, Prod.mk.injEq] at hcl
            exact hcl.1.symm
          subst this
          rw [hF] at hke
          cases hke
        · cases hke
        · rename_i hn1 hn2; exact absurd rfl (hn2 _)
      · rename_i hF
        split at he
        · rename_i b hb
          rw [run_call (hP.inl f b hb).fn hop hcal hv]
          refine (hC f b hb _ _ _ he M w0 ρ vs a w _ h hall).mono ?_
          rintro e w' ⟨v, st', ρ', x, rfl, hr, hx, hk⟩
          rw [St.putK_iff] at hk
          refine hK _ _ _ _ hk.2 (hr.put o.dst hx) (fun hke => ?_)
          unfold keeps at hke
          rw [hop] at hke
          simp only [hcal] at hke
          split at hke
          · rename_i g hg
            have : f = g := by
              injection hg with hg
              subst hg
              simp only [evCallee, ev, Option.some.injEq, Prod.mk.injEq] at hcl
              exact hcl.1.symm
            subst this
            rw [hF] at hke
            cases hke
          · cases hke
          · rename_i hn1 hn2; exact absurd rfl (hn2 _)
        · exact he.elim
    · exact he.elim
  · rename_i hco
    have hkeep : keeps E o = notStore o := by
      unfold keeps
      split
      · rename_i c hop
        unfold callOf at hco
        rw [hop] at hco
        simp only at hco
        split at hco
        · cases hco
        · rename_i hno
          split
          · rename_i g hg; exact absurd hg (hno _)
          · rename_i x _ hg; exact absurd hg (hno _)
          · rfl
      · rfl
    split at he
    · rename_i q x hp
      rw [oblige_iff, St.putN_iff] at he
      obtain ⟨y, hr, hy⟩ := evP_sound hP.env h hp he.1
      unfold Oper.wp
      rw [hr]
      exact hK _ _ _ _ he.2.2 (h.put o.dst hy) (fun _ => Below.refl _ _)
    · split at he
      · rename_i t x ix hop
        split at he
        · rename_i e m n l k i ht hx hix
          rw [oblige_iff] at he
          obtain ⟨⟨hin, _⟩, he⟩ := he
          simp only [Duty.of_p] at hin
          obtain ⟨hu, hm, _⟩ := hP.env.tyAr ht
          obtain ⟨ys, hv, hl⟩ := ev_sound h hx
          have hvi : a.eval ix = .int k i := (ev_sound h hix).1
          have fin : ∀ {T : Ty}, E.ty e = T → (∀ fs n, T ≠ .st fs n) → (∀ a b c, T ≠ .ar a b c) → T ≠ .other → lenIs l (n * m) = true → splitIx st o.dst m i K n l 0 → o.wp P a w next Q := by
            intro T hT n1 n2 n3 hlen hsp
            obtain ⟨⟨d, hd1, hd2⟩, hs1⟩ := plain_size hP.env (e := e) (fun fs n => hT ▸ n1 fs n) (fun a b c => hT ▸ n2 a b c) (hT ▸ n3)
            obtain rfl : m = 1 := by rw [hm] at hs1; exact Option.some.inj hs1
            have hlen' := lenIs_length hlen
            rw [Nat.mul_one] at hlen'
            have hsp' := splitIx_at hsp i.toNat (by omega) (by omega)
            rw [Nat.mul_one] at hsp'
            have hlt : i.toNat < l.length := by omega
            obtain ⟨y, hy, hxy⟩ := hl.get i.toNat l[i.toNat] (by simp [hlt])
            have e1 : (l.drop i.toNat).take 1 = [l[i.toNat]] := by
              rw [List.drop_eq_getElem_cons hlt]; rfl
            rw [e1] at hsp'
            simp only [St.putK_iff] at hsp'
            unfold Oper.wp
            have hrun : (execOp a.eval o).run P w = .ok (.value y) w := by
              simp only [execOp, hop, hv, hvi, Sem.run_bind, run_index_one hu hm hd1 hd2 hin hy, Result.andThen_ok, Sem.run_pure]
            rw [hrun]
            exact hK _ _ _ _ hsp'.2 (h.put o.dst hxy) (fun _ => Below.refl _ _)
          split at he
          · exact he.elim
          · exact he.elim
          · exact he.elim
          · rename_i hlen n1 n2 n3
            exact fin rfl (fun fs n => n1 fs n) (fun a b c => n2 a b c) n3 hlen he
          · exact he.elim
        · exact he.elim
      · exact evM_sound hP.env h he fun st' a' w' ρ' hk hr hb => hK st' a' w' ρ' hk hr (fun hke => hb (hkeep ▸ hke))

theorem evOp_sound (hP : ProgOk P Γ E) (hC : ClOk P Γ E cl) (h : Rel Γ M w0 ρ st vs a w) {o : Oper} {K : St → Prop} (he : evOp E cl st o K) {next : Act → World → Prop} {Q : Exit → Act → World → Prop}
    (hK : ∀ st' a' w' ρ', K st' → Rel Γ M w0 ρ' st' vs a' w' → next a' w') : o.wp P a w next Q :=
  evOp_soundB hP hC h he fun st' a' w' ρ' hk hr _ => hK st' a' w' ρ' hk hr
end
end Go.Sy
end

section
/-
  The evaluator is sound: guards, lists of operations, regions that draw their order.
-/
namespace Go.Sy
open Go Go.RowKit
universe u
section
variable {P : Program} {Γ : Glob} {E : Env} {cl : Cl} {M : Nat → Prop} {w0 : World} {ρ : Keys} {st : St} {vs : Fv} {a : Act} {w : World}

/-- One more thing known of a slot. -/
theorem Rel.reput (h : Rel Γ M w0 ρ st vs a w) {d : Nat} {x : Tm} (hx : x.ok st.rg.length ρ (a.tmps.getD d undef)) : Rel Γ M w0 ρ (st.put (some d) x) vs a w := by
  have e : a.tmps.setIfInBounds d (a.tmps.getD d undef) = a.tmps := by
    apply Array.ext (by simp)
    intro i h1 h2
    rw [Array.getElem_setIfInBounds (by simpa using h2)]
    split
    · rename_i hi; subst hi; simp [Array.getD, h2]
    · rfl
  have := h.tm.put d hx
  rw [e] at this
  exact ⟨this, h.fr, h.df, h.rs, h.bl, h.gl, h.gn⟩
theorem getD_ok (h : Rel Γ M w0 ρ st vs a w) (t : Nat) : (st.tm.get t).ok st.rg.length ρ (a.tmps.getD t undef) := h.tm.h t

theorem yielded_of {ops : Array Oper} {j d : Nat} (hd : (ops[j]?).bind (·.dst) = some d) {b : Bool} (hb : a.tmps.getD d undef = .bool b) : yielded ops a.tmps j = some b := by
  unfold yielded
  rw [hd]
  cases hh : a.tmps[d]? with
  | none => simp [Array.getD_eq_getD_getElem?, hh, undef] at hb
  | some y =>
    have : y = .bool b := by simpa [Array.getD_eq_getD_getElem?, hh] using hb
    subst this
    simp [hh]
theorem yielded_un {ops : Array Oper} {j d : Nat} (hd : (ops[j]?).bind (·.dst) = some d) (hb : a.tmps.getD d undef = undef) : yielded ops a.tmps j = none := by
  unfold yielded
  rw [hd]
  cases hh : a.tmps[d]? with
  | none => simp [hh]
  | some y =>
    have : y = undef := by simpa [Array.getD_eq_getD_getElem?, hh] using hb
    subst this
    simp [hh, undef]

theorem evGuard_sound (h : Rel Γ M w0 ρ st vs a w) {ops : Array Oper} {o : Oper} {yes no : St → Prop} {cc : Bool} (he : evGuard cc st ops o.guard yes no) :
    (∃ st', yes st' ∧ Rel Γ M w0 ρ st' vs a w ∧ Region.wanted o (yielded ops a.tmps) = true) ∨ (∃ st', no st' ∧ Rel Γ M w0 ρ st' vs a w ∧ Region.wanted o (yielded ops a.tmps) = false) := by
  unfold evGuard at he
  unfold Region.wanted
  split at he
  · rename_i hg; exact .inl ⟨st, he, h, by simp [hg]⟩
  · rename_i j want hg
    simp only [hg]
    split at he
    · exact he.elim
    · rename_i d hd
      have hok := getD_ok h d
      split at he
      · rename_i ht
        rw [ht] at hok
        rw [yielded_un hd hok]
        exact .inr ⟨st, he, h, by simp⟩
      · rename_i ht
        rw [ht] at hok
        rw [yielded_of hd hok]
        cases want with
        | true => exact .inl ⟨st, he, h, by simp⟩
        | false => exact .inr ⟨st, he, h, by simp⟩
      · rename_i ht
        rw [ht] at hok
        rw [yielded_of hd hok]
        cases want with
        | true => exact .inr ⟨st, he, h, by simp⟩
        | false => exact .inl ⟨st, he, h, by simp⟩
      · rename_i b ht
        rw [ht] at hok
        have hok : a.tmps.getD d undef = .bool b := hok.1
        rw [yielded_of hd hok]
        have htt : b = true → Rel Γ M w0 ρ (st.put (some d) (.a .tt)) vs a w := fun hb => h.reput (by rw [hok, hb]; rfl)
        have hff : b = false → Rel Γ M w0 ρ (st.put (some d) (.a .ff)) vs a w := fun hb => h.reput (by rw [hok, hb]; rfl)
        split at he
        · cases b <;> cases want <;> simp only [St.putK_iff] at he
          · exact .inl ⟨_, he.2, hff rfl, by simp⟩
          · exact .inr ⟨_, he.2, hff rfl, by simp⟩
          · exact .inr ⟨_, he.2, htt rfl, by simp⟩
          · exact .inl ⟨_, he.2, htt rfl, by simp⟩
        cases want with
        | true =>
          simp only [St.putK_iff] at he
          cases b with
          | true => exact .inl ⟨_, (he.1 rfl).2, htt rfl, by simp⟩
          | false => exact .inr ⟨_, (he.2 rfl).2, hff rfl, by simp⟩
        | false =>
          simp only [St.putK_iff] at he
          cases b with
          | true => exact .inr ⟨_, (he.1 rfl).2, htt rfl, by simp⟩
          | false => exact .inl ⟨_, (he.2 rfl).2, hff rfl, by simp⟩
      · exact he.elim

theorem evOps_sound (hP : ProgOk P Γ E) (hC : ClOk P Γ E cl) {ops : Array Oper} {K : St → Prop} {Q : Exit → Act → World → Prop} (hK : ∀ st' a' w' ρ', K st' → Rel Γ M w0 ρ' st' vs a' w' → Q .normal a' w') :
    ∀ (l : List Oper) (st : St) (a : Act) (w : World) (ρ : Keys), evOps E cl ops l st K → Rel Γ M w0 ρ st vs a w → wpList P ops Q l a w
  | [], st, a, w, ρ, he, h => hK _ _ _ _ he h
  | o :: rest, st, a, w, ρ, he, h => by
    change evGuard E.conc st ops o.guard (fun st => evOp E cl st o (fun st => evOps E cl ops rest st K)) (fun st => st.putK o.dst (.a .un) (fun st => evOps E cl ops rest st K)) at he
    unfold wpList
    rcases evGuard_sound h he with ⟨st', hy, h', hw⟩ | ⟨st', hn, h', hw⟩
    · rw [if_pos hw]
      exact .inl (evOp_sound hP hC h' hy fun st2 a2 w2 ρ2 hk hr => evOps_sound hP hC hK rest st2 a2 w2 ρ2 hk hr)
    · rw [if_neg (by rw [hw]; simp)]
      simp only [St.putK_iff] at hn
      exact evOps_sound hP hC hK rest _ _ _ _ hn.2 (h'.put o.dst (x := .a .un) (y := undef) rfl)

theorem At.fun {N : Nat} {x : At} {y y' : Value} (hs : x.sure = true) (h : x.ok N ρ y) (h' : x.ok N ρ y') : y = y' := by
  cases x <;> first | (simp [At.sure] at hs; done) | exact h.trans h'.symm | exact h.1.trans h'.1.symm | exact h.2.trans h'.2.symm | exact h.2.2.trans h'.2.2.symm
theorem okL_fun {α : Type} {R : α → Value → Prop} {f : α → Bool} (hf : ∀ x y y', f x = true → R x y → R x y' → y = y') : ∀ {l : List α} {ys ys' : List Value}, allL f l = true → okL R l ys → okL R l ys' → ys = ys'
  | [], [], [], _, _, _ => rfl
  | x :: l, y :: ys, y' :: ys', hs, h, h' => by
    simp only [allL] at hs
    split at hs
    · rename_i hx
      rw [hf x y y' hx h.1 h'.1, okL_fun hf hs h.2 h'.2]
    · cases hs
theorem C1.fun {N : Nat} {x : C1} {y y' : Value} (hs : x.sure = true) (h : x.ok N ρ y) (h' : x.ok N ρ y') : y = y' := by
  cases x with
  | a x => exact At.fun hs h h'
  | agg l =>
    obtain ⟨ys, rfl, h⟩ := h
    obtain ⟨ys', rfl, h'⟩ := h'
    rw [okL_fun (fun _ _ _ => At.fun) hs h h']
theorem Tm.fun {N : Nat} {x : Tm} {y y' : Value} (hs : x.sure = true) (h : x.ok N ρ y) (h' : x.ok N ρ y') : y = y' := by
  cases x with
  | a x => exact At.fun hs h h'
  | agg l =>
    obtain ⟨ys, rfl, h⟩ := h
    obtain ⟨ys', rfl, h'⟩ := h'
    rw [okL_fun (fun _ _ _ => At.fun) hs h h']
  | tup l =>
    obtain ⟨ys, rfl, h⟩ := h
    obtain ⟨ys', rfl, h'⟩ := h'
    rw [okL_fun (fun _ _ _ => C1.fun) hs h h']


/-- What an operation yields that reads alone, in every later world. -/
theorem evP_later (hE : EnvOk P Γ E) (h : Rel Γ M w0 ρ st vs a w) {o : Oper} {q : List Duty} {x : Tm} (he : evP E st o = some (q, x)) (hq : obl q) (hc : calm o x = true) :
    ∃ y, (∀ w1, Below w.heap.size w w1 → (execOp a.eval o).run P w1 = .ok (.value y) w1) ∧ x.ok st.rg.length ρ y := by
  obtain ⟨y, hr, hy⟩ := evP_sound hE h he hq
  unfold calm at hc
  split at hc
  · rename_i hro
    unfold readOp at hro
    split at hro
    · rename_i u hop
      refine ⟨y, fun w1 _ => ?_, hy⟩
      simp only [execOp, hop, Sem.run_pure, Result.ok.injEq] at hr ⊢
      exact ⟨hr.1, trivial⟩
    · rename_i u hop
      refine ⟨y, fun w1 _ => ?_, hy⟩
      simp only [execOp, hop, Sem.run_pure, Result.ok.injEq] at hr ⊢
      exact ⟨hr.1, trivial⟩
    · rename_i t ad hop
      simp only [evP, hop] at he
      split at he
      · rename_i hx
        obtain ⟨y, h1, h2⟩ := evLoad_sound hE h (ev_sound h hx) he hq
        exact ⟨y, fun w1 hw => by simp [execOp, hop, h1 w1 hw], h2⟩
      · cases he
    · rename_i t i hop
      refine ⟨y, fun w1 _ => ?_, hy⟩
      have : (Instr.extract (a.eval t) i).run P w = .ok y w := by
        simp only [execOp, hop] at hr
        cases hh : (Instr.extract (a.eval t) i).run P w with
        | ok v w' => rw [Sem.run_bind, hh] at hr; simp at hr; rw [hr.1, hr.2]
        | halt e w' => rw [Sem.run_bind, hh] at hr; cases hr
      have : (Instr.extract (a.eval t) i).run P w1 = .ok y w1 := by
        unfold Instr.extract at this ⊢
        split at this <;> (try split at this) <;> simp_all
      simp [execOp, hop, this]
    · rename_i t u lo hi hop
      simp only [evP, hop] at he
      split at he
      · rename_i hx
        obtain ⟨y, h1, h2⟩ := evSlice_sound hE h (ev_sound h hx) he hq
        exact ⟨y, fun w1 _ => by simp [execOp, hop, h1 w1], h2⟩
      · cases he
    · cases hro
  · exact ⟨y, fun w1 hw => by
      obtain ⟨y', hr', hy'⟩ := evP_sound hE (h.later hw) he hq
      rw [hr', Tm.fun hc hy' hy], hy⟩

/-- A quiet operation yields one value in every later world. -/
theorem evQ1_soundG (hP : ProgOk P Γ E) {w1 : World} (h : Rel Γ M w0 ρ st vs a w1) {o : Oper} {q : List Duty} {x : Tm} (he : evQ1 E st o = some (q, x)) (hq : obl q) (hs : calm o x = true) :
    ∃ v, x.ok st.rg.length ρ v ∧ ∀ w, Below w1.heap.size w1 w → o.quietAt P a (fun w' => Below w.heap.size w w') w v := by
  unfold evQ1 at he
  split at he
  · rename_i c hco
    have hop : o.op = .call c := by
      unfold callOf at hco
      split at hco
      · rename_i c' hop
        split at hco
        · simp only [Option.some.injEq] at hco; subst hco; exact hop
        · cases hco
      · cases hco
    have hs : x.sure = true := by
      unfold calm readOp at hs
      rw [hop] at hs
      exact hs
    split at he
    · rename_i fo hcal
      split at he
      · rename_i f caps args hcl hargs
        obtain ⟨us, hv, hcaps⟩ := evCallee_sound h hcl
        have hall := (evAll_sound h hargs).append hcaps
        split at he
        · rename_i F hF
          have hct : Ctr.Ok P Γ f (.fn F) := hP.env.ct f _ hF
          have call : ∀ w, Below w1.heap.size w1 w → Calls P f ((c.args.toList.map a.eval) ++ us).toArray w fun e w' => ∃ v, e = .returned v ∧ x.ok st.rg.length ρ v ∧ Below w.heap.size w w' := fun w hw =>
            hct _ _ _ _ he hq M w0 ρ w _ (h.later hw).bl.size (fun b hb => Nat.lt_of_lt_of_le (h.gn b hb).2 (h.later hw).bl.size) (h.later hw).gl hall (h.later hw).rs
          obtain ⟨e, w', fr, ⟨v, _, hxv, _⟩, _⟩ := call w1 (Below.refl _ _) []
          refine ⟨v, hxv, fun w hw => ?_⟩
          unfold Oper.quietAt
          rw [run_call (hP.fn f _ hF) hop hcal hv]
          refine ⟨rfl, (call w hw).mono ?_⟩
          rintro e w' ⟨v', rfl, hv', hb⟩
          exact ⟨by rw [Tm.fun hs hv' hxv], hb⟩
        · cases he
      · cases he
    · cases he
  · obtain ⟨y, hr, hy⟩ := evP_later hP.env h he hq hs
    refine ⟨y, hy, fun w hw => ?_⟩
    unfold Oper.quietAt
    rw [hr w hw]
    exact ⟨rfl, rfl⟩

theorem quietAt_mono {o : Oper} {a : Act} {C C' : World → Prop} {w : World} {v : Value} (hc : ∀ w', C w' → C' w') (h : o.quietAt P a C w v) : o.quietAt P a C' w v := by
  unfold Oper.quietAt at *
  generalize (execOp a.eval o).run P w = r at *
  cases r with
  | ok n w' =>
    cases n <;> simp only [Oper.quietUpon] at h ⊢ <;> try exact h
    exact ⟨h.1, h.2.mono fun e w'' ⟨he, hw⟩ => ⟨he, hc _ hw⟩⟩
  | halt x w' => exact h
theorem evQ1_sound (hP : ProgOk P Γ E) {w1 : World} (h : Rel Γ M w0 ρ st vs a w1) {o : Oper} {q : List Duty} {x : Tm} (he : evQ1 E st o = some (q, x)) (hq : obl q) (hs : calm o x = true) :
    ∃ v, x.ok st.rg.length ρ v ∧ ∀ w, Below w1.heap.size w1 w → o.quietAt P a (fun w' => Below w1.heap.size w1 w') w v := by
  obtain ⟨v, h1, h2⟩ := evQ1_soundG hP h he hq hs
  exact ⟨v, h1, fun w hw => quietAt_mono (fun w' hb => hw.trans (hb.mono hw.size)) (h2 w hw)⟩

theorem evQ_sound (hP : ProgOk P Γ E) {w1 : World} {ops : Array Oper} {K : St → Prop} {Qf : Act → Prop} (hK : ∀ st' a', K st' → Rel Γ M w0 ρ st' vs a' w1 → Qf a') :
    ∀ (l : List Oper) (st : St) (a : Act), evQ E ops l st K → Rel Γ M w0 ρ st vs a w1 → wpQuiet P ops (fun w' => Below w1.heap.size w1 w') Qf l a
  | [], st, a, he, h => hK _ _ he h
  | o :: rest, st, a, he, h => by
    change evGuard E.conc st ops o.guard
      (fun st => match evQ1 E st o with
        | some (q, x) => oblige E.conc q (match calm o x with | true => st.putN E o x (fun st => evQ E ops rest st K) | false => False)
        | none => False)
      (fun st => st.putK o.dst (.a .un) (fun st => evQ E ops rest st K)) at he
    unfold wpQuiet
    rcases evGuard_sound h he with ⟨st', hy, h', hw⟩ | ⟨st', hn, h', hw⟩
    · rw [if_pos hw]
      split at hy
      · rename_i q x hp
        rw [oblige_iff] at hy
        obtain ⟨hq, hy⟩ := hy
        split at hy
        · rename_i hs
          rw [St.putN_iff] at hy
          obtain ⟨v, hv, hall⟩ := evQ1_sound hP h' hp hq hs
          exact ⟨v, hall, evQ_sound hP hK rest _ _ hy.2 (h'.put o.dst hv)⟩
        · exact hy.elim
      · exact hy.elim
    · rw [if_neg (by rw [hw]; simp)]
      simp only [St.putK_iff] at hn
      exact evQ_sound hP hK rest _ _ hn.2 (h'.put o.dst (x := .a .un) (y := undef) rfl)


/-- In every world of the class the operation leaves v, and keeps what lies there. -/
def YieldsG (P : Program) (ops : Array Oper) (S : World → Prop) (o : Oper) (v : Value) (a : Act) : Prop :=
  (Region.wanted o (yielded ops a.tmps) = true ∧ ∀ w, S w → o.quietAt P a (fun w' => Below w.heap.size w w') w v) ∨
  (Region.wanted o (yielded ops a.tmps) = false ∧ v = undef)

theorem YieldsG.of_same {ops : Array Oper} {S : World → Prop} {o : Oper} {v : Value} {a a' : Act} (hy : YieldsG P ops S o v a) (he : execOp a'.eval o = execOp a.eval o)
    (hw : Region.wanted o (yielded ops a'.tmps) = Region.wanted o (yielded ops a.tmps)) : YieldsG P ops S o v a' := by
  unfold YieldsG Oper.quietAt at *
  rw [he, hw]
  exact hy
theorem YieldsG.sub {ops : Array Oper} {S S' : World → Prop} {o : Oper} {v : Value} {a : Act} (hs : ∀ w, S' w → S w) (hy : YieldsG P ops S o v a) : YieldsG P ops S' o v a :=
  hy.imp (fun ⟨h1, h2⟩ => ⟨h1, fun w hw => h2 w (hs w hw)⟩) id

def Shut (S : World → Prop) : Prop := ∀ w w', S w → Below w.heap.size w w' → S w'
theorem Shut.below (w : World) : Shut (fun w' => Below w.heap.size w w') := fun _ _ h h' => h.trans (h'.mono h.size)

theorem YieldsG.wpOp {ops : Array Oper} {S : World → Prop} {i : Nat} {o : Oper} {v : Value} {Q : Exit → Act → World → Prop} (hi : ops[i]? = some o) (hS : Shut S) (hy : YieldsG P ops S o v a) {K : Act → World → Prop}
    (h : ∀ w', S w' → K (a.put o.dst v) w') {w : World} (hw : S w) : wpOp P ops Q i K a w := by
  unfold Go.wpOp
  simp only [hi]
  rcases hy with ⟨hw', hv⟩ | ⟨hw', rfl⟩
  · simp only [hw', if_true]
    refine .inl ?_
    have h3 := hv w hw
    unfold Oper.quietAt at h3
    unfold Oper.wp
    generalize (execOp a.eval o).run P w = r at *
    cases r with
    | ok n w' =>
      cases n <;> simp only [Oper.quietUpon] at h3 <;> simp only [Oper.upon]
      case value u => obtain ⟨e1, e2⟩ := h3; rw [e1, e2]; exact h _ hw
      case skip => obtain ⟨e1, e2⟩ := h3; rw [e1, ← e2]; exact h _ hw
      case enter f args =>
        obtain ⟨e1, hc⟩ := h3
        rw [e1]
        exact hc.mono fun e w'' ⟨he, hw''⟩ => by subst he; exact h _ (hS _ _ hw hw'')
    | halt x w' => simp only [Oper.quietUpon] at h3
  · simp only [hw', Bool.false_eq_true, if_false]; exact h _ hw

theorem wpOp_putG {ops : Array Oper} {S : World → Prop} {j : Nat} {oi oj : Oper} {v : Value} {Q : Exit → Act → World → Prop} (hj : ops[j]? = some oj) (hap : oi.apart ops oj = true)
    (hsi : ∀ cs b, oi.op ≠ .select cs b) (hsj : ∀ cs b, oj.op ≠ .select cs b) (hQ : ∀ c a w, ¬ Q (.panic c) a w) {K : Act → World → Prop} {a : Act} {w : World}
    (hy : YieldsG P ops S oi v a) (h : wpOp P ops Q j K (a.put oi.dst v) w) : wpOp P ops Q j (fun a' w' => YieldsG P ops S oi v a' ∧ K (a'.put oi.dst v) w') a w := by
  obtain ⟨h1, h2, h3⟩ := Oper.apart_spec hap
  have keep : ∀ (a : Act), YieldsG P ops S oi v a → ∀ u, YieldsG P ops S oi v (a.put oj.dst u) := fun a hy u =>
    hy.of_same (execOp_put oi hsi a oj.dst u h3) (wanted_put oi a oj.dst u h3)
  unfold wpOp at *
  simp only [hj] at *
  rw [wanted_put oj a oi.dst v h1] at h
  split
  · rename_i hw
    simp only [hw, if_true] at h
    rcases h with h | ⟨hasks, hlets⟩
    case inr => exact .inr ⟨by unfold Oper.asks at *; rw [execOp_put oj hsj a oi.dst v h1] at hasks; exact hasks, hlets⟩
    refine .inl ?_
    unfold Oper.wp at *
    rw [execOp_put oj hsj a oi.dst v h1] at h
    generalize (execOp a.eval oj).run P w = r at *
    cases r with
    | ok n w' =>
      cases n <;> simp only [Oper.upon] at h ⊢
      case value u => exact ⟨keep a hy u, by rw [← Act.put_comm a v u h2]; exact h⟩
      case skip => exact ⟨keep a hy _, by rw [← Act.put_comm a v undef h2]; exact h⟩
      case defer d =>
        refine ⟨keep { a with defers := d :: a.defers } (hy.of_same rfl rfl) _, ?_⟩
        rw [← Act.put_comm _ v undef h2, ← Act.put_defers]
        exact h
      case enter f args =>
        refine Calls.mono h fun e w'' he => ?_
        cases e with
        | returned u => exact ⟨keep a hy u, by rw [← Act.put_comm a v u h2]; exact he⟩
        | panicked c => exact absurd he (hQ _ _ _)
        | outgrown => exact he
      case row row args => exact Rows.mono h fun u w'' he => ⟨keep a hy u, by rw [← Act.put_comm a v u h2]; exact he⟩
    | halt x w' =>
      cases x <;> simp only [Oper.upon] at h ⊢
      case panic u => exact absurd h (hQ _ _ _)
  · rename_i hw
    simp only [hw] at h
    exact ⟨keep a hy _, by rw [← Act.put_comm a v undef h2]; exact h⟩

/-- The head's operations (those before n) come up in whatever order, till f are done; then L. -/
def anyG (P : Program) (ops : Array Oper) (Q : Exit → Act → World → Prop) (n : Nat) (L : Array Bool → Act → World → Prop) : Nat → (World → Prop) → Array Bool → Act → Prop
  | 0, S, listed, a => ∀ w, S w → L listed a w
  | f + 1, S, listed, a => Region.ready .any ops listed ≠ [] ∧ ∀ i ∈ Region.ready .any ops listed, i < n ∧
      ∀ w, S w → wpOp P ops Q i (fun a' w' => ∃ S', S' w' ∧ (∀ v, S' v → S v) ∧ Shut S' ∧ anyG P ops Q n L f S' (listed.setIfInBounds i true) a') a w

theorem anyG_any {ops : Array Oper} {Q : Exit → Act → World → Prop} {n g : Nat} {L : Array Bool → Act → World → Prop} (hL : ∀ listed a w, L listed a w → wpAny P .any ops Q g listed a w) :
    ∀ (f : Nat) (S : World → Prop) (listed : Array Bool) (a : Act) (w : World), S w → anyG P ops Q n L f S listed a → wpAny P .any ops Q (f + g) listed a w
  | 0, S, listed, a, w, hw, h => by rw [Nat.zero_add]; exact hL _ _ _ (h w hw)
  | f + 1, S, listed, a, w, hw, h => by
    rw [show f + 1 + g = (f + g) + 1 by omega]
    refine ⟨fun h0 => absurd h0 h.1, fun i hi => wpOp_mono (fun a' w' hh => ?_) ((h.2 i hi).2 w hw)⟩
    obtain ⟨S', h1, _, _, h4⟩ := hh
    exact anyG_any hL f S' _ a' w' h1 h4

theorem anyG_first {ops : Array Oper} {Q : Exit → Act → World → Prop} {n i : Nat} {oi : Oper} {v : Value} {L : Array Bool → Act → World → Prop} (hi : ops[i]? = some oi) (hsel : ∀ (j : Nat) (o : Oper) cs b, ops[j]? = some o → o.op ≠ .select cs b)
    (hQ : ∀ c a w, ¬ Q (.panic c) a w) (ht : tailB ops n = true) (hin : i < n) (hdone : ∀ listed a w, L listed a w → ∀ j ∈ Region.ready .any ops listed, n ≤ j) :
    ∀ (f : Nat) (S : World → Prop) (listed : Array Bool) (a : Act), HeadInv .any ops n listed → Shut S → (∃ w, S w) →
      (∀ j oj, ops[j]? = some oj → j ≠ i → listed.getD j true = false → (∀ e ∈ oj.after, Region.binds .any e = true → e.on ≠ i) → oi.apart ops oj = true) →
      i ∈ Region.ready .any ops listed → YieldsG P ops S oi v a → anyG P ops Q n L f S (listed.setIfInBounds i true) (a.put oi.dst v) → anyG P ops Q n L (f + 1) S listed a := by
  have waits : ∀ (listed : Array Bool), HeadInv .any ops n listed → i ∈ Region.ready .any ops listed → ∀ j ∈ Region.ready .any ops listed, j < n := fun listed inv hr j hj => by
    simp only [tailB, Bool.or_eq_true, Bool.and_eq_true, decide_eq_true_eq] at ht
    rcases ht with ht | ⟨⟨h1, h2⟩, h3⟩
    · have := Nat.eq_of_beq_eq_true ht
      obtain ⟨_, oj, hoj, _⟩ := mem_ready.1 hj
      have := (Array.getElem?_eq_some_iff.1 hoj).1
      omega
    · exact Nat.lt_of_not_le fun hle => tail_waits h2 h3 h1 inv _ i rfl hin (mem_ready.1 hr).1 j hle hj
  intro f
  induction f with
  | zero =>
    intro S listed a inv hsh hne _ hr hy H
    refine ⟨fun h0 => (by rw [h0] at hr; cases hr), fun j hj => ?_⟩
    have hjn := waits listed inv hr j hj
    refine ⟨hjn, ?_⟩
    by_cases hji : j = i
    · subst hji; exact fun w hw => hy.wpOp hi hsh (fun w' hw' => ⟨S, hw', fun _ h => h, hsh, H⟩) hw
    · obtain ⟨w, hw⟩ := hne
      exact absurd (hdone _ _ _ (H w hw) j (ready_mono hj hji)) (by omega)
  | succ f ih =>
    intro S listed a inv hsh hne hfree hr hy H
    refine ⟨fun h0 => (by rw [h0] at hr; cases hr), fun j hj => ?_⟩
    have hjn := waits listed inv hr j hj
    refine ⟨hjn, ?_⟩
    by_cases hji : j = i
    · subst hji; exact fun w hw => hy.wpOp hi hsh (fun w' hw' => ⟨S, hw', fun _ h => h, hsh, H⟩) hw
    · intro w hw
      obtain ⟨hjun, oj, hoj, hall⟩ := mem_ready.1 hj
      have hnot : ∀ e ∈ oj.after, Region.binds .any e = true → e.on ≠ i := fun e he hb heq => by
        have h1 := hall e he hb
        rw [heq, getD_both (mem_ready.1 hr).1] at h1
        cases h1
      have h2 := wpOp_putG hoj (hfree j oj hoj hji hjun hnot) (fun cs b => hsel i oi cs b hi) (fun cs b => hsel j oj cs b hoj) hQ hy ((H.2 j (ready_mono hj hji)).2 w hw)
      refine wpOp_mono (fun a' w' h3 => ?_) h2
      obtain ⟨hy', S', b1, b2, b3, b4⟩ := h3
      refine ⟨S', b1, b2, b3, ih S' (listed.setIfInBounds j true) a' (inv.set hj hjn) b3 ⟨w', b1⟩ (fun k ok hk hki hkun hno => hfree k ok hk hki ?_ hno) (ready_mono hr (Ne.symm hji)) (hy'.sub b2) ?_⟩
      · by_cases hjk : j = k
        · subst hjk; exact hjun
        · rwa [getD_set_ne true hjk] at hkun
      · rw [Array.setIfInBounds_comm _ _ hji]; exact b4

/-- One operation of the head, forced or free: what it yields in every world of the class. -/
theorem anyG_step {ops : Array Oper} {Q : Exit → Act → World → Prop} {n i : Nat} {oi : Oper} {v : Value} {L : Array Bool → Act → World → Prop} (hi : ops[i]? = some oi) (hsel : Region.noSelect ops = true)
    (hQ : ∀ c a w, ¬ Q (.panic c) a w) (ht : tailB ops n = true) (hin : i < n) (hdone : ∀ listed a w, L listed a w → ∀ j ∈ Region.ready .any ops listed, n ≤ j)
    {f : Nat} {S : World → Prop} {listed : Array Bool} {a : Act} (inv : HeadInv .any ops n listed) (hsh : Shut S) (hne : ∃ w, S w) (hB : stepB ops i listed = true) (hy : YieldsG P ops S oi v a)
    (H : anyG P ops Q n L f S (listed.setIfInBounds i true) (a.put oi.dst v)) : anyG P ops Q n L (f + 1) S listed a := by
  simp only [stepB, Bool.and_eq_true, Bool.or_eq_true, decide_eq_true_eq] at hB
  obtain ⟨hr, hB⟩ := hB
  have hr' : i ∈ Region.ready .any ops listed := by simpa using hr
  rcases hB with hB | hB
  · refine ⟨fun h0 => (by rw [h0] at hr'; cases hr'), fun j hj => ?_⟩
    rw [hB] at hj
    obtain rfl : j = i := by simpa using hj
    exact ⟨hin, fun w hw => hy.wpOp hi hsh (fun w' hw' => ⟨S, hw', fun _ h => h, hsh, H⟩) hw⟩
  · exact anyG_first hi (Region.noSelect_spec hsel) hQ ht hin hdone f S listed a inv hsh hne (Region.free_spec hi hB) hr' hy H

theorem storeAt_le : ∀ (l : List Oper), storeAt l ≤ l.length
  | [] => Nat.le_refl _
  | x :: l => by
    simp only [storeAt]
    split
    · simp only [List.length_cons]; exact Nat.succ_le_succ (storeAt_le l)
    · exact Nat.zero_le _

theorem evG_sound (hP : ProgOk P Γ E) (hC : ClOk P Γ E cl) {l : List Oper} {n : Nat} {Q : Exit → Act → World → Prop} (hn : n ≤ l.length) (hsel : Region.noSelect l.toArray = true) (ht : tailB l.toArray n = true)
    (hstep : ∀ k, k < n → stepB l.toArray k (upTo l.toArray k) = true) (hseq : Region.seqB .any l.toArray (l.toArray.size - n) n (upTo l.toArray n) = true) (hQ : ∀ c a w, ¬ Q (.panic c) a w) {K : St → Prop}
    (hK : ∀ st' a' w' ρ', K st' → Rel Γ M w0 ρ' st' vs a' w' → wpList P l.toArray Q (l.drop n) a' w') :
    ∀ (hd : List Oper) (k : Nat), hd = (l.take n).drop k → k ≤ n → HeadInv .any l.toArray n (upTo l.toArray k) → ∀ (st : St) (a : Act) (w : World) (ρ : Keys), evG E cl l l.toArray hd k st K → Rel Γ M w0 ρ st vs a w →
      anyG P l.toArray Q n (fun listed a w => Region.seqB .any l.toArray (l.toArray.size - n) n listed = true ∧ wpList P l.toArray Q (l.drop n) a w) hd.length (fun w' => Below w.heap.size w w') (upTo l.toArray k) a
  | [], k, hd, hk, inv, st, a, w, ρ, he, h => by
    have : k = n := by
      have := congrArg List.length hd
      simp only [List.length_nil, List.length_drop, List.length_take] at this
      omega
    subst this
    exact fun w' hw' => ⟨hseq, hK _ _ _ _ he (h.later hw')⟩
  | o :: rest, k, hd, hk, inv, st, a, w, ρ, he, h => by
    have hkn : k < n := by
      have := congrArg List.length hd
      simp only [List.length_cons, List.length_drop, List.length_take] at this
      omega
    have hget : l.toArray[k]? = some o := by
      have h1 : ((l.take n).drop k)[0]? = some o := by rw [← hd]; rfl
      rw [List.getElem?_drop, Nat.add_zero, List.getElem?_take_of_lt hkn] at h1
      simpa using h1
    have hrest : rest = (l.take n).drop (k + 1) := by
      have h1 : ((l.take n).drop k).drop 1 = rest := by rw [← hd]; rfl
      rw [← h1, List.drop_drop]
    have hB := hstep k hkn
    have hB2 := hB
    simp only [stepB, Bool.and_eq_true] at hB2
    have hr : k ∈ Region.ready .any l.toArray (upTo l.toArray k) := by simpa using hB2.1
    have inv' : HeadInv .any l.toArray n (upTo l.toArray (k + 1)) := inv.set hr hkn
    have hdone : ∀ (listed : Array Bool) (a : Act) (w : World), (Region.seqB .any l.toArray (l.toArray.size - n) n listed = true ∧ wpList P l.toArray Q (l.drop n) a w) → ∀ j ∈ Region.ready .any l.toArray listed, n ≤ j := fun listed a w hL => seqB_ready hL.1
    have IH := evG_sound hP hC hn hsel ht hstep hseq hQ hK rest (k + 1) hrest hkn inv'
    change evGuard E.conc st l.toArray o.guard
      (fun st => match evQ1 E st o with
        | some (q, x) => (match calm o x with | true => oblige E.conc q (st.putN E o x (fun st => evG E cl l l.toArray rest (k + 1) st K)) | false => False)
        | none => (match keeps E o with | true => testK E.conc (forcedB l.toArray k) (Forced l k) (evOp E cl st o (fun st => evG E cl l l.toArray rest (k + 1) st K)) | false => False))
      (fun st => st.putK o.dst (.a .un) (fun st => evG E cl l l.toArray rest (k + 1) st K)) at he
    rcases evGuard_sound h he with ⟨st', hy, h', hw⟩ | ⟨st', hno, h', hw⟩
    · split at hy
      · rename_i q x hp
        split at hy
        · rename_i hs
          rw [oblige_iff, St.putN_iff] at hy
          obtain ⟨hq, hy⟩ := hy
          obtain ⟨v, hv, hall⟩ := evQ1_soundG hP h' hp hq hs
          exact anyG_step hget hsel hQ ht hkn hdone inv (Shut.below w) ⟨w, Below.refl _ _⟩ hB (.inl ⟨hw, fun w' hw' => hall w' hw'⟩) (IH _ _ w _ hy.2 (h'.put o.dst hv))
        · exact hy.elim
      · split at hy
        case h_2 => exact hy.elim
        rename_i hkeep
        obtain ⟨hfo, hy⟩ := testK_fact Forced.mk hy
        have hfo' : Region.ready .any l.toArray (upTo l.toArray k) = [k] := by simpa [forcedB] using hfo.h
        refine ⟨fun h0 => (by rw [h0] at hr; cases hr), fun j hj => ?_⟩
        rw [hfo'] at hj
        obtain rfl : j = k := by simpa using hj
        refine ⟨hkn, fun w' hw' => ?_⟩
        unfold wpOp
        simp only [hget]
        rw [if_pos hw]
        refine .inl (evOp_soundB hP hC (h'.later hw') hy fun st'' a'' w'' ρ'' hk'' hr'' hb'' => ?_)
        have hbb : Below w'.heap.size w' w'' := hb'' hkeep
        exact ⟨fun v => Below w''.heap.size w'' v, Below.refl _ _, fun v hv => (hw'.trans (hbb.mono hw'.size)).trans (hv.mono (Nat.le_trans hw'.size hbb.size)), Shut.below _, IH _ _ _ _ hk'' hr''⟩
    · rw [St.putK_iff] at hno
      exact anyG_step hget hsel hQ ht hkn hdone inv (Shut.below w) ⟨w, Below.refl _ _⟩ hB (.inr ⟨hw, rfl⟩) (IH _ _ w _ hno.2 (h'.put o.dst (x := .a .un) (y := undef) rfl))

theorem upD_snoc (ops : Array Oper) (done : List Nat) (i : Nat) : upD ops (done ++ [i]) = (upD ops done).setIfInBounds i true := by simp [upD, List.foldl_append]
theorem evGp_sound (hP : ProgOk P Γ E) (hC : ClOk P Γ E cl) {l : List Oper} {all : List Nat} {Q : Exit → Act → World → Prop} (hsel : Region.noSelect l.toArray = true) (ht : tailB l.toArray all.length = true)
    (hstep : ∀ k, k < all.length → stepB l.toArray (all.getD k 0) (upD l.toArray (all.take k)) = true ∧ all.getD k 0 < all.length) (hseq : Region.seqB .any l.toArray (l.toArray.size - all.length) all.length (upD l.toArray all) = true) (hQ : ∀ c a w, ¬ Q (.panic c) a w) {K : St → Prop}
    (hK : ∀ st' a' w' ρ', K st' → Rel Γ M w0 ρ' st' vs a' w' → wpList P l.toArray Q (l.drop all.length) a' w') :
    ∀ (ord done : List Nat), done ++ ord = all → HeadInv .any l.toArray all.length (upD l.toArray done) → ∀ (st : St) (a : Act) (w : World) (ρ : Keys), evGp E cl l l.toArray ord done st K → Rel Γ M w0 ρ st vs a w →
      anyG P l.toArray Q all.length (fun listed a w => Region.seqB .any l.toArray (l.toArray.size - all.length) all.length listed = true ∧ wpList P l.toArray Q (l.drop all.length) a w) ord.length (fun w' => Below w.heap.size w w') (upD l.toArray done) a
  | [], done, hd, inv, st, a, w, ρ, he, h => by
    rw [List.append_nil] at hd
    subst hd
    exact fun w' hw' => ⟨hseq, hK _ _ _ _ he (h.later hw')⟩
  | i :: rest, done, hd, inv, st, a, w, ρ, he, h => by
    have hkn : done.length < all.length := by rw [← hd]; simp
    have hgi : all.getD done.length 0 = i := by rw [← hd]; simp [List.getD]
    have htk : all.take done.length = done := by rw [← hd]; simp
    obtain ⟨hB, hin⟩ := hstep done.length hkn
    rw [hgi, htk] at hB
    rw [hgi] at hin
    have hB2 := hB
    simp only [stepB, Bool.and_eq_true] at hB2
    have hr : i ∈ Region.ready .any l.toArray (upD l.toArray done) := by simpa using hB2.1
    have inv' : HeadInv .any l.toArray all.length (upD l.toArray (done ++ [i])) := by rw [upD_snoc]; exact inv.set hr hin
    have hdone : ∀ (listed : Array Bool) (a : Act) (w : World), (Region.seqB .any l.toArray (l.toArray.size - all.length) all.length listed = true ∧ wpList P l.toArray Q (l.drop all.length) a w) → ∀ j ∈ Region.ready .any l.toArray listed, all.length ≤ j := fun listed a w hL => seqB_ready hL.1
    have IH := evGp_sound hP hC hsel ht hstep hseq hQ hK rest (done ++ [i]) (by rw [← hd]; simp) inv'
    change (match l[i]? with
      | none => False
      | some o => evGuard E.conc st l.toArray o.guard
        (fun st => match evQ1 E st o with
          | some (q, x) => (match calm o x with | true => oblige E.conc q (st.putN E o x (fun st => evGp E cl l l.toArray rest (done ++ [i]) st K)) | false => False)
          | none => (match keeps E o with | true => testK E.conc (forcedD l.toArray done i) (ForcedP l done i) (evOp E cl st o (fun st => evGp E cl l l.toArray rest (done ++ [i]) st K)) | false => False))
        (fun st => st.putK o.dst (.a .un) (fun st => evGp E cl l l.toArray rest (done ++ [i]) st K))) at he
    split at he
    · exact he.elim
    rename_i o ho
    have hget : l.toArray[i]? = some o := by simpa using ho
    rw [upD_snoc] at IH
    rcases evGuard_sound h he with ⟨st', hy, h', hw⟩ | ⟨st', hno, h', hw⟩
    · split at hy
      · rename_i q x hp
        split at hy
        · rename_i hs
          rw [oblige_iff, St.putN_iff] at hy
          obtain ⟨hq, hy⟩ := hy
          obtain ⟨v, hv, hall⟩ := evQ1_soundG hP h' hp hq hs
          exact anyG_step hget hsel hQ ht hin hdone inv (Shut.below w) ⟨w, Below.refl _ _⟩ hB (.inl ⟨hw, fun w' hw' => hall w' hw'⟩) (IH _ _ w _ hy.2 (h'.put o.dst hv))
        · exact hy.elim
      · split at hy
        case h_2 => exact hy.elim
        rename_i hkeep
        obtain ⟨hfo, hy⟩ := testK_fact ForcedP.mk hy
        have hfo' : Region.ready .any l.toArray (upD l.toArray done) = [i] := by simpa [forcedD] using hfo.h
        refine ⟨fun h0 => (by rw [h0] at hr; cases hr), fun j hj => ?_⟩
        rw [hfo'] at hj
        obtain rfl : j = i := by simpa using hj
        refine ⟨hin, fun w' hw' => ?_⟩
        unfold wpOp
        simp only [hget]
        rw [if_pos hw]
        refine .inl (evOp_soundB hP hC (h'.later hw') hy fun st'' a'' w'' ρ'' hk'' hr'' hb'' => ?_)
        have hbb : Below w'.heap.size w' w'' := hb'' hkeep
        exact ⟨fun v => Below w''.heap.size w'' v, Below.refl _ _, fun v hv => (hw'.trans (hbb.mono hw'.size)).trans (hv.mono (Nat.le_trans hw'.size hbb.size)), Shut.below _, IH _ _ _ _ hk'' hr''⟩
    · rw [St.putK_iff] at hno
      exact anyG_step hget hsel hQ ht hin hdone inv (Shut.below w) ⟨w, Below.refl _ _⟩ hB (.inr ⟨hw, rfl⟩) (IH _ _ w _ hno.2 (h'.put o.dst (x := .a .un) (y := undef) rfl))

theorem evAlts_sound (hP : ProgOk P Γ E) (hC : ClOk P Γ E cl) {l : List Oper} {Q : Exit → Act → World → Prop} {K : St → Prop} (hsel : Region.noSelect l.toArray = true) (hQ : ∀ c a w, ¬ Q (.panic c) a w)
    (hK : ∀ st' a' w' ρ', K st' → Rel Γ M w0 ρ' st' vs a' w' → Q .normal a' w') :
    ∀ (t : OT) (n : Nat) (listed : Array Bool) (st : St) (a : Act) (w : World) (ρ : Keys), evAlts E cl l l.toArray K t st → Rel Γ M w0 ρ st vs a w →
      (okT l.toArray t true n listed = true → t.isFin = false → wpAny P .any l.toArray Q n listed a w) ∧
      (okT l.toArray t false n listed = true → ∀ i ∈ t.heads, wpOp P l.toArray Q i (wpAny P .any l.toArray Q (n - 1) (listed.setIfInBounds i true)) a w)
  | .fin, n, listed, st, a, w, ρ, he, h => ⟨fun _ hf => (by cases hf), fun _ i hi => (by cases hi)⟩
  | .take i t, n, listed, st, a, w, ρ, he, h => by
    refine ⟨fun hok _ => ?_, fun hok => (by simp [okT] at hok)⟩
    simp only [okT, Bool.true_and, Bool.and_eq_true, decide_eq_true_eq] at hok
    obtain ⟨hfree, hcon, hn, hsub⟩ := hok
    change (match l[i]? with
       | some o => evGuard E.conc st l.toArray o.guard (fun st => match pureOp o, evP E st o with
           | true, some (q, x) => oblige E.conc q (st.putN E o x (fun st => OT.next t (K st) (evAlts E cl l l.toArray K t st)))
           | _, _ => False) (fun st => st.putK o.dst (.a .un) (fun st => OT.next t (K st) (evAlts E cl l l.toArray K t st)))
       | none => False) at he
    split at he
    · rename_i o ho
      have ho' : l.toArray[i]? = some o := by simpa using ho
      obtain ⟨m, rfl⟩ : ∃ m, n = m + 1 := ⟨n - 1, by omega⟩
      have next : ∀ (st' : St) (a' : Act) (ρ' : Keys), OT.next t (K st') (evAlts E cl l l.toArray K t st') → Rel Γ M w0 ρ' st' vs a' w → wpAny P .any l.toArray Q m (listed.setIfInBounds i true) a' w := fun st' a' ρ' hk hr => by
        rw [Nat.add_sub_cancel] at hsub
        cases t with
        | fin =>
          have hr0 : Region.ready .any l.toArray (listed.setIfInBounds i true) = [] := by simpa [okT] using hsub
          exact wpAny_done hr0 (hK _ _ _ _ hk hr) m
        | alt i2 t2 m2 => exact (evAlts_sound hP hC hsel hQ hK (.alt i2 t2 m2) m _ st' a' w ρ' hk hr).1 hsub rfl
        | take i2 t2 => exact (evAlts_sound hP hC hsel hQ hK (.take i2 t2) m _ st' a' w ρ' hk hr).1 hsub rfl
      rcases evGuard_sound h he with ⟨st', hy, h', hw⟩ | ⟨st', hno, h', hw⟩
      · split at hy
        · rename_i q x hpu hev
          rw [oblige_iff, St.putN_iff] at hy
          obtain ⟨hq, hy⟩ := hy
          obtain ⟨v, hv, hx⟩ := evP_pure hP.env h' hpu hev hq
          exact wpAny_take ho' hsel hfree hcon (fun c a w hq => absurd hq (hQ _ _ _)) (.inl ⟨hw, hv⟩) (next _ _ _ hy.2 (h'.put o.dst hx))
        · exact hy.elim
      · rw [St.putK_iff] at hno
        exact wpAny_take ho' hsel hfree hcon (fun c a w hq => absurd hq (hQ _ _ _)) (.inr ⟨hw, rfl⟩) (next _ _ _ hno.2 (h'.put o.dst (x := .a .un) (y := undef) rfl))
    · exact he.elim
  | .alt i t m, n, listed, st, a, w, ρ, he, h => by
    change (match l[i]? with
       | some o => evGuard E.conc st l.toArray o.guard (fun st => evOp E cl st o (fun st => OT.next t (K st) (evAlts E cl l l.toArray K t st))) (fun st => st.putK o.dst (.a .un) (fun st => OT.next t (K st) (evAlts E cl l l.toArray K t st)))
       | none => False) ∧ evAlts E cl l l.toArray K m st at he
    obtain ⟨he, hem⟩ := he
    have alts : n ≠ 0 → okT l.toArray t true (n - 1) (listed.setIfInBounds i true) = true → okT l.toArray m false n listed = true → ∀ j ∈ (OT.alt i t m).heads, wpOp P l.toArray Q j (wpAny P .any l.toArray Q (n - 1) (listed.setIfInBounds j true)) a w := by
      intro hn hsub hm j hj
      simp only [OT.heads, List.mem_cons] at hj
      rcases hj with rfl | hj
      · have next : ∀ (st' : St) (a' : Act) (w' : World) (ρ' : Keys), OT.next t (K st') (evAlts E cl l l.toArray K t st') → Rel Γ M w0 ρ' st' vs a' w' → wpAny P .any l.toArray Q (n - 1) (listed.setIfInBounds j true) a' w' := by
          intro st' a' w' ρ' hk hr
          cases t with
          | fin =>
            have hr0 : Region.ready .any l.toArray (listed.setIfInBounds j true) = [] := by simpa [okT] using hsub
            exact wpAny_done hr0 (hK _ _ _ _ hk hr) _
          | alt i2 t2 m2 => exact (evAlts_sound hP hC hsel hQ hK (.alt i2 t2 m2) _ _ st' a' w' ρ' hk hr).1 hsub rfl
          | take i2 t2 => exact (evAlts_sound hP hC hsel hQ hK (.take i2 t2) _ _ st' a' w' ρ' hk hr).1 hsub rfl
        split at he
        · rename_i o ho
          have ho' : l.toArray[j]? = some o := by simpa using ho
          unfold wpOp
          simp only [ho']
          rcases evGuard_sound h he with ⟨st', hy, h', hw⟩ | ⟨st', hno, h', hw⟩
          · rw [if_pos hw]
            exact .inl (evOp_sound hP hC h' hy fun st2 a2 w2 ρ2 hk hr => next st2 a2 w2 ρ2 hk hr)
          · rw [if_neg (by rw [hw]; simp)]
            simp only [St.putK_iff] at hno
            exact next _ _ _ _ hno.2 (h'.put o.dst (x := .a .un) (y := undef) rfl)
        · exact he.elim
      · exact (evAlts_sound hP hC hsel hQ hK m n listed st a w ρ hem h).2 hm j hj
    refine ⟨fun hok _ => ?_, fun hok => ?_⟩
    · simp only [okT, Bool.not_true, Bool.false_or, Bool.and_eq_true, decide_eq_true_eq] at hok
      obtain ⟨hh, hn, h1, h2⟩ := hok
      obtain ⟨k, rfl⟩ : ∃ k, n = k + 1 := ⟨n - 1, by omega⟩
      refine wpAny_all hh.symm (by simp [OT.heads]) fun j hj => ?_
      have := alts (by omega) h1 h2 j hj
      rwa [Nat.add_sub_cancel] at this
    · simp only [okT, Bool.not_false, Bool.true_or, Bool.true_and, Bool.and_eq_true, decide_eq_true_eq] at hok
      exact alts hok.1 hok.2.1 hok.2.2

theorem evDraw_sound (hP : ProgOk P Γ E) (hC : ClOk P Γ E cl) (h : Rel Γ M w0 ρ st vs a w) {id : Nat} {l : List Oper} {K : St → Prop} (he : evDraw E cl id l st K) {Q : Exit → Act → World → Prop}
    (hK : ∀ st' a' w' ρ', K st' → Rel Γ M w0 ρ' st' vs a' w' → Q .normal a' w') : (Code.region id l.toArray true).wp P Q a w := by
  unfold evDraw at he
  have h1 : Rel Γ M w0 ρ st vs a { w with drawn := w.drawn + 1 } := h.later ((Below.refl w.heap.size w).drew)
  split at he
  · rename_i t _
    obtain ⟨hB, he⟩ := testK_fact LexT.mk he
    have hB := hB.h
    simp only [okTree, Bool.and_eq_true] at hB
    obtain ⟨hsel, hnf, hok⟩ := hB
    let Q' : Exit → Act → World → Prop := fun e a w => match e with | .normal => Q .normal a w | _ => False
    have hQQ : ∀ e a w, Q' e a w → Q e a w := fun e a w hq => by cases e <;> first | exact hq | exact hq.elim
    refine Code.wp_mono hQQ ?_
    refine wp_region_any hP.mixed ?_
    cases t with
    | fin => cases hnf
    | alt i2 t2 m2 => exact (evAlts_sound (Q := Q') hP hC hsel (fun c a w hq => hq) (fun st' a' w' ρ' hk hr => hK _ _ _ _ hk hr) (.alt i2 t2 m2) _ _ st a _ ρ he h1).1 hok rfl
    | take i2 t2 => exact (evAlts_sound (Q := Q') hP hC hsel (fun c a w hq => hq) (fun st' a' w' ρ' hk hr => hK _ _ _ _ hk hr) (.take i2 t2) _ _ st a _ ρ he h1).1 hok rfl
  split at he
  · rename_i ord _
    obtain ⟨hB, he⟩ := testK_fact LexP.mk he
    have hB := hB.h
    simp only [lexPB, Bool.and_eq_true, decide_eq_true_eq, List.all_eq_true, List.mem_range] at hB
    obtain ⟨⟨⟨⟨hsel, hn⟩, ht⟩, hstep⟩, hseq⟩ := hB
    have hszl : l.toArray.size = l.length := by simp
    have inv0 : HeadInv .any l.toArray ord.length (upD l.toArray []) :=
      ⟨by simp [upD], fun j oj _ hl => (by rw [show upD l.toArray [] = Array.replicate l.toArray.size false from rfl, getD_replicate_false] at hl; cases hl), fun t _ ht => getD_in (by simpa [upD] using ht) (getD_replicate_false _ _)⟩
    let Q' : Exit → Act → World → Prop := fun e a w => match e with | .normal => Q .normal a w | _ => False
    have hQQ : ∀ e a w, Q' e a w → Q e a w := fun e a w hq => by cases e <;> first | exact hq | exact hq.elim
    have H := evGp_sound (all := ord) (Q := Q') (w0 := w0) (M := M) (Γ := Γ) (vs := vs) hP hC hsel ht hstep hseq (fun c a w hq => hq) (K := fun st => evOps E cl l.toArray (l.drop ord.length) st K)
      (fun st' a' w' ρ' hk hr => evOps_sound hP hC (fun st' a' w' ρ' hk hr => show Q' .normal a' w' from hK _ _ _ _ hk hr) _ _ _ _ _ hk hr) ord [] rfl inv0 st a _ ρ he h1
    refine Code.wp_mono hQQ ?_
    refine wp_region_any hP.mixed ?_
    have := anyG_any (Q := Q') (g := l.toArray.size - ord.length) (fun listed a' w' hL => by
      have := wpAny_of_seq (md := .any) (Q' := Q') (l.drop ord.length) ord.length listed a' w' (fun j => by simp [List.getElem?_drop]) (by rw [List.length_drop, ← hszl]; exact hL.1) hL.2
      rwa [List.length_drop, ← hszl] at this) _ _ _ _ _ (Below.refl _ _) H
    rwa [show ord.length + (l.toArray.size - ord.length) = l.toArray.size by omega] at this
  split at he
  · obtain ⟨hB, he⟩ := testK_fact LexB.mk he
    refine wp_region_quiet (C := fun w' => Below w.heap.size { w with drawn := w.drawn + 1 } w') hP.mixed hB.h (Below.refl _ _) ?_
    exact evQ_sound (w1 := { w with drawn := w.drawn + 1 }) hP (fun st' a' hk hr w' hw' => hK _ _ _ _ hk (hr.later hw')) _ _ _ he h1
  · obtain ⟨hB, he⟩ := testK_fact LexG.mk he
    have hB := hB.h
    simp only [lexGB, Bool.and_eq_true, decide_eq_true_eq, List.all_eq_true, List.mem_range] at hB
    obtain ⟨⟨⟨⟨hsel, hn⟩, ht⟩, hstep⟩, hseq⟩ := hB
    have hn' : storeAt l ≤ l.length := storeAt_le l
    have hszl : l.toArray.size = l.length := by simp
    have inv0 : HeadInv .any l.toArray (storeAt l) (upTo l.toArray 0) :=
      ⟨by simp [upTo], fun j oj _ hl => (by rw [upTo, getD_replicate_false] at hl; cases hl), fun t _ ht => getD_in (by simpa [upTo] using ht) (getD_replicate_false _ _)⟩
    let Q' : Exit → Act → World → Prop := fun e a w => match e with | .normal => Q .normal a w | _ => False
    have hQQ : ∀ e a w, Q' e a w → Q e a w := fun e a w hq => by cases e <;> first | exact hq | exact hq.elim
    have H := evG_sound (n := storeAt l) (Q := Q') (w0 := w0) (M := M) (Γ := Γ) (vs := vs) hP hC hn' hsel ht hstep hseq (fun c a w hq => hq) (K := fun st => evOps E cl l.toArray (l.drop (storeAt l)) st K)
      (fun st' a' w' ρ' hk hr => evOps_sound hP hC (fun st' a' w' ρ' hk hr => show Q' .normal a' w' from hK _ _ _ _ hk hr) _ _ _ _ _ hk hr) (l.take (storeAt l)) 0 (by simp) (Nat.zero_le _) inv0 st a _ ρ he h1
    refine Code.wp_mono hQQ ?_
    refine wp_region_any hP.mixed ?_
    have := anyG_any (Q := Q') (g := l.toArray.size - storeAt l) (fun listed a' w' hL => by
      have := wpAny_of_seq (md := .any) (Q' := Q') (l.drop (storeAt l)) (storeAt l) listed a' w' (fun j => by simp [List.getElem?_drop]) (by rw [List.length_drop, ← hszl]; exact hL.1) hL.2
      rwa [List.length_drop, ← hszl] at this) _ _ _ _ _ (Below.refl _ _) H
    rwa [List.length_take, Nat.min_eq_left hn', show storeAt l + (l.toArray.size - storeAt l) = l.toArray.size by omega] at this

end
end Go.Sy
end

section
/-
  Knowing less: a state against a later one, regions renamed.
-/
namespace Go.Sy
open Go Go.RowKit
universe u
section
variable {P : Program} {Γ : Glob} {E : Env} {cl : Cl} {M : Nat → Prop} {w0 : World} {ρ : Keys} {st : St} {vs : Fv} {a : Act} {w : World}

/-- The later state's keys: by the renaming; what has no counterpart lies nowhere. -/
def reρ (ρ : Keys) (is : List Nat) (m : Nat) (gs : List Reg) : Keys := fun r π =>
  if rn is r < m then ρ (rn is r) π else { noRI with m := (match gs.getD r .dead with | .arr _ tg _ _ _ => tg.length | _ => 0) }
theorem reρ_lt {is : List Nat} {m r : Nat} {gs : List Reg} (h : rn is r < m) : reρ ρ is m gs r = ρ (rn is r) := by
  funext π; simp only [reρ]; rw [if_pos h]
theorem reρ_ge {is : List Nat} {m r : Nat} {gs : List Reg} {π : Path} (h : m ≤ rn is r) : (reρ ρ is m gs r π).void = true := by
  simp only [reρ]; rw [if_neg (by omega)]; rfl
theorem void_head {I : RI} (h : I.void = true) {a0 : Option Addr} : I.head 0 0 (.slice a0 0 0) := ⟨fun _ => ⟨rfl, _, rfl⟩, fun hf => by rw [h] at hf; cases hf⟩

theorem leA_sound {is : List Nat} {m n : Nat} {gs : List Reg} {x x' : At} {y : Value} (hl : leA is m n x x') (h : x.ok m ρ y) : x'.ok n (reρ ρ is m gs) y := by
  unfold leA at hl
  split at hl
  · trivial
  · exact h
  · exact ⟨none, h.1⟩
  · exact h
  · obtain ⟨h1, h2, rfl, rfl, rfl⟩ := hl
    obtain ⟨rfl, _⟩ := h
    exact ⟨h2, void_head (reρ_ge h1)⟩
  · obtain ⟨h1, h2, rfl, rfl, rfl⟩ := hl
    obtain ⟨a0, rfl⟩ := h
    exact ⟨h2, void_head (reρ_ge h1)⟩
  · obtain ⟨rfl, rfl⟩ := hl; exact h
  · obtain rfl := hl; exact h
  · obtain rfl := hl; exact h
  · exact h
  · exact h
  · obtain rfl := hl; obtain rfl : y = .bool true := h; exact ⟨rfl, rfl⟩
  · obtain rfl := hl; obtain rfl : y = .bool false := h; exact ⟨rfl, rfl⟩
  · obtain ⟨h1, h2, rfl, rfl, rfl, rfl⟩ := hl
    exact ⟨h1, by rw [reρ_lt h2]; exact h.2⟩
  · obtain ⟨h1, h2, rfl, rfl, rfl, rfl⟩ := hl
    exact ⟨h1, by rw [reρ_lt h2]; exact h.2⟩
  · obtain ⟨rfl, rfl, h1⟩ := hl
    refine ⟨fun r hr => (h1 r hr).1, ?_⟩
    rw [h.2, List.map_map]
    congr 2
    exact List.map_congr_left fun r hr => by rw [reρ_lt (h1 r hr).2]; rfl
  · obtain ⟨h1, h2, rfl⟩ := hl
    exact ⟨h1, by rw [reρ_lt h2]; exact h.2⟩
  · obtain ⟨h1, h2, rfl⟩ := hl
    exact ⟨h1, by rw [reρ_lt h2]; exact h.2⟩
  · obtain ⟨h1, h2, rfl⟩ := hl
    exact ⟨h1, by rw [reρ_lt h2]; exact h.2⟩
  · exact h
  · exact hl.elim
theorem leAs_sound {is : List Nat} {m n : Nat} {gs : List Reg} : ∀ {l l' : List At} {ys : List Value}, leAs is m n l l' → okL (At.ok m ρ) l ys → okL (At.ok n (reρ ρ is m gs)) l' ys
  | [], [], [], _, _ => trivial
  | _ :: _, _ :: _, _ :: _, hl, h => ⟨leA_sound hl.1 h.1, leAs_sound hl.2 h.2⟩
theorem leC_sound {is : List Nat} {m n : Nat} {gs : List Reg} {x x' : C1} {y : Value} (hl : leC is m n x x') (h : x.ok m ρ y) : x'.ok n (reρ ρ is m gs) y := by
  unfold leC at hl
  split at hl
  · exact leA_sound hl h
  · obtain ⟨ys, h1, h2⟩ := h; exact ⟨ys, h1, leAs_sound hl h2⟩
  · exact hl.elim
theorem leCs_sound {is : List Nat} {m n : Nat} {gs : List Reg} : ∀ {l l' : List C1} {ys : List Value}, leCs is m n l l' → okL (C1.ok m ρ) l ys → okL (C1.ok n (reρ ρ is m gs)) l' ys
  | [], [], [], _, _ => trivial
  | _ :: _, _ :: _, _ :: _, hl, h => ⟨leC_sound hl.1 h.1, leCs_sound hl.2 h.2⟩
theorem leT_sound {is : List Nat} {m n : Nat} {gs : List Reg} {x x' : Tm} {y : Value} (hl : leT is m n x x') (h : x.ok m ρ y) : x'.ok n (reρ ρ is m gs) y := by
  unfold leT at hl
  split at hl
  · trivial
  · exact leA_sound hl h
  · obtain ⟨ys, h1, h2⟩ := h; exact ⟨ys, h1, leAs_sound hl h2⟩
  · obtain ⟨ys, h1, h2⟩ := h; exact ⟨ys, h1, leCs_sound hl h2⟩
  · exact hl.elim
theorem leT_any {is : List Nat} {m n : Nat} {x : Tm} : leT is m n x (.a .any) := by cases x <;> exact trivial
theorem leTr_get {is : List Nat} {m n : Nat} : ∀ {t' t : Tr}, leTr is m n t t' → ∀ i, leT is m n (t.get i) (t'.get i)
  | .nil, _, _, i => leT_any
  | .node y l r, .nil, h, i => by
    have h' : (match (generalizing := false) y with | .a .any => True | _ => False) ∧ leTr is m n .nil l ∧ leTr is m n .nil r := h
    obtain ⟨h1, h2, h3⟩ := h'
    unfold Tr.get
    split
    · split at h1
      · exact leT_any
      · exact h1.elim
    · split
      · exact leTr_get h2 _
      · exact leTr_get h3 _
  | .node y l r, .node x l0 r0, h, i => by
    have h' : leT is m n x y ∧ leTr is m n l0 l ∧ leTr is m n r0 r := h
    obtain ⟨h1, h2, h3⟩ := h'
    unfold Tr.get
    split
    · exact h1
    · split
      · exact leTr_get h2 _
      · exact leTr_get h3 _
theorem leS_sound {is : List Nat} {m n : Nat} {gs : List Reg} {s s' : Sl} {xs : Array Value} (hl : leS is m n s s') (h : s.ok m ρ xs) : s'.ok n (reρ ρ is m gs) xs :=
  ⟨h.n.trans hl.1, fun i => leT_sound (leTr_get hl.2 i) (h.h i)⟩
theorem leF_sound {is : List Nat} {m n : Nat} {gs : List Reg} : ∀ {l l' : List Sl} {ys : List (Array Value)}, leF is m n l l' → okL (Sl.ok m ρ) l ys → okL (Sl.ok n (reρ ρ is m gs)) l' ys
  | [], [], [], _, _ => trivial
  | _ :: _, _ :: _, _ :: _, hl, h => ⟨leS_sound hl.1 h.1, leF_sound hl.2 h.2⟩
theorem leAs_get {is : List Nat} {m n : Nat} : ∀ {l l' : List At}, leAs is m n l l' → ∀ (j : Nat) (x' : At), l'[j]? = some x' → ∃ x, l[j]? = some x ∧ leA is m n x x'
  | [], [], _, j, x', h => by simp at h
  | x :: _, _ :: _, hl, 0, x', h => by simp at h; subst h; exact ⟨x, rfl, hl.1⟩
  | _ :: _, _ :: _, hl, j + 1, x', h => by
    obtain ⟨x, h1, h2⟩ := leAs_get hl.2 j x' (by simpa using h)
    exact ⟨x, by simpa using h1, h2⟩
theorem flagLe_imp {b b' : Bool} (h : flagLe b b') : b' = true → b = true := by
  cases b
  · intro h'; rw [show b' = false from h] at h'; cases h'
  · exact fun _ => rfl
/-- What the later region has, its counterpart has. -/
theorem leR_sound {is : List Nat} {m n : Nat} {gs : List Reg} {g g' : Reg} {r : Nat} {π : Path} {o : Bool} {B' : Blk} (hl : leR is m n g g') (hrn : rn is r < m) (h : g'.has π o B') :
    ∃ o2 B, g.has π o2 B ∧ (o = true → o2 = true) ∧ (B.lies m ρ (rn is r) π w → B'.lies n (reρ ρ is m gs) r π w) ∧ (B.mine M w0 w (ρ (rn is r) π) → B'.mine M w0 w (ρ (rn is r) π)) := by
  unfold leR at hl
  split at hl
  · exact h.elim
  · rename_i o1 l o1' l'
    obtain ⟨hf, hl⟩ := hl
    obtain ⟨rfl, rfl, rfl⟩ := h
    refine ⟨_, .box l, ⟨rfl, rfl, rfl⟩, flagLe_imp hf, fun hh => ?_, id⟩
    obtain ⟨_, h2, h3, h4⟩ := hh
    refine ⟨rfl, by rw [reρ_lt hrn]; exact h2, by rw [reρ_lt hrn]; exact h3, fun j x' hx => ?_⟩
    obtain ⟨x, hx, hle⟩ := leAs_get hl j x' hx
    obtain ⟨y, hy, hc⟩ := h4 j x hx
    exact ⟨y, leA_sound hle hy, by rw [reρ_lt hrn]; exact hc⟩
  · rename_i te tg xs o1 i1 te' tg' xs' o1' i1'
    obtain ⟨⟨hh, rfl, hxs⟩, hf1, hf2⟩ := hl
    subst hh
    obtain rfl : xs = xs' := hxs
    obtain ⟨A, rfl, hA, rfl⟩ := Ar.has_flag h
    refine ⟨flagAt π o1 i1, .arr A, ⟨rfl, A, hA, rfl⟩, ?_, fun hh => ?_, id⟩
    · cases π with
      | nil => exact flagLe_imp hf1
      | cons => exact flagLe_imp hf2
    · show A.lies w (reρ ρ is m gs r) π
      rw [reρ_lt hrn]; exact hh
  · rename_i t k c es o1 t' k' c' es' o1'
    obtain ⟨⟨hh, rfl, rfl, hes⟩, hf⟩ := hl
    subst hh
    obtain rfl : es = es' := hes
    obtain ⟨rfl, rfl, rfl⟩ := h
    refine ⟨_, .map k c es, ⟨rfl, rfl, rfl⟩, flagLe_imp hf, fun hh => ?_, id⟩
    obtain ⟨_, h2, h3⟩ := hh
    exact ⟨rfl, by rw [reρ_lt hrn]; exact h2, by rw [reρ_lt hrn]; exact h3⟩
  · rename_i r1 k1 l1 r1' k1' l1'
    obtain ⟨⟨rfl, rfl⟩, a1, a2, a3⟩ := hl
    obtain ⟨rfl, rfl, rfl⟩ := h
    refine ⟨_, .it (some r1) k1 l1, ⟨rfl, rfl, rfl⟩, id, fun hh => ?_, id⟩
    obtain ⟨_, h2, h3, h4⟩ := hh
    refine ⟨rfl, by rw [reρ_lt hrn]; exact h2, fun r' hr' => by cases hr'; exact a1, ?_⟩
    rw [reρ_lt hrn, h4]
    simp only [Option.map_some]
    rw [a3] at a2
    rw [reρ_lt a2, a3]
  · obtain ⟨rfl, rfl⟩ := hl
    obtain ⟨rfl, rfl, rfl⟩ := h
    refine ⟨_, .it none _ _, ⟨rfl, rfl, rfl⟩, id, fun hh => ?_, id⟩
    obtain ⟨_, h2, h3, h4⟩ := hh
    exact ⟨rfl, by rw [reρ_lt hrn]; exact h2, (fun r' hr' => by cases hr'), by rw [reρ_lt hrn]; exact h4⟩
  · obtain ⟨hs, rfl, rfl, rfl, rfl⟩ := hl
    obtain ⟨rfl, rfl, rfl⟩ := h
    refine ⟨_, .lp _ _ _ _ _, ⟨rfl, rfl, rfl⟩, id, fun hh => ?_, id⟩
    obtain ⟨_, h2, h3, h4, h5⟩ := hh
    exact ⟨rfl, by rw [reρ_lt hrn]; exact h2, leS_sound hs h3, by rw [reρ_lt hrn]; exact h4, by rw [reρ_lt hrn]; exact h5⟩
  · exact hl.elim
theorem leRs_get {is : List Nat} {m n : Nat} {rg : List Reg} : ∀ {l : List Reg} {k : Nat}, leRs is m n rg k l → ∀ (r : Nat) (g' : Reg), l[r]? = some g' →
    (rn is (k + r) < m ∧ leR is m n (rg.getD (rn is (k + r)) .dead) g') ∨ (m ≤ rn is (k + r) ∧ nilR g')
  | [], _, _, r, g', h => by simp at h
  | y :: ys, k, hl, r, g', h => by
    obtain ⟨h1, h2⟩ : (match Nat.blt (rn is k) m with | true => leR is m n (rg.getD (rn is k) .dead) y | false => nilR y) ∧ leRs is m n rg (k + 1) ys := hl
    cases r with
    | zero =>
      simp at h; subst h
      rw [Nat.add_zero]
      split at h1
      · rename_i hb; exact .inl ⟨Nat.le_of_ble_eq_true hb, h1⟩
      · rename_i hb
        refine .inr ⟨?_, h1⟩
        rcases Nat.lt_or_ge (rn is k) m with hlt | hge
        · rw [show Nat.blt (rn is k) m = true from Nat.ble_eq_true_of_le hlt] at hb; cases hb
        · exact hge
    | succ r =>
      have := leRs_get h2 r g' (by simpa using h)
      rwa [show k + 1 + r = k + (r + 1) by omega] at this
theorem memN_false {r : Nat} : ∀ {l : List Nat}, memN r l = false → r ∉ l
  | [], _ => by simp
  | x :: l, h => by
    simp only [memN] at h
    split at h
    · cases h
    · rename_i hb
      intro hm
      rcases List.mem_cons.1 hm with rfl | hm
      · simp at hb
      · exact memN_false h hm
theorem injB_spec {is : List Nat} {m : Nat} : ∀ {n : Nat} {seen : List Nat}, injB is m n seen = true → (∀ j, j < n → rn is j < m → rn is j ∉ seen) ∧ (∀ j k, j < n → k < n → j ≠ k → rn is j < m → rn is k < m → rn is j ≠ rn is k)
  | 0, _, _ => ⟨fun j hj => by omega, fun j k hj => by omega⟩
  | n + 1, seen, h => by
    simp only [injB] at h
    split at h
    · rename_i hb
      have hge : ¬ rn is n < m := fun hlt => by rw [show Nat.blt (rn is n) m = true from Nat.ble_eq_true_of_le hlt] at hb; cases hb
      obtain ⟨h1, h2⟩ := injB_spec h
      refine ⟨fun j hj hm => ?_, fun j k hj hk hne h3 h4 => ?_⟩
      · rcases Nat.lt_succ_iff_lt_or_eq.1 hj with hj | rfl
        · exact h1 j hj hm
        · exact absurd hm hge
      · rcases Nat.lt_succ_iff_lt_or_eq.1 hj with hj | rfl
        · rcases Nat.lt_succ_iff_lt_or_eq.1 hk with hk | rfl
          · exact h2 j k hj hk hne h3 h4
          · exact absurd h4 hge
        · exact absurd h3 hge
    · split at h
      · cases h
      · rename_i hmem
        obtain ⟨h1, h2⟩ := injB_spec h
        refine ⟨fun j hj hm => ?_, fun j k hj hk hne h3 h4 => ?_⟩
        · rcases Nat.lt_succ_iff_lt_or_eq.1 hj with hj | rfl
          · exact fun hs => h1 j hj hm (List.mem_cons_of_mem _ hs)
          · exact memN_false hmem
        · rcases Nat.lt_succ_iff_lt_or_eq.1 hj with hj | rfl
          · rcases Nat.lt_succ_iff_lt_or_eq.1 hk with hk | rfl
            · exact h2 j k hj hk hne h3 h4
            · exact fun e => h1 j hj h3 (by rw [e]; exact List.mem_cons_self)
          · rcases Nat.lt_succ_iff_lt_or_eq.1 hk with hk | rfl
            · exact fun e => h1 k hk h4 (by rw [← e]; exact List.mem_cons_self)
            · exact absurd rfl hne
theorem nil_has {g : Reg} (hn : nilR g) {π : Path} {o : Bool} {B : Blk} (h : g.has π o B) : ∃ te tg inn, π = [] ∧ tg ≠ [] ∧ g = .arr te tg [] o inn ∧ B = .arr ⟨te, tg, []⟩ := by
  cases g with
  | dead => exact h.elim
  | box => exact hn.elim
  | map => exact hn.elim
  | iter => exact hn.elim
  | lp => exact hn.elim
  | arr te tg xs o1 i1 =>
    obtain ⟨rfl, htg⟩ := hn
    obtain ⟨A, rfl, hA, rfl⟩ := Ar.has_flag h
    have none : ∀ {π : Path} {A : Ar}, Ar.has ⟨te, tg, []⟩ π A → π = [] ∧ A = ⟨te, tg, []⟩ := by
      intro π
      induction π with
      | nil => intro A h; exact ⟨rfl, h⟩
      | cons p π ih =>
        obtain ⟨i, j⟩ := p
        rintro A ⟨B, h1, h2, _⟩
        obtain ⟨_, rfl⟩ := ih h1
        simp at h2
    obtain ⟨rfl, rfl⟩ := none hA
    exact ⟨te, tg, i1, rfl, htg, rfl, rfl⟩

theorem Rel.le (h : Rel Γ M w0 ρ st vs a w) {is : List Nat} {st' : St} (hl : Le is st st') : ∃ ρ', Rel Γ M w0 ρ' st' vs a w := by
  unfold Le at hl
  rw [lenK_eq, lenK_eq] at hl
  obtain ⟨h1, h2, h3, h4⟩ := hl
  obtain ⟨_, hinj⟩ := injB_spec h4
  have get : ∀ (r : Nat) (g' : Reg), st'.rg[r]? = some g' → (rn is r < st.rg.length ∧ ∃ g, leR is st.rg.length st'.rg.length g g' ∧ ∀ π o B, g'.has π o B → st.rg[rn is r]? = some g) ∨ (st.rg.length ≤ rn is r ∧ nilR g') := by
    intro r g' hr
    rcases leRs_get h3 r g' hr with ⟨k1, k2⟩ | k
    · rw [Nat.zero_add] at k1 k2
      refine .inl ⟨k1, _, k2, fun π o B hh => ?_⟩
      simp [List.getD, k1]
    · rw [Nat.zero_add] at k; exact .inr k
  refine ⟨reρ ρ is st.rg.length st'.rg, leS_sound h1 h.tm, leF_sound h2 h.fr, h.df, ⟨fun r g' π o B hr hh => ?_, fun r g' π o B hr hh hv => ?_, fun r g' π B hr hh hv => ?_, fun r1 r2 g1 g2 π1 π2 o' B1 B2 e1 e2 k1 k2 v1 v2 hne => ?_⟩, h.bl, h.gl, h.gn⟩
  · rcases get r g' hr with ⟨k1, g, k2, k3⟩ | ⟨k1, k2⟩
    · obtain ⟨o2, B0, b1, _, b3, _⟩ := leR_sound (ρ := ρ) (M := M) (w0 := w0) (w := w) (gs := st'.rg) k2 k1 hh
      exact b3 (h.rs.blk _ g π o2 B0 (k3 π o B hh) b1)
    · obtain ⟨te, tg, inn, rfl, htg, rfl, rfl⟩ := nil_has k2 hh
      refine ⟨htg, ?_, fun _ => rfl, fun hf => ?_, fun i hi => by simp at hi⟩
      · simp only [reρ]; rw [if_neg (by omega)]; simp [List.getD, hr]
      · rw [reρ_ge k1] at hf; cases hf
  · rcases get r g' hr with ⟨k1, g, k2, k3⟩ | ⟨k1, k2⟩
    · obtain ⟨o2, B0, b1, _, _, _⟩ := leR_sound (ρ := ρ) (M := M) (w0 := w0) (w := w) (gs := st'.rg) k2 k1 hh
      rw [reρ_lt k1] at hv ⊢
      exact h.rs.lt _ g π o2 B0 (k3 π o B hh) b1 hv
    · rw [reρ_ge k1] at hv; cases hv
  · rcases get r g' hr with ⟨k1, g, k2, k3⟩ | ⟨k1, k2⟩
    · obtain ⟨o2, B0, b1, b2, _, b4⟩ := leR_sound (ρ := ρ) (M := M) (w0 := w0) (w := w) (gs := st'.rg) k2 k1 hh
      obtain rfl := b2 rfl
      rw [reρ_lt k1] at hv ⊢
      exact b4 (h.rs.own _ g π B0 (k3 π true B hh) b1 hv)
    · rw [reρ_ge k1] at hv; cases hv
  · rcases get r1 g1 e1 with ⟨p1, g10, p2, p3⟩ | ⟨p1, p2⟩
    · rcases get r2 g2 e2 with ⟨q1, g20, q2, q3⟩ | ⟨q1, q2⟩
      · obtain ⟨oa, Ba, a1, a2, _, _⟩ := leR_sound (ρ := ρ) (M := M) (w0 := w0) (w := w) (gs := st'.rg) p2 p1 k1
        obtain ⟨ob, Bb, b1, _, _, _⟩ := leR_sound (ρ := ρ) (M := M) (w0 := w0) (w := w) (gs := st'.rg) q2 q1 k2
        obtain rfl := a2 rfl
        rw [reρ_lt p1] at v1 ⊢
        rw [reρ_lt q1] at v2 ⊢
        refine h.rs.dj _ _ g10 g20 π1 π2 ob Ba Bb (p3 _ _ _ k1) (q3 _ _ _ k2) a1 b1 v1 v2 ?_
        rintro ⟨x1, x2⟩
        by_cases hrr : r1 = r2
        · exact hne ⟨hrr, x2⟩
        · exact hinj r1 r2 (reg_lt (st := st') e1) (reg_lt (st := st') e2) hrr p1 q1 x1
      · rw [reρ_ge q1] at v2; cases v2
    · rw [reρ_ge p1] at v1; cases v1
end
end Go.Sy
end

section
/-
  The old world of a walk grows; frames of rounds; blocks for deferred calls.
-/
namespace Go.Sy
open Go Go.RowKit
universe u

/-! ### The old world grows -/
structure Ext (M : Nat → Prop) (w0 : World) (M' : Nat → Prop) (w0' : World) : Prop where
  fr : Frame M w0 w0'
  sub : ∀ k, M' k → M k ∨ w0.heap.size ≤ k
theorem Ext.refl (M : Nat → Prop) (w0 : World) : Ext M w0 M w0 := ⟨Frame.refl M w0, fun _ h => .inl h⟩
theorem Ext.frame {M M' : Nat → Prop} {w0 w0' w : World} (h : Ext M w0 M' w0') (hf : Frame M' w0' w) : Frame M w0 w :=
  ⟨hf.os.trans h.fr.os, hf.tape.trans h.fr.tape, hf.output.trans h.fr.output, Nat.le_trans h.fr.size hf.size, fun k hk hm =>
    (hf.block k (Nat.lt_of_lt_of_le hk h.fr.size) (fun hm' => by rcases h.sub k hm' with h1 | h1; exact hm h1; omega)).trans (h.fr.block k hk hm)⟩
theorem Ext.trans {M M' M2 : Nat → Prop} {w0 w0' w02 : World} (h : Ext M w0 M' w0') (k : Ext M' w0' M2 w02) : Ext M w0 M2 w02 :=
  ⟨h.frame k.fr, fun j hj => by
    rcases k.sub j hj with h1 | h1
    · exact h.sub j h1
    · exact .inr (Nat.le_trans h.fr.size h1)⟩
/-- Marks of the blocks for rounds' deferred calls: each such block lies in the old world and holds no call. -/
def mark (D : Nat) : Deferred := { target := .collected D, args := #[] }
def Sealed (M : Nat → Prop) (w0 : World) (D : Nat) : Prop := D < w0.heap.size ∧ ¬ M D ∧ w0.heap[D]? = some (.deferred (some []))
theorem Ext.sealed {M M' : Nat → Prop} {w0 w0' : World} (h : Ext M w0 M' w0') {D : Nat} (hs : Sealed M w0 D) : Sealed M' w0' D :=
  ⟨Nat.lt_of_lt_of_le hs.1 h.fr.size, fun hm => by rcases h.sub D hm with h1 | h1; exact hs.2.1 h1; exact absurd h1 (Nat.not_le.2 hs.1), (h.fr.block D hs.1 hs.2.1).trans hs.2.2⟩
theorem Sealed.now {M : Nat → Prop} {w0 w : World} {D : Nat} (hs : Sealed M w0 D) (hf : Frame M w0 w) : w.heap[D]? = some (.deferred (some [])) := (hf.block D hs.1 hs.2.1).trans hs.2.2
/-- How a walk goes on: the old world may have grown, and marks may have come. -/
structure Adv (M : Nat → Prop) (w0 : World) (M' : Nat → Prop) (w0' : World) (ds ds' : List Deferred) : Prop where
  ext : Ext M w0 M' w0'
  marks : ∃ Ds : List Nat, ds' = Ds.map mark ++ ds ∧ Ds.Nodup ∧ ∀ D ∈ Ds, Sealed M' w0' D ∧ w0.heap.size ≤ D
theorem Adv.refl (M : Nat → Prop) (w0 : World) (ds : List Deferred) : Adv M w0 M w0 ds ds := ⟨Ext.refl M w0, [], rfl, List.nodup_nil, by simp⟩
theorem Adv.trans {M M' M2 : Nat → Prop} {w0 w0' w02 : World} {ds ds' ds2 : List Deferred} (h : Adv M w0 M' w0' ds ds') (k : Adv M' w0' M2 w02 ds' ds2) : Adv M w0 M2 w02 ds ds2 := by
  obtain ⟨h1, Ds, h2, h3, h4⟩ := h
  obtain ⟨k1, Es, k2, k3, k4⟩ := k
  refine ⟨h1.trans k1, Es ++ Ds, by rw [k2, h2]; simp, ?_, fun D hD => ?_⟩
  · rw [List.nodup_append]
    refine ⟨k3, h3, fun a ha b hb e => ?_⟩
    subst e
    have := (k4 a ha).2
    have := (h4 a hb).1.1
    omega
  · rcases List.mem_append.1 hD with hD | hD
    · exact ⟨(k4 D hD).1, Nat.le_trans h1.fr.size (k4 D hD).2⟩
    · exact ⟨k1.sealed (h4 D hD).1, (h4 D hD).2⟩
theorem Mine.unbase {M M' : Nat → Prop} {w0 w0' w : World} (h : Ext M w0 M' w0') {I : RI} (hm : Mine M' w0' w I) : Mine M w0 w I :=
  ⟨by rcases hm.own with h1 | h1
      · exact h.sub _ h1
      · exact .inr (Nat.le_trans h.fr.size h1), hm.fz⟩
theorem Blk.mine.unbase {M M' : Nat → Prop} {w0 w0' w : World} (h : Ext M w0 M' w0') {I : RI} {B : Blk} (hm : B.mine M' w0' w I) : B.mine M w0 w I := by
  cases B with
  | arr A => exact ⟨Mine.unbase h hm.1, hm.2⟩
  | box => exact Mine.unbase h hm
  | map => exact Mine.unbase h hm
  | it => exact Mine.unbase h hm
  | lp => exact Mine.unbase h hm
theorem Regs.unbase {M M' : Nat → Prop} {w0 w0' w : World} (h : Ext M w0 M' w0') {N : Nat} {ρ : Keys} {rg : List Reg} (hr : Regs M' w0' N ρ rg w) : Regs M w0 N ρ rg w :=
  ⟨hr.blk, hr.lt, fun r g π B h1 h2 hv => (hr.own r g π B h1 h2 hv).unbase h, hr.dj⟩

/-- A block for deferred calls is shut. -/
theorem cell_deferred {w : World} {D : Nat} {x : Option (List Deferred)} (h : w.heap[D]? = some (.deferred x)) (o : Nat) : w.cell? ⟨D, o, none⟩ = none := by simp [World.cell?, h]
theorem frozen_deferred {w : World} {D : Nat} {x : Option (List Deferred)} (h : w.heap[D]? = some (.deferred x)) (o : Nat) : w.frozen? ⟨D, o, none⟩ = false := by simp [World.frozen?, h]
theorem Regs.putDef {M : Nat → Prop} {w0 w : World} {N : Nat} {ρ : Keys} {rg : List Reg} (h : Regs M w0 N ρ rg w) {D : Nat} {x y : Option (List Deferred)} (hD : w.heap[D]? = some (.deferred x)) : Regs M w0 N ρ rg (w.putObj D (.deferred y)) := by
  have hlt : D < w.heap.size := (Array.getElem?_eq_some_iff.1 hD).1
  have hD' : (w.putObj D (.deferred y)).heap[D]? = some (.deferred y) := World.putObj_heap_same hlt
  have other : ∀ b, b ≠ D → (w.putObj D (.deferred y)).heap[b]? = w.heap[b]? := fun b hb => World.putObj_heap_other hb
  refine ⟨fun r g π o B h1 h2 => ?_, fun r g π o B h1 h2 hv => ?_, fun r g π B h1 h2 hv => ?_, h.dj⟩
  · by_cases hb : (ρ r π).b = D
    · have hl := h.blk r g π o B h1 h2
      cases B with
      | box cells =>
        obtain ⟨rfl, a1, a2, a3⟩ := hl
        refine ⟨rfl, a1, a2, fun j z hz => ?_⟩
        obtain ⟨v, _, hc⟩ := a3 j z hz
        have := cell_deferred hD ((ρ r []).off + j)
        rw [← hb] at this
        rw [show (ρ r []).at j = ⟨(ρ r []).b, (ρ r []).off + j, none⟩ from rfl, this] at hc
        cases hc
      | arr A =>
        have hl : A.lies w (ρ r) π := hl
        refine ⟨hl.tg, hl.m, hl.void, hl.len, fun i hi => ?_⟩
        obtain ⟨ys, c1, c2⟩ := hl.cell i hi
        exfalso
        have hpos : 0 < ys.length := by rw [lies_length c1]; exact List.length_pos_iff.2 hl.tg
        have := c2 0 ys[0] (List.getElem?_eq_getElem hpos)
        rw [show (ρ r π).at (i * (ρ r π).m + 0) = ⟨(ρ r π).b, (ρ r π).off + (i * (ρ r π).m + 0), none⟩ from rfl, hb, cell_deferred hD] at this
        cases this
      | map k c es => obtain ⟨rfl, a1, ents, a2, _⟩ := hl; rw [hb, hD] at a2; cases a2
      | it m n l => obtain ⟨rfl, a1, _, a2⟩ := hl; rw [hb, hD] at a2; cases a2
      | lp b s L q j => obtain ⟨rfl, a1, _, a2, _⟩ := hl; rw [hb, hD] at a2; cases a2
    · exact (h.blk r g π o B h1 h2).later (fun _ => rfl) (Nat.le_refl _) (fun _ _ _ => rfl) (fun _ => other _ hb)
  · rw [World.putObj_size]; exact h.lt r g π o B h1 h2 hv
  · by_cases hb : (ρ r π).b = D
    · have hl := h.own r g π B h1 h2 hv
      have fz : ∀ j, (w.putObj D (.deferred y)).frozen? ⟨(ρ r π).b, j, none⟩ = false := fun j => by rw [hb]; exact frozen_deferred hD' j
      cases B with
      | arr A => obtain ⟨_, _, cur, h5, _⟩ := hl; rw [hb, hD] at h5; cases h5
      | box => exact ⟨Mine.own hl, fz⟩
      | map => exact ⟨Mine.own hl, fz⟩
      | it => exact ⟨Mine.own hl, fz⟩
      | lp => exact ⟨Mine.own hl, fz⟩
    · exact (h.own r g π B h1 h2 hv).later (other _ hb)

/-! ### Frames, of functions and of rounds -/
/-- The fence that keeps nothing out, for a frame of this kind. -/
def FrR (ro : Option Nat) : Fence := { Fence.wide with round := ro }
theorem FrR_none : FrR none = Fence.wide := rfl
theorem calls_Fr {ro : Option Nat} {n : Nat} {P : Program} {f : FuncId} {args : Array Value} {w : World} {R : Ending → World → Prop} (h : Calls P f args w R) : CallsIn (FrR ro) n P f args w R :=
  ⟨trivial, (callsIn_wide.2 h : CallsIn Fence.wide n P f args w R).2⟩
theorem rows_Fr {ro : Option Nat} {n : Nat} {P : Program} {row : String} {args : Array Value} {w : World} {R : Value → World → Prop} (h : Rows P row args w R) : RowsIn (FrR ro) n P row args w R := fun c cs _ => by
  obtain ⟨v, w', h1, h2⟩ := h c cs
  exact ⟨v, w', h1, (stepsIn_wide (P := P)).2 h2⟩
theorem oper_Fr {ro : Option Nat} {n : Nat} {P : Program} {o : Oper} {a : Act} {w : World} {next : Act → World → Prop} {Q : Exit → Act → World → Prop} (hd : ∀ c, o.op ≠ .defer c) (h : o.wp P a w next Q) : o.wpIn (FrR ro) n P a w next Q := by
  refine ⟨fun _ _ => trivial, ?_⟩
  rw [Oper.semAt_eq _ _ _ hd]
  unfold Oper.wp at h
  cases hx : (execOp a.eval o).run P w with
  | ok nx w' =>
    rw [hx] at h
    cases nx with
    | value v => exact h
    | skip => exact h
    | «defer» d => exact h
    | enter f args => exact ⟨fun hh => (by cases hh), calls_Fr h⟩
    | row row args => exact ⟨fun hh => (by cases hh), rows_Fr h⟩
    | _ => exact h.elim
  | halt s w' =>
    rw [hx] at h
    cases s with
    | panic v => exact h
    | _ => exact h.elim
end Go.Sy
end

section
/-
  Ranges over functions: the loop's record, its rounds, the marks that are left.
-/
namespace Go.Sy
open Go Go.RowKit
universe u
section
variable {P : Program} {Γ : Glob} {E : Env} {cl : Cl} {rd : Rd} {M M' : Nat → Prop} {w0 w0' : World} {ρ : Keys} {st : St} {vs : Fv} {a : Act} {w : World}

theorem Rel.unbase (hx : Ext M w0 M' w0') (hg : ∀ b, b < Γ.n → ¬ M b ∧ b < w0.heap.size) (h : Rel Γ M' w0' ρ st vs a w) : Rel Γ M w0 ρ st vs a w :=
  ⟨h.tm, h.fr, h.df, h.rs.unbase hx, hx.frame h.bl, h.gl, hg⟩
/-- A new record of a loop. -/
theorem Rel.newLoop (h : Rel Γ M w0 ρ st vs a w) {L : Loop} (hs : st.tm.ok st.rg.length ρ L.tmps) :
    Rel Γ M w0 (setρ ρ st.rg.length (boxRI w)) (st.push [.lp w.heap.size st.tm L .ready none]) vs a (w.alloc (.loop { L with state := .ready, pending := none })) := by
  refine h.grow (below_alloc _) (fun r hr π => by rw [setρ_lt hr]) (h.rs.fresh (below_alloc _) ?_ ?_ ?_ ?_)
  · rintro π o B ⟨rfl, rfl, rfl⟩
    exact ⟨rfl, by rw [setρ_at]; rfl, hs.mono (Nat.le_add_right _ _) (fun r hr π => by rw [setρ_lt hr]), by rw [setρ_at]; simp only [boxRI, alloc_new], by rw [setρ_at]; rfl⟩
  · rintro π o B ⟨rfl, rfl, rfl⟩ _
    exact ⟨Nat.le_refl _, by simp [boxRI]⟩
  · rintro π B ⟨rfl, _, rfl⟩ _
    exact ⟨.inr h.bl.size, fun j => by simp only [boxRI, World.frozen?, alloc_new]⟩
  · rintro π π' o o' B B' ⟨rfl, _⟩ ⟨rfl, _⟩ _ _
    rfl
/-- A record turned; or given up. -/
theorem Rel.turnLoop (h : Rel Γ M w0 ρ st vs a w) {r l : Nat} {s : Sl} {L : Loop} {q q' : LoopState} {j j' : Option Code} (hr : st.rg[r]? = some (.lp l s L q j)) :
    Rel Γ M w0 ρ (st.setR r (.lp l s L q' j')) vs a (w.putObj l (.loop { L with state := q', pending := j' })) := by
  have hB : (Reg.lp l s L q j).has [] true (.lp l s L q j) := ⟨rfl, rfl, rfl⟩
  obtain ⟨_, hv, hs, hh, hl⟩ := h.rs.blk r _ [] true _ hr hB
  have := h.writeObj (g' := .lp l s L q' j') (obj := .loop { L with state := q', pending := j' }) hr hB hv (h.rs.own r _ [] _ hr hB hv) (fun σ o B hh => by obtain ⟨rfl, rfl, rfl⟩ := hh; exact ⟨rfl, rfl, fun w' hw' => ⟨rfl, hv, hs, hw', hl⟩, fun _ _ hh => hh⟩) (fun w' b j hw' => by simp [World.frozen?, hw'])
  rw [hl] at this
  exact this
theorem Rel.dropLoop (h : Rel Γ M w0 ρ st vs a w) {r l : Nat} {s : Sl} {L : Loop} {q : LoopState} {j : Option Code} (hr : st.rg[r]? = some (.lp l s L q j)) (obj : Loop) :
    Rel Γ M w0 ρ (st.setR r .dead) vs a (w.putObj l (.loop obj)) := by
  have hB : (Reg.lp l s L q j).has [] true (.lp l s L q j) := ⟨rfl, rfl, rfl⟩
  obtain ⟨_, hv, hs, hh, hl⟩ := h.rs.blk r _ [] true _ hr hB
  have := h.writeObj (g' := .dead) (obj := .loop obj) hr hB hv (h.rs.own r _ [] _ hr hB hv) (fun σ o B hh => hh.elim) (fun w' b j hw' => by simp [World.frozen?, hw'])
  rw [hl] at this
  exact this

/-- A function leaves with marks: their blocks are shut, one behind the other. -/
theorem leave_marks {fn : Func} {R : Ending → World → Prop} {n : Nat} (hR : ∀ w' : World, Rel Γ M w0 ρ st vs a w' → ∃ v, (results fn a.tmps).run P w' = .ok v w' ∧ R (.returned v) w') :
    ∀ (Ds : List Nat) (w : World), Rel Γ M w0 ρ st vs a w → Ds.Nodup → (∀ D ∈ Ds, w.heap[D]? = some (.deferred (some [])) ∧ w0.heap.size ≤ D) → LeavesInM Fence.wide n P fn a.tmps R (Ds.map mark) .returning w
  | [], w, h, _, _ => hR w h
  | D :: Ds, w, h, hn, hb => by
    obtain ⟨hD, hD0⟩ := hb D List.mem_cons_self
    refine ⟨by simp, .inl ⟨D, _, rfl, run_takeDeferred hD, ?_⟩⟩
    have hlt : D < w.heap.size := (Array.getElem?_eq_some_iff.1 hD).1
    have h' : Rel Γ M w0 ρ st vs a (w.putObj D (.deferred none)) :=
      ⟨h.tm, h.fr, h.df, h.rs.putDef hD, ⟨h.bl.os, h.bl.tape, h.bl.output, by rw [World.putObj_size]; exact h.bl.size, fun k hk hm => (World.putObj_heap_other (by omega)).trans (h.bl.block k hk hm)⟩,
        Γ.st _ _ h.gl fun b hb => World.putObj_heap_other (by have := (h.gn b hb).2; omega), h.gn⟩
    refine leave_marks hR Ds _ h' (List.nodup_cons.1 hn).2 fun E hE => ⟨?_, (hb E (List.mem_cons_of_mem _ hE)).2⟩
    rw [World.putObj_heap_other (fun e => by subst e; exact (List.nodup_cons.1 hn).1 hE)]
    exact (hb E (List.mem_cons_of_mem _ hE)).1

/-- A loop over a function is entered. -/
theorem enter_sound (h : Rel Γ M w0 ρ st vs a w) {rn : Option (Nat × Nat)} (hrn : match rn with
        | none => True
        | some (r0, b0) => (match st.rg.getD r0 .dead with | .lp b1 _ _ _ _ => b1 = b0 | _ => False)) (fn : FuncId) (ps : Array Tmp) (asg body : Code) :
    ∃ (l : Nat) (mk : List Deferred) (w1 : World) (M' : Nat → Prop) (w0' : World) (D : Nat) (ρ' : Keys), (Instr.enterLoop fn a.tmps ps asg body (rn.map (·.2))).run P w = .ok (l, mk) w1 ∧ Adv M w0 M' w0' vs.ds (mk ++ vs.ds) ∧
      Rel Γ M' w0' ρ' (st.push [.lp l st.tm { state := .ready, pending := none, fn := fn, tmps := a.tmps, params := ps, assign := asg, body := body, defers := D } .ready none]) ⟨vs.fs, mk ++ vs.ds⟩ { a with defers := mk ++ a.defers } w1 ∧
      (ρ' st.rg.length []).b = l ∧ ∀ r, r < st.rg.length → ρ' r = ρ r := by
  cases rn with
  | some rb =>
    obtain ⟨r0, b0⟩ := rb
    simp only at hrn
    split at hrn
    · rename_i b1 s1 L1 q1 j1 hg
      subst hrn
      obtain ⟨_, _, _, hh, hl⟩ := h.rs.blk r0 _ [] true (.lp b1 s1 L1 q1 j1) (getD_reg hg (by simp)) ⟨rfl, rfl, rfl⟩
      rw [hl] at hh
      refine ⟨w.heap.size, [], _, M, w0, L1.defers, setρ ρ st.rg.length (boxRI w), ?_, Adv.refl _ _ _, h.newLoop (L := { state := .ready, pending := none, fn := fn, tmps := a.tmps, params := ps, assign := asg, body := body, defers := L1.defers }) h.tm, by rw [setρ_at]; rfl, fun r hr => setρ_lt hr⟩
      unfold Instr.enterLoop
      simp only [Option.map_some, Sem.run_bind, run_getLoop hh, run_newObj_alloc, Result.andThen, Sem.run_pure]
    · exact hrn.elim
  | none =>
    have hbel : Below w.heap.size w (w.alloc (.deferred (some []))) := below_alloc _
    have hnew : (w.alloc (.deferred (some []))).heap[w.heap.size]? = some (.deferred (some [])) := alloc_new _
    let M1 : Nat → Prop := fun b => (M b ∧ b < w0.heap.size) ∨ (w0.heap.size ≤ b ∧ b < w.heap.size)
    have hext : Ext M w0 M1 (w.alloc (.deferred (some []))) := ⟨h.bl.below hbel, fun k hk => by
      rcases hk with hk | hk
      · exact .inl hk.1
      · exact .inr hk.1⟩
    have hsz := h.bl.size
    have h1 : Rel Γ M1 (w.alloc (.deferred (some []))) ρ st ⟨vs.fs, [mark w.heap.size] ++ vs.ds⟩ { a with defers := [mark w.heap.size] ++ a.defers } (w.alloc (.deferred (some []))) := by
      have hl := h.later hbel
      refine ⟨h.tm, h.fr, by rw [h.df], ⟨hl.rs.blk, hl.rs.lt, fun r g π B k1 k2 hv => ?_, hl.rs.dj⟩, Frame.refl _ _, hl.gl, fun b hb => ?_⟩
      · have hm := hl.rs.own r g π B k1 k2 hv
        have hlt := h.rs.lt r g π true B k1 k2 hv
        have conv : ∀ {I : RI}, I.b < w.heap.size → Mine M w0 (w.alloc (.deferred (some []))) I → Mine M1 (w.alloc (.deferred (some []))) (w.alloc (.deferred (some []))) I := fun {I} hI hm => ⟨by
          rcases hm.own with h3 | h3
          · by_cases h4 : I.b < w0.heap.size
            · exact .inl (.inl ⟨h3, h4⟩)
            · exact .inl (.inr ⟨by omega, hI⟩)
          · exact .inl (.inr ⟨h3, hI⟩), hm.fz⟩
        cases B with
        | arr A => exact ⟨conv hlt hm.1, hm.2⟩
        | box => exact conv hlt hm
        | map => exact conv hlt hm
        | it => exact conv hlt hm
        | lp => exact conv hlt hm
      · have := h.gn b hb
        refine ⟨fun hm => ?_, Nat.lt_of_lt_of_le this.2 (Nat.le_trans hsz (by simp))⟩
        rcases hm with hm | hm
        · exact this.1 hm.1
        · omega
    refine ⟨w.heap.size + 1, [mark w.heap.size], _, M1, _, w.heap.size, setρ ρ st.rg.length (boxRI (w.alloc (.deferred (some [])))), run_enterLoop_outer _ _ _ _ _, ⟨hext, [w.heap.size], rfl, by simp, fun D hD => ?_⟩, ?_, by rw [setρ_at]; simp [boxRI], fun r hr => setρ_lt hr⟩
    · obtain rfl : D = w.heap.size := by simpa using hD
      exact ⟨⟨by simp, fun hm => by rcases hm with hm | hm <;> omega, hnew⟩, hsz⟩
    · have := h1.newLoop (L := { state := .ready, pending := none, fn := fn, tmps := a.tmps, params := ps, assign := asg, body := body, defers := w.heap.size }) h.tm
      rw [World.size_alloc] at this
      exact this
end
end Go.Sy
end
