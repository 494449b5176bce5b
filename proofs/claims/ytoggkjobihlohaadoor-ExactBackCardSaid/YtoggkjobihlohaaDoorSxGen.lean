/-
  Functions whose arguments or results speak of regions: the general theorem on contracts.
-/
import Derived.Test.YtoggkjobihlohaaDoorSxFn
namespace Go.Sx
open Go Go.RowKit
universe u

/-! ### Renaming -/
def At.lt (n : Nat) : At → Bool
  | .p r _ _ => Nat.blt r n
  | .sl r _ _ => Nat.blt r n
  | .fn _ l => allL (fun r => Nat.blt r n) l
  | _ => true
def C1.lt (n : Nat) : C1 → Bool
  | .a x => x.lt n
  | .agg l => allL (At.lt n) l
def Tm.lt (n : Nat) : Tm → Bool
  | .a x => x.lt n
  | .agg l => allL (At.lt n) l
  | .tup l => allL (C1.lt n) l

section
variable {N N' : Nat} {ρ ρ' : Nat → RI} {f : Nat → Nat}
/-- From one numbering of the regions to another. -/
theorem At.ren_ok (n : Nat) {g : Nat → Nat} (hN : ∀ r, r < n → g r < N') (hρ : ∀ r, r < n → ρ' (g r) = ρ (f r)) {x : At} {y : Value} (hl : x.lt n = true) (h : (x.ren f).ok N ρ y) : (x.ren g).ok N' ρ' y := by
  cases x <;> try exact h
  case p r i j =>
    have hr : r < n := by simpa [At.lt, Nat.blt_eq] using hl
    obtain ⟨_, h2⟩ := h
    exact ⟨hN r hr, by rw [hρ r hr]; exact h2⟩
  case sl r lo k =>
    have hr : r < n := by simpa [At.lt, Nat.blt_eq] using hl
    obtain ⟨_, h2, h3⟩ := h
    exact ⟨hN r hr, by rw [hρ r hr]; exact h2, by rw [hρ r hr]; exact h3⟩
  case fn g' l =>
    have hr : ∀ r ∈ l, r < n := fun r hr => by simpa [Nat.blt_eq] using allL_forall hl r hr
    obtain ⟨_, h2⟩ := h
    refine ⟨fun r hr' => ?_, ?_⟩
    · obtain ⟨r', h1, rfl⟩ := List.mem_map.1 hr'
      exact hN r' (hr r' h1)
    · rw [h2]
      simp only [List.map_map]
      congr 2
      exact List.map_congr_left fun r hr' => by simp only [Function.comp]; rw [hρ r (hr r hr')]
theorem okL_map {α : Type} {R R' : α → Value → Prop} {F G : α → α} {p : α → Bool} (hf : ∀ x y, p x = true → R (F x) y → R' (G x) y) : ∀ {l : List α} {ys : List Value}, allL p l = true → okL R (l.map F) ys → okL R' (l.map G) ys
  | [], [], _, _ => trivial
  | x :: l, y :: ys, hs, h => by
    simp only [allL] at hs
    split at hs
    · rename_i hx; exact ⟨hf x y hx h.1, okL_map hf hs h.2⟩
    · cases hs
theorem C1.ren_ok (n : Nat) {g : Nat → Nat} (hN : ∀ r, r < n → g r < N') (hρ : ∀ r, r < n → ρ' (g r) = ρ (f r)) {x : C1} {y : Value} (hl : x.lt n = true) (h : (x.ren f).ok N ρ y) : (x.ren g).ok N' ρ' y := by
  cases x with
  | a x => exact At.ren_ok n hN hρ hl h
  | agg l => obtain ⟨ys, h1, h2⟩ := h; exact ⟨ys, h1, okL_map (fun x y => At.ren_ok n hN hρ) hl h2⟩
theorem Tm.ren_ok (n : Nat) {g : Nat → Nat} (hN : ∀ r, r < n → g r < N') (hρ : ∀ r, r < n → ρ' (g r) = ρ (f r)) {x : Tm} {y : Value} (hl : x.lt n = true) (h : (x.ren f).ok N ρ y) : (x.ren g).ok N' ρ' y := by
  cases x with
  | a x => exact At.ren_ok n hN hρ hl h
  | agg l => obtain ⟨ys, h1, h2⟩ := h; exact ⟨ys, h1, okL_map (fun x y => At.ren_ok n hN hρ) hl h2⟩
  | tup l => obtain ⟨ys, h1, h2⟩ := h; exact ⟨ys, h1, okL_map (fun x y => C1.ren_ok n hN hρ) hl h2⟩
theorem At.ren_id (x : At) : x.ren (fun r => r) = x := by cases x <;> simp [At.ren]
theorem map_ren_id (l : List At) : l.map (At.ren fun r => r) = l := by
  conv => rhs; rw [← List.map_id l]
  exact List.map_congr_left fun x _ => At.ren_id x
theorem C1.ren_id (x : C1) : x.ren (fun r => r) = x := by cases x <;> simp [C1.ren, At.ren_id, map_ren_id]
theorem Tm.ren_id (x : Tm) : x.ren (fun r => r) = x := by
  cases x <;> simp only [Tm.ren, At.ren_id, map_ren_id]
  rename_i l
  congr 1
  conv => rhs; rw [← List.map_id l]
  exact List.map_congr_left fun x _ => C1.ren_id x
end

/-- Regions of plain arrays. -/
def Reg.isArr : Reg → Bool
  | .dead => true
  | .arr _ _ _ _ => true
  | .box _ l => allL At.plain l

theorem Reg.ok.plain {N N' : Nat} {ρ ρ' : Nat → RI} {N0 : Nat} {w : World} {I : RI} {g : Reg} (hp : g.isArr = true) (h : g.ok N ρ N0 w I) : g.ok N' ρ' N0 w I := by
  cases g with
  | dead => trivial
  | box o l =>
    obtain ⟨h1, h2, h3, h4⟩ := h
    refine ⟨h1, h2, h3, fun j x hx => ?_⟩
    obtain ⟨y, hy, hc⟩ := h4 j x hx
    exact ⟨y, At.plain_ok (allL_forall hp x (List.mem_of_getElem? hx)) hy, hc⟩
  | arr te tg xs o => exact h

/-- The regions that a call hands back, out of the callee's. -/
def resRegs (st : St) : List Nat → List Reg → Prop
  | [], [] => True
  | i :: is, g :: gs => st.rg.getD i .dead = g ∧ g.flag = true ∧ g.isArr = true ∧ i < st.rg.length ∧ (∀ j ∈ is, i ≠ j) ∧ resRegs st is gs
  | _, _ => False
theorem resRegs_get {st : St} : ∀ {is : List Nat} {gs : List Reg}, resRegs st is gs → is.length = gs.length ∧ ∀ (r : Nat) (g : Reg), gs[r]? = some g → ∃ i, is[r]? = some i ∧ st.rg[i]? = some g ∧ g.flag = true ∧ g.isArr = true
  | [], [], _ => ⟨rfl, fun r g h => by simp at h⟩
  | i :: is, g :: gs, h => by
    obtain ⟨h1, h2, h3, h4, _, h6⟩ := h
    obtain ⟨h7, h8⟩ := resRegs_get h6
    refine ⟨by simp [h7], fun r g' hr => ?_⟩
    cases r with
    | zero =>
      simp at hr; subst hr
      refine ⟨i, rfl, ?_, h2, h3⟩
      rw [← h1]; simp [List.getD, List.getElem?_eq_getElem h4]
    | succ r =>
      obtain ⟨j, a, b⟩ := h8 r g' (by simpa using hr)
      exact ⟨j, by simpa using a, b⟩
theorem resRegs_inj {st : St} : ∀ {is : List Nat} {gs : List Reg}, resRegs st is gs → ∀ (r r' i : Nat), is[r]? = some i → is[r']? = some i → r = r'
  | [], [], _, r, r', i, h, _ => by simp at h
  | i0 :: is, g :: gs, h, r, r', i, h1, h2 => by
    obtain ⟨_, _, _, _, h5, h6⟩ := h
    cases r with
    | zero =>
      simp at h1; subst h1
      cases r' with
      | zero => rfl
      | succ r' => exact absurd rfl (h5 i0 (List.mem_of_getElem? (by simpa using h2)))
    | succ r =>
      cases r' with
      | zero => simp at h2; subst h2; exact absurd rfl (h5 i0 (List.mem_of_getElem? (by simpa using h1)))
      | succ r' => rw [resRegs_inj h6 r r' i (by simpa using h1) (by simpa using h2)]

/-- What a body owes to a contract's continuation. -/
def evRel (E : Env) (rs : List ResultVar) (c : Code) (st : St) (K : Res → Prop) : Prop :=
  evC E c st (fun e st' => match e with
    | .exit _ => False
    | _ => (match evRes E st' rs with
      | some (q, x) => oblige q (∃ (res : Res) (is : List Nat), K res ∧ resRegs st' is res.rg ∧ res.tm.lt res.rg.length = true ∧ eqT x (res.tm.ren (fun r => is.getD r 0)))
      | none => False))

/-- How a callee numbers what its arguments speak of. -/
structure Passed (args : List Tm) (rg : List Reg) (is : List Nat) (args' : List Tm) (rg' : List Reg) : Prop where
  args : args = args'.map (Tm.ren (fun r => is.getD r 0))
  lt : allL (Tm.lt is.length) args' = true
  rgs : ∀ (r : Nat) (g : Reg), rg'[r]? = some g → g.isArr = true ∧ (g = .dead ∨ rg[is.getD r 0]? = some g)
  len : rg'.length = is.length

section
variable {P : Program} {Γ : Glob} {E : Env}
/-- **A function and its contract**, whatever its arguments and results speak of. -/
theorem Ctr.rel_ok (hP : ProgOk P Γ E) {f : FuncId} {fn : Func} {c : Code} {rs : List ResultVar} {n : Nat} (hf : P.funcs[f]? = some fn) (hb : fn.body = some c) (hn : fn.ntmps = n) (hr : fn.results = rs.toArray)
    {C : List Tm → List Reg → (Res → Prop) → Prop}
    (H : ∀ args rg K, C args rg K → ∃ is args' rg', Passed args rg is args' rg' ∧ evRel E rs c (Sx.entry n args' rg') K) : Ctr.Ok P Γ f (.rel C) := by
  intro args rg K hC N0 ρ w vs hl hgn hgl hargs hrg hdj
  obtain ⟨is, args', rg', hp, hev⟩ := H args rg K hC
  refine calls_of_wp hf hb ?_
  rw [hn]
  -- the arguments as the callee numbers them
  have hargs' : okL (Tm.ok rg'.length (fun r => ρ (is.getD r 0))) args' vs := by
    have h1 := hargs
    rw [hp.args] at h1
    have h2 := okL_map (F := Tm.ren (fun r => is.getD r 0)) (G := Tm.ren (fun r => r)) (R := Tm.ok rg.length ρ) (R' := Tm.ok rg'.length (fun r => ρ (is.getD r 0))) (p := Tm.lt is.length)
      (fun x y hx h => Tm.ren_ok (N := rg.length) (N' := rg'.length) (ρ := ρ) (ρ' := fun r => ρ (is.getD r 0)) (f := fun r => is.getD r 0) (g := fun r => r) is.length (fun r hr => by rw [hp.len]; exact hr) (fun r _ => rfl) hx h) hp.lt h1
    have e : args'.map (Tm.ren fun r => r) = args' := by
      conv => rhs; rw [← List.map_id args']
      exact List.map_congr_left fun x _ => Tm.ren_id x
    rwa [e] at h2
  have hrg' : ∀ (r : Nat) (g : Reg), rg'[r]? = some g → g.ok rg'.length (fun r => ρ (is.getD r 0)) N0 w (ρ (is.getD r 0)) := fun r g hg => by
    obtain ⟨h1, h2⟩ := hp.rgs r g hg
    rcases h2 with rfl | h2
    · trivial
    · exact (hrg _ g h2).plain h1
  have hrel := Rel.entry (n := n) hl hgn hgl hargs' hrg'
  rw [show vs.toArray.size = vs.length by simp]
  refine evC_sound hP c _ _ _ _ _ _ hev hrel fun e st' a' w' ρ' hk hr' => ?_
  have fin : (match evRes E st' rs with
      | some (q, x) => oblige q (∃ (res : Res) (is : List Nat), K res ∧ resRegs st' is res.rg ∧ res.tm.lt res.rg.length = true ∧ eqT x (res.tm.ren (fun r => is.getD r 0)))
      | none => False) → ∃ v, (results fn a'.tmps).run P w' = .ok v w' ∧ ∃ (v' : Value) (res : Res) (ρ1 : Nat → RI), Ending.returned v = .returned v' ∧ K res ∧ Below w.heap.size w w' ∧
        (∀ r, r < rg.length → ρ1 r = ρ r) ∧ (res.tm.ren (fun r => rg.length + r)).ok (rg.length + res.rg.length) ρ1 v' ∧ (∀ g ∈ res.rg, g.flag = true) ∧
        (∀ (r : Nat) (g : Reg), res.rg[r]? = some g → g.ok (rg.length + res.rg.length) ρ1 w.heap.size w' (ρ1 (rg.length + r))) ∧
        (∀ (r r' : Nat) (g g' : Reg), res.rg[r]? = some g → res.rg[r']? = some g' → g.own (ρ1 (rg.length + r)) → g'.own (ρ1 (rg.length + r')) → r ≠ r' → (ρ1 (rg.length + r)).b ≠ (ρ1 (rg.length + r')).b) := by
    intro hk
    split at hk
    · rename_i q x hx
      rw [oblige_iff] at hk
      obtain ⟨hq, res, js, hK, hreg, hlt, heq⟩ := hk
      obtain ⟨y, h1, h2⟩ := evRes_sound hP.env hr' hr hx hq
      obtain ⟨hlen, hget⟩ := resRegs_get hreg
      let ρ1 : Nat → RI := fun r => if r < rg.length then ρ r else ρ' (js.getD (r - rg.length) 0)
      have e1 : ∀ r, r < rg.length → ρ1 r = ρ r := fun r hr => by simp [ρ1, hr]
      have e2 : ∀ r, ρ1 (rg.length + r) = ρ' (js.getD r 0) := fun r => by
        show (if rg.length + r < rg.length then _ else _) = _
        rw [if_neg (by omega), Nat.add_sub_cancel_left]
      have hv : (res.tm.ren (fun r => rg.length + r)).ok (rg.length + res.rg.length) ρ1 y :=
        Tm.ren_ok res.rg.length (f := fun r => js.getD r 0) (ρ := ρ') (N := st'.rg.length) (fun r hr => by omega) (fun r _ => e2 r) hlt (eqT_sound heq h2)
      refine ⟨y, h1, y, res, ρ1, rfl, hK, hr'.bl, e1, hv, fun g hg => ?_, fun r g hg => ?_, fun r r' g g' hg hg' o1 o2 hne => ?_⟩
      · obtain ⟨r, hr⟩ := List.getElem?_of_mem hg
        obtain ⟨_, _, _, h, _⟩ := hget r g hr
        exact h
      · obtain ⟨i, hi, hgi, _, hpl⟩ := hget r g hg
        rw [e2]
        have : js.getD r 0 = i := by simp [List.getD, hi]
        rw [this]
        exact (hr'.rg i g hgi).plain hpl
      · obtain ⟨i, hi, hgi, _, _⟩ := hget r g hg
        obtain ⟨i', hi', hgi', _, _⟩ := hget r' g' hg'
        have a1 : js.getD r 0 = i := by simp [List.getD, hi]
        have a2 : js.getD r' 0 = i' := by simp [List.getD, hi']
        rw [e2, a1] at o1 ⊢
        rw [e2, a2] at o2 ⊢
        refine hr'.dj i i' g g' hgi hgi' o1 o2 fun hii => ?_
        subst hii
        exact hne (resRegs_inj hreg r r' i hi hi')
    · exact hk.elim
  cases e with
  | exit id => exact hk.elim
  | normal => obtain ⟨v, h1, h2⟩ := fin hk; exact ⟨hr'.df, v, h1, h2⟩
  | ret => obtain ⟨v, h1, h2⟩ := fin hk; exact ⟨hr'.df, v, h1, h2⟩

/-- The same for a functional contract. -/
theorem Ctr.fn_ok1 (hP : ProgOk P Γ E) {f : FuncId} {fn : Func} {c : Code} {rs : List ResultVar} {n : Nat} (hf : P.funcs[f]? = some fn) (hb : fn.body = some c) (hn : fn.ntmps = n) (hr : fn.results = rs.toArray)
    {F : List Tm → List Reg → Option (List Prop × Tm)}
    (H : ∀ args rg q t, F args rg = some (q, t) → obl q → t.plain = true ∧ ∃ is args' rg', Passed args rg is args' rg' ∧ evFn E rs c (Sx.entry n args' rg') t) : Ctr.Ok P Γ f (.fn F) := by
  intro args rg q t hF hq N0 ρ w vs hl hgn hgl hargs hrg hdj
  obtain ⟨hpl, is, args', rg', hp, hev⟩ := H args rg q t hF hq
  refine calls_of_wp hf hb ?_
  rw [hn]
  have hargs' : okL (Tm.ok rg'.length (fun r => ρ (is.getD r 0))) args' vs := by
    have h1 := hargs
    rw [hp.args] at h1
    have h2 := okL_map (F := Tm.ren (fun r => is.getD r 0)) (G := Tm.ren (fun r => r)) (R := Tm.ok rg.length ρ) (R' := Tm.ok rg'.length (fun r => ρ (is.getD r 0))) (p := Tm.lt is.length)
      (fun x y hx h => Tm.ren_ok (N := rg.length) (N' := rg'.length) (ρ := ρ) (ρ' := fun r => ρ (is.getD r 0)) (f := fun r => is.getD r 0) (g := fun r => r) is.length (fun r hr => by rw [hp.len]; exact hr) (fun r _ => rfl) hx h) hp.lt h1
    have e : args'.map (Tm.ren fun r => r) = args' := by
      conv => rhs; rw [← List.map_id args']
      exact List.map_congr_left fun x _ => Tm.ren_id x
    rwa [e] at h2
  have hrg' : ∀ (r : Nat) (g : Reg), rg'[r]? = some g → g.ok rg'.length (fun r => ρ (is.getD r 0)) N0 w (ρ (is.getD r 0)) := fun r g hg => by
    obtain ⟨h1, h2⟩ := hp.rgs r g hg
    rcases h2 with rfl | h2
    · trivial
    · exact (hrg _ g h2).plain h1
  have hrel := Rel.entry (n := n) hl hgn hgl hargs' hrg'
  rw [show vs.toArray.size = vs.length by simp]
  refine evC_sound hP c _ _ _ _ _ _ hev hrel fun e st' a' w' ρ' hk hr' => ?_
  have fin : (match evRes E st' rs with | some (q, x) => oblige q (eqT x t) | none => False) → ∃ v, (results fn a'.tmps).run P w' = .ok v w' ∧ t.ok st'.rg.length ρ' v := by
    intro hk
    split at hk
    · rename_i q' x hx
      rw [oblige_iff] at hk
      obtain ⟨y, h1, h2⟩ := evRes_sound hP.env hr' hr hx hk.1
      exact ⟨y, h1, eqT_sound hk.2 h2⟩
    · exact hk.elim
  cases e with
  | exit id => exact hk.elim
  | normal => obtain ⟨v, h1, h2⟩ := fin hk; exact ⟨hr'.df, v, h1, v, rfl, Tm.plain_ok hpl h2, hr'.bl⟩
  | ret => obtain ⟨v, h1, h2⟩ := fin hk; exact ⟨hr'.df, v, h1, v, rfl, Tm.plain_ok hpl h2, hr'.bl⟩

end
end Go.Sx
