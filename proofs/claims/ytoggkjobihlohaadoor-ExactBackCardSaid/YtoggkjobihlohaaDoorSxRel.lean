/-
  What the evaluator's abstract values, regions and states stand for.
-/
import Derived.Test.YtoggkjobihlohaaDoorSxDefs
import Derived.Laws.Tables
import Derived.Laws.Small
import Derived.Laws.IdiomCopy
namespace Go.Sx
open Go Go.RowKit
universe u

structure RI where
  b : Nat
  off : Nat
  m : Nat
  nil : Bool
  cap : Nat

/-- Its block as a whole: its capacity's elements, of which k are spoken of. -/
def RI.whole (I : RI) (w : World) (e : TypeId) (m k : Nat) : Prop :=
  I.off = 0 ∧ k ≤ I.cap ∧ I.cap ≤ maxLen ∧ ∃ cur : Array Value, w.heap[I.b]? = some (.cells cur e (0, 0)) ∧ cur.size = I.cap * m

def RI.at (I : RI) (o : Nat) : Addr := ⟨I.b, I.off + o, none⟩

/-- A slice's head: its elements from lo on, n of them; behind its capacity's edge it points anywhere. -/
def RI.hd (I : RI) (lo n : Nat) (y : Value) : Prop :=
  n ≤ I.cap - lo ∧ (y = .slice (if I.nil then none else some (I.at (lo * I.m))) n (I.cap - lo) ∨ (0 < lo ∧ n = 0 ∧ ∃ p, y = .slice p 0 (I.cap - lo)))
theorem RI.hd.len {I : RI} {lo n : Nat} {y : Value} (h : I.hd lo n y) : ∃ p, y = .slice p n (I.cap - lo) := by
  obtain ⟨_, rfl | ⟨_, rfl, p, rfl⟩⟩ := h
  · exact ⟨_, rfl⟩
  · exact ⟨_, rfl⟩
theorem RI.hd.pos {I : RI} {lo n : Nat} {y : Value} (h : I.hd lo n y) (h0 : lo = 0 ∨ 0 < n) : y = .slice (if I.nil then none else some (I.at (lo * I.m))) n (I.cap - lo) := by
  obtain ⟨_, rfl | ⟨h1, h2, _⟩⟩ := h
  · rfl
  · omega

def At.ok (N : Nat) (ρ : Nat → RI) : At → Value → Prop
  | .any, _ => True
  | .un, y => y = undef
  | .v x, y => y = x ∧ x.oneCell' = true
  | .tt, y => y = .bool true
  | .ff, y => y = .bool false
  | .p r i j, y => r < N ∧ y = .pointer (some ((ρ r).at (i * (ρ r).m + j)))
  | .sl r lo n, y => r < N ∧ ((ρ r).nil = true → n = 0 ∧ (ρ r).cap = 0) ∧ (ρ r).hd lo n y
  | .fn f caps, y => (∀ r ∈ caps, r < N) ∧ y = .func (.func f) #[] (caps.map fun r => Value.pointer (some ((ρ r).at 0))).toArray

def okL {α β : Type} (R : α → β → Prop) : List α → List β → Prop
  | [], [] => True
  | x :: xs, y :: ys => R x y ∧ okL R xs ys
  | _, _ => False

def C1.ok (N : Nat) (ρ : Nat → RI) : C1 → Value → Prop
  | .a x, y => x.ok N ρ y
  | .agg l, y => ∃ ys, y = .agg ys.toArray ∧ okL (At.ok N ρ) l ys

def Tm.ok (N : Nat) (ρ : Nat → RI) : Tm → Value → Prop
  | .a x, y => x.ok N ρ y
  | .agg l, y => ∃ ys, y = .agg ys.toArray ∧ okL (At.ok N ρ) l ys
  | .tup l, y => ∃ ys, y = .tuple ys.toArray ∧ okL (C1.ok N ρ) l ys

structure Kind.Ok {α : Type} (K : Kind α) : Prop where
  len : ∀ a, (K.enc a).length = K.m
  pos : 0 < K.m
  one : ∀ a, ∀ y ∈ K.enc a, y.oneCell' = true
  upd : ∀ a j v a', K.upd a j v = some a' → j < K.m ∧ K.enc a' = (K.enc a).set j v

def Reg.own (I : RI) : Reg → Prop
  | .dead => False
  | .box o _ => o = true
  | .arr _ _ _ o => o = true ∧ I.nil = false

def Reg.ok (N : Nat) (ρ : Nat → RI) (N0 : Nat) (w : World) (I : RI) : Reg → Prop
  | .dead => True
  | .box o cells => I.off = 0 ∧ (o = true → N0 ≤ I.b ∧ I.b < w.heap.size ∧ ∀ j, w.frozen? ⟨I.b, j, none⟩ = false) ∧ (o = false → I.b < N0) ∧
      ∀ j x, cells[j]? = some x → ∃ y, x.ok N ρ y ∧ w.cell? (I.at j) = some y
  | .arr te tg xs o => (kindOf tg).Ok ∧ I.m = (kindOf tg).m ∧ (I.nil = true → xs = []) ∧
      (I.nil = false → (o = true → N0 ≤ I.b ∧ I.b < w.heap.size ∧ (∀ j, w.frozen? ⟨I.b, j, none⟩ = false) ∧ I.whole w te (kindOf tg).m xs.length) ∧ (o = false → I.b < N0)) ∧
      ∀ i a, xs[i]? = some a → ∀ j y, ((kindOf tg).enc a)[j]? = some y → w.cell? (I.at (i * (kindOf tg).m + j)) = some y

/-- What is known of the program's own variables: facts on the first n blocks. -/
structure Glob where
  n : Nat
  G : World → Prop
  st : ∀ w w', G w → (∀ b, b < n → w'.heap[b]? = w.heap[b]?) → G w'

structure Rel (Γ : Glob) (N0 : Nat) (w0 : World) (ρ : Nat → RI) (st : St) (a : Act) (w : World) : Prop where
  tm : okL (Tm.ok st.rg.length ρ) st.tm a.tmps.toList
  df : a.defers = []
  rg : ∀ (r : Nat) (g : Reg), st.rg[r]? = some g → g.ok st.rg.length ρ N0 w (ρ r)
  dj : ∀ (r r' : Nat) (g g' : Reg), st.rg[r]? = some g → st.rg[r']? = some g' → g.own (ρ r) → g'.own (ρ r') → r ≠ r' → (ρ r).b ≠ (ρ r').b
  bl : Below N0 w0 w
  lo : N0 ≤ w.heap.size
  gl : Γ.G w
  gn : Γ.n ≤ N0

/-! ### Lists in step -/
section
variable {α β : Type} {R R' : α → β → Prop}
theorem okL.length : ∀ {xs : List α} {ys : List β}, okL R xs ys → xs.length = ys.length
  | [], [], _ => rfl
  | _ :: _, _ :: _, h => by simp [okL.length h.2]
theorem okL.mono (hm : ∀ x y, R x y → R' x y) : ∀ {xs : List α} {ys : List β}, okL R xs ys → okL R' xs ys
  | [], [], _ => trivial
  | _ :: _, _ :: _, h => ⟨hm _ _ h.1, okL.mono hm h.2⟩
theorem okL.get : ∀ {xs : List α} {ys : List β}, okL R xs ys → ∀ (i : Nat) x, xs[i]? = some x → ∃ y, ys[i]? = some y ∧ R x y
  | [], [], _, i, x, h => by simp at h
  | x0 :: xs, y0 :: ys, h, 0, x, hx => by simp at hx; subst hx; exact ⟨y0, by simp, h.1⟩
  | x0 :: xs, y0 :: ys, h, i + 1, x, hx => by
    obtain ⟨y, hy, hr⟩ := okL.get h.2 i x (by simpa using hx)
    exact ⟨y, by simpa using hy, hr⟩
theorem okL.set : ∀ {xs : List α} {ys : List β}, okL R xs ys → ∀ i x y, R x y → okL R (xs.set i x) (ys.set i y)
  | [], [], _, _, _, _, _ => trivial
  | _ :: _, _ :: _, h, 0, _, _, hr => ⟨hr, h.2⟩
  | _ :: _, _ :: _, h, i + 1, x, y, hr => ⟨h.1, okL.set h.2 i x y hr⟩
theorem okL.append : ∀ {xs xs' : List α} {ys ys' : List β}, okL R xs ys → okL R xs' ys' → okL R (xs ++ xs') (ys ++ ys')
  | [], _, [], _, _, h' => h'
  | _ :: _, _, _ :: _, _, h, h' => ⟨h.1, okL.append h.2 h'⟩
theorem okL.take : ∀ {xs : List α} {ys : List β}, okL R xs ys → ∀ n, okL R (xs.take n) (ys.take n)
  | [], [], _, n => by cases n <;> exact trivial
  | _ :: _, _ :: _, _, 0 => trivial
  | _ :: _, _ :: _, h, n + 1 => ⟨h.1, okL.take h.2 n⟩
theorem okL.drop : ∀ {xs : List α} {ys : List β}, okL R xs ys → ∀ n, okL R (xs.drop n) (ys.drop n)
  | [], [], _, n => by cases n <;> exact trivial
  | _ :: _, _ :: _, h, 0 => h
  | _ :: _, _ :: _, h, n + 1 => okL.drop h.2 n
theorem okL.replicate {x : α} {y : β} (h : R x y) : ∀ n, okL R (List.replicate n x) (List.replicate n y)
  | 0 => trivial
  | n + 1 => ⟨h, okL.replicate h n⟩
theorem okL.mk : ∀ {xs : List α}, (∀ (i : Nat) x, xs[i]? = some x → ∃ y, R x y) → ∃ ys, okL R xs ys
  | [], _ => ⟨[], trivial⟩
  | x :: xs, h => by
    obtain ⟨y, hy⟩ := h 0 x (by simp)
    obtain ⟨ys, hys⟩ := okL.mk (xs := xs) (fun i x hx => h (i + 1) x (by simpa using hx))
    exact ⟨y :: ys, hy, hys⟩
end

/-! ### Arrays of plain data -/
theorem sameKind_eq {k k' : IntKind} (h : sameKind k k' = true) : k = k' := by
  cases k <;> cases k' <;> first | rfl | cases h
theorem CK.enc_one : ∀ (c : CK) (x : c.ty), (c.enc x).oneCell' = true
  | .int _, _ => rfl
  | .bool, _ => rfl
theorem CK.of_enc : ∀ (c : CK) (v : Value) (x : c.ty), c.of v = some x → c.enc x = v
  | .int k, v, x, h => by
    cases v <;> simp only [CK.of] at h <;> try (cases h; done)
    split at h
    · rename_i hk
      obtain rfl := sameKind_eq hk
      obtain rfl := Option.some.inj h
      rfl
    · cases h
  | .bool, v, x, h => by
    cases v <;> simp only [CK.of] at h <;> try (cases h; done)
    obtain rfl := Option.some.inj h
    rfl

theorem Tup.enc_length : ∀ (tg : List CK) (x : Tup tg), (Tup.enc tg x).length = tg.length
  | [], _ => rfl
  | [_], _ => rfl
  | c :: c' :: cs, x => by simp only [Tup.enc, List.length_cons, Tup.enc_length (c' :: cs) x.2]
theorem Tup.enc_one : ∀ (tg : List CK) (x : Tup tg), ∀ y ∈ Tup.enc tg x, y.oneCell' = true
  | [], _, y, h => by simp [Tup.enc] at h
  | [c], x, y, h => by simp only [Tup.enc, List.mem_singleton] at h; subst h; exact CK.enc_one c x
  | c :: c' :: cs, x, y, h => by
    simp only [Tup.enc, List.mem_cons] at h
    rcases h with rfl | h
    · exact CK.enc_one c x.1
    · exact Tup.enc_one (c' :: cs) x.2 y (by cases cs <;> simpa [Tup.enc] using h)
theorem Tup.enc_upd : ∀ (tg : List CK) (x : Tup tg) (j : Nat) (v : Value) (x' : Tup tg), Tup.upd tg x j v = some x' → j < tg.length ∧ Tup.enc tg x' = (Tup.enc tg x).set j v
  | [], _, _, _, _, h => by simp [Tup.upd] at h
  | [c], x, 0, v, x', h => by
    simp only [Tup.upd] at h
    exact ⟨by simp, by simp only [Tup.enc, List.set]; rw [CK.of_enc c v x' h]⟩
  | [_], _, _ + 1, _, _, h => by simp [Tup.upd] at h
  | c :: c' :: cs, x, 0, v, x', h => by
    simp only [Tup.upd] at h
    split at h
    · rename_i y hy
      obtain rfl := Option.some.inj h
      exact ⟨by simp, by simp only [Tup.enc, List.set]; rw [CK.of_enc c v y hy]⟩
    · cases h
  | c :: c' :: cs, x, j + 1, v, x', h => by
    simp only [Tup.upd] at h
    split at h
    · rename_i y hy
      obtain rfl := Option.some.inj h
      obtain ⟨h1, h2⟩ := Tup.enc_upd (c' :: cs) x.2 j v y hy
      exact ⟨by simp only [List.length_cons] at h1 ⊢; omega, by simp only [Tup.enc, List.set]; rw [← h2]⟩
    · cases h
theorem kindOf_ok (tg : List CK) (h : tg ≠ []) : (kindOf tg).Ok where
  len := Tup.enc_length tg
  pos := by cases tg with | nil => exact absurd rfl h | cons => simp [kindOf]
  one := Tup.enc_one tg
  upd := Tup.enc_upd tg


/-! ### The forcing words are what they wrap -/
theorem setK_eq {α : Type u} : ∀ (l : List α) (i : Nat) (x : α) (k : List α → Prop), setK l i x k = k (l.set i x)
  | [], _, _, _ => rfl
  | _ :: _, 0, _, _ => rfl
  | a :: l, i + 1, x, k => setK_eq l i x fun l => k (a :: l)
theorem appK_eq {α : Type u} : ∀ (l m : List α) (k : List α → Prop), appK l m k = k (l ++ m)
  | [], _, _ => rfl
  | a :: l, m, k => appK_eq l m fun l => k (a :: l)
theorem forceV_eq (x : Value) (k : Value → Prop) : forceV x k = k x := by cases x <;> rfl
theorem forceA_eq (x : At) (k : At → Prop) : forceA x k = k x := by cases x <;> first | rfl | simp [forceA, forceV_eq]
theorem forceAs_eq : ∀ (l : List At) (k : List At → Prop), forceAs l k = k l
  | [], _ => rfl
  | x :: l, k => by
    show forceA x (fun x => forceAs l (fun l => k (x :: l))) = _
    rw [forceA_eq]; exact forceAs_eq l fun l => k (x :: l)
theorem forceC_eq (x : C1) (k : C1 → Prop) : forceC x k = k x := by cases x <;> simp [forceC, forceA_eq, forceAs_eq]
theorem forceCs_eq : ∀ (l : List C1) (k : List C1 → Prop), forceCs l k = k l
  | [], _ => rfl
  | x :: l, k => by
    show forceC x (fun x => forceCs l (fun l => k (x :: l))) = _
    rw [forceC_eq]; exact forceCs_eq l fun l => k (x :: l)
theorem forceT_eq (x : Tm) (k : Tm → Prop) : forceT x k = k x := by cases x <;> simp [forceT, forceA_eq, forceAs_eq, forceCs_eq]
theorem forceR_eq (x : Reg) (k : Reg → Prop) : forceR x k = k x := by cases x <;> simp [forceR, forceAs_eq]
theorem forceRs_eq : ∀ (l : List Reg) (k : List Reg → Prop), forceRs l k = k l
  | [], _ => rfl
  | x :: l, k => by
    show forceR x (fun x => forceRs l (fun l => k (x :: l))) = _
    rw [forceR_eq]; exact forceRs_eq l fun l => k (x :: l)
theorem lenK_eq {α : Type u} : ∀ (l : List α) (k : Nat → Prop), lenK l k = k l.length
  | [], _ => rfl
  | _ :: l, k => lenK_eq l fun n => k (n + 1)

def St.push (st : St) (gs : List Reg) : St := ⟨st.tm, st.rg ++ gs⟩
theorem St.putK_eq (st : St) (d : Option Nat) (x : Tm) (k : St → Prop) : st.putK d x k = k (st.put d x) := by
  cases st; cases d <;> simp [St.putK, St.put, forceT_eq, setK_eq]
theorem St.pushK_eq (st : St) (gs : List Reg) (k : St → Prop) : st.pushK gs k = k (st.push gs) := by
  cases st; simp [St.pushK, St.push, forceRs_eq, appK_eq]
theorem St.setRK_eq (st : St) (r : Nat) (g : Reg) (k : St → Prop) : st.setRK r g k = k ⟨st.tm, st.rg.set r g⟩ := by
  cases st; simp [St.setRK, forceR_eq, setK_eq]

theorem nameV_eq (x : Value) (k : Value → Prop) : nameV x k = k x := by
  cases x <;> simp [nameV]
theorem nameA_eq (x : At) (k : At → Prop) : nameA x k = k x := by cases x <;> simp [nameA, nameV_eq]
theorem nameAs_eq : ∀ (l : List At) (k : List At → Prop), nameAs l k = k l
  | [], _ => rfl
  | x :: l, k => by
    show nameA x (fun x => nameAs l (fun l => k (x :: l))) = _
    rw [nameA_eq]; exact nameAs_eq l fun l => k (x :: l)
theorem nameC_eq (x : C1) (k : C1 → Prop) : nameC x k = k x := by cases x <;> simp [nameC, nameA_eq, nameAs_eq]
theorem nameCs_eq : ∀ (l : List C1) (k : List C1 → Prop), nameCs l k = k l
  | [], _ => rfl
  | x :: l, k => by
    show nameC x (fun x => nameCs l (fun l => k (x :: l))) = _
    rw [nameC_eq]; exact nameCs_eq l fun l => k (x :: l)
theorem nameT_eq (x : Tm) (k : Tm → Prop) : nameT x k = k x := by cases x <;> simp [nameT, nameA_eq, nameAs_eq, nameCs_eq]
theorem nameR_eq (x : Reg) (k : Reg → Prop) : nameR x k = k x := by cases x <;> simp [nameR]
theorem St.putN_eq (st : St) (o : Oper) (x : Tm) (k : St → Prop) : st.putN o x k = k (st.put o.dst x) := by
  unfold St.putN; split <;> simp [nameT_eq, St.putK_eq]

theorem killTs_eq (r : Nat) : ∀ (l : List Tm) (k : List Tm → Prop), killTs r l k = k (l.map (Tm.kill r))
  | [], _ => rfl
  | x :: l, k => by
    show forceT (x.kill r) (fun x => killTs r l (fun l => k (x :: l))) = _
    rw [forceT_eq]; exact killTs_eq r l fun l => k (x.kill r :: l)
theorem killRs_eq (r : Nat) : ∀ (l : List Reg) (k : List Reg → Prop), killRs r l k = k (l.map (Reg.kill r))
  | [], _ => rfl
  | x :: l, k => by
    show forceR (x.kill r) (fun x => killRs r l (fun l => k (x :: l))) = _
    rw [forceR_eq]; exact killRs_eq r l fun l => k (x.kill r :: l)

/-! ### Growing -/
theorem At.ok.mono {N N' : Nat} {ρ ρ' : Nat → RI} (hN : N ≤ N') (hρ : ∀ r, r < N → ρ' r = ρ r) {x : At} {y : Value} (h : x.ok N ρ y) : x.ok N' ρ' y := by
  cases x <;> try exact h
  case p r i j =>
    obtain ⟨h1, h2⟩ := h
    exact ⟨by omega, by rw [hρ r h1]; exact h2⟩
  case sl r lo n =>
    obtain ⟨h1, h2, h3⟩ := h
    exact ⟨by omega, by rw [hρ r h1]; exact h2, by rw [hρ r h1]; exact h3⟩
  case fn f caps =>
    obtain ⟨h1, h2⟩ := h
    refine ⟨fun r hr => by have := h1 r hr; omega, ?_⟩
    rw [h2]
    congr 2
    exact List.map_congr_left fun r hr => by rw [hρ r (h1 r hr)]
theorem okAt_mono {N N' : Nat} {ρ ρ' : Nat → RI} (hN : N ≤ N') (hρ : ∀ r, r < N → ρ' r = ρ r) {l : List At} {ys : List Value} (h : okL (At.ok N ρ) l ys) : okL (At.ok N' ρ') l ys :=
  h.mono fun _ _ h => h.mono hN hρ
theorem C1.ok.mono {N N' : Nat} {ρ ρ' : Nat → RI} (hN : N ≤ N') (hρ : ∀ r, r < N → ρ' r = ρ r) {x : C1} {y : Value} (h : x.ok N ρ y) : x.ok N' ρ' y := by
  cases x with
  | a x => exact At.ok.mono hN hρ h
  | agg l => obtain ⟨ys, h1, h2⟩ := h; exact ⟨ys, h1, okAt_mono hN hρ h2⟩
theorem Tm.ok.mono {N N' : Nat} {ρ ρ' : Nat → RI} (hN : N ≤ N') (hρ : ∀ r, r < N → ρ' r = ρ r) {x : Tm} {y : Value} (h : x.ok N ρ y) : x.ok N' ρ' y := by
  cases x with
  | a x => exact At.ok.mono hN hρ h
  | agg l => obtain ⟨ys, h1, h2⟩ := h; exact ⟨ys, h1, okAt_mono hN hρ h2⟩
  | tup l => obtain ⟨ys, h1, h2⟩ := h; exact ⟨ys, h1, h2.mono fun _ _ h => h.mono hN hρ⟩

/-- A region in a later world, in which its block is as it was. -/
theorem Reg.ok.later {N N' : Nat} {ρ ρ' : Nat → RI} {N0 : Nat} {w w' : World} {I : RI} {g : Reg} (hN : N ≤ N') (hρ : ∀ r, r < N → ρ' r = ρ r)
    (hb : (g.own I ∨ I.b < N0) → w'.heap[I.b]? = w.heap[I.b]?) (hs : w.heap.size ≤ w'.heap.size) (h : g.ok N ρ N0 w I) : g.ok N' ρ' N0 w' I := by
  have hcell : (g.own I ∨ I.b < N0) → ∀ o, w'.cell? (I.at o) = w.cell? (I.at o) := fun hh o => World.cell?_of_block (w := w) (hb hh)
  have hfr : (g.own I ∨ I.b < N0) → ∀ o, w'.frozen? ⟨I.b, o, none⟩ = w.frozen? ⟨I.b, o, none⟩ := fun hh o => World.frozen?_of_block (w := w) (hb hh)
  cases g with
  | dead => trivial
  | box o cells =>
    obtain ⟨h1, h2, h3, h4⟩ := h
    have hh : Reg.own I (.box o cells) ∨ I.b < N0 := by cases o with | true => exact .inl rfl | false => exact .inr (h3 rfl)
    refine ⟨h1, fun ho => ?_, h3, fun j x hx => ?_⟩
    · obtain ⟨a1, a2, a3⟩ := h2 ho
      exact ⟨a1, by omega, fun j => by rw [hfr hh]; exact a3 j⟩
    · obtain ⟨y, hy, hc⟩ := h4 j x hx
      exact ⟨y, hy.mono hN hρ, by rw [hcell hh]; exact hc⟩
  | arr te tg xs o =>
    obtain ⟨h1, h2, h3, h4, h5⟩ := h
    refine ⟨h1, h2, h3, fun hn => ?_, fun i a ha j y hy => ?_⟩
    · have h4' := h4 hn
      refine ⟨fun ho => ?_, h4'.2⟩
      obtain ⟨a1, a2, a3, a4, a5, a6, cur, a7, a8⟩ := h4'.1 ho
      exact ⟨a1, by omega, fun j => by rw [hfr (.inl ⟨ho, hn⟩)]; exact a3 j, a4, a5, a6, cur, by rw [hb (.inl ⟨ho, hn⟩)]; exact a7, a8⟩
    · have hn : I.nil = false := by
        cases hnn : I.nil with
        | false => rfl
        | true => rw [h3 hnn] at ha; simp at ha
      have hh : Reg.own I (.arr te tg xs o) ∨ I.b < N0 := by cases o with | true => exact .inl ⟨rfl, hn⟩ | false => exact .inr ((h4 hn).2 rfl)
      rw [hcell hh]; exact h5 i a ha j y hy

theorem Reg.ok.block_lt {N : Nat} {ρ : Nat → RI} {N0 : Nat} {w : World} {I : RI} {g : Reg} (h : g.ok N ρ N0 w I) (hl : N0 ≤ w.heap.size) (hh : g.own I ∨ I.b < N0) : I.b < w.heap.size := by
  rcases hh with hh | hh
  · cases g with
    | dead => cases hh
    | box o cells => exact (h.2.1 hh).2.1
    | arr te tg xs o => exact ((h.2.2.2.1 hh.2).1 hh.1).2.1
  · omega
theorem Reg.ok.own_ge {N : Nat} {ρ : Nat → RI} {N0 : Nat} {w : World} {I : RI} {g : Reg} (h : g.ok N ρ N0 w I) (hh : g.own I) : N0 ≤ I.b := by
  cases g with
  | dead => cases hh
  | box o cells => exact (h.2.1 hh).1
  | arr te tg xs o => exact ((h.2.2.2.1 hh.2).1 hh.1).1

/-- A later world in which all that was there is as it was. -/
theorem Rel.later {Γ : Glob} {N0 : Nat} {w0 : World} {ρ : Nat → RI} {st : St} {a : Act} {w w' : World} (h : Rel Γ N0 w0 ρ st a w) (hb : Below w.heap.size w w') : Rel Γ N0 w0 ρ st a w' where
  tm := h.tm
  df := h.df
  rg := fun r g hg => (h.rg r g hg).later (Nat.le_refl _) (fun _ _ => rfl) (fun hh => hb.block _ ((h.rg r g hg).block_lt h.lo hh)) hb.size
  dj := h.dj
  bl := h.bl.trans (hb.mono h.lo)
  lo := Nat.le_trans h.lo hb.size
  gl := Γ.st _ _ h.gl fun b hlt => hb.block b (Nat.lt_of_lt_of_le hlt (Nat.le_trans h.gn h.lo))
  gn := h.gn

/-- A value into a slot. -/
theorem Rel.put {Γ : Glob} {N0 : Nat} {w0 : World} {ρ : Nat → RI} {st : St} {a : Act} {w : World} (h : Rel Γ N0 w0 ρ st a w) (d : Option Nat) {x : Tm} {y : Value} (hx : x.ok st.rg.length ρ y) :
    Rel Γ N0 w0 ρ (st.put d x) (a.put d y) w := by
  cases d with
  | none => exact h
  | some d => exact ⟨by simpa [St.put, Act.put] using h.tm.set d x y hx, h.df, h.rg, h.dj, h.bl, h.lo, h.gl, h.gn⟩

end Go.Sx
