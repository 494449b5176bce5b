/-
  Texts of the claims on chapter 2: Mn. No condition: lemmas and contracts.
-/
import Derived.Test.YtlmhkeoblgodiaaMm
set_option linter.all false
section
/-
  Chapter 2, plain: the stages of the table of bounds, on lists of lists.
-/
namespace Go.Chn
def gr (D : List (List Int)) (a : Int) : List Int := D.getD a.toNat []
def tb (D : List (List Int)) (a b : Int) : Int := gi (gr D a) b
def set2 (D : List (List Int)) (a b v : Int) : List (List Int) := D.set a.toNat ((gr D a).set b.toNat v)
structure Sq (N : Nat) (D : List (List Int)) : Prop where
  len : D.length = N
  row : ∀ a, inN N a → (gr D a).length = N
section
variable {N : Nat} {U : List Lk} {D : List (List Int)} {T : Int → Int → Int}
theorem gr_set {r : List Int} {a b : Int} (ha : 0 ≤ a) (hb : 0 ≤ b) (hl : a < D.length) : gr (D.set a.toNat r) b = if b = a then r else gr D b := by
  unfold gr
  rw [List.getD_eq_getElem?_getD, List.getD_eq_getElem?_getD, List.getElem?_set]
  by_cases h : b = a
  · subst h; simp [show b.toNat < D.length by omega]
  · rw [if_neg h, if_neg (by omega)]
theorem Sq.set (h : Sq N D) {a b v : Int} (ha : inN N a) : Sq N (set2 D a b v) := by
  refine ⟨by simp [set2, h.len], fun c hc => ?_⟩
  unfold set2
  rw [gr_set ha.1 hc.1 (by rw [h.len]; exact ha.2)]
  split
  · rw [List.length_set]; exact h.row a ha
  · exact h.row c hc
theorem tb_set (h : Sq N D) {a b c e v : Int} (ha : inN N a) (hb : inN N b) (hc : inN N c) (he : inN N e) : tb (set2 D a b v) c e = if c = a ∧ e = b then v else tb D c e := by
  unfold tb set2
  rw [gr_set ha.1 hc.1 (by rw [h.len]; exact ha.2)]
  by_cases h1 : c = a
  · subst h1
    rw [if_pos rfl, gi_set hb.1 he.1 (by rw [h.row c ha]; exact hb.2)]
    by_cases h2 : e = b
    · rw [if_pos h2, if_pos ⟨rfl, h2⟩]
    · rw [if_neg h2, if_neg fun h => h2 h.2]
  · rw [if_neg h1, if_neg fun h => h1 h.1]
/-- Equal tables. -/
theorem sq_ext {D' : List (List Int)} (h : Sq N D) (h' : Sq N D') (he : ∀ a b, inN N a → inN N b → tb D a b = tb D' a b) : D = D' := by
  apply List.ext_getElem (by rw [h.len, h'.len])
  intro i hi hi'
  have ha : inN N (i : Int) := ⟨by omega, by have := h.len; omega⟩
  have e1 : gr D i = D[i] := by simp [gr, List.getD, hi]
  have e2 : gr D' i = D'[i] := by simp [gr, List.getD, hi']
  have r1 := h.row i ha
  have r2 := h'.row i ha
  rw [e1] at r1
  rw [e2] at r2
  apply List.ext_getElem (by rw [r1, r2])
  intro j hj hj'
  have := he i j ha ⟨by omega, by omega⟩
  unfold tb at this
  rw [e1, e2] at this
  simpa [gi, List.getD, hj, hj'] using this

def filR (N u i : Nat) : List Int := ((List.range i).map fun v => if u = v then (0 : Int) else Fr) ++ List.replicate (N - i) 0
def filL (N k : Nat) : List (List Int) := (List.range k).map fun u => filR N u N
theorem filR_len {N u i : Nat} (h : i ≤ N) : (filR N u i).length = N := by simp [filR]; omega
theorem filR_zero {N u : Nat} : List.replicate N (0 : Int) = filR N u 0 := by simp [filR]
theorem filR_set {N u i : Nat} (h : i < N) : (filR N u i).set i (if u = i then 0 else Fr) = filR N u (i + 1) := by
  unfold filR
  rw [List.set_append_right _ _ (by simp), List.length_map, List.length_range, Nat.sub_self, show N - i = (N - (i + 1)) + 1 by omega, List.replicate_succ, List.set_cons_zero, List.range_succ, List.map_append, List.append_assoc]
  rfl
theorem filR_set2 {N u i : Nat} (h : i < N) (hu : u = i) : ((filR N u i).set i Fr).set i 0 = filR N u (i + 1) := by
  rw [List.set_set, ← filR_set h, if_pos hu]
theorem filR_set1 {N u i : Nat} (h : i < N) (hu : ¬ u = i) : (filR N u i).set i Fr = filR N u (i + 1) := by
  rw [← filR_set h, if_neg hu]
theorem filL_len {N k : Nat} : (filL N k).length = k := by simp [filL]
theorem filL_zero {N : Nat} : [] = filL N 0 := rfl
theorem filL_succ {N k : Nat} : filL N k ++ [filR N k N] = filL N (k + 1) := by simp [filL, List.range_succ]
theorem filL_gr {N : Nat} {a : Int} (ha : inN N a) : gr (filL N N) a = filR N a.toNat N := by
  have : a.toNat < N := by have := ha.1; have := ha.2; omega
  simp [gr, filL, List.getD, this]
theorem filL_sq {N : Nat} : Sq N (filL N N) := ⟨filL_len, fun a ha => by rw [filL_gr ha]; exact filR_len (Nat.le_refl _)⟩
theorem filL_tb {N : Nat} {a b : Int} (ha : inN N a) (hb : inN N b) : tb (filL N N) a b = if a = b then 0 else Fr := by
  unfold tb
  rw [filL_gr ha]
  have h1 : a.toNat < N := by have := ha.1; have := ha.2; omega
  have h2 : b.toNat < N := by have := hb.1; have := hb.2; omega
  have h3 : (a.toNat = b.toNat) ↔ a = b := by have := ha.1; have := hb.1; omega
  simp [filR, gi, List.getD, h2, h3]

/-- The table behind the first links. -/
structure Lkd (N : Nat) (V : List Lk) (D : List (List Int)) : Prop where
  sq : Sq N D
  val : ∀ a b, inN N a → inN N b → tb D a b = T0 V a b
theorem Lkd.zero : Lkd N [] (filL N N) := ⟨filL_sq, fun a b ha hb => by rw [filL_tb ha hb]; rfl⟩
theorem Lkd.step {V : List Lk} (h : Lkd N V D) {l : Lk} (h1 : inN N l.1) (h2 : inN N l.2.1) : Lkd N (V ++ [l]) (set2 D l.1 l.2.1 (if l.2.2 < tb D l.1 l.2.1 then l.2.2 else tb D l.1 l.2.1)) := by
  refine ⟨h.sq.set h1, fun a b ha hb => ?_⟩
  rw [tb_set h.sq h1 h2 ha hb]
  unfold T0
  rw [List.foldl_append, List.foldl_cons, List.foldl_nil]
  have e := h.val a b ha hb
  unfold T0 at e
  rw [← e]
  by_cases hc : a = l.1 ∧ b = l.2.1
  · obtain ⟨rfl, rfl⟩ := hc
    rw [if_pos (show l.1 = l.1 ∧ l.2.1 = l.2.1 from ⟨rfl, rfl⟩), if_pos (show l.1 = l.1 ∧ l.2.1 = l.2.1 from ⟨rfl, rfl⟩)]
    split <;> omega
  · rw [if_neg hc, if_neg fun h => hc ⟨h.1.symm, h.2.symm⟩]
theorem Stg.congr {k : Nat} {T' : Int → Int → Int} (h : Stg N U k T) (he : ∀ a b, inN N a → inN N b → T' a b = T a b) : Stg N U k T' :=
  ⟨fun a b ha hb hf => by rw [he a b ha hb] at hf ⊢; exact h.is a b ha hb hf, fun a b ls ha hb => by rw [he a b ha hb]; exact h.le a b ls ha hb, fun a b ha hb => by rw [he a b ha hb]; exact h.fr a b ha hb⟩
/-- The table before a stage. -/
structure Ftb (N : Nat) (U : List Lk) (k : Nat) (D : List (List Int)) : Prop where
  sq : Sq N D
  st : Stg N U k (tb D)
  dg : DiagOk N (tb D)
theorem Lkd.all (hU : Lks N U) (h : Lkd N U D) : Ftb N U 0 D := by
  refine ⟨h.sq, (Stg.zero hU).congr h.val, fun a ha => ?_⟩
  rw [h.val a a ha ha]
  rcases (T0_le U a a).2.2 with h1 | ⟨l, h1, h2, h3, _⟩
  · rw [h1, if_pos rfl]; omega
  · exact absurd (h2.trans h3.symm) (hU.ne l h1)
/-- Within a stage. -/
structure Mid (N : Nat) (T : Int → Int → Int) (k u v : Nat) (D : List (List Int)) : Prop where
  sq : Sq N D
  val : ∀ a b, inN N a → inN N b → tb D a b = if a < u ∨ (a = u ∧ b < v) then newT T k a b else T a b
theorem Mid.zero (h : Sq N D) {k : Nat} : Mid N (tb D) k 0 0 D := ⟨h, fun a b ha hb => by rw [if_neg (by have := ha.1; have := hb.1; omega)]⟩
theorem new_col {k : Nat} (hd : 0 ≤ T k k) (a : Int) : newT T k a k = T a k := by unfold newT; split <;> omega
theorem new_row {k : Nat} (hd : 0 ≤ T k k) (b : Int) : newT T k k b = T k b := by unfold newT; split <;> omega
theorem Mid.col {k u v : Nat} (h : Mid N T k u v D) (hd : 0 ≤ T k k) (hk : k < N) (hu : u < N) : tb D u k = T u k := by
  rw [h.val u k ⟨by omega, by omega⟩ ⟨by omega, by omega⟩, new_col hd]; split <;> rfl
theorem Mid.row {k u v : Nat} (h : Mid N T k u v D) (hd : 0 ≤ T k k) (hk : k < N) {b : Int} (hb : inN N b) : tb D k b = T k b := by
  rw [h.val k b ⟨by omega, by omega⟩ hb, new_row hd]; split <;> rfl
theorem Mid.cell {k u v : Nat} (h : Mid N T k u v D) (hu : u < N) (hv : v < N) : tb D u v = T u v := by
  rw [h.val u v ⟨by omega, by omega⟩ ⟨by omega, by omega⟩, if_neg (by omega)]
theorem Mid.over {k u v v' : Nat} (h : Mid N T k u v D) (hd : 0 ≤ T k k) (hk : k < N) (hu : u < N) (hc : tb D u k = Fr) (hv : v ≤ v') : Mid N T k u v' D := by
  refine ⟨h.sq, fun a b ha hb => ?_⟩
  rw [h.col hd hk hu] at hc
  rw [h.val a b ha hb]
  by_cases h1 : a < u ∨ (a = u ∧ b < v)
  · rw [if_pos h1, if_pos (by omega)]
  · rw [if_neg h1]
    split
    · obtain rfl : a = u := by omega
      unfold newT; rw [if_pos (.inl hc)]
    · rfl
theorem Mid.skip {k u v : Nat} (h : Mid N T k u v D) (hd : 0 ≤ T k k) (hk : k < N) (hv : v < N) (hc : tb D k v = Fr) : Mid N T k u (v + 1) D := by
  refine ⟨h.sq, fun a b ha hb => ?_⟩
  rw [h.row hd hk ⟨by omega, by omega⟩] at hc
  rw [h.val a b ha hb]
  by_cases h1 : a < u ∨ (a = u ∧ b < v)
  · rw [if_pos h1, if_pos (by omega)]
  · rw [if_neg h1]
    split
    · obtain rfl : b = v := by omega
      unfold newT; rw [if_pos (.inr hc)]
    · rfl
theorem Mid.put {k u v : Nat} (h : Mid N T k u v D) (hd : 0 ≤ T k k) (hk : k < N) (hu : u < N) (hv : v < N) (h1 : tb D u k ≠ Fr) (h2 : tb D k v ≠ Fr) : Mid N T k u (v + 1) (set2 D u v (if tb D u k + tb D k v < tb D u v then tb D u k + tb D k v else tb D u v)) := by
  have hu' : inN N (u : Int) := ⟨by omega, by omega⟩
  have hv' : inN N (v : Int) := ⟨by omega, by omega⟩
  refine ⟨h.sq.set hu', fun a b ha hb => ?_⟩
  rw [tb_set h.sq hu' hv' ha hb]
  rw [h.col hd hk hu] at h1 ⊢
  rw [h.row hd hk hv'] at h2 ⊢
  rw [h.cell hu hv, h.val a b ha hb]
  by_cases hc : a = u ∧ b = v
  · obtain ⟨rfl, rfl⟩ := hc
    rw [if_pos (show (u : Int) = u ∧ (v : Int) = v from ⟨rfl, rfl⟩), if_pos (show (u : Int) < u ∨ ((u : Int) = u ∧ (v : Int) < ((v + 1 : Nat) : Int)) by omega)]
    unfold newT
    rw [if_neg (show ¬ (T u k = Fr ∨ T k v = Fr) from fun h => h.elim h1 h2)]
    split <;> omega
  · rw [if_neg hc]
    by_cases h3 : a < u ∨ (a = u ∧ b < v)
    · rw [if_pos h3, if_pos (by omega)]
    · rw [if_neg h3, if_neg (by omega)]
theorem Mid.next {k u : Nat} (h : Mid N T k u N D) : Mid N T k (u + 1) 0 D := by
  refine ⟨h.sq, fun a b ha hb => ?_⟩
  rw [h.val a b ha hb]
  have := hb.1; have := hb.2
  by_cases h3 : a < u ∨ (a = u ∧ b < N)
  · rw [if_pos h3, if_pos (by omega)]
  · rw [if_neg h3, if_neg (by omega)]
theorem Mid.fin {k : Nat} (h : Mid N T k N 0 D) : ∀ a b, inN N a → inN N b → tb D a b = newT T k a b := fun a b ha hb => by
  rw [h.val a b ha hb, if_pos (.inl ha.2)]
/-- Behind a stage, before the diagonal is looked at. -/
theorem Ftb.next (hU : Lks N U) {k : Nat} {D' : List (List Int)} (h : Ftb N U k D) (hk : k < N) (hm : Mid N (tb D) k N 0 D') : Sq N D' ∧ Stg N U (k + 1) (tb D') :=
  ⟨hm.sq, (Stg.next hU hk h.st h.dg).congr hm.fin⟩
theorem Ftb.bound (hU : Lks N U) {k : Nat} (h : Ftb N U k D) {a b : Int} (ha : inN N a) (hb : inN N b) (hf : tb D a b ≠ Fr) : -288230376151711744 ≤ tb D a b ∧ tb D a b ≤ 288230376151711744 := h.st.bound hU h.dg ha hb hf
end
end Go.Chn
end

section
/-
  Chapter 2, plain: a system with one more link; systems with the same links.
-/
namespace Go.Chn
section
variable {N : Nat} {U : List Lk} {l : Lk}
theorem Sub.app {a b : List Lk} (ha : Sub a U) (hb : Sub b U) : Sub (a ++ b) U := fun x hx => by
  rcases List.mem_append.1 hx with hx | hx
  · exact ha x hx
  · exact hb x hx
theorem Sub.nil : Sub [] U := fun x hx => by cases hx
theorem Sub.tail {x : Lk} {a : List Lk} (h : Sub (x :: a) U) : Sub a U := fun y hy => h y (List.mem_cons_of_mem _ hy)
/-- A chain of a system with one more link: without it, or through it once. -/
theorem add_split (hC : ∀ c, Ch l.2.1 c l.1 → Sub c U → 0 ≤ l.2.2 + sumL c) : ∀ {ls : List Lk} {u v : Int}, Ch u ls v → Sub ls (U ++ [l]) →
    (∃ c, Ch u c v ∧ Sub c U ∧ sumL c ≤ sumL ls) ∨ (∃ a b, Ch u a l.1 ∧ Sub a U ∧ Ch l.2.1 b v ∧ Sub b U ∧ sumL a + l.2.2 + sumL b ≤ sumL ls)
  | [], u, v, h, _ => .inl ⟨[], h, Sub.nil, Int.le_refl _⟩
  | x :: r, u, v, h, hs => by
    have ih := add_split hC h.2 hs.tail
    have e := h.1
    rcases List.mem_append.1 (hs x (by simp)) with hx | hx
    · rcases ih with ⟨c, c1, c2, c3⟩ | ⟨a, b, a1, a2, b1, b2, h3⟩
      · exact .inl ⟨x :: c, ⟨e, c1⟩, Sub.cons hx c2, by simp only [sumL]; omega⟩
      · exact .inr ⟨x :: a, b, ⟨e, a1⟩, Sub.cons hx a2, b1, b2, by simp only [sumL]; omega⟩
    · obtain rfl := List.mem_singleton.1 hx
      rcases ih with ⟨c, c1, c2, c3⟩ | ⟨a, b, a1, a2, b1, b2, h3⟩
      · exact .inr ⟨[], c, e.symm, Sub.nil, c1, c2, by simp only [sumL]; omega⟩
      · have := hC a a1 a2
        exact .inr ⟨[], b, e.symm, Sub.nil, b1, b2, by simp only [sumL]; omega⟩
theorem noneg_sub {V : List Lk} (h : NoNeg U) (hs : Sub V U) : NoNeg V := fun u ls h1 h2 => h u ls h1 fun x hx => hs x (h2 x hx)
theorem add_neg (hn : NoNeg U) : NoNeg (U ++ [l]) ↔ ∀ c, Ch l.2.1 c l.1 → Sub c U → 0 ≤ l.2.2 + sumL c := by
  constructor
  · intro h c h1 h2
    have := h l.1 (l :: c) ⟨rfl, h1⟩ fun x hx => by
      rcases List.mem_cons.1 hx with rfl | hx
      · simp
      · exact List.mem_append_left _ (h2 x hx)
    simpa only [sumL] using this
  · intro hC u ls h1 h2
    rcases add_split hC h1 h2 with ⟨c, c1, c2, c3⟩ | ⟨a, b, a1, a2, b1, b2, h3⟩
    · have := hn u c c1 c2; omega
    · have := hC (b ++ a) (b1.append a1) (b2.app a2)
      rw [sumL_append] at this; omega
theorem back_iff {d : Int} (h : IsD U l.2.1 l.1 d) : (∀ c, Ch l.2.1 c l.1 → Sub c U → 0 ≤ l.2.2 + sumL c) ↔ d = Fr ∨ 0 ≤ l.2.2 + d := by
  constructor
  · intro hC
    by_cases hf : d = Fr
    · exact .inl hf
    · obtain ⟨c, c1, c2, c3⟩ := h.is hf
      have := hC c c1 c2
      exact .inr (by omega)
  · intro hd c c1 c2
    have h1 := h.no c c1 c2
    have h2 := h.le c c1 c2
    rcases hd with hd | hd
    · exact absurd hd h1
    · omega
theorem add_dist {u v d da db : Int} (hC : ∀ c, Ch l.2.1 c l.1 → Sub c U → 0 ≤ l.2.2 + sumL c) (h : IsD U u v d) (ha : IsD U u l.1 da) (hb : IsD U l.2.1 v db) (hB : da ≠ Fr → db ≠ Fr → da + l.2.2 + db < Fr) :
    IsD (U ++ [l]) u v (if da ≠ Fr ∧ db ≠ Fr then min d (da + l.2.2 + db) else d) := by
  have hle : ∀ ls, Ch u ls v → Sub ls (U ++ [l]) → (if da ≠ Fr ∧ db ≠ Fr then min d (da + l.2.2 + db) else d) ≤ sumL ls ∧ (if da ≠ Fr ∧ db ≠ Fr then min d (da + l.2.2 + db) else d) ≠ Fr := by
    intro ls h1 h2
    have hfr := h.fr
    rcases add_split hC h1 h2 with ⟨c, c1, c2, c3⟩ | ⟨a, b, a1, a2, b1, b2, h3⟩
    · have e1 := h.le c c1 c2
      have e2 := h.no c c1 c2
      split <;> omega
    · have e1 := ha.le a a1 a2
      have e2 := ha.no a a1 a2
      have e3 := hb.le b b1 b2
      have e4 := hb.no b b1 b2
      have e5 := hB e2 e4
      rw [if_pos ⟨e2, e4⟩]
      omega
  refine ⟨fun hf => ?_, fun ls h1 h2 => (hle ls h1 h2).1, fun ls h1 h2 => (hle ls h1 h2).2, ?_⟩
  · have up : ∀ {c : List Lk}, Sub c U → Sub c (U ++ [l]) := fun hc x hx => List.mem_append_left _ (hc x hx)
    split at hf
    · rename_i hh
      rw [if_pos hh]
      by_cases hd : d ≤ da + l.2.2 + db
      · rw [Int.min_eq_left hd] at hf ⊢
        obtain ⟨c, c1, c2, c3⟩ := h.is hf
        exact ⟨c, c1, up c2, c3⟩
      · rw [Int.min_eq_right (by omega)] at hf ⊢
        obtain ⟨a, a1, a2, a3⟩ := ha.is hh.1
        obtain ⟨b, b1, b2, b3⟩ := hb.is hh.2
        refine ⟨a ++ l :: b, a1.append ⟨rfl, b1⟩, (up a2).app (Sub.cons (by simp) (up b2)), ?_⟩
        rw [sumL_append]; simp only [sumL]; omega
    · rename_i hh
      rw [if_neg hh]
      obtain ⟨c, c1, c2, c3⟩ := h.is hf
      exact ⟨c, c1, up c2, c3⟩
  · have := h.fr
    split <;> omega
/-- Bounds depend on which links there are alone. -/
theorem noneg_same {V : List Lk} (h : ∀ x, x ∈ U ↔ x ∈ V) : NoNeg U ↔ NoNeg V := ⟨fun hn => noneg_sub hn fun x hx => (h x).2 hx, fun hn => noneg_sub hn fun x hx => (h x).1 hx⟩
theorem isD_same {V : List Lk} (h : ∀ x, x ∈ U ↔ x ∈ V) {u v d : Int} (hd : IsD U u v d) : IsD V u v d :=
  ⟨fun hf => by obtain ⟨c, c1, c2, c3⟩ := hd.is hf; exact ⟨c, c1, fun x hx => (h x).1 (c2 x hx), c3⟩, fun ls h1 h2 => hd.le ls h1 fun x hx => (h x).2 (h2 x hx), fun ls h1 h2 => hd.no ls h1 fun x hx => (h x).2 (h2 x hx), hd.fr⟩
/-- A system whose closed chains go below 0 has one with at most as many links as there are nodes. -/
theorem short_neg (hI : InN N U) : ∀ (n : Nat) (u : Int) (ls : List Lk), ls.length ≤ n → Ch u ls u → Sub ls U → sumL ls < 0 → ∃ (w : Int) (r : List Lk), Ch w r w ∧ Sub r U ∧ sumL r < 0 ∧ r.length ≤ N ∧ r.length ≤ ls.length := by
  intro n
  induction n with
  | zero =>
    intro u ls hl _ _ hs
    obtain rfl := List.eq_nil_of_length_eq_zero (Nat.le_zero.1 hl)
    simp [sumL] at hs
  | succ n ih =>
    intro u ls hl hc hm hs
    by_cases hd : (ls.map (·.1)).Nodup
    · refine ⟨u, ls, hc, hm, hs, ?_, Nat.le_refl _⟩
      have := nodup_le N (ls.map (·.1)) hd (fun x hx => by
        obtain ⟨l, hl, rfl⟩ := List.mem_map.1 hx
        exact (hI l (hm l hl)).1)
      simpa using this
    · -- two links begin at the same node
      have : ∃ a b c x y, ls = a ++ x :: (b ++ y :: c) ∧ x.1 = y.1 := by
        clear hc hm hs hl
        induction ls with
        | nil => simp at hd
        | cons z r ih2 =>
          rw [List.map_cons, List.nodup_cons] at hd
          by_cases hz : z.1 ∈ r.map (·.1)
          · obtain ⟨y, hy, hyz⟩ := List.mem_map.1 hz
            obtain ⟨b, c, rfl⟩ := List.append_of_mem hy
            exact ⟨[], b, c, z, y, rfl, hyz.symm⟩
          · obtain ⟨a, b, c, x, y, rfl, hxy⟩ := ih2 (fun h => hd ⟨hz, h⟩)
            exact ⟨z :: a, b, c, x, y, rfl, hxy⟩
      obtain ⟨a, b, c, x, y, rfl, hxy⟩ := this
      obtain ⟨w, h1, h2⟩ := hc.split
      have hw : x.1 = w := h2.1
      have h2' : Ch w ((x :: b) ++ (y :: c)) u := h2
      obtain ⟨z, h3, h4⟩ := h2'.split
      have hz : y.1 = z := h4.1
      obtain rfl : w = z := by rw [← hw, ← hz, hxy]
      have e : sumL (a ++ x :: (b ++ y :: c)) = sumL (x :: b) + sumL (a ++ y :: c) := by
        rw [sumL_append, sumL_append]; simp only [sumL]; rw [sumL_append]; simp only [sumL]; omega
      have hsub1 : Sub (x :: b) U := fun k hk => hm k (by
        rcases List.mem_cons.1 hk with rfl | hk
        · simp
        · simp [hk])
      have hsub2 : Sub (a ++ y :: c) U := fun k hk => hm k (by
        rcases List.mem_append.1 hk with hk | hk
        · simp [hk]
        · rcases List.mem_cons.1 hk with rfl | hk
          · simp
          · simp [hk])
      have hlen : (a ++ x :: (b ++ y :: c)).length = (x :: b).length + (a ++ y :: c).length := by simp; omega
      by_cases hneg : sumL (x :: b) < 0
      · obtain ⟨w', r, r1, r2, r3, r4, r5⟩ := ih w (x :: b) (by simp at hlen hl ⊢; omega) h3 hsub1 hneg
        exact ⟨w', r, r1, r2, r3, r4, by simp at r5 ⊢; omega⟩
      · obtain ⟨w', r, r1, r2, r3, r4, r5⟩ := ih u (a ++ y :: c) (by simp at hlen hl ⊢; omega) (h1.append h4) hsub2 (by omega)
        exact ⟨w', r, r1, r2, r3, r4, by simp at r5 ⊢; omega⟩
end
end Go.Chn
end
