/-
  Texts of the claims on chapter 2: Mn. No condition: lemmas and contracts.
-/
import Derived.Test.YtlmhkeoblgodiaaMm
set_option linter.all false
section
/-
  Chapter 2, plain: the stages of the table of bounds, on lists of lists.
-/
namespace Go.Chn
def gr (D : List (List Int)) (a : Int) : List Int := D.getD a.toNat []
def tb (D : List (List Int)) (a b : Int) : Int := gi (gr D a) b
def set2 (D : List (List Int)) (a b v : Int) : List (List Int) := D.set a.toNat ((gr D a).set b.toNat v)
structure Sq (N : Nat) (D : List (List Int)) : Prop where
  len : D.length = N
  row : ∀ a, inN N a → (gr D a).length = N
section
variable {N : Nat} {U : List Lk} {D : List (List Int)} {T : Int → Int → Int}
theorem gr_set {r : List Int} {a b : Int} (ha : 0 ≤ a) (hb : 0 ≤ b) (hl : a < D.length) : gr (D.set a.toNat r) b = if b = a then r else gr D b := by
  unfold gr
  rw [List.getD_eq_getElem?_getD, List.getD_eq_getElem?_getD, List.getElem?_set]
  by_cases h : b = a
  · subst h; simp [show b.toNat < D.length by omega]
  · rw [if_neg h, if_neg (by omega)]
theorem Sq.set (h : Sq N D) {a b v : Int} (ha : inN N a) : Sq N (set2 D a b v) := by
  refine ⟨by simp [set2, h.len], fun c hc => ?_⟩
  unfold set2
  rw [gr_set ha.1 hc.1 (by rw [h.len]; exact ha.2)]
  split
  · rw [List.length_set]; exact h.row a ha
  · exact h.row c hc
theorem tb_set (h : Sq N D) {a b c e v : Int} (ha : inN N a) (hb : inN N b) (hc : inN N c) (he : inN N e) : tb (set2 D a b v) c e = if c = a ∧ e = b then v else tb D c e := by
  unfold tb set2
  rw [gr_set ha.1 hc.1 (by rw [h.len]; exact ha.2)]
  by_cases h1 : c = a
  · subst h1
    rw [if_pos rfl, gi_set hb.1 he.1 (by rw [h.row c ha]; exact hb.2)]
    by_cases h2 : e = b
    · rw [if_pos h2, if_pos ⟨rfl, h2⟩]
    · rw [if_neg h2, if_neg fun h => h2 h.2]
  · rw [if_neg h1, if_neg fun h => h1 h.1]
/-- Equal tables. -/
theorem sq_ext {D' : List (List Int)} (h : Sq N D) (h' : Sq N D') (he : ∀ a b, inN N a → inN N b → tb D a b = tb D' a b) : D = D' := by
  apply List.ext_getElem (by rw [h.len, h'.len])
  intro i hi hi'
  have ha : inN N (i : Int) := ⟨by omega, by have := h.len; omega⟩
  have e1 : gr D i = D[i] := by simp [gr, List.getD, hi]
  have e2 : gr D' i = D'[i] := by simp [gr, List.getD, hi']
  have r1 := h.row i ha
  have r2 := h'.row i ha
  rw [e1] at r1
  rw [e2] at r2
  apply List.ext_getElem (by rw [r1, r2])
  intro j hj hj'
  have := he i j ha ⟨by omega, by omega⟩
  unfold tb at this
  rw [e1, e2] at this
  simpa [gi, List.getD, hj, hj'] using this

def filR (N u i : Nat) : List Int := ((List.range i).map fun v => if u = v then (0 : Int) else Fr) ++ List.replicate (N - i) 0
def filL (N k : Nat) : List (List Int) := (List.range k).map fun u => filR N u N
theorem filR_len {N u i : Nat} (h : i ≤ N) : (filR N u i).length = N := by simp [filR]; omega
theorem filR_zero {N u : Nat} : List.replicate N (0 : Int) = filR N u 0 := by simp [filR]
theorem filR_set {N u i : Nat} (h : i < N) : (filR N u i).set i (if u = i then 0 else Fr) = filR N u (i + 1) := by
  unfold filR
  rw [List.set_append_right _ _ (by simp), List.length_map, List.length_range, Nat.sub_self, show N - i = (N - (i + 1)) + 1 by omega, List.replicate_succ, List.set_cons_zero, List.range_succ, List.map_append, List.append_assoc]
  rfl
theorem filR_set2 {N u i : Nat} (h : i < N) (hu : u = i) : ((filR N u i).set i Fr).set i 0 = filR N u (i + 1) := by
  rw [List.set_set, ← filR_set h, if_pos hu]
theorem filR_set1 {N u i : Nat} (h : i < N) (hu : ¬ u = i) : (filR N u i).set i Fr = filR N u (i + 1) := by
  rw [← filR_set h, if_neg hu]
theorem filL_len {N k : Nat} : (filL N k).length = k := by simp [filL]
theorem filL_zero {N : Nat} : [] = filL N 0 := rfl
theorem filL_succ {N k : Nat} : filL N k ++ [filR N k N] = filL N (k + 1) := by simp [filL, List.range_succ]
theorem filL_gr {N : Nat} {a : Int} (ha : inN N a) : gr (filL N N) a = filR N a.toNat N := by
  have : a.toNat < N := by have := ha.1; have := ha.2; omega
  simp [gr, filL, List.getD, this]
theorem filL_sq {N : Nat} : Sq N (filL N N) := ⟨filL_len, fun a ha => by rw [filL_gr ha]; exact filR_len (Nat.le_refl _)⟩
theorem filL_tb {N : Nat} {a b : Int} (ha : inN N a) (hb : inN N b) : tb (filL N N) a b = if a = b then 0 else Fr := by
  unfold tb
  rw [filL_gr ha]
  have h1 : a.toNat < N := by have := ha.1; have := ha.2; omega
  have h2 : b.toNat < N := by have := hb.1; have := hb.2; omega
  have h3 : (a.toNat = b.toNat) ↔ a = b := by have := ha.1; have := hb.1; omega
  simp [filR, gi, List.getD, h2, h3]

/-- The table behind the first links. -/
structure Lkd (N : Nat) (V : List Lk) (D : List (List Int)) : Prop where
  sq : Sq N D
  val : ∀ a b, inN N a → inN N b → tb D a b = T0 V a b
theorem Lkd.zero : Lkd N [] (filL N N) := ⟨filL_sq, fun a b ha hb => by rw [filL_tb ha hb]; rfl⟩
theorem Lkd.step {V : List Lk} (h : Lkd N V D) {l : Lk} (h1 : inN N l.1) (h2 : inN N l.2.1) : Lkd N (V ++ [l]) (set2 D l.1 l.2.1 (if l.2.2 < tb D l.1 l.2.1 then l.2.2 else tb D l.1 l.2.1)) := by
  refine ⟨h.sq.set h1, fun a b ha hb => ?_⟩
  rw [tb_set h.sq h1 h2 ha hb]
  unfold T0
  rw [List.foldl_append, List.foldl_cons, List.foldl_nil]
  have e := h.val a b ha hb
  unfold T0 at e
  rw [← e]
  by_cases hc : a = l.1 ∧ b = l.2.1
  · obtain ⟨rfl, rfl⟩ := hc
    rw [if_pos (show l.1 = l.1 ∧ l.2.1 = l.2.1 from ⟨rfl, rfl⟩), if_pos (show l.1 = l.1 ∧ l.2.1 = l.2.1 from ⟨rfl, rfl⟩)]
    split <;> omega
  · rw [if_neg hc, if_neg fun h => hc ⟨h.1.symm, h.2.symm⟩]
theorem Stg.congr {k : Nat} {T' : Int → Int → Int} (h : Stg N U k T) (he : ∀ a b, inN N a → inN N b → T' a b = T a b) : Stg N U k T' :=
  ⟨fun a b ha hb hf => by rw [he a b ha hb] at hf ⊢; exact h.is a b ha hb hf, fun a b ls ha hb => by rw [he a b ha hb]; exact h.le a b ls ha hb, fun a b ha hb => by rw [he a b ha hb]; exact h.fr a b ha hb⟩
/-- The table before a stage. -/
structure Ftb (N : Nat) (U : List Lk) (k : Nat) (D : List (List Int)) : Prop where
  sq : Sq N D
  st : Stg N U k (tb D)
  dg : DiagOk N (tb D)
theorem Lkd.all (hU : Lks N U) (h : Lkd N U D) : Ftb N U 0 D := by
  refine ⟨h.sq, (Stg.zero hU).congr h.val, fun a ha => ?_⟩
  rw [h.val a a ha ha]
  rcases (T0_le U a a).2.2 with h1 | ⟨l, h1, h2, h3, _⟩
  · rw [h1, if_pos rfl]; omega
  · exact absurd (h2.trans h3.symm) (hU.ne l h1)
/-- Within a stage. -/
structure Mid (N : Nat) (T : Int → Int → Int) (k u v : Nat) (D : List (List Int)) : Prop where
  sq : Sq N D
  val : ∀ a b, inN N a → inN N b → tb D a b = if a < u ∨ (a = u ∧ b < v) then newT T k a b else T a b
theorem Mid.zero (h : Sq N D) {k : Nat} : Mid N (tb D) k 0 0 D := ⟨h, fun a b ha hb => by rw [if_neg (by have := ha.1; have := hb.1; omega)]⟩
theorem new_col {k : Nat} (hd : 0 ≤ T k k) (a : Int) : newT T k a k = T a k := by unfold newT; split <;> omega
theorem new_row {k : Nat} (hd : 0 ≤ T k k) (b : Int) : newT T k k b = T k b := by unfold newT; split <;> omega
theorem Mid.col {k u v : Nat} (h : Mid N T k u v D) (hd : 0 ≤ T k k) (hk : k < N) (hu : u < N) : tb D u k = T u k := by
  rw [h.val u k ⟨by omega, by omega⟩ ⟨by omega, by omega⟩, new_col hd]; split <;> rfl
theorem Mid.row {k u v : Nat} (h : Mid N T k u v D) (hd : 0 ≤ T k k) (hk : k < N) {b : Int} (hb : inN N b) : tb D k b = T k b := by
  rw [h.val k b ⟨by omega, by omega⟩ hb, new_row hd]; split <;> rfl
theorem Mid.cell {k u v : Nat} (h : Mid N T k u v D) (hu : u < N) (hv : v < N) : tb D u v = T u v := by
  rw [h.val u v ⟨by omega, by omega⟩ ⟨by omega, by omega⟩, if_neg (by omega)]
theorem Mid.over {k u v v' : Nat} (h : Mid N T k u v D) (hd : 0 ≤ T k k) (hk : k < N) (hu : u < N) (hc : tb D u k = Fr) (hv : v ≤ v') : Mid N T k u v' D := by
  refine ⟨h.sq, fun a b ha hb => ?_⟩
  rw [h.col hd hk hu] at hc
  rw [h.val a b ha hb]
  by_cases h1 : a < u ∨ (a = u ∧ b < v)
  · rw [if_pos h1, if_pos (by omega)]
  · rw [if_neg h1]
    split
    · obtain rfl : a = u := by omega
      unfold newT; rw [if_pos (.inl hc)]
    · rfl
theorem Mid.skip {k u v : Nat} (h : Mid N T k u v D) (hd : 0 ≤ T k k) (hk : k < N) (hv : v < N) (hc : tb D k v = Fr) : Mid N T k u (v + 1) D := by
  refine ⟨h.sq, fun a b ha hb => ?_⟩
  rw [h.row hd hk ⟨by omega, by omega⟩] at hc
  rw [h.val a b ha hb]
  by_cases h1 : a < u ∨ (a = u ∧ b < v)
  · rw [if_pos h1, if_pos (by omega)]
  · rw [if_neg h1]
    split
    · obtain rfl : b = v := by omega
      unfold newT; rw [if_pos (.inr hc)]
    · rfl
theorem Mid.put {k u v : Nat} (h : Mid N T k u v D) (hd : 0 ≤ T k k) (hk : k < N) (hu : u < N) (hv : v < N) (h1 : tb D u k ≠ Fr) (h2 : tb D k v ≠ Fr) : Mid N T k u (v + 1) (set2 D u v (if tb D u k + tb D k v < tb D u v then tb D u k + tb D k v else tb D u v)) := by
  have hu' : inN N (u : Int) := ⟨by omega, by omega⟩
  have hv' : inN N (v : Int) := ⟨by omega, by omega⟩
  refine ⟨h.sq.set hu', fun a b ha hb => ?_⟩
  rw [tb_set h.sq hu' hv' ha hb]
  rw [h.col hd hk hu] at h1 ⊢
  rw [h.row hd hk hv'] at h2 ⊢
  rw [h.cell hu hv, h.val a b ha hb]
  by_cases hc : a = u ∧ b = v
  · obtain ⟨rfl, rfl⟩ := hc
    rw [if_pos (show (u : Int) = u ∧ (v : Int) = v from ⟨rfl, rfl⟩), if_pos (show (u : Int) < u ∨ ((u : Int) = u ∧ (v : Int) < ((v + 1 : Nat) : Int)) by omega)]
    unfold newT
    rw [if_neg (show ¬ (T u k = Fr ∨ T k v = Fr) from fun h => h.elim h1 h2)]
    split <;> omega
  · rw [if_neg hc]
    by_cases h3 : a < u ∨ (a = u ∧ b < v)
    · rw [if_pos h3, if_pos (by omega)]
    · rw [if_neg h3, if_neg (by omega)]
theorem Mid.next {k u : Nat} (h : Mid N T k u N D) : Mid N T k (u + 1) 0 D := by
  refine ⟨h.sq, fun a b ha hb => ?_⟩
  rw [h.val a b ha hb]
  have := hb.1; have := hb.2
  by_cases h3 : a < u ∨ (a = u ∧ b < N)
  · rw [if_pos h3, if_pos (by omega)]
  · rw [if_neg h3, if_neg (by omega)]
theorem Mid.fin {k : Nat} (h : Mid N T k N 0 D) : ∀ a b, inN N a → inN N b → tb D a b = newT T k a b := fun a b ha hb => by
  rw [h.val a b ha hb, if_pos (.inl ha.2)]
/-- Behind a stage, before the diagonal is looked at. -/
theorem Ftb.next (hU : Lks N U) {k : Nat} {D' : List (List Int)} (h : Ftb N U k D) (hk : k < N) (hm : Mid N (tb D) k N 0 D') : Sq N D' ∧ Stg N U (k + 1) (tb D') :=
  ⟨hm.sq, (Stg.next hU hk h.st h.dg).congr hm.fin⟩
theorem Ftb.bound (hU : Lks N U) {k : Nat} (h : Ftb N U k D) {a b : Int} (ha : inN N a) (hb : inN N b) (hf : tb D a b ≠ Fr) : -288230376151711744 ≤ tb D a b ∧ tb D a b ≤ 288230376151711744 := h.st.bound hU h.dg ha hb hf
end
end Go.Chn
end

section
/-
  Chapter 2, plain: a system with one more link; systems with the same links.
-/
namespace Go.Chn
section
variable {N : Nat} {U : List Lk} {l : Lk}
theorem Sub.app {a b : List Lk} (ha : Sub a U) (hb : Sub b U) : Sub (a ++ b) U := fun x hx => by
  rcases List.mem_append.1 hx with hx | hx
  · exact ha x hx
  · exact hb x hx
theorem Sub.nil : Sub [] U := fun x hx => by cases hx
theorem Sub.tail {x : Lk} {a : List Lk} (h : Sub (x :: a) U) : Sub a U := fun y hy => h y (List.mem_cons_of_mem _ hy)
/-- A chain of a system with one more link: without it, or through it once. -/
theorem add_split (hC : ∀ c, Ch l.2.1 c l.1 → Sub c U → 0 ≤ l.2.2 + sumL c) : ∀ {ls : List Lk} {u v : Int}, Ch u ls v → Sub ls (U ++ [l]) →
    (∃ c, Ch u c v ∧ Sub c U ∧ sumL c ≤ sumL ls) ∨ (∃ a b, Ch u a l.1 ∧ Sub a U ∧ Ch l.2.1 b v ∧ Sub b U ∧ sumL a + l.2.2 + sumL b ≤ sumL ls)
  | [], u, v, h, _ => .inl ⟨[], h, Sub.nil, Int.le_refl _⟩
  | x :: r, u, v, h, hs => by
    have ih := add_split hC h.2 hs.tail
    have e := h.1
    rcases List.mem_append.1 (hs x (by simp)) with hx | hx
    · rcases ih with ⟨c, c1, c2, c3⟩ | ⟨a, b, a1, a2, b1, b2, h3⟩
      · exact .inl ⟨x :: c, ⟨e, c1⟩, Sub.cons hx c2, by simp only [sumL]; omega⟩
      · exact .inr ⟨x :: a, b, ⟨e, a1⟩, Sub.cons hx a2, b1, b2, by simp only [sumL]; omega⟩
    · obtain rfl := List.mem_singleton.1 hx
      rcases ih with ⟨c, c1, c2, c3⟩ | ⟨a, b, a1, a2, b1, b2, h3⟩
      · exact .inr ⟨[], c, e.symm, Sub.nil, c1, c2, by simp only [sumL]; omega⟩
      · have := hC a a1 a2
        exact .inr ⟨[], b, e.symm, Sub.nil, b1, b2, by simp only [sumL]; omega⟩
theorem noneg_sub {V : List Lk} (h : NoNeg U) (hs : Sub V U) : NoNeg V := fun u ls h1 h2 => h u ls h1 fun x hx => hs x (h2 x hx)
theorem add_neg (hn : NoNeg U) : NoNeg (U ++ [l]) ↔ ∀ c, Ch l.2.1 c l.1 → Sub c U → 0 ≤ l.2.2 + sumL c := by
  constructor
  · intro h c h1 h2
    have := h l.1 (l :: c) ⟨rfl, h1⟩ fun x hx => by
      rcases List.mem_cons.1 hx with rfl | hx
      · simp
      · exact List.mem_append_left _ (h2 x hx)
    simpa only [sumL] using this
  · intro hC u ls h1 h2
    rcases add_split hC h1 h2 with ⟨c, c1, c2, c3⟩ | ⟨a, b, a1, a2, b1, b2, h3⟩
    · have := hn u c c1 c2; omega
    · have := hC (b ++ a) (b1.append a1) (b2.app a2)
      rw [sumL_append] at this; omega
theorem back_iff {d : Int} (h : IsD U l.2.1 l.1 d) : (∀ c, Ch l.2.1 c l.1 → Sub c U → 0 ≤ l.2.2 + sumL c) ↔ d = Fr ∨ 0 ≤ l.2.2 + d := by
  constructor
  · intro hC
    by_cases hf : d = Fr
    · exact .inl hf
    · obtain ⟨c, c1, c2, c3⟩ := h.is hf
      have := hC c c1 c2
      exact .inr (by omega)
  · intro hd c c1 c2
    have h1 := h.no c c1 c2
    have h2 := h.le c c1 c2
    rcases hd with hd | hd
    · exact absurd hd h1
    · omega
theorem add_dist {u v d da db : Int} (hC : ∀ c, Ch l.2.1 c l.1 → Sub c U → 0 ≤ l.2.2 + sumL c) (h : IsD U u v d) (ha : IsD U u l.1 da) (hb : IsD U l.2.1 v db) (hB : da ≠ Fr → db ≠ Fr → da + l.2.2 + db < Fr) :
    IsD (U ++ [l]) u v (if da ≠ Fr ∧ db ≠ Fr then min d (da + l.2.2 + db) else d) := by
  have hle : ∀ ls, Ch u ls v → Sub ls (U ++ [l]) → (if da ≠ Fr ∧ db ≠ Fr then min d (da + l.2.2 + db) else d) ≤ sumL ls ∧ (if da ≠ Fr ∧ db ≠ Fr then min d (da + l.2.2 + db) else d) ≠ Fr := by
    intro ls h1 h2
    have hfr := h.fr
    rcases add_split hC h1 h2 with ⟨c, c1, c2, c3⟩ | ⟨a, b, a1, a2, b1, b2, h3⟩
    · have e1 := h.le c c1 c2
      have e2 := h.no c c1 c2
      split <;> omega
    · have e1 := ha.le a a1 a2
      have e2 := ha.no a a1 a2
      have e3 := hb.le b b1 b2
      have e4 := hb.no b b1 b2
      have e5 := hB e2 e4
      rw [if_pos ⟨e2, e4⟩]
      omega
  refine ⟨fun hf => ?_, fun ls h1 h2 => (hle ls h1 h2).1, fun ls h1 h2 => (hle ls h1 h2).2, ?_⟩
  · have up : ∀ {c : List Lk}, Sub c U → Sub c (U ++ [l]) := fun hc x hx => List.mem_append_left _ (hc x hx)
    split at hf
    · rename_i hh
      rw [if_pos hh]
      by_cases hd : d ≤ da + l.2.2 + db
      · rw [Int.min_eq_left hd] at hf ⊢
        obtain ⟨c, c1, c2, c3⟩ := h.is hf
        exact ⟨c, c1, up c2, c3⟩
      · rw [Int.min_eq_right (by omega)] at hf ⊢
        obtain ⟨a, a1, a2, a3⟩ := ha.is hh.1
        obtain ⟨b, b1, b2, b3⟩ := hb.is hh.2
        refine ⟨a ++ l :: b, a1.append ⟨rfl, b1⟩, (up a2).app (Sub.cons (by simp) (up b2)), ?_⟩
        rw [sumL_append]; simp only [sumL]; omega
    · rename_i hh
      rw [if_neg hh]
      obtain ⟨c, c1, c2, c3⟩ := h.is hf
      exact ⟨c, c1, up c2, c3⟩
  · have := h.fr
    split <;> omega
/-- Bounds depend on which links there are alone. -/
theorem noneg_same {V : List Lk} (h : ∀ x, x ∈ U ↔ x ∈ V) : NoNeg U ↔ NoNeg V := ⟨fun hn => noneg_sub hn fun x hx => (h x).2 hx, fun hn => noneg_sub hn fun x hx => (h x).1 hx⟩
theorem isD_same {V : List Lk} (h : ∀ x, x ∈ U ↔ x ∈ V) {u v d : Int} (hd : IsD U u v d) : IsD V u v d :=
  ⟨fun hf => by obtain ⟨c, c1, c2, c3⟩ := hd.is hf; exact ⟨c, c1, fun x hx => (h x).1 (c2 x hx), c3⟩, fun ls h1 h2 => hd.le ls h1 fun x hx => (h x).2 (h2 x hx), fun ls h1 h2 => hd.no ls h1 fun x hx => (h x).2 (h2 x hx), hd.fr⟩
/-- A system whose closed chains go below 0 has one with at most as many links as there are nodes. -/
theorem short_neg (hI : InN N U) : ∀ (n : Nat) (u : Int) (ls : List Lk), ls.length ≤ n → Ch u ls u → Sub ls U → sumL ls < 0 → ∃ (w : Int) (r : List Lk), Ch w r w ∧ Sub r U ∧ sumL r < 0 ∧ r.length ≤ N ∧ r.length ≤ ls.length := by
  intro n
  induction n with
  | zero =>
    intro u ls hl _ _ hs
    obtain rfl := List.eq_nil_of_length_eq_zero (Nat.le_zero.1 hl)
    simp [sumL] at hs
  | succ n ih =>
    intro u ls hl hc hm hs
    by_cases hd : (ls.map (·.1)).Nodup
    · refine ⟨u, ls, hc, hm, hs, ?_, Nat.le_refl _⟩
      have := nodup_le N (ls.map (·.1)) hd (fun x hx => by
        obtain ⟨l, hl, rfl⟩ := List.mem_map.1 hx
        exact (hI l (hm l hl)).1)
      simpa using this
    · -- two links begin at the same node
      have : ∃ a b c x y, ls = a ++ x :: (b ++ y :: c) ∧ x.1 = y.1 := by
        clear hc hm hs hl
        induction ls with
        | nil => simp at hd
        | cons z r ih2 =>
          rw [List.map_cons, List.nodup_cons] at hd
          by_cases hz : z.1 ∈ r.map (·.1)
          · obtain ⟨y, hy, hyz⟩ := List.mem_map.1 hz
            obtain ⟨b, c, rfl⟩ := List.append_of_mem hy
            exact ⟨[], b, c, z, y, rfl, hyz.symm⟩
          · obtain ⟨a, b, c, x, y, rfl, hxy⟩ := ih2 (fun h => hd ⟨hz, h⟩)
            exact ⟨z :: a, b, c, x, y, rfl, hxy⟩
      obtain ⟨a, b, c, x, y, rfl, hxy⟩ := this
      obtain ⟨w, h1, h2⟩ := hc.split
      have hw : x.1 = w := h2.1
      have h2' : Ch w ((x :: b) ++ (y :: c)) u := h2
      obtain ⟨z, h3, h4⟩ := h2'.split
      have hz : y.1 = z := h4.1
      obtain rfl : w = z := by rw [← hw, ← hz, hxy]
      have e : sumL (a ++ x :: (b ++ y :: c)) = sumL (x :: b) + sumL (a ++ y :: c) := by
        rw [sumL_append, sumL_append]; simp only [sumL]; rw [sumL_append]; simp only [sumL]; omega
      have hsub1 : Sub (x :: b) U := fun k hk => hm k (by
        rcases List.mem_cons.1 hk with rfl | hk
        · simp
        · simp [hk])
      have hsub2 : Sub (a ++ y :: c) U := fun k hk => hm k (by
        rcases List.mem_append.1 hk with hk | hk
        · simp [hk]
        · rcases List.mem_cons.1 hk with rfl | hk
          · simp
          · simp [hk])
      have hlen : (a ++ x :: (b ++ y :: c)).length = (x :: b).length + (a ++ y :: c).length := by simp; omega
      by_cases hneg : sumL (x :: b) < 0
      · obtain ⟨w', r, r1, r2, r3, r4, r5⟩ := ih w (x :: b) (by simp at hlen hl ⊢; omega) h3 hsub1 hneg
        exact ⟨w', r, r1, r2, r3, r4, by simp at r5 ⊢; omega⟩
      · obtain ⟨w', r, r1, r2, r3, r4, r5⟩ := ih u (a ++ y :: c) (by simp at hlen hl ⊢; omega) (h1.append h4) hsub2 (by omega)
        exact ⟨w', r, r1, r2, r3, r4, by simp at r5 ⊢; omega⟩
end
end Go.Chn
end

section
/-
  Chapter 2, plain: tables of chains with just so many links, and the chain that is followed through them.
-/
namespace Go.Chn
def ex0 (N : Nat) (to : Int) : List Int := (List.replicate N Fr).set to.toNat 0
def exF (N : Nat) (U : List Lk) (to : Int) : Nat → List Int
  | 0 => ex0 N to
  | k + 1 => nextP N U (exF N U to k)
def xT (N : Nat) (U : List Lk) (to : Int) (m : Nat) : List (List Int) := (List.range m).map (exF N U to)
def exR (N : Nat) (U : List Lk) (u : Int) : Nat → List Int
  | 0 => ex0 N u
  | k + 1 => nextR N U (exR N U u k)
section
variable {N : Nat} {U : List Lk}
theorem ex0_gi {v u : Int} (hv : inN N v) (hu : inN N u) : gi (ex0 N v) u = if u = v then 0 else Fr := by
  unfold ex0
  rw [gi_set hv.1 hu.1 (by simpa using hv.2), gi_rep N Fr hu]
theorem ex0_len {v : Int} : (ex0 N v).length = N := by simp [ex0]
theorem mk1_len {key : Lk → Int} {use : Lk → Bool} {val : Lk → Int} {y : List Int} {l : Lk} : (mk1 key use val y l).length = y.length := by
  unfold mk1; split <;> simp
theorem fold_len {key : Lk → Int} {use : Lk → Bool} {val : Lk → Int} : ∀ {V : List Lk} {y : List Int}, (V.foldl (mk1 key use val) y).length = y.length
  | [], _ => rfl
  | l :: V, y => by rw [List.foldl_cons, fold_len, mk1_len]
theorem nextP_len {x : List Int} : (nextP N U x).length = N := by unfold nextP; rw [fold_len]; simp
theorem nextR_len {x : List Int} : (nextR N U x).length = N := by unfold nextR; rw [fold_len]; simp
theorem exF_len {to : Int} : ∀ {k : Nat}, (exF N U to k).length = N
  | 0 => ex0_len
  | _ + 1 => nextP_len
theorem exR_len {u : Int} : ∀ {k : Nat}, (exR N U u k).length = N
  | 0 => ex0_len
  | _ + 1 => nextR_len
theorem exF_ex (hU : Lks N U) {to : Int} (ht : inN N to) : ∀ {k : Nat}, k ≤ 60 → ∀ n, inN N n → IsEx U k n to (gi (exF N U to k) n)
  | 0, _, n, hn => by
    show IsEx U 0 n to (gi (ex0 N to) n)
    rw [ex0_gi ht hn]; exact ex_zero
  | k + 1, hk, n, hn => nextP_ex hU (by omega) (fun n hn => exF_ex hU ht (by omega) n hn) n hn
theorem exR_ex (hU : Lks N U) {u : Int} (hu : inN N u) : ∀ {k : Nat}, k ≤ 60 → ∀ n, inN N n → IsEx U k u n (gi (exR N U u k) n)
  | 0, _, n, hn => by
    show IsEx U 0 u n (gi (ex0 N u) n)
    rw [ex0_gi hu hn]
    have : (if n = u then (0 : Int) else Fr) = if u = n then 0 else Fr := by
      by_cases h : n = u
      · rw [if_pos h, if_pos h.symm]
      · rw [if_neg h, if_neg fun e => h e.symm]
    rw [this]; exact ex_zero
  | k + 1, hk, n, hn => nextR_ex hU (by omega) (fun n hn => exR_ex hU hu (by omega) n hn) n hn
theorem exFR (hU : Lks N U) {u v : Int} (hu : inN N u) (hv : inN N v) {k : Nat} (hk : k ≤ 60) : gi (exF N U v k) u = gi (exR N U u k) v :=
  IsEx.uniq hU hk (exF_ex hU hv hk u hu) (exR_ex hU hu hk v hv)
theorem IsEx.bound (hU : Lks N U) {k : Nat} {u v d : Int} (h : IsEx U k u v d) (hf : d ≠ Fr) : -(4503599627370496 * (k : Int)) ≤ d ∧ d ≤ 4503599627370496 * (k : Int) := by
  obtain ⟨ls, h1, h2, h3, h4⟩ := h.is hf
  have := sum_bound hU h3
  rw [h1, h4] at this
  omega
theorem xT_len {to : Int} {m : Nat} : (xT N U to m).length = m := by simp [xT]
theorem xT_get {to : Int} {m k : Nat} (h : k < m) : (xT N U to m).getD k [] = exF N U to k := by simp [xT, List.getD, h]
theorem xT_succ {to : Int} {m : Nat} : xT N U to m ++ [exF N U to m] = xT N U to (m + 1) := by simp [xT, List.range_succ]

/-- The first link that leads on. -/
def hitF (row : List Int) (a s : Int) (good : Int → Bool) (l : Lk) : Bool := (l.1 == a) && (!(gi row l.2.1 == Fr)) && good (s + l.2.2 + gi row l.2.1)
def findF (row : List Int) (a s : Int) (good : Int → Bool) : Nat → List Lk → Option (Nat × Lk)
  | _, [] => none
  | i, l :: r => if hitF row a s good l = true then some (i, l) else findF row a s good (i + 1) r
def folF (L : List Lk) (T : Nat → List Int) (good : Int → Bool) : Nat → Int → Int → List Int
  | 0, _, _ => []
  | k + 1, a, s => match findF (T k) a s good 0 L with
    | some (i, l) => (i : Int) :: folF L T good k l.2.1 (s + l.2.2)
    | none => folF L T good k a s
theorem find_some {row : List Int} {a s : Int} {good : Int → Bool} : ∀ {L : List Lk} {i j : Nat} {l : Lk}, findF row a s good i L = some (j, l) → ∃ k, j = i + k ∧ L[k]? = some l ∧ hitF row a s good l = true
  | [], _, _, _, h => by cases h
  | x :: L, i, j, l, h => by
    rw [findF] at h
    split at h
    · rename_i hx
      obtain ⟨rfl, rfl⟩ := Prod.mk.inj (Option.some.inj h)
      exact ⟨0, rfl, rfl, hx⟩
    · obtain ⟨k, h1, h2, h3⟩ := find_some h
      exact ⟨k + 1, by omega, by simpa using h2, h3⟩
theorem find_none {row : List Int} {a s : Int} {good : Int → Bool} : ∀ {L : List Lk} {i : Nat}, findF row a s good i L = none → ∀ l ∈ L, hitF row a s good l = false
  | [], _, _, l, hl => by cases hl
  | x :: L, i, h, l, hl => by
    rw [findF] at h
    split at h
    · cases h
    · rename_i hx
      rcases List.mem_cons.1 hl with rfl | hl
      · simpa using hx
      · exact find_none h l hl
theorem find_congr {row row' : List Int} {a a' s s' : Int} {good good' : Int → Bool} : ∀ {L : List Lk} {i : Nat}, (∀ l ∈ L, hitF row a s good l = hitF row' a' s' good' l) → findF row a s good i L = findF row' a' s' good' i L
  | [], _, _ => rfl
  | x :: L, i, h => by
    rw [findF, findF, h x (by simp), find_congr fun l hl => h l (by simp [hl])]
/-- Links at indices. -/
def atL (L : List Lk) (I : List Int) : List Lk := I.map fun i => L.getD i.toNat (0, 0, 0)
/-- The list that is followed is a chain of just so many links, and its sum is good. -/
theorem fol_chain (hU : Lks N U) {to : Int} (ht : inN N to) {T : Nat → List Int} {good : Int → Bool} : ∀ {k : Nat} {a s : Int}, k ≤ 60 → (∀ j, j ≤ k → T j = exF N U to j) → inN N a → gi (exF N U to k) a ≠ Fr → good (s + gi (exF N U to k) a) = true →
    (folF U T good k a s).length = k ∧ (∀ i ∈ folF U T good k a s, 0 ≤ i ∧ i < U.length) ∧ Ch a (atL U (folF U T good k a s)) to ∧ good (s + sumL (atL U (folF U T good k a s))) = true
  | 0, a, s, _, _, ha, hf, hg => by
    have e : gi (exF N U to 0) a = if a = to then 0 else Fr := ex0_gi ht ha
    rw [e] at hf hg
    by_cases h : a = to
    · rw [if_pos h] at hg
      refine ⟨rfl, ?_, h, by simpa [folF, atL, sumL] using hg⟩
      intro i hi
      simp [folF] at hi
    · rw [if_neg h] at hf; exact absurd rfl hf
  | k + 1, a, s, hk, hT, ha, hf, hg => by
    have hx := exF_ex hU ht hk a ha
    obtain ⟨ls, h1, h2, h3, h4⟩ := hx.is hf
    obtain ⟨l, r, rfl, hr, e1, h5, h6, h7⟩ := ch_cons h1 h2 h3
    have hn := hU.nd l h6
    have hy := exF_ex hU ht (by omega : k ≤ 60) l.2.1 hn.2
    have hyn := hy.none hU (by omega) hr h5 h7
    have hyl := hy.le r hr h5 h7
    -- the link leads on
    obtain ⟨q, q1, q2, q3, q4⟩ := hy.is hyn
    have hxl := hx.le (l :: q) (by simp [q1]) ⟨e1, q2⟩ (Sub.cons h6 q3)
    simp only [sumL] at h4 hxl
    have hTk : T k = exF N U to k := hT k (by omega)
    have hhit : hitF (T k) a s good l = true := by
      unfold hitF
      rw [hTk, beq_iff_eq.2 e1, Bool.true_and, Bool.and_eq_true]
      refine ⟨by simpa using hyn, ?_⟩
      have : s + l.2.2 + gi (exF N U to k) l.2.1 = s + gi (exF N U to (k + 1)) a := by omega
      rw [this]; exact hg
    rw [folF]
    cases hfd : findF (T k) a s good 0 U with
    | none =>
      have := find_none hfd l h6
      rw [hhit] at this; cases this
    | some p =>
      obtain ⟨i, m⟩ := p
      obtain ⟨j, hj, hm, hh⟩ := find_some hfd
      obtain rfl : i = j := by omega
      have hmU : m ∈ U := List.mem_of_getElem? hm
      unfold hitF at hh
      rw [hTk, Bool.and_eq_true, Bool.and_eq_true, beq_iff_eq] at hh
      obtain ⟨⟨m1, m2⟩, m3⟩ := hh
      obtain ⟨c1, c2, c3, c4⟩ := fol_chain hU ht (k := k) (a := m.2.1) (s := s + m.2.2) (by omega) (fun j hj => hT j (by omega)) (hU.nd m hmU).2 (by simpa using m2) m3
      have hiL : i < U.length := (List.getElem?_eq_some_iff.1 hm).1
      have em : U.getD (i : Int).toNat (0, 0, 0) = m := by simp [List.getD, hm]
      refine ⟨by simp [c1], fun x hx => ?_, ?_, ?_⟩
      · rcases List.mem_cons.1 hx with rfl | hx
        · omega
        · exact c2 x hx
      · show Ch a (U.getD (i : Int).toNat (0, 0, 0) :: atL U _) to
        rw [em]; exact ⟨m1, c3⟩
      · show good (s + sumL (U.getD (i : Int).toNat (0, 0, 0) :: atL U _)) = true
        rw [em]; simp only [sumL]
        rw [← Int.add_assoc]; exact c4
theorem atL_sub {I : List Int} (h : ∀ i ∈ I, 0 ≤ i ∧ i < U.length) : Sub (atL U I) U := fun l hl => by
  obtain ⟨i, hi, rfl⟩ := List.mem_map.1 hl
  have := h i hi
  have hlt : i.toNat < U.length := by omega
  simp [List.getD, hlt]
end
end Go.Chn
end

section
/-
  Chapter 2, plain: the first closed chain below 0, and the first chain that reaches a bound.
-/
namespace Go.Chn
section
variable {N : Nat} {U : List Lk}
/-- A bound is reached by a chain with fewer links than there are nodes. -/
theorem chain_k (hU : Lks N U) (hn : NoNeg U) {a b d : Int} (ha : inN N a) (hb : inN N b) (hd : IsD U a b d) (hf : d ≠ Fr) : ∃ k, k < N ∧ gi (exF N U b k) a = d := by
  obtain ⟨ls, h1, h2, h3⟩ := hd.is hf
  obtain ⟨r, r1, r2, r3, r4⟩ := simple hn ls a b h1 h2
  have hl := simple_len hU.nd r1 r2 hb r3
  have hk : r.length ≤ 60 := by have := hU.n; omega
  have hx := exF_ex hU hb hk a ha
  have e1 := hx.le r rfl r1 r2
  have e2 := hx.none hU hk rfl r1 r2
  obtain ⟨q, q1, q2, q3, q4⟩ := hx.is e2
  have e3 := hd.le q q2 q3
  exact ⟨r.length, by omega, by omega⟩
theorem exF_le (hU : Lks N U) {a b : Int} (ha : inN N a) (hb : inN N b) {ls : List Lk} (h1 : Ch a ls b) (h2 : Sub ls U) (hl : ls.length ≤ 60) : gi (exF N U b ls.length) a ≤ sumL ls ∧ gi (exF N U b ls.length) a ≠ Fr :=
  ⟨(exF_ex hU hb hl a ha).le ls rfl h1 h2, (exF_ex hU hb hl a ha).none hU hl rfl h1 h2⟩
/-- A link with which a chain of k further links is closed, below 0. -/
def hitC (N : Nat) (U : List Lk) (k : Nat) (l : Lk) : Bool := !(gi (exF N U l.1 k) l.2.1 == Fr) && decide (l.2.2 + gi (exF N U l.1 k) l.2.1 < 0)
def srF (N : Nat) (U : List Lk) : Nat → Nat → Option (Nat × Lk)
  | 0, _ => none
  | f + 1, k => match U.find? (hitC N U k) with
    | some l => some (k, l)
    | none => srF N U f (k + 1)
def clF (N : Nat) (U : List Lk) : List Int := match srF N U N 0 with
  | some (k, l) => folF U (exF N U l.1) (fun s => decide (s < 0)) (k + 1) l.1 0
  | none => []
theorem hit_chain (hU : Lks N U) {ls : List Lk} {u : Int} (h1 : Ch u ls u) (h2 : Sub ls U) (h3 : sumL ls < 0) (hl : ls.length ≤ 61) : ∃ k l, ls.length = k + 1 ∧ l ∈ U ∧ hitC N U k l = true := by
  cases ls with
  | nil => simp [sumL] at h3
  | cons l q =>
    have e1 : l.1 = u := h1.1
    have hm := h2 l (by simp)
    have hn := hU.nd l hm
    have hq : Ch l.2.1 q l.1 := by rw [e1]; exact h1.2
    have hql : q.length ≤ 60 := by simp at hl; omega
    obtain ⟨x1, x2⟩ := exF_le hU hn.2 hn.1 hq h2.tail hql
    simp only [sumL] at h3
    refine ⟨q.length, l, rfl, hm, ?_⟩
    unfold hitC
    rw [Bool.and_eq_true]
    exact ⟨by simpa using x2, by simp; omega⟩
theorem hit_neg (hU : Lks N U) {k : Nat} (hk : k ≤ 60) {l : Lk} (hl : l ∈ U) (h : hitC N U k l = true) : ∃ q, q.length = k ∧ Ch l.2.1 q l.1 ∧ Sub q U ∧ l.2.2 + sumL q < 0 := by
  unfold hitC at h
  rw [Bool.and_eq_true] at h
  have hn := hU.nd l hl
  obtain ⟨q, q1, q2, q3, q4⟩ := (exF_ex hU hn.1 hk l.2.1 hn.2).is (by simpa using h.1)
  have := of_decide_eq_true h.2
  exact ⟨q, q1, q2, q3, by omega⟩
theorem sr_some : ∀ {f k j : Nat} {l : Lk}, srF N U f k = some (j, l) → k ≤ j ∧ j < k + f ∧ U.find? (hitC N U j) = some l ∧ ∀ i, k ≤ i → i < j → U.find? (hitC N U i) = none
  | 0, _, _, _, h => by cases h
  | f + 1, k, j, l, h => by
    rw [srF] at h
    split at h
    · rename_i hf
      obtain ⟨rfl, rfl⟩ := Prod.mk.inj (Option.some.inj h)
      exact ⟨Nat.le_refl _, by omega, hf, fun i h1 h2 => by omega⟩
    · rename_i hf
      obtain ⟨h1, h2, h3, h4⟩ := sr_some h
      refine ⟨by omega, by omega, h3, fun i h5 h6 => ?_⟩
      rcases Nat.lt_or_ge k i with h7 | h7
      · exact h4 i (by omega) h6
      · obtain rfl : i = k := by omega
        exact hf
theorem sr_none : ∀ {f k : Nat}, srF N U f k = none → ∀ i, k ≤ i → i < k + f → U.find? (hitC N U i) = none
  | 0, _, _, i, h1, h2 => by omega
  | f + 1, k, h, i, h1, h2 => by
    rw [srF] at h
    split at h
    · cases h
    · rename_i hf
      rcases Nat.lt_or_ge k i with h7 | h7
      · exact sr_none h i (by omega) (by omega)
      · obtain rfl : i = k := by omega
        exact hf
/-- What the search for a closed chain below 0 finds. -/
structure Clash (N : Nat) (U : List Lk) (k : Nat) (l : Lk) : Prop where
  lt : k < N
  fd : U.find? (hitC N U k) = some l
  no : ∀ i, i < k → U.find? (hitC N U i) = none
theorem clash_some (hU : Lks N U) (h : ¬ NoNeg U) : ∃ k l, srF N U N 0 = some (k, l) ∧ Clash N U k l := by
  cases hs : srF N U N 0 with
  | some p =>
    obtain ⟨k, l⟩ := p
    obtain ⟨h1, h2, h3, h4⟩ := sr_some hs
    exact ⟨k, l, rfl, by omega, h3, fun i hi => h4 i (Nat.zero_le _) hi⟩
  | none =>
    exfalso
    apply h
    intro u ls h1 h2
    rcases Int.lt_or_le (sumL ls) 0 with hneg | hpos
    · obtain ⟨w, r, r1, r2, r3, r4, _⟩ := short_neg hU.nd ls.length u ls (Nat.le_refl _) h1 h2 hneg
      have h60 := hU.n
      obtain ⟨k, l, k1, k2, k3⟩ := hit_chain hU r1 r2 r3 (by omega)
      have := sr_none hs k (Nat.zero_le _) (by omega)
      rw [List.find?_eq_none] at this
      exact absurd k3 (this l k2)
    · exact hpos
section
variable {k : Nat} {l : Lk}
theorem Clash.mem (h : Clash N U k l) : l ∈ U := List.mem_of_find?_eq_some h.fd
theorem Clash.hit (h : Clash N U k l) : hitC N U k l = true := List.find?_some h.fd
/-- No closed chain below 0 has fewer links. -/
theorem Clash.least (hU : Lks N U) (h : Clash N U k l) {ls : List Lk} {u : Int} (h1 : Ch u ls u) (h2 : Sub ls U) (h3 : sumL ls < 0) : k + 1 ≤ ls.length := by
  rcases Nat.lt_or_ge 61 ls.length with hl | hl
  · have := h.lt; have := hU.n; omega
  · obtain ⟨j, m, j1, j2, j3⟩ := hit_chain hU h1 h2 h3 hl
    rcases Nat.lt_or_ge j k with hj | hj
    · have := h.no j hj
      rw [List.find?_eq_none] at this
      exact absurd j3 (this m j2)
    · omega
/-- What is followed is that closed chain. -/
theorem Clash.chain (hU : Lks N U) (h : Clash N U k l) : ∃ I, I = folF U (exF N U l.1) (fun s => decide (s < 0)) (k + 1) l.1 0 ∧ I.length = k + 1 ∧ (∀ i ∈ I, 0 ≤ i ∧ i < U.length) ∧ Ch l.1 (atL U I) l.1 ∧ sumL (atL U I) < 0 := by
  have hm := h.mem
  have hn := hU.nd l hm
  have h60 := hU.n
  have hlt := h.lt
  obtain ⟨q, q1, q2, q3, q4⟩ := hit_neg hU (by omega) hm h.hit
  obtain ⟨x1, x2⟩ := exF_le hU hn.1 hn.1 (ls := l :: q) ⟨rfl, q2⟩ (Sub.cons hm q3) (by simp [q1]; omega)
  simp only [List.length_cons, q1, sumL] at x1 x2
  obtain ⟨c1, c2, c3, c4⟩ := fol_chain hU hn.1 (T := exF N U l.1) (good := fun s => decide (s < 0)) (k := k + 1) (a := l.1) (s := 0) (by omega) (fun j _ => rfl) hn.1 x2 (by simp; omega)
  exact ⟨_, rfl, c1, c2, c3, by simpa using c4⟩
end
end
end Go.Chn
end
