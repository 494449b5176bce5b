/-
  Texts of the claims on chapter 2: Mm. No condition: lemmas and contracts.
-/
set_option linter.all false
section
/-
  Chapter 2, plain: chains of links, closed chains, and chains without a repeated node.
-/
namespace Go.Chn

/-- A link: from, to, most. -/
abbrev Lk := Int × Int × Int
def sumL : List Lk → Int
  | [] => 0
  | l :: ls => l.2.2 + sumL ls
/-- A list of links that leads from a node to another one. -/
def Ch : Int → List Lk → Int → Prop
  | u, [], v => u = v
  | u, l :: ls, v => l.1 = u ∧ Ch l.2.1 ls v
theorem sumL_append : ∀ (a b : List Lk), sumL (a ++ b) = sumL a + sumL b
  | [], b => by simp [sumL]
  | l :: a, b => by simp only [List.cons_append, sumL, sumL_append a b]; omega
theorem Ch.append : ∀ {a b : List Lk} {u v w : Int}, Ch u a v → Ch v b w → Ch u (a ++ b) w
  | [], _, _, _, _, h, h' => by have h : _ = _ := h; subst h; exact h'
  | _ :: _, _, _, _, _, h, h' => ⟨h.1, Ch.append h.2 h'⟩
theorem Ch.split : ∀ {a b : List Lk} {u w : Int}, Ch u (a ++ b) w → ∃ v, Ch u a v ∧ Ch v b w
  | [], _, u, _, h => ⟨u, rfl, h⟩
  | _ :: _, _, _, _, h => by
    obtain ⟨v, h1, h2⟩ := Ch.split h.2
    exact ⟨v, ⟨h.1, h1⟩, h2⟩
theorem Ch.snoc {a : List Lk} {u : Int} {l : Lk} (h : Ch u a l.1) : Ch u (a ++ [l]) l.2.1 := h.append ⟨rfl, rfl⟩
/-- No closed chain has a sum below 0. -/
def NoNeg (U : List Lk) : Prop := ∀ u ls, Ch u ls u → (∀ l ∈ ls, l ∈ U) → 0 ≤ sumL ls
/-- The nodes of a chain. -/
def nds (ls : List Lk) (v : Int) : List Int := ls.map (·.1) ++ [v]

theorem split_at : ∀ {ls : List Lk} {x v u : Int}, Ch x ls v → u ∈ nds ls v → ∃ b c, ls = b ++ c ∧ Ch x b u ∧ Ch u c v
  | [], x, v, u, h, hu => by
    have h : x = v := h
    simp only [nds, List.map_nil, List.nil_append, List.mem_singleton] at hu
    exact ⟨[], [], rfl, by rw [h, hu]; rfl, hu⟩
  | l :: ls, x, v, u, h, hu => by
    by_cases e : u = l.1
    · exact ⟨[], l :: ls, rfl, by rw [e]; exact h.1.symm, e.symm, h.2⟩
    · have hu' : u ∈ nds ls v := by
        simp only [nds, List.map_cons, List.cons_append, List.mem_cons] at hu
        exact hu.resolve_left e
      obtain ⟨b, c, rfl, h1, h2⟩ := split_at h.2 hu'
      exact ⟨l :: b, c, rfl, ⟨h.1, h1⟩, h2⟩
theorem nds_suffix {b c : List Lk} {v : Int} (h : (nds (b ++ c) v).Nodup) : (nds c v).Nodup := by
  unfold nds at h ⊢
  rw [List.map_append, List.append_assoc] at h
  exact (List.nodup_append.1 h).2.1

/-- A chain without a repeated node, and with no greater sum. -/
theorem simple {U : List Lk} (hU : NoNeg U) : ∀ (ls : List Lk) (u v : Int), Ch u ls v → (∀ l ∈ ls, l ∈ U) → ∃ ls', Ch u ls' v ∧ (∀ l ∈ ls', l ∈ U) ∧ (nds ls' v).Nodup ∧ sumL ls' ≤ sumL ls
  | [], u, v, h, _ => ⟨[], h, by simp, by simp [nds], Int.le_refl _⟩
  | l :: ls, u, v, h, hm => by
    obtain ⟨r, h1, h2, h3, h4⟩ := simple hU ls l.2.1 v h.2 (fun x hx => hm x (List.mem_cons_of_mem _ hx))
    by_cases hu : u ∈ nds r v
    · obtain ⟨b, c, rfl, hb, hc⟩ := split_at h1 hu
      refine ⟨c, hc, fun x hx => h2 x (List.mem_append.2 (.inr hx)), nds_suffix h3, ?_⟩
      have hn := hU u (l :: b) ⟨h.1, hb⟩ (fun x hx => by
        rcases List.mem_cons.1 hx with rfl | hx
        · exact hm _ (List.mem_cons_self ..)
        · exact h2 x (List.mem_append.2 (.inl hx)))
      rw [sumL_append] at h4
      simp only [sumL] at hn ⊢
      omega
    · refine ⟨l :: r, ⟨h.1, h1⟩, fun x hx => ?_, ?_, ?_⟩
      · rcases List.mem_cons.1 hx with rfl | hx
        · exact hm _ (List.mem_cons_self ..)
        · exact h2 x hx
      · have e : nds (l :: r) v = l.1 :: nds r v := rfl
        rw [e, List.nodup_cons]
        exact ⟨by rw [h.1]; exact hu, h3⟩
      · simp only [sumL]; omega

/-- So many different numbers below N are no more than N. -/
theorem nodup_le : ∀ (N : Nat) (l : List Int), l.Nodup → (∀ x ∈ l, 0 ≤ x ∧ x < N) → l.length ≤ N
  | 0, l, _, h => by
    cases l with
    | nil => simp
    | cons a l => have := h a (List.mem_cons_self ..); omega
  | N + 1, l, hd, h => by
    have h1 := nodup_le N (l.erase (N : Int)) (hd.erase _) (fun x hx => by
      have h2 := h x (List.mem_of_mem_erase hx)
      have h3 : x ≠ (N : Int) := fun e => by subst e; exact (hd.not_mem_erase) hx
      omega)
    by_cases hm : (N : Int) ∈ l
    · rw [List.length_erase_of_mem hm] at h1; omega
    · rw [List.erase_of_not_mem hm] at h1; omega

/-- All nodes lie below N. -/
def InN (N : Nat) (U : List Lk) : Prop := ∀ l ∈ U, (0 ≤ l.1 ∧ l.1 < N) ∧ (0 ≤ l.2.1 ∧ l.2.1 < N)
theorem ch_end {N : Nat} {U : List Lk} (hN : InN N U) : ∀ {ls : List Lk} {u v : Int}, Ch u ls v → (∀ l ∈ ls, l ∈ U) → ls ≠ [] → 0 ≤ v ∧ v < N
  | [], _, _, _, _, h => absurd rfl h
  | [l], _, _, h, hm, _ => by have h2 : l.2.1 = _ := h.2; rw [← h2]; exact (hN l (hm l (List.mem_cons_self ..))).2
  | l :: l' :: ls, _, _, h, hm, _ => ch_end hN h.2 (fun x hx => hm x (List.mem_cons_of_mem _ hx)) (by simp)
theorem nds_in {N : Nat} {U : List Lk} (hN : InN N U) {ls : List Lk} {u v : Int} (h : Ch u ls v) (hm : ∀ l ∈ ls, l ∈ U) (hv : 0 ≤ v ∧ v < N) : ∀ x ∈ nds ls v, 0 ≤ x ∧ x < N := by
  intro x hx
  simp only [nds, List.mem_append, List.mem_map, List.mem_singleton] at hx
  rcases hx with ⟨l, hl, rfl⟩ | rfl
  · exact (hN l (hm l hl)).1
  · exact hv
theorem simple_len {N : Nat} {U : List Lk} (hN : InN N U) {ls : List Lk} {u v : Int} (h : Ch u ls v) (hm : ∀ l ∈ ls, l ∈ U) (hv : 0 ≤ v ∧ v < N) (hd : (nds ls v).Nodup) : ls.length + 1 ≤ N := by
  have := nodup_le N _ hd (nds_in hN h hm hv)
  simpa [nds] using this

/-- The sum of all links that are below 0. -/
def least : List Lk → Int
  | [] => 0
  | l :: ls => min l.2.2 0 + least ls
theorem least_append : ∀ (a b : List Lk), least (a ++ b) = least a + least b
  | [], b => by simp [least]
  | l :: a, b => by simp only [List.cons_append, least, least_append a b]; omega
theorem least_np : ∀ (a : List Lk), least a ≤ 0
  | [] => Int.le_refl _
  | l :: a => by have := least_np a; simp only [least]; omega
theorem least_le : ∀ (P U : List Lk), P.Nodup → (∀ l ∈ P, l ∈ U) → least U ≤ sumL P
  | [], U, _, _ => least_np U
  | l :: P, U, hd, hm => by
    obtain ⟨a, b, rfl⟩ := List.append_of_mem (hm l (List.mem_cons_self ..))
    have hd' := List.nodup_cons.1 hd
    have ih := least_le P (a ++ b) hd'.2 (fun x hx => by
      have h1 := hm x (List.mem_cons_of_mem _ hx)
      simp only [List.mem_append, List.mem_cons] at h1 ⊢
      rcases h1 with h1 | rfl | h1
      · exact .inl h1
      · exact absurd hx hd'.1
      · exact .inr h1)
    rw [least_append] at ih ⊢
    simp only [least, sumL]
    omega
theorem nodup_of_nds {ls : List Lk} {v : Int} (h : (nds ls v).Nodup) : ls.Nodup := by
  unfold nds at h
  have := (List.nodup_append.1 h).1
  rw [List.Nodup, List.pairwise_map] at this
  exact this.imp fun h e => h (congrArg _ e)
theorem sum_ge_least {U : List Lk} (hU : NoNeg U) {ls : List Lk} {u v : Int} (h : Ch u ls v) (hm : ∀ l ∈ ls, l ∈ U) : least U ≤ sumL ls := by
  obtain ⟨r, _, h2, h3, h4⟩ := simple hU ls u v h hm
  have := least_le r U (nodup_of_nds h3) h2
  omega
/-- A potential forbids closed chains whose sum is below 0. -/
theorem noNeg_of {U : List Lk} (x : Int → Int) (hx : ∀ l ∈ U, x l.2.1 ≤ x l.1 + l.2.2) : NoNeg U := by
  have key : ∀ (ls : List Lk) (u v : Int), Ch u ls v → (∀ l ∈ ls, l ∈ U) → x v ≤ x u + sumL ls := by
    intro ls
    induction ls with
    | nil => intro u v h _; have h : u = v := h; subst h; simp [sumL]
    | cons l ls ih =>
      intro u v h hm
      have h1 := ih l.2.1 v h.2 (fun y hy => hm y (List.mem_cons_of_mem _ hy))
      have h2 := hx l (hm l (List.mem_cons_self ..))
      rw [h.1] at h2
      simp only [sumL]; omega
  intro u ls h hm
  have := key ls u u h hm
  omega
end Go.Chn
end

section
/-
  Chapter 2, plain: values improved along links, node after node out of a queue.
-/
namespace Go.Chn

def gi (x : List Int) (v : Int) : Int := x.getD v.toNat 0
def gb (w : List Bool) (v : Int) : Bool := w.getD v.toNat false
def Fr : Int := 1152921504606846976
theorem gi_set {x : List Int} {a b : Int} {c : Int} (ha : 0 ≤ a) (hb : 0 ≤ b) (hl : a < x.length) : gi (x.set a.toNat c) b = if b = a then c else gi x b := by
  unfold gi
  rw [List.getD_eq_getElem?_getD, List.getD_eq_getElem?_getD, List.getElem?_set]
  by_cases h : b = a
  · subst h; simp [show b.toNat < x.length by omega]
  · rw [if_neg h, if_neg (by omega)]
theorem gb_set {x : List Bool} {a b : Int} {c : Bool} (ha : 0 ≤ a) (hb : 0 ≤ b) (hl : a < x.length) : gb (x.set a.toNat c) b = if b = a then c else gb x b := by
  unfold gb
  rw [List.getD_eq_getElem?_getD, List.getD_eq_getElem?_getD, List.getElem?_set]
  by_cases h : b = a
  · subst h; simp [show b.toNat < x.length by omega]
  · rw [if_neg h, if_neg (by omega)]

/-- What is known of the links: nodes below N, no link to itself, bounds of at most 2^52. -/
structure Lks (N : Nat) (U : List Lk) : Prop where
  n : N ≤ 60
  nd : InN N U
  ne : ∀ l ∈ U, l.1 ≠ l.2.1
  ms : ∀ l ∈ U, -4503599627370496 ≤ l.2.2 ∧ l.2.2 ≤ 4503599627370496
/-- The values that the search begins with: 0, or none. -/
structure Beg (N : Nat) (x0 : List Int) : Prop where
  len : x0.length = N
  val : ∀ v : Int, 0 ≤ v → v < N → gi x0 v = 0 ∨ gi x0 v = Fr
def inN (N : Nat) (v : Int) : Prop := 0 ≤ v ∧ v < N

structure RI (N : Nat) (U : List Lk) (x0 : List Int) (pend : Lk → Prop) (x : List Int) (cur nxt : List Int) (w : List Bool) (t : List Int) (p : Nat) : Prop where
  lx : x.length = N
  lw : w.length = N
  lt : t.length = N
  qn : (cur ++ nxt).Nodup
  qr : ∀ v ∈ cur ++ nxt, inN N v ∧ gi x v ≠ Fr
  qw : ∀ v, inN N v → (gb w v = true ↔ v ∈ cur ++ nxt)
  le0 : ∀ v, inN N v → gi x v ≤ gi x0 v
  wk : ∀ v, inN N v → gi x v ≠ Fr → ∃ u ls, inN N u ∧ gi x0 u = 0 ∧ Ch u ls v ∧ (∀ l ∈ ls, l ∈ U) ∧ gi x v = sumL ls
  ed : ∀ l ∈ U, gi x l.1 ≠ Fr → l.1 ∉ cur ++ nxt → ¬ pend l → gi x l.2.1 ≤ gi x l.1 + l.2.2
  up : ∀ u ls v, inN N u → inN N v → gi x0 u = 0 → Ch u ls v → (∀ l ∈ ls, l ∈ U) → ls.length ≤ p → ls.length ≤ 60 → gi x v ≤ sumL ls
  uc : ∀ u ls l, inN N u → gi x0 u = 0 → Ch u ls l.1 → (∀ l ∈ ls, l ∈ U) → ls.length ≤ p → ls.length ≤ 60 → l ∈ U → l.1 ∉ cur → ¬ pend l → gi x l.2.1 ≤ sumL ls + l.2.2
  tm : ∀ v, inN N v → 0 ≤ gi t v ∧ gi t v ≤ p + 1 ∧ (v ∈ cur → gi t v ≤ p)
  nc : NoNeg U → cur ≠ [] → p + 1 ≤ N
  nn : NoNeg U → nxt ≠ [] → p + 2 ≤ N

theorem sum_bound {N : Nat} {U : List Lk} (hU : Lks N U) : ∀ {ls : List Lk}, (∀ l ∈ ls, l ∈ U) → sumL ls ≤ 4503599627370496 * ls.length ∧ -(4503599627370496 * ls.length) ≤ sumL ls
  | [], _ => by simp [sumL]
  | l :: ls, h => by
    have h1 := sum_bound hU (ls := ls) (fun x hx => h x (List.mem_cons_of_mem _ hx))
    have h2 := hU.ms l (h l (List.mem_cons_self ..))
    simp only [sumL, List.length_cons]; omega
theorem sum_fr {N : Nat} {U : List Lk} (hU : Lks N U) {ls : List Lk} (h : ∀ l ∈ ls, l ∈ U) (hl : ls.length ≤ 60) : sumL ls < Fr := by
  have := (sum_bound hU h).1
  unfold Fr
  omega
/-- What the search needs of the links. -/
structure Lkx (N : Nat) (U : List Lk) (x0 : List Int) : Prop where
  n : N ≤ 60
  nd : InN N U
  ne : ∀ l ∈ U, l.1 = l.2.1 → 0 ≤ l.2.2
  fr : ∀ (u : Int) (ls : List Lk) (v x : Int), gi x0 u = 0 → Ch u ls v → (∀ l ∈ ls, l ∈ U) → ls.length ≤ 60 → x ≤ sumL ls → inN N v → x ≤ gi x0 v → x ≠ Fr
theorem Lks.x {N : Nat} {U : List Lk} {x0 : List Int} (hU : Lks N U) : Lkx N U x0 :=
  ⟨hU.n, hU.nd, fun l hl e => absurd e (hU.ne l hl), fun _ ls _ x _ _ hs hl hx _ _ => by have := sum_fr hU hs hl; omega⟩
section
variable {N : Nat} {U : List Lk} {x0 x cur nxt t : List Int} {w : List Bool} {p : Nat}

/-- The next pass begins. -/
theorem RI.pass (hU : Lkx N U x0) (h : RI N U x0 (fun _ => False) x [] nxt w t p) : RI N U x0 (fun _ => False) x nxt [] w t (p + 1) := by
  have hup : ∀ u ls v, inN N u → inN N v → gi x0 u = 0 → Ch u ls v → (∀ l ∈ ls, l ∈ U) → ls.length ≤ p + 1 → ls.length ≤ 60 → gi x v ≤ sumL ls := by
    intro u ls v hu hv h0 hc hm hp hl
    rcases List.eq_nil_or_concat ls with rfl | ⟨a, l, rfl⟩
    · exact h.up u [] v hu hv h0 hc hm (by simp) (by simp)
    · rw [List.concat_eq_append] at *
      obtain ⟨z, h1, h2⟩ := hc.split
      have e1 : l.1 = z := h2.1
      have e2 : l.2.1 = v := h2.2
      rw [← e1] at h1
      have hlen : a.length ≤ p := by simp at hp; omega
      have := h.uc u a l hu h0 h1 (fun y hy => hm y (by simp [hy])) hlen (by simp at hl; omega) (hm l (by simp)) (by simp) (fun h => h)
      rw [e2] at this
      rw [sumL_append]; simp only [sumL]; omega
  refine ⟨h.lx, h.lw, h.lt, by simpa using h.qn, by simpa using h.qr, by simpa using h.qw, h.le0, h.wk, by simpa using h.ed, hup, ?_, ?_, ?_, by simp⟩
  · intro u ls l hu h0 hc hm hp hl hl1 hn _
    have hin := (hU.nd l hl1).1
    have h1 := hup u ls l.1 hu hin h0 hc hm hp hl
    have h2 := hU.fr u ls l.1 (gi x l.1) h0 hc hm hl h1 hin (h.le0 l.1 hin)
    have := h.ed l hl1 h2 (by simpa using hn) (fun h => h)
    omega
  · intro v hv
    have := h.tm v hv
    refine ⟨this.1, by omega, fun _ => by push_cast; omega⟩
  · intro hn hne
    have := h.nn hn hne
    omega

/-- A node is taken. -/
theorem RI.pop {n : Int} (h : RI N U x0 (fun _ => False) x (n :: cur) nxt w t p) :
    RI N U x0 (fun l => l.1 = n) x cur nxt (w.set n.toNat false) (t.set n.toNat (gi t n + 1)) p ∧ inN N n ∧ gi x n ≠ Fr ∧ n ∉ cur ++ nxt ∧ 0 ≤ gi t n ∧ (NoNeg U → gi t n + 1 ≤ N) := by
  have hq := h.qr n (by simp)
  have hnd : (n :: (cur ++ nxt)).Nodup := h.qn
  have hn := List.nodup_cons.1 hnd
  have ht := h.tm n hq.1
  refine ⟨⟨h.lx, by simpa using h.lw, by simpa using h.lt, hn.2, fun v hv => h.qr v (by simp at hv ⊢; exact .inr hv), fun v hv => ?_, h.le0, h.wk, fun l hl hf hq' hp => ?_, h.up, fun u ls l hu h0 hc hm hlp hl60 hl hcur hp => ?_, fun v hv => ?_, fun hN hc => h.nc hN (by simp), h.nn⟩, hq.1, hq.2, hn.1, ht.1, fun hN => ?_⟩
  · rw [gb_set hq.1.1 hv.1 (by rw [h.lw]; exact hq.1.2)]
    split
    · rename_i e; subst e
      constructor
      · intro hh; cases hh
      · intro hh; exact absurd hh hn.1
    · rename_i e
      rw [h.qw v hv]; simp [e]
  · exact h.ed l hl hf (by simp only [List.cons_append, List.mem_cons]; exact fun hh => hh.elim hp hq') (fun h => h)
  · exact h.uc u ls l hu h0 hc hm hlp hl60 hl (by simp only [List.mem_cons]; exact fun hh => hh.elim hp hcur) (fun h => h)
  · rw [gi_set hq.1.1 hv.1 (by rw [h.lt]; exact hq.1.2)]
    have hv' := h.tm v hv
    split
    · rename_i e; subst e
      have := ht.2.2 (by simp)
      refine ⟨by omega, by omega, fun hc => absurd (by simp [hc]) hn.1⟩
    · exact ⟨hv'.1, hv'.2.1, fun hc => hv'.2.2 (by simp [hc])⟩
  · have h1 := h.nc hN (by simp)
    have h2 := ht.2.2 (by simp)
    omega

/-- A link that brings nothing, or is not of this node. -/
theorem RI.skip {P P' : Lk → Prop} {n : Int} {l0 : Lk} (h : RI N U x0 P x cur nxt w t p) (hn : inN N n) (hP : ∀ l, P l → P' l ∨ l = l0) (hl0 : l0.1 = n → l0 ∈ U → gi x l0.2.1 ≤ gi x n + l0.2.2) (hP0 : ∀ l, P l → l.1 = n) : RI N U x0 P' x cur nxt w t p := by
  refine ⟨h.lx, h.lw, h.lt, h.qn, h.qr, h.qw, h.le0, h.wk, fun l hl hf hq hp => ?_, h.up, fun u ls l hu h0 hc hm hlp hl60 hl hcur hp => ?_, h.tm, h.nc, h.nn⟩
  · by_cases hPl : P l
    · rcases hP l hPl with h1 | rfl
      · exact absurd h1 hp
      · have := hl0 (hP0 _ hPl) hl; rw [hP0 _ hPl]; exact this
    · exact h.ed l hl hf hq hPl
  · by_cases hPl : P l
    · rcases hP l hPl with h1 | rfl
      · exact absurd h1 hp
      · have h1 := hl0 (hP0 _ hPl) hl
        have h2 := h.up u ls l.1 hu (by rw [hP0 _ hPl]; exact hn) h0 hc hm hlp hl60
        rw [hP0 _ hPl] at h2
        omega
    · exact h.uc u ls l hu h0 hc hm hlp hl60 hl hcur hPl

/-- A link that improves its end. -/
theorem RI.upd {P P' : Lk → Prop} {n : Int} {l0 : Lk} (hU : Lkx N U x0) (hB : Beg N x0) (h : RI N U x0 P x cur nxt w t p) (hn : inN N n) (hx : gi x n ≠ Fr) (hP : ∀ l, P l → P' l ∨ l = l0)
    (h1 : l0.1 = n) (h2 : l0 ∈ U) (hlt : gi x n + l0.2.2 < gi x l0.2.1) :
    RI N U x0 P' (x.set l0.2.1.toNat (gi x n + l0.2.2)) cur (if gb w l0.2.1 = true then nxt else nxt ++ [l0.2.1]) (if gb w l0.2.1 = true then w else w.set l0.2.1.toNat true) t p ∧
      (NoNeg U → least U ≤ gi x n + l0.2.2) := by
  have hto := (hU.nd l0 h2).2
  have hne : l0.2.1 ≠ n := fun e => by
    have := hU.ne l0 h2 (by rw [h1, e])
    rw [e] at hlt
    omega
  have hxl : l0.2.1 < x.length := by rw [h.lx]; exact hto.2
  have hgi : ∀ v, inN N v → gi (x.set l0.2.1.toNat (gi x n + l0.2.2)) v = if v = l0.2.1 then gi x n + l0.2.2 else gi x v := fun v hv => gi_set hto.1 hv.1 hxl
  have hdec : ∀ v, inN N v → gi (x.set l0.2.1.toNat (gi x n + l0.2.2)) v ≤ gi x v := fun v hv => by
    rw [hgi v hv]; split
    · rename_i e; rw [e]; omega
    · exact Int.le_refl _
  have hFr : gi x l0.2.1 ≤ Fr := by
    have := h.le0 _ hto
    rcases hB.val _ hto.1 hto.2 with e | e <;> rw [e] at this <;> unfold Fr at * <;> omega
  obtain ⟨u, ls, hu, h0, hc, hm, hs⟩ := h.wk n hn hx
  have hc' : Ch u (ls ++ [l0]) l0.2.1 := Ch.snoc (by rw [h1]; exact hc)
  have hm' : ∀ l ∈ ls ++ [l0], l ∈ U := fun l hl => by
    rcases List.mem_append.1 hl with hl | hl
    · exact hm l hl
    · rw [List.mem_singleton.1 hl]; exact h2
  have hs' : sumL (ls ++ [l0]) = gi x n + l0.2.2 := by rw [sumL_append, hs]; simp [sumL]
  -- the queue behind
  have hmem : ∀ v, v ∈ cur ++ (if gb w l0.2.1 = true then nxt else nxt ++ [l0.2.1]) ↔ v ∈ cur ++ nxt ∨ v = l0.2.1 := by
    intro v
    split
    · rename_i hw
      have := (h.qw _ hto).1 hw
      constructor
      · exact .inl
      · rintro (hv | rfl)
        · exact hv
        · exact this
    · simp only [List.mem_append, List.mem_singleton]; rw [or_assoc]
  have new : ∀ l, ¬ P' l → l.1 ≠ l0.2.1 → (P l → l = l0) := fun l hp _ hPl => (hP l hPl).resolve_left hp
  refine ⟨⟨by simpa using h.lx, ?_, h.lt, ?_, fun v hv => ?_, fun v hv => ?_, fun v hv => Int.le_trans (hdec v hv) (h.le0 v hv), fun v hv hf => ?_, fun l hl hf hq' hp => ?_, fun u' ls' v hu' hv h0' hc1 hm1 hlp hl60 => Int.le_trans (hdec v hv) (h.up u' ls' v hu' hv h0' hc1 hm1 hlp hl60),
    fun u' ls' l hu' h0' hc1 hm1 hlp hl60 hl hcur hp => ?_, h.tm, h.nc, fun hN hne' => ?_⟩, fun hN => ?_⟩
  · split <;> simpa using h.lw
  · split
    · exact h.qn
    · rename_i hw
      rw [← List.append_assoc, List.nodup_append]
      refine ⟨h.qn, by simp, fun a ha b hb => ?_⟩
      rw [List.mem_singleton.1 hb]
      intro e; subst e
      exact hw ((h.qw _ hto).2 ha)
  · rcases (hmem v).1 hv with hv | rfl
    · have h3 := h.qr v hv
      refine ⟨h3.1, ?_⟩
      rw [hgi v h3.1]; split
      · omega
      · exact h3.2
    · refine ⟨hto, ?_⟩
      rw [hgi _ hto, if_pos rfl]; omega
  · rw [hmem]
    split
    · rename_i hw
      rw [h.qw v hv]
      constructor
      · exact .inl
      · rintro (hv | rfl)
        · exact hv
        · exact (h.qw _ hto).1 hw
    · rw [gb_set hto.1 hv.1 (by rw [h.lw]; exact hto.2)]
      split
      · rename_i e; simp [e]
      · rename_i e; rw [h.qw v hv]; simp [e]
  · rw [hgi v hv] at hf ⊢
    split
    · rename_i e; subst e
      exact ⟨u, ls ++ [l0], hu, h0, hc', hm', hs'.symm⟩
    · rename_i e; rw [if_neg e] at hf; exact h.wk v hv hf
  · -- links satisfied
    have hl1 := (hU.nd l hl).1
    have hl2 := (hU.nd l hl).2
    have hne1 : l.1 ≠ l0.2.1 := fun e => hq' ((hmem _).2 (.inr e))
    have hq1 : l.1 ∉ cur ++ nxt := fun hh => hq' ((hmem _).2 (.inl hh))
    rw [hgi _ hl1, if_neg hne1] at hf ⊢
    by_cases hPl : P l
    · obtain rfl := new l hp hne1 hPl
      rw [hgi _ hl2, if_pos rfl, h1]; exact Int.le_refl _
    · exact Int.le_trans (hdec _ hl2) (h.ed l hl hf hq1 hPl)
  · have hl1 := (hU.nd l hl).1
    have hl2 := (hU.nd l hl).2
    by_cases hPl : P l
    · rcases hP l hPl with h3 | rfl
      · exact absurd h3 hp
      · rw [hgi _ hl2, if_pos rfl]
        have := h.up u' ls' l.1 hu' hl1 h0' hc1 hm1 hlp hl60
        rw [h1] at this
        omega
    · exact Int.le_trans (hdec _ hl2) (h.uc u' ls' l hu' h0' hc1 hm1 hlp hl60 hl hcur hPl)
  · -- nothing improves from pass N - 1 on
    by_cases hw : gb w l0.2.1 = true
    · rw [if_pos hw] at hne'; exact h.nn hN hne'
    · obtain ⟨r, r1, r2, r3, r4⟩ := simple hN _ _ _ hc' hm'
      have r5 := simple_len hU.nd r1 r2 hto r3
      have hn60 := hU.n
      rcases Nat.lt_or_ge p r.length with hp | hp
      · omega
      · have := h.up u r _ hu hto h0 r1 r2 hp (by omega)
        omega
  · have := sum_ge_least hN hc' hm'
    omega

/-- Where nothing waits: all links are satisfied. -/
theorem RI.fin (h : RI N U x0 (fun _ => False) x [] [] w t p) :
    (∀ l ∈ U, gi x l.1 ≠ Fr → gi x l.2.1 ≤ gi x l.1 + l.2.2) := fun l hl hf => h.ed l hl hf (by simp) (fun h => h)
end

/-! ### The beginning -/
def qAt (x0 : List Int) : Nat → List Int
  | 0 => []
  | i + 1 => if gi x0 i = Fr then qAt x0 i else qAt x0 i ++ [(i : Int)]
def wAt (x0 : List Int) (N : Nat) : Nat → List Bool
  | 0 => List.replicate N false
  | i + 1 => if gi x0 i = Fr then wAt x0 N i else (wAt x0 N i).set i true
theorem qAt_mem (x0 : List Int) : ∀ (i : Nat) (v : Int), v ∈ qAt x0 i ↔ 0 ≤ v ∧ v < i ∧ gi x0 v ≠ Fr
  | 0, v => by simp [qAt]; omega
  | i + 1, v => by
    unfold qAt
    have ih := qAt_mem x0 i v
    split
    · rename_i h
      rw [ih]
      constructor
      · rintro ⟨h1, h2, h3⟩; exact ⟨h1, by push_cast; omega, h3⟩
      · rintro ⟨h1, h2, h3⟩
        have : v ≠ i := fun e => by subst e; exact h3 h
        exact ⟨h1, by push_cast at h2; omega, h3⟩
    · rename_i h
      rw [List.mem_append, ih, List.mem_singleton]
      constructor
      · rintro (⟨h1, h2, h3⟩ | rfl)
        · exact ⟨h1, by push_cast; omega, h3⟩
        · exact ⟨by omega, by push_cast; omega, h⟩
      · rintro ⟨h1, h2, h3⟩
        by_cases e : v = i
        · exact .inr e
        · exact .inl ⟨h1, by push_cast at h2; omega, h3⟩
theorem qAt_nodup (x0 : List Int) : ∀ i, (qAt x0 i).Nodup
  | 0 => by simp [qAt]
  | i + 1 => by
    unfold qAt
    split
    · exact qAt_nodup x0 i
    · rw [List.nodup_append]
      refine ⟨qAt_nodup x0 i, by simp, fun a ha b hb => ?_⟩
      rw [List.mem_singleton.1 hb]
      intro e; subst e
      have := (qAt_mem x0 i _).1 ha
      omega
theorem wAt_len (x0 : List Int) (N : Nat) : ∀ i, (wAt x0 N i).length = N
  | 0 => by simp [wAt]
  | i + 1 => by unfold wAt; split <;> simp [wAt_len x0 N i]
theorem wAt_get (x0 : List Int) (N : Nat) : ∀ (i : Nat) (v : Int), i ≤ N → 0 ≤ v → (gb (wAt x0 N i) v = true ↔ v < i ∧ gi x0 v ≠ Fr)
  | 0, v, _, h0 => by
    have : gb (wAt x0 N 0) v = false := by
      unfold gb wAt
      rw [List.getD_eq_getElem?_getD, List.getElem?_replicate]
      split <;> rfl
    rw [this]; simp; omega
  | i + 1, v, hi, h0 => by
    have ih := wAt_get x0 N i v (by omega) h0
    unfold wAt
    split
    · rename_i h
      rw [ih]
      constructor
      · rintro ⟨h2, h3⟩; exact ⟨by push_cast; omega, h3⟩
      · rintro ⟨h2, h3⟩
        have : v ≠ i := fun e => by subst e; exact h3 h
        exact ⟨by push_cast at h2; omega, h3⟩
    · rename_i h
      have e := gb_set (x := wAt x0 N i) (a := (i : Int)) (b := v) (c := true) (by omega) h0 (by rw [wAt_len]; omega)
      simp only [Int.toNat_natCast] at e
      rw [e]
      split
      · rename_i e'; subst e'; simp [h]; omega
      · rename_i e'; rw [ih]
        constructor
        · rintro ⟨h2, h3⟩; exact ⟨by push_cast; omega, h3⟩
        · rintro ⟨h2, h3⟩; exact ⟨by push_cast at h2; omega, h3⟩
theorem RI.init {N : Nat} {U : List Lk} {x0 : List Int} (hU : Lkx N U x0) (hB : Beg N x0) : RI N U x0 (fun _ => False) x0 (qAt x0 N) [] (wAt x0 N N) (List.replicate N 0) 0 := by
  have fr : ∀ v, inN N v → (gi x0 v ≠ Fr ↔ gi x0 v = 0) := fun v hv => by
    rcases hB.val v hv.1 hv.2 with h | h <;> rw [h] <;> decide
  have tz : ∀ v, gi (List.replicate N 0) v = 0 := fun v => by
    unfold gi
    rw [List.getD_eq_getElem?_getD, List.getElem?_replicate]
    split <;> rfl
  refine ⟨hB.len, wAt_len _ _ _, by simp, by simpa using qAt_nodup x0 N, fun v hv => ?_, fun v hv => ?_, fun v _ => Int.le_refl _, fun v hv hf => ⟨v, [], hv, (fr v hv).1 hf, rfl, by simp, by rw [(fr v hv).1 hf]; rfl⟩, fun l _ hf hq _ => ?_, fun u ls v hu hv h0 hc hm hp _ => ?_, fun u ls l hu h0 hc hm hp _ hl hq _ => ?_, fun v hv => ?_, fun _ hc => ?_, fun _ hc => absurd rfl hc⟩
  · have := (qAt_mem x0 N v).1 (by simpa using hv)
    exact ⟨⟨this.1, this.2.1⟩, this.2.2⟩
  · rw [wAt_get x0 N N v (Nat.le_refl _) hv.1]
    simp only [List.append_nil, qAt_mem]
    exact ⟨fun h => ⟨hv.1, h⟩, fun h => h.2⟩
  · have hl := (hU.nd l ‹_›).1
    refine absurd ?_ hq
    rw [List.append_nil, qAt_mem]
    exact ⟨hl.1, hl.2, hf⟩
  · have : ls = [] := List.eq_nil_of_length_eq_zero (by omega)
    subst this
    have hc : u = v := hc
    subst hc; rw [h0]; exact Int.le_refl _
  · have : ls = [] := List.eq_nil_of_length_eq_zero (by omega)
    subst this
    have hc : u = l.1 := hc
    refine absurd ?_ hq
    rw [qAt_mem, ← hc]
    exact ⟨hu.1, hu.2, (fr u hu).2 h0⟩
  · rw [tz]; exact ⟨by omega, by omega, fun _ => by omega⟩
  · cases hN : N with
    | zero => subst hN; exact absurd rfl hc
    | succ n => omega
end Go.Chn
end

section
/-
  Chapter 2, plain: least sums of chains with just so many links, and of all chains.
-/
namespace Go.Chn

def Sub (ls U : List Lk) : Prop := ∀ l ∈ ls, l ∈ U
/-- The least sum of the chains of k links from u to v; Fr: there is none. -/
structure IsEx (U : List Lk) (k : Nat) (u v d : Int) : Prop where
  is : d ≠ Fr → ∃ ls, ls.length = k ∧ Ch u ls v ∧ Sub ls U ∧ sumL ls = d
  le : ∀ ls, ls.length = k → Ch u ls v → Sub ls U → d ≤ sumL ls
  fr : d ≤ Fr
/-- The least sum of all chains from u to v; Fr: there is none. -/
structure IsD (U : List Lk) (u v d : Int) : Prop where
  is : d ≠ Fr → ∃ ls, Ch u ls v ∧ Sub ls U ∧ sumL ls = d
  le : ∀ ls, Ch u ls v → Sub ls U → d ≤ sumL ls
  no : ∀ ls, Ch u ls v → Sub ls U → d ≠ Fr
  fr : d ≤ Fr
section
variable {N : Nat} {U : List Lk}
theorem IsEx.none (hU : Lks N U) {k : Nat} (hk : k ≤ 60) {u v d : Int} (h : IsEx U k u v d) {ls : List Lk} (h1 : ls.length = k) (h2 : Ch u ls v) (h3 : Sub ls U) : d ≠ Fr := by
  have := h.le ls h1 h2 h3
  have := sum_fr hU h3 (by omega)
  omega
theorem IsEx.uniq (hU : Lks N U) {k : Nat} (hk : k ≤ 60) {u v d d' : Int} (h : IsEx U k u v d) (h' : IsEx U k u v d') : d = d' := by
  have key : ∀ {d d' : Int}, IsEx U k u v d → IsEx U k u v d' → d ≠ Fr → d' ≤ d ∧ d' ≠ Fr := by
    intro d d' h h' hd
    obtain ⟨ls, h1, h2, h3, h4⟩ := h.is hd
    have := h'.le ls h1 h2 h3
    exact ⟨by omega, h'.none hU hk h1 h2 h3⟩
  by_cases hd : d = Fr
  · by_cases hd' : d' = Fr
    · rw [hd, hd']
    · exact absurd hd (key h' h hd').2
  · have := key h h' hd
    have := key h' h this.2
    omega
theorem IsD.uniq {u v d d' : Int} (h : IsD U u v d) (h' : IsD U u v d') : d = d' := by
  have key : ∀ {d d' : Int}, IsD U u v d → IsD U u v d' → d ≠ Fr → d' ≤ d ∧ d' ≠ Fr := by
    intro d d' h h' hd
    obtain ⟨ls, h1, h2, h3⟩ := h.is hd
    have := h'.le ls h1 h2
    exact ⟨by omega, h'.no ls h1 h2⟩
  by_cases hd : d = Fr
  · by_cases hd' : d' = Fr
    · rw [hd, hd']
    · exact absurd hd (key h' h hd').2
  · have := key h h' hd
    have := key h' h this.2
    omega

/-! ### A link more, ahead or behind -/
theorem ch_cons {ls : List Lk} {k : Nat} {u v : Int} (hl : ls.length = k + 1) (h : Ch u ls v) (hs : Sub ls U) : ∃ l r, ls = l :: r ∧ r.length = k ∧ l.1 = u ∧ Ch l.2.1 r v ∧ l ∈ U ∧ Sub r U := by
  cases ls with
  | nil => cases hl
  | cons l r => exact ⟨l, r, rfl, by simpa using hl, h.1, h.2, hs l (List.mem_cons_self ..), fun x hx => hs x (List.mem_cons_of_mem _ hx)⟩
theorem ch_snoc {ls : List Lk} {k : Nat} {u v : Int} (hl : ls.length = k + 1) (h : Ch u ls v) (hs : Sub ls U) : ∃ r l, ls = r ++ [l] ∧ r.length = k ∧ Ch u r l.1 ∧ l.2.1 = v ∧ l ∈ U ∧ Sub r U := by
  rcases List.eq_nil_or_concat ls with rfl | ⟨r, l, rfl⟩
  · cases hl
  · rw [List.concat_eq_append] at *
    obtain ⟨z, h1, h2⟩ := h.split
    have e1 : l.1 = z := h2.1
    have e2 : l.2.1 = v := h2.2
    exact ⟨r, l, rfl, by simpa using hl, by rw [e1]; exact h1, e2, hs l (by simp), fun x hx => hs x (by simp [hx])⟩
theorem Sub.cons {l : Lk} {r : List Lk} (h : l ∈ U) (hr : Sub r U) : Sub (l :: r) U := fun x hx => by
  rcases List.mem_cons.1 hx with rfl | hx
  · exact h
  · exact hr x hx
theorem Sub.snoc {l : Lk} {r : List Lk} (h : l ∈ U) (hr : Sub r U) : Sub (r ++ [l]) U := fun x hx => by
  rcases List.mem_append.1 hx with hx | hx
  · exact hr x hx
  · rw [List.mem_singleton.1 hx]; exact h

/-- A list of least numbers that is made link by link: at key l the least of what links with this key bring. -/
structure Made (N : Nat) (key : Lk → Int) (use : Lk → Bool) (val : Lk → Int) (done : List Lk) (y : List Int) : Prop where
  len : y.length = N
  is : ∀ n, inN N n → gi y n ≠ Fr → ∃ l ∈ done, key l = n ∧ use l = true ∧ gi y n = val l
  le : ∀ l ∈ done, use l = true → gi y (key l) ≤ val l
  fr : ∀ n, inN N n → gi y n ≤ Fr
def mk1 (key : Lk → Int) (use : Lk → Bool) (val : Lk → Int) (y : List Int) (l : Lk) : List Int :=
  if use l = true then y.set (key l).toNat (min (gi y (key l)) (val l)) else y
theorem gi_rep (N : Nat) (c : Int) {v : Int} (hv : inN N v) : gi (List.replicate N c) v = c := by
  unfold gi
  rw [List.getD_eq_getElem?_getD, List.getElem?_replicate]
  rw [if_pos (by have := hv.1; have := hv.2; omega)]; rfl
theorem Made.nil {key : Lk → Int} {use : Lk → Bool} {val : Lk → Int} : Made N key use val [] (List.replicate N Fr) :=
  ⟨by simp, fun n hn h => absurd (gi_rep N Fr hn) h, by simp, fun n hn => by rw [gi_rep N Fr hn]; exact Int.le_refl _⟩
theorem Made.step {key : Lk → Int} {use : Lk → Bool} {val : Lk → Int} {done : List Lk} {y : List Int} (h : Made N key use val done y) {l : Lk} (hk : inN N (key l)) (hd : ∀ l ∈ done, inN N (key l)) :
    Made N key use val (done ++ [l]) (mk1 key use val y l) := by
  unfold mk1
  split
  · rename_i hu
    have hgi : ∀ n, inN N n → gi (y.set (key l).toNat (min (gi y (key l)) (val l))) n = if n = key l then min (gi y (key l)) (val l) else gi y n := fun n hn => gi_set hk.1 hn.1 (by rw [h.len]; exact hk.2)
    refine ⟨by simpa using h.len, fun n hn hf => ?_, fun m hm hmu => ?_, fun n hn => ?_⟩
    · rw [hgi n hn] at hf ⊢
      split
      · rename_i e; subst e
        by_cases hlt : gi y (key l) ≤ val l
        · rw [if_pos rfl, Int.min_eq_left hlt] at hf
          obtain ⟨m, h1, h2, h3, h4⟩ := h.is _ hn hf
          exact ⟨m, by simp [h1], h2, h3, by rw [Int.min_eq_left hlt]; exact h4⟩
        · exact ⟨l, by simp, rfl, hu, by rw [Int.min_eq_right (by omega)]⟩
      · rename_i e; rw [if_neg e] at hf
        obtain ⟨m, h1, h2⟩ := h.is n hn hf
        exact ⟨m, by simp [h1], h2⟩
    · rcases List.mem_append.1 hm with hm | hm
      · rw [hgi _ (hd m hm)]
        have := h.le m hm hmu
        split
        · rename_i e; rw [e] at this; omega
        · exact this
      · obtain rfl := List.mem_singleton.1 hm
        rw [hgi _ hk, if_pos rfl]; omega
    · rw [hgi n hn]
      have := h.fr n hn
      split
      · have := h.fr _ hk; omega
      · exact this
  · rename_i hu
    refine ⟨h.len, fun n hn hf => ?_, fun m hm hmu => ?_, h.fr⟩
    · obtain ⟨m, h1, h2⟩ := h.is n hn hf
      exact ⟨m, by simp [h1], h2⟩
    · rcases List.mem_append.1 hm with hm | hm
      · exact h.le m hm hmu
      · rw [List.mem_singleton.1 hm] at hmu; exact absurd hmu hu
theorem Made.fold {key : Lk → Int} {use : Lk → Bool} {val : Lk → Int} (hd : ∀ l ∈ U, inN N (key l)) : Made N key use val U (U.foldl (mk1 key use val) (List.replicate N Fr)) := by
  have gen : ∀ (r done : List Lk) (y : List Int), (∀ l ∈ done ++ r, inN N (key l)) → Made N key use val done y → Made N key use val (done ++ r) (r.foldl (mk1 key use val) y) := by
    intro r
    induction r with
    | nil => intro done y _ h; simpa using h
    | cons l r ih =>
      intro done y hd h
      have := ih (done ++ [l]) (mk1 key use val y l) (by simpa using hd) (h.step (hd l (by simp)) fun m hm => hd m (by simp [hm]))
      simpa using this
  simpa using gen U [] _ (by simpa using hd) Made.nil

/-- The program's table: a link more ahead. -/
def nextP (N : Nat) (U : List Lk) (x : List Int) : List Int := U.foldl (mk1 (·.1) (fun l => !(gi x l.2.1 == Fr)) (fun l => l.2.2 + gi x l.2.1)) (List.replicate N Fr)
/-- The specification's row: a link more behind. -/
def nextR (N : Nat) (U : List Lk) (x : List Int) : List Int := U.foldl (mk1 (·.2.1) (fun l => !(gi x l.1 == Fr)) (fun l => gi x l.1 + l.2.2)) (List.replicate N Fr)
theorem nextP_ex (hU : Lks N U) {k : Nat} (hk : k ≤ 59) {v : Int} {x : List Int} (h : ∀ n, inN N n → IsEx U k n v (gi x n)) : ∀ n, inN N n → IsEx U (k + 1) n v (gi (nextP N U x) n) := by
  have hm : Made N _ _ _ U (nextP N U x) := Made.fold fun l hl => (hU.nd l hl).1
  intro n hn
  refine ⟨fun hf => ?_, fun ls hl hc hs => ?_, hm.fr n hn⟩
  · obtain ⟨l, h1, h2, h3, h4⟩ := hm.is n hn hf
    obtain ⟨r, r1, r2, r3, r4⟩ := (h l.2.1 (hU.nd l h1).2).is (by simpa using h3)
    exact ⟨l :: r, by simp [r1], ⟨h2, r2⟩, Sub.cons h1 r3, by rw [h4]; simp [sumL, r4]⟩
  · obtain ⟨l, r, rfl, h1, rfl, h3, h4, h5⟩ := ch_cons hl hc hs
    have e := (h l.2.1 (hU.nd l h4).2)
    have e1 := e.le r h1 h3 h5
    have e2 := e.none hU (by omega) h1 h3 h5
    have := hm.le l h4 (by simpa using e2)
    simp only [sumL]; omega
theorem nextR_ex (hU : Lks N U) {k : Nat} (hk : k ≤ 59) {u : Int} {x : List Int} (h : ∀ n, inN N n → IsEx U k u n (gi x n)) : ∀ n, inN N n → IsEx U (k + 1) u n (gi (nextR N U x) n) := by
  have hm : Made N _ _ _ U (nextR N U x) := Made.fold fun l hl => (hU.nd l hl).2
  intro n hn
  refine ⟨fun hf => ?_, fun ls hl hc hs => ?_, hm.fr n hn⟩
  · obtain ⟨l, h1, h2, h3, h4⟩ := hm.is n hn hf
    obtain ⟨r, r1, r2, r3, r4⟩ := (h l.1 (hU.nd l h1).1).is (by simpa using h3)
    refine ⟨r ++ [l], by simp [r1], ?_, Sub.snoc h1 r3, by rw [h4, sumL_append]; simp [sumL, r4]⟩
    rw [← h2]; exact Ch.snoc r2
  · obtain ⟨r, l, rfl, h1, h2, rfl, h4, h5⟩ := ch_snoc hl hc hs
    have e := (h l.1 (hU.nd l h4).1)
    have e1 := e.le r h1 h2 h5
    have e2 := e.none hU (by omega) h1 h2 h5
    have := hm.le l h4 (by simpa using e2)
    rw [sumL_append]; simp only [sumL]; omega
/-- The tables' beginning. -/
theorem ex_zero {u v : Int} : IsEx U 0 u v (if u = v then 0 else Fr) := by
  refine ⟨fun hf => ?_, fun ls hl hc _ => ?_, ?_⟩
  · split at hf
    · rename_i e; exact ⟨[], rfl, e, fun l hl => by simp at hl, by simp [sumL, e]⟩
    · exact absurd rfl hf
  · have : ls = [] := List.eq_nil_of_length_eq_zero hl
    subst this
    have hc : u = v := hc
    rw [if_pos hc]; exact Int.le_refl _
  · split <;> decide

/-! ### What the search leaves -/
/-- What holds at a search's end. -/
structure Post (N : Nat) (U : List Lk) (x0 x : List Int) : Prop where
  len : x.length = N
  le0 : ∀ v, inN N v → gi x v ≤ gi x0 v
  wk : ∀ v, inN N v → gi x v ≠ Fr → ∃ u ls, inN N u ∧ gi x0 u = 0 ∧ Ch u ls v ∧ Sub ls U ∧ gi x v = sumL ls
  ed : ∀ l ∈ U, gi x l.1 ≠ Fr → gi x l.2.1 ≤ gi x l.1 + l.2.2
theorem RI.post {x0 x t : List Int} {w : List Bool} {p : Nat} (h : RI N U x0 (fun _ => False) x [] [] w t p) : Post N U x0 x :=
  ⟨h.lx, h.le0, h.wk, h.fin⟩
theorem Post.chain (hU : Lks N U) {x0 x : List Int} (h : Post N U x0 x) : ∀ {ls : List Lk} {u v : Int}, inN N u → Ch u ls v → Sub ls U → ls.length ≤ 60 → gi x u ≤ 0 → gi x v ≤ gi x u + sumL ls := by
  have gen : ∀ (a ls : List Lk) {u w v : Int}, inN N u → gi x u ≤ 0 → Ch u a w → Ch w ls v → Sub (a ++ ls) U → (a ++ ls).length ≤ 60 → gi x w ≤ gi x u + sumL a → gi x v ≤ gi x u + sumL (a ++ ls) := by
    intro a ls
    induction ls generalizing a with
    | nil => intro u w v hu h0 ha hl hs hlen hw; have hl : w = v := hl; subst hl; simpa using hw
    | cons l ls ih =>
      intro u w v hu h0 ha hl hs hlen hw
      have hlU := hs l (by simp)
      have hsa : Sub a U := fun y hy => hs y (by simp [hy])
      have hb := sum_fr hU hsa (by simp at hlen; omega)
      have hf : gi x l.1 ≠ Fr := by rw [hl.1]; omega
      have h2 := h.ed l hlU hf
      rw [hl.1] at h2
      have := ih (a ++ [l]) (w := l.2.1) hu h0 (Ch.snoc (by rw [hl.1]; exact ha)) hl.2 (by simpa using hs) (by simpa using hlen) (by rw [sumL_append]; simp only [sumL]; omega)
      simpa using this
  intro ls u v hu hc hs hl h0
  have := gen [] ls hu h0 (show u = u from rfl) hc (by simpa using hs) (by simpa using hl) (by simp [sumL])
  simpa using this

/-- From one node. -/
theorem Post.dist (hU : Lks N U) (hN : NoNeg U) {x0 x : List Int} {u : Int} (hu : inN N u) (h0 : ∀ v, inN N v → gi x0 v = if v = u then 0 else Fr) (h : Post N U x0 x) {v : Int} (hv : inN N v) : IsD U u v (gi x v) := by
  have hxu : gi x u ≤ 0 := by have := h.le0 u hu; rw [h0 u hu, if_pos rfl] at this; exact this
  have hle : ∀ ls, Ch u ls v → Sub ls U → gi x v ≤ sumL ls ∧ gi x v ≠ Fr := by
    intro ls hc hs
    obtain ⟨r, r1, r2, r3, r4⟩ := simple hN ls u v hc hs
    have r5 := simple_len hU.nd r1 r2 hv r3
    have hn := hU.n
    have h1 := h.chain hU hu r1 r2 (by omega) hxu
    have h2 := sum_fr hU r2 (by omega)
    omega
  refine ⟨fun hf => ?_, fun ls hc hs => (hle ls hc hs).1, fun ls hc hs => (hle ls hc hs).2, ?_⟩
  · obtain ⟨z, ls, h1, h2, h3, h4, h5⟩ := h.wk v hv hf
    rw [h0 z h1] at h2
    split at h2
    · rename_i e; subst e; exact ⟨ls, h3, h4, h5.symm⟩
    · exact absurd h2 (by decide)
  · have := h.le0 v hv
    rw [h0 v hv] at this
    split at this <;> unfold Fr at * <;> omega

/-- From all nodes: a solution. -/
theorem Post.sol {x0 x : List Int} (h0 : ∀ v, inN N v → gi x0 v = 0) (h : Post N U x0 x) (hU : InN N U) : ∀ l ∈ U, gi x l.2.1 ≤ gi x l.1 + l.2.2 := fun l hl => h.ed l hl (by
  have := h.le0 l.1 (hU l hl).1
  rw [h0 _ (hU l hl).1] at this
  unfold Fr; omega)
theorem Post.noNeg {x0 x : List Int} (h0 : ∀ v, inN N v → gi x0 v = 0) (h : Post N U x0 x) (hU : InN N U) : NoNeg U := noNeg_of (gi x) (h.sol h0 hU)
end
end Go.Chn
end

section
/-
  Chapter 2, plain: the table of all bounds, node after node taken as a stop on the way.
-/
namespace Go.Chn

/-- All stops on the way lie below k. -/
def Lo (k : Int) (ls : List Lk) : Prop := ∀ l ∈ ls.tail, l.1 < k
def AllLo (k : Int) (ls : List Lk) : Prop := ∀ l ∈ ls, l.1 < k
section
variable {N : Nat} {U : List Lk}

/-- Closed chains over low stops have no sum below 0. -/
def NoNegK (U : List Lk) (k : Int) : Prop := ∀ u ls, Ch u ls u → Sub ls U → Lo k ls → 0 ≤ sumL ls
theorem simpleK {k : Int} (hU : NoNegK U k) : ∀ (ls : List Lk) (u v : Int), Ch u ls v → Sub ls U → AllLo k ls → ∃ r, Ch u r v ∧ Sub r U ∧ (nds r v).Nodup ∧ sumL r ≤ sumL ls ∧ AllLo k r
  | [], u, v, h, _, _ => ⟨[], h, fun l hl => by simp at hl, by simp [nds], Int.le_refl _, fun l hl => by simp at hl⟩
  | l :: ls, u, v, h, hm, hk => by
    obtain ⟨r, h1, h2, h3, h4, h5⟩ := simpleK hU ls l.2.1 v h.2 (fun x hx => hm x (List.mem_cons_of_mem _ hx)) (fun x hx => hk x (List.mem_cons_of_mem _ hx))
    by_cases hu : u ∈ nds r v
    · obtain ⟨b, c, rfl, hb, hc⟩ := split_at h1 hu
      refine ⟨c, hc, fun x hx => h2 x (List.mem_append.2 (.inr hx)), nds_suffix h3, ?_, fun x hx => h5 x (List.mem_append.2 (.inr hx))⟩
      have hn := hU u (l :: b) ⟨h.1, hb⟩ (Sub.cons (hm l (List.mem_cons_self ..)) fun x hx => h2 x (List.mem_append.2 (.inl hx))) (fun x hx => h5 x (List.mem_append.2 (.inl hx)))
      rw [sumL_append] at h4
      simp only [sumL] at hn ⊢
      omega
    · refine ⟨l :: r, ⟨h.1, h1⟩, Sub.cons (hm l (List.mem_cons_self ..)) h2, ?_, ?_, fun x hx => ?_⟩
      · have e : nds (l :: r) v = l.1 :: nds r v := rfl
        rw [e, List.nodup_cons]
        exact ⟨by rw [h.1]; exact hu, h3⟩
      · simp only [sumL]; omega
      · rcases List.mem_cons.1 hx with rfl | hx
        · exact hk _ (List.mem_cons_self ..)
        · exact h5 x hx
/-- A chain over low stops, without a repeated node. -/
theorem simpleL {k : Int} (hU : NoNegK U k) {ls : List Lk} {u v : Int} (h : Ch u ls v) (hs : Sub ls U) (hk : Lo k ls) : ∃ r, Ch u r v ∧ Sub r U ∧ (nds r v).Nodup ∧ sumL r ≤ sumL ls ∧ Lo k r := by
  cases ls with
  | nil => exact ⟨[], h, hs, by simp [nds], Int.le_refl _, hk⟩
  | cons l ls =>
    obtain ⟨r, h1, h2, h3, h4, h5⟩ := simpleK hU ls l.2.1 v h.2 (fun x hx => hs x (List.mem_cons_of_mem _ hx)) hk
    by_cases hu : u ∈ nds r v
    · obtain ⟨b, c, rfl, hb, hc⟩ := split_at h1 hu
      refine ⟨c, hc, fun x hx => h2 x (List.mem_append.2 (.inr hx)), nds_suffix h3, ?_, fun x hx => h5 x (List.mem_append.2 (.inr (List.mem_of_mem_tail hx)))⟩
      have hn := hU u (l :: b) ⟨h.1, hb⟩ (Sub.cons (hs l (List.mem_cons_self ..)) fun x hx => h2 x (List.mem_append.2 (.inl hx))) (fun x hx => h5 x (List.mem_append.2 (.inl hx)))
      rw [sumL_append] at h4
      simp only [sumL] at hn ⊢
      omega
    · refine ⟨l :: r, ⟨h.1, h1⟩, Sub.cons (hs l (List.mem_cons_self ..)) h2, ?_, ?_, h5⟩
      · have e : nds (l :: r) v = l.1 :: nds r v := rfl
        rw [e, List.nodup_cons]
        exact ⟨by rw [h.1]; exact hu, h3⟩
      · simp only [sumL]; omega

/-- The table at a stage. -/
structure Stg (N : Nat) (U : List Lk) (k : Nat) (T : Int → Int → Int) : Prop where
  is : ∀ a b, inN N a → inN N b → T a b ≠ Fr → ∃ ls, Ch a ls b ∧ Sub ls U ∧ Lo k ls ∧ sumL ls = T a b
  le : ∀ a b ls, inN N a → inN N b → Ch a ls b → Sub ls U → Lo k ls → T a b ≤ sumL ls ∧ T a b ≠ Fr
  fr : ∀ a b, inN N a → inN N b → T a b ≤ Fr
def DiagOk (N : Nat) (T : Int → Int → Int) : Prop := ∀ a, inN N a → 0 ≤ T a a
def newT (T : Int → Int → Int) (k a b : Int) : Int := if T a k = Fr ∨ T k b = Fr then T a b else min (T a b) (T a k + T k b)

theorem Stg.noNeg {k : Nat} {T : Int → Int → Int} (hU : Lks N U) (h : Stg N U k T) (hd : DiagOk N T) : NoNegK U k := by
  intro u ls hc hs hk
  cases ls with
  | nil => exact Int.le_refl _
  | cons l r =>
    have hu : inN N u := by have := (hU.nd l (hs l (List.mem_cons_self ..))).1; rw [hc.1] at this; exact this
    have := (h.le u u _ hu hu hc hs hk).1
    have := hd u hu
    omega
theorem Stg.bound {k : Nat} {T : Int → Int → Int} (hU : Lks N U) (h : Stg N U k T) (hd : DiagOk N T) {a b : Int} (ha : inN N a) (hb : inN N b) (hf : T a b ≠ Fr) : -288230376151711744 ≤ T a b ∧ T a b ≤ 288230376151711744 := by
  obtain ⟨ls, h1, h2, h3, h4⟩ := h.is a b ha hb hf
  obtain ⟨r, r1, r2, r3, r4, r5⟩ := simpleL (h.noNeg hU hd) h1 h2 h3
  have r6 := simple_len hU.nd r1 r2 hb r3
  have hn := hU.n
  have r7 := sum_bound hU r2
  have r8 := (h.le a b r ha hb r1 r2 r5).1
  omega

/-- The first stop at k. -/
theorem stop_at (k : Int) : ∀ (ls : List Lk), (∀ l ∈ ls, l.1 < k) ∨ (∃ p l q, ls = p ++ l :: q ∧ (∀ x ∈ p, x.1 ≠ k) ∧ l.1 = k) ∨ (∃ l ∈ ls, k < l.1)
  | [] => .inl (by simp)
  | l :: ls => by
    rcases Int.lt_trichotomy l.1 k with h | h | h
    · rcases stop_at k ls with h1 | ⟨⟨p, m, q, rfl, h2, h3⟩ | ⟨m, h2, h3⟩⟩
      · left; intro x hx
        rcases List.mem_cons.1 hx with rfl | hx
        · exact h
        · exact h1 x hx
      · right; left
        refine ⟨l :: p, m, q, rfl, fun x hx => ?_, h3⟩
        rcases List.mem_cons.1 hx with rfl | hx
        · omega
        · exact h2 x hx
      · right; right
        exact ⟨m, List.mem_cons_of_mem _ h2, h3⟩
    · right; left
      exact ⟨[], l, ls, rfl, by simp, h⟩
    · right; right
      exact ⟨l, List.mem_cons_self .., h⟩
/-- A chain over stops up to k: over lower ones, or parted at its first stop at k. -/
theorem part_at {k : Nat} {ls : List Lk} {u v : Int} (h : Ch u ls v) (hk : Lo ((k + 1 : Nat) : Int) ls) : Lo k ls ∨ ∃ a b, ls = a ++ b ∧ a ≠ [] ∧ b ≠ [] ∧ Ch u a k ∧ Ch k b v ∧ Lo k a ∧ Lo ((k + 1 : Nat) : Int) b := by
  cases ls with
  | nil => exact .inl fun l hl => by simp at hl
  | cons l0 ls =>
    have hk' : ∀ l ∈ ls, l.1 < (k : Int) + 1 := fun l hl => by have := hk l hl; push_cast at this; exact this
    rcases stop_at (k : Int) ls with h1 | ⟨⟨p, m, q, rfl, h2, h3⟩ | ⟨m, h2, h3⟩⟩
    · exact .inl h1
    · right
      have e : l0 :: (p ++ m :: q) = (l0 :: p) ++ (m :: q) := rfl
      rw [e] at h
      obtain ⟨z, z1, z2⟩ := h.split
      have ez : z = k := by rw [← h3]; exact z2.1.symm
      subst ez
      refine ⟨l0 :: p, m :: q, rfl, by simp, by simp, z1, z2, fun x hx => ?_, fun x hx => by have := hk' x (by simp only [List.tail_cons] at hx; simp [hx]); push_cast; exact this⟩
      have := h2 x hx
      have := hk' x (List.mem_append.2 (.inl hx))
      omega
    · have := hk' m h2
      omega
theorem Lo.mono {k k' : Int} (h : k ≤ k') {ls : List Lk} (hl : Lo k ls) : Lo k' ls := fun l hh => Int.lt_of_lt_of_le (hl l hh) h
theorem Lo.join {k : Nat} {a b : List Lk} {u v : Int} (ha : Lo k a) (hb : Lo k b) (hca : Ch u a k) (hcb : Ch (k : Int) b v) : Lo ((k + 1 : Nat) : Int) (a ++ b) := by
  have low : ∀ {c : List Lk} {x y : Int}, Lo (k : Int) c → Ch x c y → ∀ l ∈ c, l.1 < (k : Int) ∨ l.1 = x := by
    intro c x y hl hc l hm
    cases c with
    | nil => simp at hm
    | cons l0 c =>
      rcases List.mem_cons.1 hm with rfl | hm
      · exact .inr hc.1
      · exact .inl (hl l hm)
  intro l hm
  push_cast
  cases a with
  | nil =>
    have hm' : l ∈ b.tail := by simpa using hm
    have := hb l hm'; omega
  | cons l0 a =>
    have hm' : l ∈ a ∨ l ∈ b := by simpa using hm
    rcases hm' with hm' | hm'
    · have := ha l hm'; omega
    · rcases low hb hcb l hm' with h | h
      · omega
      · omega

/-- A stage. -/
theorem Stg.next {k : Nat} {T : Int → Int → Int} (hU : Lks N U) (hk : k < N) (h : Stg N U k T) (hd : DiagOk N T) : Stg N U (k + 1) (newT T k) := by
  have hkN : inN N (k : Int) := ⟨by omega, by omega⟩
  have old : ∀ a b, inN N a → inN N b → newT T k a b ≤ T a b := fun a b _ _ => by unfold newT; split <;> omega
  have fin : ∀ a b, inN N a → inN N b → T a b ≠ Fr → newT T k a b ≠ Fr := by
    intro a b ha hb hf
    have := old a b ha hb
    have := h.fr a b ha hb
    omega
  refine ⟨fun a b ha hb hf => ?_, fun a b ls ha hb hc hs hl => ?_, fun a b ha hb => Int.le_trans (old a b ha hb) (h.fr a b ha hb)⟩
  · unfold newT at hf ⊢
    by_cases hor : T a k = Fr ∨ T k b = Fr
    · rw [if_pos hor] at hf ⊢
      obtain ⟨ls, h1, h2, h3, h4⟩ := h.is a b ha hb hf
      exact ⟨ls, h1, h2, h3.mono (by push_cast; omega), h4⟩
    · rw [if_neg hor] at hf ⊢
      have hor' := not_or.1 hor
      by_cases hlt : T a b ≤ T a k + T k b
      · rw [Int.min_eq_left hlt] at hf ⊢
        obtain ⟨ls, h1, h2, h3, h4⟩ := h.is a b ha hb hf
        exact ⟨ls, h1, h2, h3.mono (by push_cast; omega), h4⟩
      · rw [Int.min_eq_right (by omega)]
        obtain ⟨la, a1, a2, a3, a4⟩ := h.is a k ha hkN hor'.1
        obtain ⟨lb, b1, b2, b3, b4⟩ := h.is k b hkN hb hor'.2
        refine ⟨la ++ lb, a1.append b1, fun x hx => ?_, Lo.join a3 b3 a1 b1, by rw [sumL_append, a4, b4]⟩
        rcases List.mem_append.1 hx with hx | hx
        · exact a2 x hx
        · exact b2 x hx
  · -- from k on
    have fromK : ∀ (n : Nat) (ls : List Lk), ls.length ≤ n → Ch k ls b → Sub ls U → Lo ((k + 1 : Nat) : Int) ls → T k b ≤ sumL ls ∧ T k b ≠ Fr := by
      intro n
      induction n with
      | zero =>
        intro ls hn hc hs hl
        have : ls = [] := List.eq_nil_of_length_eq_zero (by omega)
        subst this
        exact h.le k b [] hkN hb hc hs (fun l hl => by simp at hl)
      | succ n ih =>
        intro ls hn hc hs hl
        rcases part_at hc hl with h1 | ⟨x, y, rfl, hx, hy, c1, c2, l1, l2⟩
        · exact h.le k b ls hkN hb hc hs h1
        · have hx' : 0 < x.length := List.length_pos_iff.2 hx
          have i1 := ih y (by simp at hn; omega) c2 (fun z hz => hs z (List.mem_append.2 (.inr hz))) l2
          have i2 := h.noNeg hU hd _ x c1 (fun z hz => hs z (List.mem_append.2 (.inl hz))) l1
          rw [sumL_append]
          exact ⟨by omega, i1.2⟩
    rcases part_at hc hl with h1 | ⟨x, y, rfl, hx, hy, c1, c2, l1, l2⟩
    · have := h.le a b ls ha hb hc hs h1
      exact ⟨Int.le_trans (old a b ha hb) this.1, fin a b ha hb this.2⟩
    · have i1 := h.le a k x ha hkN c1 (fun z hz => hs z (List.mem_append.2 (.inl hz))) l1
      have i2 := fromK y.length y (Nat.le_refl _) c2 (fun z hz => hs z (List.mem_append.2 (.inr hz))) l2
      have b1 := h.bound hU hd ha hkN i1.2
      have b2 := h.bound hU hd hkN hb i2.2
      rw [sumL_append]
      unfold newT
      rw [if_neg (by simp only [not_or]; exact ⟨i1.2, i2.2⟩)]
      have := h.fr a b ha hb
      unfold Fr at *
      omega

/-- The beginning: the links themselves. -/
def T0 (U : List Lk) (a b : Int) : Int := U.foldl (fun y l => if l.1 = a ∧ l.2.1 = b then min y l.2.2 else y) (if a = b then 0 else Fr)
theorem T0_le (U : List Lk) (a b : Int) : T0 U a b ≤ (if a = b then 0 else Fr) ∧ (∀ l ∈ U, l.1 = a → l.2.1 = b → T0 U a b ≤ l.2.2) ∧ (T0 U a b = (if a = b then 0 else Fr) ∨ ∃ l ∈ U, l.1 = a ∧ l.2.1 = b ∧ T0 U a b = l.2.2) := by
  unfold T0
  generalize (if a = b then (0 : Int) else Fr) = c
  induction U generalizing c with
  | nil => exact ⟨Int.le_refl _, by simp, .inl rfl⟩
  | cons l U ih =>
    simp only [List.foldl_cons]
    by_cases he : l.1 = a ∧ l.2.1 = b
    · rw [if_pos he]
      obtain ⟨h1, h2, h3⟩ := ih (min c l.2.2)
      refine ⟨by omega, fun m hm m1 m2 => ?_, ?_⟩
      · rcases List.mem_cons.1 hm with rfl | hm
        · omega
        · exact h2 m hm m1 m2
      · rcases h3 with h3 | ⟨m, hm, m1, m2, m3⟩
        · by_cases hc : c ≤ l.2.2
          · left; rw [h3]; omega
          · right; exact ⟨l, List.mem_cons_self .., he.1, he.2, by rw [h3]; omega⟩
        · exact .inr ⟨m, List.mem_cons_of_mem _ hm, m1, m2, m3⟩
    · rw [if_neg he]
      obtain ⟨h1, h2, h3⟩ := ih c
      refine ⟨h1, fun m hm m1 m2 => ?_, ?_⟩
      · rcases List.mem_cons.1 hm with rfl | hm
        · exact absurd ⟨m1, m2⟩ he
        · exact h2 m hm m1 m2
      · rcases h3 with h3 | ⟨m, hm, h4⟩
        · exact .inl h3
        · exact .inr ⟨m, List.mem_cons_of_mem _ hm, h4⟩
theorem Stg.zero (hU : Lks N U) : Stg N U 0 (T0 U) := by
  refine ⟨fun a b _ _ hf => ?_, fun a b ls ha hb hc hs hl => ?_, fun a b _ _ => ?_⟩
  · rcases (T0_le U a b).2.2 with h | ⟨l, h1, h2, h3, h4⟩
    · rw [h] at hf ⊢
      split at hf
      · rename_i e; exact ⟨[], e, fun l hl => by simp at hl, fun l hl => by simp at hl, by rw [if_pos e]; rfl⟩
      · exact absurd rfl hf
    · exact ⟨[l], ⟨h2, h3⟩, Sub.cons h1 (fun l hl => by simp at hl), fun l hl => by simp at hl, by rw [h4]; simp [sumL]⟩
  · have h0 := T0_le U a b
    cases ls with
    | nil =>
      have hc : a = b := hc
      have := h0.1
      rw [if_pos hc] at this
      simp only [sumL]
      unfold Fr; omega
    | cons l r =>
      cases r with
      | cons m r =>
        have h1 := hl m (by simp)
        have h2 := (hU.nd m (hs m (by simp))).1.1
        omega
      | nil =>
        have hlU := hs l (by simp)
        have := h0.2.1 l hlU hc.1 hc.2
        have h3 := hU.ms l hlU
        simp only [sumL]
        unfold Fr; omega
  · have := (T0_le U a b).1
    split at this <;> unfold Fr at * <;> omega
theorem lo_all (hU : Lks N U) {ls : List Lk} (hs : Sub ls U) : Lo (N : Int) ls := fun l hl => (hU.nd l (hs l (List.mem_of_mem_tail hl))).1.2
/-- Behind all stages: the least sums, and no closed chain below 0. -/
theorem Stg.fin {T : Int → Int → Int} (hU : Lks N U) (h : Stg N U N T) (hd : DiagOk N T) : NoNeg U ∧ ∀ a b, inN N a → inN N b → IsD U a b (T a b) := by
  refine ⟨fun u ls hc hs => h.noNeg hU hd u ls hc hs (lo_all hU hs), fun a b ha hb => ⟨fun hf => ?_, fun ls hc hs => (h.le a b ls ha hb hc hs (lo_all hU hs)).1, fun ls hc hs => (h.le a b ls ha hb hc hs (lo_all hU hs)).2, h.fr a b ha hb⟩⟩
  obtain ⟨ls, h1, h2, _, h4⟩ := h.is a b ha hb hf
  exact ⟨ls, h1, h2, h4⟩
/-- A closed chain below 0. -/
theorem Stg.clash {k : Nat} {T : Int → Int → Int} (h : Stg N U k T) {a : Int} (ha : inN N a) (hlt : T a a < 0) : ¬ NoNeg U := by
  intro hn
  obtain ⟨ls, h1, h2, _, h4⟩ := h.is a a ha ha (by unfold Fr; omega)
  have := hn a ls h1 h2
  omega
end
end Go.Chn
end

section
/-
  Chapter 2, plain: the search as the program makes it.
-/
namespace Go.Chn

/-- Entries of a map of bools: the value at a key. -/
def mgb : List (Int × Bool) → Int → Bool
  | [], _ => false
  | (k, v) :: es, n => match k == n with | true => v | false => mgb es n
/-- Is a link passed over at a node? -/
def skipL (es : List (Int × Bool)) (n : Int) (i : Nat) (l : Lk) (x : List Int) : Bool := l.1 != n || mgb es i || decide (gi x n + l.2.2 ≥ gi x l.2.1)
/-- All links of one node. -/
def inn (es : List (Int × Bool)) (ls n : Int) : Nat → List Lk → List Int → List Int → List Bool → Bool × List Int × List Int × List Bool
  | _, [], x, q, w => (true, x, q, w)
  | i, l :: L, x, q, w =>
    if skipL es n i l x = true then inn es ls n (i + 1) L x q w
    else if gi x n + l.2.2 < ls then (false, x.set l.2.1.toNat (gi x n + l.2.2), q, w)
    else if gb w l.2.1 = true then inn es ls n (i + 1) L (x.set l.2.1.toNat (gi x n + l.2.2)) q w
    else inn es ls n (i + 1) L (x.set l.2.1.toNat (gi x n + l.2.2)) (q ++ [l.2.1]) (w.set l.2.1.toNat true)
section
variable {es : List (Int × Bool)} {ls n : Int} {i : Nat} {l : Lk} {L : List Lk} {x q : List Int} {w : List Bool}
theorem inn_skip (h : skipL es n i l x = true) : inn es ls n i (l :: L) x q w = inn es ls n (i + 1) L x q w := by rw [inn, if_pos h]
theorem inn_low (h : skipL es n i l x = false) (h2 : gi x n + l.2.2 < ls) : inn es ls n i (l :: L) x q w = (false, x.set l.2.1.toNat (gi x n + l.2.2), q, w) := by
  rw [inn, if_neg (by rw [h]; simp), if_pos h2]
theorem inn_wait (h : skipL es n i l x = false) (h2 : ¬ gi x n + l.2.2 < ls) (h3 : gb w l.2.1 = true) : inn es ls n i (l :: L) x q w = inn es ls n (i + 1) L (x.set l.2.1.toNat (gi x n + l.2.2)) q w := by
  rw [inn, if_neg (by rw [h]; simp), if_neg h2, if_pos h3]
theorem inn_put (h : skipL es n i l x = false) (h2 : ¬ gi x n + l.2.2 < ls) (h3 : gb w l.2.1 = false) : inn es ls n i (l :: L) x q w = inn es ls n (i + 1) L (x.set l.2.1.toNat (gi x n + l.2.2)) (q ++ [l.2.1]) (w.set l.2.1.toNat true) := by
  rw [inn, if_neg (by rw [h]; simp), if_neg h2, if_neg (by rw [h3]; simp)]
theorem skip1 (h : (l.1 != n) = true) : skipL es n i l x = true := by unfold skipL; rw [h]; rfl
theorem skip2 (h : mgb es i = true) : skipL es n i l x = true := by unfold skipL; rw [h]; simp
theorem skip3 (h : gi x n + l.2.2 ≥ gi x l.2.1) : skipL es n i l x = true := by unfold skipL; simp [h]
theorem skip0 (h : (l.1 != n) = false) (h2 : mgb es i = false) (h3 : ¬ gi x n + l.2.2 ≥ gi x l.2.1) : skipL es n i l x = false := by unfold skipL; rw [h, h2, decide_eq_false h3]; rfl
end
/-- The search, node after node. -/
def out (N : Nat) (L : List Lk) (es : List (Int × Bool)) : Nat → List Int → List Int → List Bool → List Int → Bool × List Int
  | 0, x, _, _, _ => (false, x)
  | _ + 1, x, [], _, _ => (true, x)
  | f + 1, x, n :: q, w, t =>
    if gi t n + 1 > N + 1 then (false, x)
    else match inn es (least L) n 0 L x q (w.set n.toNat false) with
      | (false, x, _, _) => (false, x)
      | (true, x, q, w) => out N L es f x q w (t.set n.toNat (gi t n + 1))
def rest (N : Nat) (t : List Int) : Nat := (t.map fun a => ((N : Int) + 1 - a).toNat).sum
def relaxF (N : Nat) (L : List Lk) (es : List (Int × Bool)) (x0 : List Int) : Bool × List Int := out N L es (N * (N + 1) + 1) x0 (qAt x0 N) (wAt x0 N N) (List.replicate N 0)

theorem rest_zero (N : Nat) : rest N (List.replicate N 0) = N * (N + 1) := by
  unfold rest
  rw [List.map_replicate, List.sum_replicate_nat]
  congr 1
theorem rest_step {N : Nat} : ∀ {t : List Int} {i : Nat}, i < t.length → t.getD i 0 ≤ N → rest N (t.set i (t.getD i 0 + 1)) + 1 = rest N t
  | a :: t, 0, _, h => by
    simp only [rest, List.set_cons_zero, List.map_cons, List.sum_cons, List.getD_cons_zero] at *
    omega
  | a :: t, i + 1, hi, h => by
    have ih := rest_step (t := t) (i := i) (by simpa using hi) (by simpa using h)
    simp only [rest, List.set_cons_succ, List.map_cons, List.sum_cons, List.getD_cons_succ] at *
    omega
theorem rest_gi {N : Nat} {t : List Int} {n : Int} (hn : 0 ≤ n) (hl : n < t.length) (h : gi t n ≤ N) : rest N (t.set n.toNat (gi t n + 1)) + 1 = rest N t := rest_step (by omega) h

/-- What keeps the search within its bounds. -/
structure Sf (N : Nat) (ls : Int) (x q : List Int) (w : List Bool) (t : List Int) : Prop where
  lx : x.length = N
  lw : w.length = N
  lt : t.length = N
  rx : ∀ v, inN N v → ls ≤ gi x v ∧ gi x v ≤ Fr
  qn : q.Nodup
  qr : ∀ v ∈ q, inN N v
  qw : ∀ v, inN N v → (gb w v = true ↔ v ∈ q)
  rt : ∀ v, inN N v → 0 ≤ gi t v ∧ gi t v ≤ N + 1
section
variable {N : Nat} {ls : Int} {x q t : List Int} {w : List Bool}
theorem Sf.qlen (h : Sf N ls x q w t) : q.length ≤ N := nodup_le N q h.qn h.qr
theorem Sf.pop {n : Int} (h : Sf N ls x (n :: q) w t) : inN N n ∧ Sf N ls x q (w.set n.toNat false) t := by
  have hn := h.qr n (by simp)
  have hd := List.nodup_cons.1 h.qn
  refine ⟨hn, h.lx, by simpa using h.lw, h.lt, h.rx, hd.2, fun v hv => h.qr v (by simp [hv]), fun v hv => ?_, h.rt⟩
  rw [gb_set hn.1 hv.1 (by rw [h.lw]; exact hn.2)]
  split
  · rename_i e; subst e
    constructor
    · intro hh; cases hh
    · intro hh; exact absurd hh hd.1
  · rename_i e; rw [h.qw v hv]; simp [e]
theorem Sf.time {n : Int} (h : Sf N ls x q w t) (hn : inN N n) (hl : gi t n ≤ N) : Sf N ls x q w (t.set n.toNat (gi t n + 1)) := by
  refine ⟨h.lx, h.lw, by simpa using h.lt, h.rx, h.qn, h.qr, h.qw, fun v hv => ?_⟩
  rw [gi_set hn.1 hv.1 (by rw [h.lt]; exact hn.2)]
  have := h.rt n hn
  split
  · omega
  · exact h.rt v hv
theorem Sf.val {v c : Int} (h : Sf N ls x q w t) (hv : inN N v) (h1 : ls ≤ c) (h2 : c ≤ Fr) : Sf N ls (x.set v.toNat c) q w t := by
  refine ⟨by simpa using h.lx, h.lw, h.lt, fun u hu => ?_, h.qn, h.qr, h.qw, h.rt⟩
  rw [gi_set hv.1 hu.1 (by rw [h.lx]; exact hv.2)]
  split
  · exact ⟨h1, h2⟩
  · exact h.rx u hu
theorem Sf.put {v : Int} (h : Sf N ls x q w t) (hv : inN N v) (hw : ¬ gb w v = true) : Sf N ls x (q ++ [v]) (w.set v.toNat true) t := by
  have hq : v ∉ q := fun hh => hw ((h.qw v hv).2 hh)
  refine ⟨h.lx, by simpa using h.lw, h.lt, h.rx, ?_, fun u hu => ?_, fun u hu => ?_, h.rt⟩
  · rw [List.nodup_append]
    refine ⟨h.qn, by simp, fun a ha b hb => ?_⟩
    rw [List.mem_singleton.1 hb]; intro e; subst e; exact hq ha
  · rcases List.mem_append.1 hu with hu | hu
    · exact h.qr u hu
    · rw [List.mem_singleton.1 hu]; exact hv
  · rw [gb_set hv.1 hu.1 (by rw [h.lw]; exact hv.2)]
    split
    · rename_i e; simp [e]
    · rename_i e; rw [h.qw u hu]; simp [e]
end
theorem Sf.init {N : Nat} {ls : Int} {x0 : List Int} (hl : ls ≤ 0) (h : Beg N x0) : Sf N ls x0 (qAt x0 N) (wAt x0 N N) (List.replicate N 0) := by
  refine ⟨h.len, wAt_len _ _ _, by simp, fun v hv => ?_, qAt_nodup _ _, fun v hv => ?_, fun v hv => ?_, fun v hv => by rw [gi_rep N 0 hv]; omega⟩
  · rcases h.val v hv.1 hv.2 with e | e <;> rw [e] <;> unfold Fr <;> omega
  · have := (qAt_mem x0 N v).1 hv; exact ⟨this.1, this.2.1⟩
  · rw [wAt_get x0 N N v (Nat.le_refl _) hv.1, qAt_mem]
    exact ⟨fun hh => ⟨hv.1, hh⟩, fun hh => hh.2⟩
theorem least_lb : ∀ (L : List Lk), (∀ l ∈ L, -4503599627370496 ≤ l.2.2) → -(4503599627370496 * (L.length : Int)) ≤ least L
  | [], _ => by simp [least]
  | l :: L, h => by
    have := least_lb L (fun x hx => h x (List.mem_cons_of_mem _ hx))
    have := h l (List.mem_cons_self ..)
    simp only [least, List.length_cons]; omega
theorem least_snoc (L : List Lk) (l : Lk) : least (L ++ [l]) = least L + min l.2.2 0 := by rw [least_append]; simp [least]
end Go.Chn
end

section
/-
  Chapter 2, plain: what the search finds.
-/
namespace Go.Chn

/-- The links that are not left out. -/
def usedF (es : List (Int × Bool)) : Nat → List Lk → List Lk
  | _, [] => []
  | i, l :: L => if mgb es i = true then usedF es (i + 1) L else l :: usedF es (i + 1) L
theorem usedF_sub (es : List (Int × Bool)) : ∀ (i : Nat) (L : List Lk) (l : Lk), l ∈ usedF es i L → l ∈ L
  | _, [], _, h => by simp [usedF] at h
  | i, l0 :: L, l, h => by
    unfold usedF at h
    split at h
    · exact List.mem_cons_of_mem _ (usedF_sub es (i + 1) L l h)
    · rcases List.mem_cons.1 h with rfl | h
      · exact List.mem_cons_self ..
      · exact List.mem_cons_of_mem _ (usedF_sub es (i + 1) L l h)
theorem usedF_nil : ∀ (i : Nat) (L : List Lk), usedF [] i L = L
  | _, [] => rfl
  | i, l :: L => by unfold usedF; rw [if_neg (by simp [mgb]), usedF_nil (i + 1) L]
theorem least_used (es : List (Int × Bool)) : ∀ (i : Nat) (L : List Lk), least L ≤ least (usedF es i L)
  | _, [] => Int.le_refl _
  | i, l :: L => by
    have := least_used es (i + 1) L
    unfold usedF
    split
    · simp only [least]; omega
    · simp only [least]; omega
theorem Lks.sub {N : Nat} {U L : List Lk} (h : Lks N L) (hs : ∀ l ∈ U, l ∈ L) : Lks N U :=
  ⟨h.n, fun l hl => h.nd l (hs l hl), fun l hl => h.ne l (hs l hl), fun l hl => h.ms l (hs l hl)⟩
theorem Lkx.sub {N : Nat} {U L : List Lk} {x0 : List Int} (h : Lkx N L x0) (hs : ∀ l ∈ U, l ∈ L) : Lkx N U x0 :=
  ⟨h.n, fun l hl => h.nd l (hs l hl), fun l hl => h.ne l (hs l hl), fun u ls v x h0 hc hm => h.fr u ls v x h0 hc fun l hl => hs l (hm l hl)⟩
section
variable {N : Nat} {U : List Lk} {x0 : List Int} {es : List (Int × Bool)} {ls n : Int} {cur : List Int} {t : List Int} {p : Nat}
theorem inn_ri (hU : Lkx N U x0) (hB : Beg N x0) (hls : ls ≤ least U) (hn : inN N n) (hnc : n ∉ cur) : ∀ (L : List Lk) (i : Nat) (x nxt : List Int) (w : List Bool), (∀ l ∈ usedF es i L, l ∈ U) → (∀ l ∈ L, l.1 = l.2.1 → 0 ≤ l.2.2) → gi x n ≠ Fr → n ∉ nxt →
    RI N U x0 (fun l => l.1 = n ∧ l ∈ usedF es i L) x cur nxt w t p → Sf N ls x (cur ++ nxt) w t →
    match inn es ls n i L x (cur ++ nxt) w with
    | (true, x', q', w') => ∃ nxt', q' = cur ++ nxt' ∧ RI N U x0 (fun _ => False) x' cur nxt' w' t p ∧ Sf N ls x' (cur ++ nxt') w' t
    | (false, _, _, _) => ¬ NoNeg U
  | [], i, x, nxt, w, _, _, _, _, h, hs => ⟨nxt, rfl, h.skip (l0 := ((0, 0, 0) : Lk)) hn (fun l hl => by simp [usedF] at hl) (fun he _ => by
      have he : (0 : Int) = n := he
      subst he
      show gi x 0 ≤ gi x 0 + 0
      omega) (fun l hl => hl.1), hs⟩
  | l0 :: L, i, x, nxt, w, hsub, hne, hx, hnn, h, hs => by
    by_cases hsk : skipL es n i l0 x = true
    · rw [inn_skip hsk]
      unfold usedF at h hsub
      by_cases hm : mgb es i = true
      · rw [if_pos hm] at h hsub
        exact inn_ri hU hB hls hn hnc L (i + 1) x nxt w hsub (fun l hl => hne l (List.mem_cons_of_mem _ hl)) hx hnn h hs
      · rw [if_neg hm] at h hsub
        refine inn_ri hU hB hls hn hnc L (i + 1) x nxt w (fun l hl => hsub l (List.mem_cons_of_mem _ hl)) (fun l hl => hne l (List.mem_cons_of_mem _ hl)) hx hnn (h.skip (l0 := l0) hn (fun l hl => ?_) (fun he _ => ?_) (fun l hl => hl.1)) hs
        · rcases List.mem_cons.1 hl.2 with rfl | h2
          · exact .inr rfl
          · exact .inl ⟨hl.1, h2⟩
        · unfold skipL at hsk
          simp only [Bool.or_eq_true, bne_iff_ne, ne_eq, decide_eq_true_eq] at hsk
          rcases hsk with (h1 | h1) | h1
          · exact absurd he h1
          · exact absurd h1 hm
          · omega
    · have hsk0 : skipL es n i l0 x = false := by simpa using hsk
      have hc := hsk0
      unfold skipL at hc
      simp only [Bool.or_eq_false_iff, bne_eq_false_iff_eq, decide_eq_false_iff_not] at hc
      obtain ⟨⟨h1, h2⟩, h3⟩ := hc
      unfold usedF at h hsub
      rw [if_neg (by rw [h2]; simp)] at h hsub
      have hl0 := hsub l0 (List.mem_cons_self ..)
      have hto := (hU.nd l0 hl0).2
      obtain ⟨hri, hlow⟩ := h.upd (P' := fun l => l.1 = n ∧ l ∈ usedF es (i + 1) L) (l0 := l0) hU hB hn hx (fun l hl => by
        rcases List.mem_cons.1 hl.2 with rfl | h2
        · exact .inr rfl
        · exact .inl ⟨hl.1, h2⟩) h1 hl0 (by omega)
      by_cases hlt : gi x n + l0.2.2 < ls
      · rw [inn_low hsk0 hlt]
        intro hN
        have := hlow hN
        omega
      · have hne0 : l0.2.1 ≠ n := fun e => by
          have := hne l0 (List.mem_cons_self ..) (by rw [h1, e])
          rw [e] at h3
          omega
        have hxl : l0.2.1 < x.length := by rw [h.lx]; exact hto.2
        have hx' : gi (x.set l0.2.1.toNat (gi x n + l0.2.2)) n ≠ Fr := by
          rw [gi_set hto.1 hn.1 hxl, if_neg (Ne.symm hne0)]; exact hx
        have hrt := hs.rx _ hto
        have hsv := hs.val (v := l0.2.1) (c := gi x n + l0.2.2) hto (by omega) (by omega)
        by_cases hw : gb w l0.2.1 = true
        · rw [inn_wait hsk0 hlt hw]
          rw [if_pos hw, if_pos hw] at hri
          exact inn_ri hU hB hls hn hnc L (i + 1) _ nxt w (fun l hl => hsub l (List.mem_cons_of_mem _ hl)) (fun l hl => hne l (List.mem_cons_of_mem _ hl)) hx' hnn hri hsv
        · rw [inn_put hsk0 hlt (by simpa using hw), List.append_assoc]
          rw [if_neg hw, if_neg hw] at hri
          have hsp := hsv.put hto hw
          rw [List.append_assoc] at hsp
          exact inn_ri hU hB hls hn hnc L (i + 1) _ (nxt ++ [l0.2.1]) _ (fun l hl => hsub l (List.mem_cons_of_mem _ hl)) (fun l hl => hne l (List.mem_cons_of_mem _ hl)) hx' (by
            simp only [List.mem_append, List.mem_singleton]; exact fun hh => hh.elim hnn (Ne.symm hne0)) hri hsp

/-- What the search hands back. -/
structure Found (N : Nat) (U : List Lk) (ls : Int) (x0 : List Int) (r : Bool × List Int) : Prop where
  yes : r.1 = true → Post N U x0 r.2 ∧ ∀ v, inN N v → ls ≤ gi r.2 v ∧ gi r.2 v ≤ Fr
  no : r.1 = false → ¬ NoNeg U
  len : r.2.length = N
theorem inn_len (es : List (Int × Bool)) (ls n : Int) : ∀ (L : List Lk) (i : Nat) (x q : List Int) (w : List Bool), (inn es ls n i L x q w).2.1.length = x.length
  | [], _, _, _, _ => rfl
  | l :: L, i, x, q, w => by
    unfold inn
    split
    · exact inn_len es ls n L _ _ _ _
    · split
      · simp
      · split
        · rw [inn_len es ls n L]; simp
        · rw [inn_len es ls n L]; simp
theorem out_found {L : List Lk} (hL : Lkx N L x0) (hUL : U = usedF es 0 L) (hB : Beg N x0) : ∀ (f : Nat) (x cur nxt : List Int) (w : List Bool) (t : List Int) (p : Nat), f = rest N t + 1 →
    RI N U x0 (fun _ => False) x cur nxt w t p → Sf N (least L) x (cur ++ nxt) w t → Found N U (least L) x0 (out N L es f x (cur ++ nxt) w t) := by
  have hU : Lkx N U x0 := hL.sub fun l hl => usedF_sub es 0 L l (hUL ▸ hl)
  have hls : least L ≤ least U := by rw [hUL]; exact least_used es 0 L
  have go : ∀ (f : Nat), (∀ (x cur nxt : List Int) (w : List Bool) (t : List Int) (p : Nat), f = rest N t + 1 →
      RI N U x0 (fun _ => False) x cur nxt w t p → Sf N (least L) x (cur ++ nxt) w t → Found N U (least L) x0 (out N L es f x (cur ++ nxt) w t)) →
      ∀ (x : List Int) (n : Int) (cur nxt : List Int) (w : List Bool) (t : List Int) (p : Nat), f + 1 = rest N t + 1 → RI N U x0 (fun _ => False) x (n :: cur) nxt w t p → Sf N (least L) x (n :: (cur ++ nxt)) w t →
      Found N U (least L) x0 (out N L es (f + 1) x (n :: (cur ++ nxt)) w t) := by
    intro f ih x n cur nxt w t p hf h hs
    obtain ⟨h1, hn, hx, hnq, ht0, htn⟩ := h.pop
    obtain ⟨_, hsp⟩ := hs.pop
    simp only [out]
    by_cases hc : gi t n + 1 > (N : Int) + 1
    · rw [if_pos hc]
      exact ⟨fun h => (by cases h), fun _ hN => by have := htn hN; omega, h.lx⟩
    · rw [if_neg hc]
      have hst := hsp.time hn (by omega)
      have hrs : rest N (t.set n.toNat (gi t n + 1)) + 1 = rest N t := rest_gi hn.1 (by rw [h.lt]; exact hn.2) (by omega)
      have hP : RI N U x0 (fun l => l.1 = n ∧ l ∈ usedF es 0 L) x cur nxt (w.set n.toNat false) (t.set n.toNat (gi t n + 1)) p := by
        rw [hUL] at h1 ⊢
        refine ⟨h1.lx, h1.lw, h1.lt, h1.qn, h1.qr, h1.qw, h1.le0, h1.wk, fun l hl hf hq hp => h1.ed l hl hf hq (fun e => hp ⟨e, hl⟩), h1.up, fun u ls l hu h0 hc hm hlp hl60 hl hcur hp => h1.uc u ls l hu h0 hc hm hlp hl60 hl hcur (fun e => hp ⟨e, hl⟩), h1.tm, h1.nc, h1.nn⟩
      have key := inn_ri hU hB hls hn (fun hh => hnq (by simp [hh])) L 0 x nxt (w.set n.toNat false) (fun l hl => by rw [hUL]; exact hl) hL.ne hx (fun hh => hnq (by simp [hh])) hP hst
      have hlen := inn_len es (least L) n L 0 x (cur ++ nxt) (w.set n.toNat false)
      generalize inn es (least L) n 0 L x (cur ++ nxt) (w.set n.toNat false) = r at key hlen ⊢
      match r, key, hlen with
      | (false, x', q', w'), key, hlen => exact ⟨fun h => (by cases h), fun _ => key, hlen.trans h.lx⟩
      | (true, x', q', w'), ⟨nxt', e, h2, h3⟩, _ =>
        subst e
        exact ih x' cur nxt' w' _ p (by omega) h2 h3
  intro f
  induction f with
  | zero => intro x cur nxt w t p hf; omega
  | succ f ih =>
    intro x cur nxt w t p hf h hs
    cases cur with
    | cons n cur => exact go f ih x n cur nxt w t p hf h hs
    | nil =>
      cases nxt with
      | nil =>
        simp only [List.nil_append, out]
        exact ⟨fun _ => ⟨h.post, hs.rx⟩, fun h => (by cases h), h.lx⟩
      | cons n nxt =>
        have h' := h.pass hU
        have := go f ih x n nxt [] w t (p + 1) hf h' (by simpa using hs)
        simpa using this
theorem relax_foundX {L : List Lk} (hL : Lkx N L x0) (hB : Beg N x0) : Found N (usedF es 0 L) (least L) x0 (relaxF N L es x0) := by
  have hU : Lkx N (usedF es 0 L) x0 := hL.sub fun l hl => usedF_sub es 0 L l hl
  have := out_found (es := es) hL rfl hB (N * (N + 1) + 1) x0 (qAt x0 N) [] (wAt x0 N N) (List.replicate N 0) 0 (by rw [rest_zero]) (RI.init hU hB) (by simpa using Sf.init (least_np L) hB)
  simpa [relaxF] using this
theorem relax_found {L : List Lk} (hL : Lks N L) (hB : Beg N x0) : Found N (usedF es 0 L) (least L) x0 (relaxF N L es x0) := relax_foundX hL.x hB
end
end Go.Chn
end

section
/-
  Chapter 2, plain: what is left out matters by its indices alone.
-/
namespace Go.Chn
variable {es es' : List (Int × Bool)}
theorem inn_congr (h : ∀ i : Nat, mgb es i = mgb es' i) {ls n : Int} : ∀ (L : List Lk) (i : Nat) (x q : List Int) (w : List Bool), inn es ls n i L x q w = inn es' ls n i L x q w
  | [], _, _, _, _ => rfl
  | l :: L, i, x, q, w => by
    have hs : skipL es n i l x = skipL es' n i l x := by unfold skipL; rw [h]
    unfold inn
    rw [hs]
    simp only [inn_congr h L]
theorem out_congr (h : ∀ i : Nat, mgb es i = mgb es' i) {N : Nat} {L : List Lk} : ∀ (f : Nat) (x q : List Int) (w : List Bool) (t : List Int), out N L es f x q w t = out N L es' f x q w t
  | 0, _, _, _, _ => rfl
  | _ + 1, _, [], _, _ => rfl
  | f + 1, x, n :: q, w, t => by
    unfold out
    rw [inn_congr h]
    simp only [out_congr h f]
theorem relax_congr (h : ∀ i : Nat, mgb es i = mgb es' i) {N : Nat} {L : List Lk} {x : List Int} : relaxF N L es x = relaxF N L es' x := out_congr h _ _ _ _ _
theorem used_congr (h : ∀ i : Nat, mgb es i = mgb es' i) : ∀ (i : Nat) (L : List Lk), usedF es i L = usedF es' i L
  | _, [] => rfl
  | i, l :: L => by unfold usedF; rw [h, used_congr h (i + 1) L]
end Go.Chn
end
