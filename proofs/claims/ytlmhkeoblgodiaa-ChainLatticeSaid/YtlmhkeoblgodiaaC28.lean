/-
  Texts of the claims on chapter 2: C28. No condition: lemmas and contracts.
-/
import Derived.Test.YtlmhkeoblgodiaaC27
set_option linter.all false
section
/-
  Chapter 2: the law ChainLattice. Printed by gen28.py.
-/
namespace Go.Proofs.Ytlmhkeoblgodiaa
open Go Go.Sy Go.Chn
set_option maxRecDepth 100000
set_option maxHeartbeats 4000000
set_option linter.unusedVariables false
set_option linter.unusedSimpArgs false
variable {Γ : Glob}
def fSII (D : Int → List Lk → List Int → List Int → List Duty) (F : Int → List Lk → List Int → List Int → Tm) : Ctr := .fn fun args rg => match args with
  | [.agg [.v (.int .i64 N0), x0], .a x1, .a x2] => (match arrOf 44 kL rg x0, arrOf 3 kI rg x1, arrOf 3 kI rg x2 with | some (q0, L0), some (q1, L1), some (q2, L2) => some (q0 ++ (q1 ++ (q2 ++ (D N0 L0 L1 L2))), F N0 L0 L1 L2) | _, _, _ => none)
  | _ => none
theorem fSII_ok {f : FuncId} {b : Body} {E : Env} {d : Nat} (hP : ProgOk Try.prog Γ E) (hb : BodyOk Try.prog f b) {D : Int → List Lk → List Int → List Int → List Duty} {F : Int → List Lk → List Int → List Int → Tm} (hp : ∀ (N0 : Int) (L0 : List Lk) (L1 : List Int) (L2 : List Int), (F N0 L0 L1 L2).plain = true)
    (H : ∀ (N0 : Int) (L0 : List Lk) (L1 : List Int) (L2 : List Int), obl (D N0 L0 L1 L2) → evTop E d b [.agg [vI N0, .sl 0 [] 0 L0.length], .a (.sl 1 [] 0 L1.length), .a (.sl 2 [] 0 L2.length)] [.arr 44 kL L0 false false, .arr 3 kI L1 false false, .arr 3 kI L2 false false] (fun x _ => eqT x (F N0 L0 L1 L2))) : Ctr.Ok Try.prog Γ f (fSII D F) := Ctr.fn_ok (d := d) hP hb (by
  intro args rg q t hF hq
  split at hF
  next N0 x0 x1 x2 =>
    split at hF
    next q0 L0 q1 L1 q2 L2 hx0 hx1 hx2 =>
      obtain ⟨rfl, rfl⟩ := Prod.mk.inj (Option.some.inj hF); clear hF
      rw [obl_append, obl_append, obl_append] at hq
      obtain ⟨hq0, hq1, hq2, hD⟩ := hq
      obtain ⟨e0, he0⟩ := pas_arr (by simp [kL]) hx0 hq0
      obtain ⟨e1, he1⟩ := pas_arr (by simp [kI]) hx1 hq1
      obtain ⟨e2, he2⟩ := pas_arr (by simp [kI]) hx2 hq2
      obtain ⟨p0, r0⟩ := he0 [e0, e1, e2] 0 3 rfl (by omega)
      obtain ⟨p1, r1⟩ := he1 [e0, e1, e2] 1 3 rfl (by omega)
      obtain ⟨p2, r2⟩ := he2 [e0, e1, e2] 2 3 rfl (by omega)
      refine ⟨hp _ _ _ _, [e0, e1, e2], [.agg [vI N0, .sl 0 [] 0 L0.length], .a (.sl 1 [] 0 L1.length), .a (.sl 2 [] 0 L2.length)], [.arr 44 kL L0 false false, .arr 3 kI L1 false false, .arr 3 kI L2 false false], ⟨⟨⟨rfl, p0, trivial⟩, p1, p2, trivial⟩, fun r g hg => ?_⟩, H _ _ _ _ hD⟩
      match r, hg with
      | 0, hg => obtain rfl := Option.some.inj hg; exact r0
      | 1, hg => obtain rfl := Option.some.inj hg; exact r1
      | 2, hg => obtain rfl := Option.some.inj hg; exact r2
    next => cases hF
  next => cases hF)

def upF (X Y : List Int) (i : Nat) : List Int := (List.range i).map fun (k : Nat) => if gi X (k : Int) < gi Y (k : Int) then gi Y (k : Int) else gi X (k : Int)
def dnF (X Y : List Int) (i : Nat) : List Int := (List.range i).map fun (k : Nat) => if gi Y (k : Int) < gi X (k : Int) then gi Y (k : Int) else gi X (k : Int)
theorem up_len {X Y : List Int} {i : Nat} : (upF X Y i).length = i := by simp [upF]
theorem dn_len {X Y : List Int} {i : Nat} : (dnF X Y i).length = i := by simp [dnF]
theorem up_zero {X Y : List Int} : [] = upF X Y 0 := by simp [upF]
theorem dn_zero {X Y : List Int} : [] = dnF X Y 0 := by simp [dnF]
theorem up_succ {X Y : List Int} {i : Nat} : upF X Y i ++ [if gi X i < gi Y i then gi Y i else gi X i] = upF X Y (i + 1) := by simp [upF, List.range_succ]
theorem dn_succ {X Y : List Int} {i : Nat} : dnF X Y i ++ [if gi Y i < gi X i then gi Y i else gi X i] = dnF X Y (i + 1) := by simp [dnF, List.range_succ]
theorem up_get {X Y : List Int} {i : Nat} {v : Int} (h0 : 0 ≤ v) (hv : v < i) : gi (upF X Y i) v = if gi X v < gi Y v then gi Y v else gi X v := by
  have h1 : v.toNat < i := by omega
  have h2 : ((v.toNat : Nat) : Int) = v := by omega
  unfold upF
  conv => lhs; rw [gi, List.getD_eq_getElem?_getD, List.getElem?_map, List.getElem?_range h1]
  simp only [Option.map_some, Option.getD_some, h2]
theorem dn_get {X Y : List Int} {i : Nat} {v : Int} (h0 : 0 ≤ v) (hv : v < i) : gi (dnF X Y i) v = if gi Y v < gi X v then gi Y v else gi X v := by
  have h1 : v.toNat < i := by omega
  have h2 : ((v.toNat : Nat) : Int) = v := by omega
  unfold dnF
  conv => lhs; rw [gi, List.getD_eq_getElem?_getD, List.getElem?_map, List.getElem?_range h1]
  simp only [Option.map_some, Option.getD_some, h2]
theorem solL_iff {X : List Int} : ∀ {L : List Lk}, solL X L = true ↔ ∀ l ∈ L, gi X l.2.1 ≤ gi X l.1 + l.2.2
  | [] => ⟨fun _ l hl => (by cases hl), fun _ => rfl⟩
  | l :: L => by
    rw [solL]
    constructor
    · intro h
      split at h
      · cases h
      · intro y hy
        rcases List.mem_cons.1 hy with rfl | hy
        · omega
        · exact (solL_iff.1 h) y hy
    · intro h
      have := h l (by simp)
      rw [if_neg (by omega)]
      exact solL_iff.2 fun y hy => h y (by simp [hy])
theorem fit_iff {N : Int} {L : List Lk} {X : List Int} : (fitF N L X).1 = true ↔ (checkF N L).1 = 0 ∧ (X.length : Int) = N ∧ frM X ∧ (∀ l ∈ L, gi X l.2.1 ≤ gi X l.1 + l.2.2) ∧ gi X 0 = 0 := by
  by_cases hc : (checkF N L).1 = 0
  · by_cases hn : numB N X = true
    · obtain ⟨h1, h2, h3, h4, h5⟩ := fit_yes hc hn
      rw [h1]
      have h6 : (X.length == N.toNat) = true := by simp; omega
      unfold solB
      rw [h6, Bool.true_and, Bool.and_eq_true, solL_iff, beq_iff_eq]
      exact ⟨fun h => ⟨hc, h3, h2, h.2, h.1⟩, fun h => ⟨h.2.2.2.2, h.2.2.2.1⟩⟩
    · rw [fit_no hc (by simpa using hn)]
      refine ⟨fun h => (by cases h), fun h => ?_⟩
      rw [num_eq, decide_eq_true h.2.1, Bool.true_and, frB_iff] at hn
      exact (hn h.2.2.1).elim
  · rw [fit_bad hc]
    exact ⟨fun h => (by cases h), fun h => (hc h.1).elim⟩
theorem fit_0 {N : Int} {L : List Lk} {X : List Int} (h : (fitF N L X).1 = true) : fitF N L X = (true, 0) := by
  obtain ⟨h1, h2, h3, _⟩ := fit_iff.1 h
  have hn : numB N X = true := by rw [num_eq, decide_eq_true h2, Bool.true_and, frB_iff]; exact h3
  have h4 := (fit_yes h1 hn).1
  rw [h4] at h ⊢
  exact congrArg (fun b => (b, (0 : Int))) h
theorem fit_lat {N : Int} {L : List Lk} {X Y Z : List Int} (hx : (fitF N L X).1 = true) (hy : (fitF N L Y).1 = true) (hl : Z.length = X.length) (h : (∀ v : Int, 0 ≤ v → v < (X.length : Int) → gi Z v = if gi X v < gi Y v then gi Y v else gi X v) ∨ (∀ v : Int, 0 ≤ v → v < (X.length : Int) → gi Z v = if gi Y v < gi X v then gi Y v else gi X v)) : fitF N L Z = (true, 0) := by
  obtain ⟨h1, h2, h3, h4, h5⟩ := fit_iff.1 hx
  obtain ⟨_, k2, k3, k4, k5⟩ := fit_iff.1 hy
  have ha := ask_of h1
  have hn := ha.n
  refine fit_0 (fit_iff.2 ⟨h1, by omega, fun z hz => ?_, fun l hl' => ?_, ?_⟩)
  · obtain ⟨i, hi, rfl⟩ := List.getElem_of_mem hz
    have e : gi Z i = Z[i] := by simp [gi, List.getD, hi]
    have ex : gi X i = X[i]'(by omega) := by simp [gi, List.getD, show i < X.length by omega]
    have ey : gi Y i = Y[i]'(by omega) := by simp [gi, List.getD, show i < Y.length by omega]
    have bx := h3 (X[i]'(by omega)) (List.getElem_mem _)
    have yb := k3 (Y[i]'(by omega)) (List.getElem_mem _)
    rw [← e]
    rw [← ex] at bx
    rw [← ey] at yb
    rcases h with h | h
    · have := h i (by omega) (by omega)
      split at this <;> omega
    · have := h i (by omega) (by omega)
      split at this <;> omega
  · obtain ⟨n1, n2⟩ := ha.ok.nd l hl'
    have b1 := h4 l hl'
    have b2 := k4 l hl'
    rcases h with h | h
    · have q1 := h l.1 (by omega) (by omega)
      have q2 := h l.2.1 (by omega) (by omega)
      split at q1 <;> split at q2 <;> omega
    · have q1 := h l.1 (by omega) (by omega)
      have q2 := h l.2.1 (by omega) (by omega)
      split at q1 <;> split at q2 <;> omega
  · rcases h with h | h
    · have := h 0 (by omega) (by omega)
      split at this <;> omega
    · have := h 0 (by omega) (by omega)
      split at this <;> omega
theorem ok_ne {x y : Int} (h : (x != y) = false) : x = y := by simpa using h
def L8 : List (Nat × Ctr) := [(20, c20), (21, c21), (47, c47)]
theorem L8_ok : CsOk Try.prog Γ L8 := ((CsOk.nil.cons (body_of Try.func47 rfl rfl).fn c47_ok).cons (body_of Try.func21 rfl rfl).fn c21_ok).cons (body_of Try.func20 rfl rfl).fn c20_ok
attribute [local irreducible] gi lk checkF fitF solB smallB upF dnF
def c8 : Ctr := fSII (fun _ _ _ _ => []) (fun _ _ _ _ => bl true)
theorem c8_ok : Ctr.Ok Try.prog Γ 8 c8 := fSII_ok (d := 0) (prog_ok L8_ok BsOk.nil false 0) (body_of Try.func8 rfl rfl) (fun _ _ _ _ => rfl) (by
  intro N L X Y _
  repeat' ((conv => whnf); (first | apply And.intro | intro _))
  all_goals try (conv => whnf)
  all_goals try exact LexB.mk (by kernel_rfl)
  all_goals subst_vars
  all_goals try simp only [getL, getI, castLk, castIk, Nat.zero_add, Int.toNat_zero] at *
  all_goals try first
    | exact ⟨rfl⟩
    | exact ⟨trivial⟩
    | exact ⟨show L.length ≤ 1000000 by have := small_len (N := N) (L := L) (by assumption); omega⟩
    | exact ⟨show X.length ≤ 1000000 by have := len_no (n := X.length) (k := 70) (by assumption); omega⟩
    | exact ⟨show Y.length ≤ 1000000 by have := len_no (n := X.length) (k := 70) (by assumption); have h : ((Y.length : Int) != (X.length : Int)) = false := by assumption
                                        have h := ok_ne h; omega⟩
  have hL := small_len (N := N) (L := L) (by assumption)
  have hX := len_no (n := X.length) (k := 70) (by assumption)
  have hY : Y.length = X.length := by
    have h : ((Y.length : Int) != (X.length : Int)) = false := by assumption
    have := ok_ne h; omega
  have hx : (fitF N L X).1 = true := nt_f (by assumption)
  have hy : (fitF N L Y).1 = true := nt_f (by assumption)
  have hu : fitF N L (upF X Y X.length) = (true, 0) := fit_lat hx hy up_len (.inl fun v h0 h1 => up_get h0 h1)
  have hd : fitF N L (dnF X Y X.length) = (true, 0) := fit_lat hx hy dn_len (.inr fun v h0 h1 => dn_get h0 h1)
  refine ⟨Nat, fun i => i ≤ X.length, fun i => ⟨slotsT 118 [1, 2, 3, 11, 12, 13] [.a (.sl 1 [] 0 X.length), .a (.sl 2 [] 0 Y.length), .a (.p 3 [] 0 0), .a (.sl 4 [] 0 i), .a (.sl 5 [] 0 i), .a (vI i)], [], [.arr 44 kL L false false, .arr 3 kI X false false, .arr 3 kI Y false false, .box true [vI N, .sl 0 [] 0 L.length], .arr 3 kI (upF X Y i) true true, .arr 3 kI (dnF X Y i) true true]⟩, fun i => X.length - i, 0, [0, 1, 2, 3, 1000, 1001], Nat.zero_le _, ?_, ?_⟩
  · have e0 : ([] : List Int) = upF X Y 0 := up_zero
    have e1 : ([] : List Int) = dnF X Y 0 := dn_zero
    repeat' ((conv => whnf); (first | apply And.intro | intro _))
    all_goals first | rfl | trivial | exact Nat.le_of_ble_eq_true rfl | exact ⟨rfl, rfl, rfl⟩ | exact ⟨rfl, rfl, rfl, rfl⟩ | exact ⟨rfl, rfl⟩ | exact ⟨rfl, rfl, e0⟩ | exact ⟨rfl, rfl, e1⟩ | exact e0.symm | exact e1.symm
  rintro i hi
  have hul : (upF X Y i).length = i := up_len
  have hdl : (dnF X Y i).length = i := dn_len
  repeat' ((conv => whnf); (first | apply And.intro | intro _))
  all_goals try (conv => whnf)
  all_goals try first
    | exact LexB.mk (by kernel_rfl)
    | exact LexG.mk (by kernel_rfl)
    | exact Forced.mk (by kernel_rfl)
  all_goals try exact ⟨Nat.le_of_ble_eq_true rfl⟩
  all_goals try exact ⟨rfl⟩
  all_goals try (refine Ob.mk ?_; (try simp only [Duty.of_p, inRQ]); subst_vars; (try simp only [getL, getI, getB, castL_rfl] at *); (try dsimp only [kL, kI, Tup, CK.ty] at *); (try simp only [getL, getI, getB, gi_nn, castL_rfl, Nat.zero_add, Nat.add_zero, Nat.sub_zero, Int.toNat_natCast, List.length_set, List.length_replicate, List.length_cons, List.length_nil, decide_eq_true_eq, decide_eq_false_iff_not, cap40, inR] at *); (all_goals first | omega | (split <;> omega)))
  all_goals subst_vars
  all_goals try simp only [getL, getI, castLk, castIk, Nat.zero_add, Int.toNat_natCast, decide_eq_true_eq, decide_eq_false_iff_not] at *
  all_goals try first
    | exact ⟨show L.length ≤ 1000000 by omega⟩
    | exact ⟨show (upF X Y i).length ≤ 1000000 by omega⟩
    | exact ⟨show (dnF X Y i).length ≤ 1000000 by omega⟩
    | exact ⟨show i = (upF X Y i).length from up_len.symm⟩
    | exact ⟨show i = (dnF X Y i).length from dn_len.symm⟩
    | (obtain rfl : i = X.length := by omega
       rw [hu] at *
       first | assumption | contradiction)
    | (obtain rfl : i = X.length := by omega
       rw [hd] at *
       first | assumption | contradiction)
    | (obtain rfl : i = X.length := by omega
       rw [hd]; done)
  have e0 : List.drop 0 (upF X Y i) ++ List.take 1 (List.drop 0 [if gi Y i > gi X i then gi Y i else gi X i]) = upF X Y (i + 1) := up_succ
  have e1 : List.drop 0 (dnF X Y i) ++ List.take 1 (List.drop 0 [if gi Y i < gi X i then gi Y i else gi X i]) = dnF X Y (i + 1) := dn_succ
  refine ⟨i + 1, [0, 1, 2, 3, 4, 5], ?_, ?_, ?_⟩
  · show i + 1 ≤ X.length
    omega
  · repeat' ((conv => whnf); (first | apply And.intro | intro _))
    all_goals first | rfl | trivial | exact Nat.le_of_ble_eq_true rfl | exact ⟨rfl, rfl, rfl⟩ | exact ⟨rfl, rfl, rfl, rfl⟩ | exact ⟨rfl, rfl⟩ | exact ⟨rfl, rfl, e0⟩ | exact ⟨rfl, rfl, e1⟩
  · show X.length - (i + 1) < X.length - i
    omega)
end Go.Proofs.Ytlmhkeoblgodiaa
end
