/-
  Texts of the claims on chapter 2: Ye2. No condition: lemmas and contracts.
-/
import Derived.Test.YtlmhkeoblgodiaaYe1
import Derived.Test.YtlmhkeoblgodiaaMn
set_option linter.all false
section
/-
  Chapter 2: bounds of a system with one more link, and of systems with the same links.
-/
namespace Go.Proofs.Ytlmhkeoblgodiaa
open Go Go.Sy Go.Chn
set_option linter.unusedVariables false
set_option linter.unusedSimpArgs false
section
variable {N : Int} {L : List Lk} {l : Lk}
theorem AskL.last (ha' : AskL N.toNat (L ++ [l])) : inN N.toNat l.1 ∧ inN N.toNat l.2.1 ∧ -4503599627370496 ≤ l.2.2 ∧ l.2.2 ≤ 4503599627370496 := by
  have hm : l ∈ L ++ [l] := by simp
  exact ⟨(ha'.ok.nd l hm).1, (ha'.ok.nd l hm).2, (ha'.ok.ms l hm).1, (ha'.ok.ms l hm).2⟩
theorem more_con (ha : AskL N.toNat L) (ha' : AskL N.toNat (L ++ [l])) (hn : NoNeg L) : conB N (L ++ [l]) = true ↔ dB N L l.2.1 l.1 = Fr ∨ 0 ≤ l.2.2 + dB N L l.2.1 l.1 := by
  obtain ⟨h1, h2, _⟩ := ha'.last
  exact (con_iff ha').trans ((add_neg hn).trans (back_iff (bd_isD ha hn h2 h1).1))
theorem more_d (ha : AskL N.toNat L) (ha' : AskL N.toNat (L ++ [l])) (hn : NoNeg L) (hc : conB N (L ++ [l]) = true) {a b : Int} (h1 : inN N.toNat a) (h2 : inN N.toNat b) :
    dB N (L ++ [l]) a b = if dB N L a l.1 ≠ Fr ∧ dB N L l.2.1 b ≠ Fr then min (dB N L a b) (dB N L a l.1 + l.2.2 + dB N L l.2.1 b) else dB N L a b := by
  obtain ⟨k1, k2, k3, k4⟩ := ha'.last
  have hn' := (con_iff ha').1 hc
  have hC := (add_neg hn).1 hn'
  have d1 := (bd_isD ha hn h1 h2).1
  have d2 := (bd_isD ha hn h1 k1).1
  have d3 := (bd_isD ha hn k2 h2).1
  refine (bd_isD ha' hn' h1 h2).1.uniq (add_dist hC d1 d2 d3 fun f1 f2 => ?_)
  have b1 := d_low ha hn k1 d2 f1
  have b2 := d_low ha hn h2 d3 f2
  unfold Fr; omega
theorem more_back (ha : AskL N.toNat L) (ha' : AskL N.toNat (L ++ [l])) (hn : NoNeg L) (hc : conB N (L ++ [l]) = true) : dB N (L ++ [l]) l.2.1 l.1 = dB N L l.2.1 l.1 := by
  obtain ⟨k1, k2, k3, k4⟩ := ha'.last
  rw [more_d ha ha' hn hc k2 k1]
  split
  · rename_i h
    have := (more_con ha ha' hn).1 hc
    omega
  · rfl
/-- Bounds depend on which links there are alone. -/
theorem same_con {M : List Lk} (ha : AskL N.toNat L) (hb : AskL N.toNat M) (h : ∀ x, x ∈ L ↔ x ∈ M) : conB N L = conB N M := by
  have := (con_iff ha).trans ((noneg_same h).trans (con_iff hb).symm)
  cases hx : conB N L <;> cases hy : conB N M <;> simp_all
theorem same_d {M : List Lk} (ha : AskL N.toNat L) (hb : AskL N.toNat M) (h : ∀ x, x ∈ L ↔ x ∈ M) (hn : NoNeg L) {a b : Int} (h1 : inN N.toNat a) (h2 : inN N.toNat b) : dB N L a b = dB N M a b :=
  (isD_same h (bd_isD ha hn h1 h2).1).uniq (bd_isD hb ((noneg_same h).1 hn) h1 h2).1
end
end Go.Proofs.Ytlmhkeoblgodiaa
end

section
/-
  Chapter 2: a solution that reaches a bound; two links more, there and back.
-/
namespace Go.Proofs.Ytlmhkeoblgodiaa
open Go Go.Sy Go.Chn
set_option linter.unusedVariables false
set_option linter.unusedSimpArgs false
theorem gi_sub {X : List Int} {f v : Int} (h0 : 0 ≤ v) (hv : v < X.length) : gi (X.map (· - f)) v = gi X v - f := by
  have h1 : v.toNat < X.length := by omega
  simp [gi, List.getD, h1]
theorem inN_cast {N : Nat} {i : Nat} (h : i < N) : inN N (i : Int) := ⟨by omega, by omega⟩
def rchM (N : Int) (L : List Lk) (a b : Int) : List Lk := L ++ [(b, a, 0 - dB N L a b)]
def rchX (N : Int) (L : List Lk) (a b : Int) : List Int := solF N.toNat (rchM N L a b) []
def rchF (N : Int) (L : List Lk) (a b : Int) : List Int × Int := if (bndF N L a b).2 ≠ 0 then ([], (bndF N L a b).2) else (rchX N L a b, 0)
theorem bnd_0 {N : Int} {L : List Lk} {a b : Int} (h : (bndF N L a b).2 = 0) : askF N L [a, b] = 0 ∧ dB N L a b ≠ Fr ∧ (bndF N L a b).1 = dB N L a b := by
  unfold bndF at h ⊢
  split at h
  · contradiction
  · rename_i h1
    have h1 : askF N L [a, b] = 0 := by simpa using h1
    split at h
    · cases h
    · rename_i h2
      rw [if_neg (by simp [h1]), if_neg h2]
      exact ⟨h1, h2, rfl⟩
theorem ask_2 {N : Int} {L : List Lk} {a b : Int} (h : askF N L [a, b] = 0) : AskL N.toNat L ∧ NoNeg L ∧ inN N.toNat a ∧ inN N.toNat b ∧ N = N.toNat ∧ (checkF N L).1 = 0 := by
  obtain ⟨c1, c2, c3⟩ := ask_iff.1 h
  have ha := ask_of c1
  rw [nd_two, Bool.and_eq_true] at c2
  exact ⟨ha, (con_iff ha).1 c3, nodeB_iff.1 c2.1, nodeB_iff.1 c2.2, toNat_of c1, c1⟩
section
variable {N : Int} {L : List Lk} {a b : Int}
theorem rch_ask (ha : AskL N.toNat L) (hn : NoNeg L) (h1 : inN N.toNat a) (h2 : inN N.toNat b) (hd : dB N L a b ≠ Fr) : AskX N.toNat (rchM N L a b) := by
  have hx := ha.x
  have hl := d_low ha hn h2 (bd_isD ha hn h1 h2).1 hd
  have key : ∀ l, l ∈ rchM N L a b → l ∈ L ∨ l = (b, a, 0 - dB N L a b) := fun l h => by
    rcases List.mem_append.1 h with h | h
    · exact .inl h
    · exact .inr (List.mem_singleton.1 h)
  refine ⟨ha.n, ?_, fun l h => ?_, fun l h => ?_, fun l h => ?_, ?_⟩
  · have := ha.l
    simp [rchM]; omega
  · rcases key l h with h | rfl
    · exact hx.nd l h
    · exact ⟨h2, h1⟩
  · rcases key l h with h | rfl
    · exact hx.ne l h
    · intro e
      have e : b = a := e
      subst e
      show 0 ≤ 0 - dB N L b b
      rw [d_self ha hn h1]; decide
  · rcases key l h with h | rfl
    · exact hx.ms l h
    · show -288230376151711744 ≤ 0 - dB N L a b ∧ 0 - dB N L a b ≤ 288230376151711744
      omega
  · rw [rchM, least_append]
    have := ha.lo
    have h3 : -288230376151711744 ≤ least [((b, a, 0 - dB N L a b) : Lk)] := by
      simp only [least]; omega
    omega
theorem rch_neg (ha : AskL N.toNat L) (hn : NoNeg L) (h1 : inN N.toNat a) (h2 : inN N.toNat b) : ∀ c, Ch a c b → Sub c L → 0 ≤ 0 - dB N L a b + sumL c := fun c k1 k2 => by
  have := (bd_isD ha hn h1 h2).1.le c k1 k2
  omega
theorem rch_true (ha : AskL N.toNat L) (hn : NoNeg L) (h1 : inN N.toNat a) (h2 : inN N.toNat b) (hd : dB N L a b ≠ Fr) : (relaxF N.toNat (rchM N L a b) [] (List.replicate N.toNat 0)).1 = true := by
  have F := relax_foundX (es := []) (rch_ask ha hn h1 h2 hd).okx (zero_beg _)
  rw [usedF_nil] at F
  cases h : (relaxF N.toNat (rchM N L a b) [] (List.replicate N.toNat 0)).1
  · exact absurd ((add_neg hn).2 (rch_neg ha hn h1 h2)) (F.no h)
  · rfl
theorem rch_ok (ha : AskL N.toNat L) (hn : NoNeg L) (h1 : inN N.toNat a) (h2 : inN N.toNat b) (hd : dB N L a b ≠ Fr) :
    (rchX N L a b).length = N.toNat ∧ gi (rchX N L a b) 0 = 0 ∧ frM (rchX N L a b) ∧ (∀ l ∈ L, gi (rchX N L a b) l.2.1 ≤ gi (rchX N L a b) l.1 + l.2.2) ∧ gi (rchX N L a b) b - gi (rchX N L a b) a = dB N L a b := by
  have hX := rch_ask ha hn h1 h2 hd
  have F := relax_foundX (es := []) hX.okx (zero_beg _)
  rw [usedF_nil] at F
  obtain ⟨hP, _⟩ := F.yes (rch_true ha hn h1 h2 hd)
  have hlen := hP.len
  have hz : ∀ v, inN N.toNat v → gi (List.replicate N.toNat 0) v = 0 := fun v hv => gi_rep _ _ hv
  have hsol := hP.sol hz hX.nd
  have h00 : inN N.toNat 0 := ⟨by omega, by have := ha.n; omega⟩
  have hb : ∀ v, inN N.toNat v → -810647932926689280 ≤ gi (relaxF N.toNat (rchM N L a b) [] (List.replicate N.toNat 0)).2 v ∧ gi (relaxF N.toNat (rchM N L a b) [] (List.replicate N.toNat 0)).2 v ≤ 0 := fun v hv => by
    have hle := hP.le0 v hv
    rw [hz v hv] at hle
    obtain ⟨u, ls, hu, _, hc, hs, e⟩ := hP.wk v hv (by unfold Fr; omega)
    refine ⟨?_, hle⟩
    rw [e]
    rcases add_split (l := (b, a, 0 - dB N L a b)) (rch_neg ha hn h1 h2) hc hs with ⟨c, c1, c2, c3⟩ | ⟨p, q, p1, p2, q1, q2, h3⟩
    · have d := (bd_isD ha hn hu hv).1
      have k1 := d.le c c1 c2
      have k2 := d_low ha hn hv d (d.no c c1 c2)
      omega
    · have p1 : Ch u p b := p1
      have q1 : Ch a q v := q1
      have d := (bd_isD ha hn hu h2).1
      have k1 := d.le p p1 p2
      have k2 := d_low ha hn h2 d (d.no p p1 p2)
      have d' := (bd_isD ha hn h1 hv).1
      have k3 := d'.le q q1 q2
      have k4 := d_low ha hn hv d' (d'.no q q1 q2)
      have k5 := d_low ha hn h2 (bd_isD ha hn h1 h2).1 hd
      replace h3 : sumL p + (0 - dB N L a b) + sumL q ≤ sumL ls := h3
      omega
  have hg : ∀ v, inN N.toNat v → gi (rchX N L a b) v = gi (relaxF N.toNat (rchM N L a b) [] (List.replicate N.toNat 0)).2 v - gi (relaxF N.toNat (rchM N L a b) [] (List.replicate N.toNat 0)).2 0 := fun v hv => gi_sub hv.1 (by rw [hlen]; exact hv.2)
  have hl : (rchX N L a b).length = N.toNat := by
    show (List.map _ _).length = _
    rw [List.length_map, hlen]
  have hlk : ∀ l ∈ L, gi (rchX N L a b) l.2.1 ≤ gi (rchX N L a b) l.1 + l.2.2 := fun l hm => by
    have k := hsol l (List.mem_append_left _ hm)
    obtain ⟨n1, n2⟩ := ha.ok.nd l hm
    rw [hg _ n1, hg _ n2]
    omega
  refine ⟨hl, by rw [hg 0 h00]; omega, fun x hx => ?_, hlk, ?_⟩
  · obtain ⟨i, hi, rfl⟩ := List.getElem_of_mem hx
    have e : gi (rchX N L a b) (i : Int) = (rchX N L a b)[i] := by simp [gi, List.getD, hi]
    have hv := inN_cast (by rw [hl] at hi; exact hi)
    rw [← e, hg _ hv]
    have k1 := hb _ hv
    have k2 := hb 0 h00
    show -1152921504606846976 ≤ _ ∧ _ ≤ (1152921504606846976 : Int)
    omega
  · have k := hsol (b, a, 0 - dB N L a b) (List.mem_append_right _ (by simp))
    have k : gi (relaxF N.toNat (rchM N L a b) [] (List.replicate N.toNat 0)).2 a ≤ gi (relaxF N.toNat (rchM N L a b) [] (List.replicate N.toNat 0)).2 b + (0 - dB N L a b) := k
    have k2 := sol_d ha hn hlk h1 h2 hd
    have e1 := hg a h1
    have e2 := hg b h2
    omega
theorem rch_fits (hc : (checkF N L).1 = 0) (hn : NoNeg L) (h1 : inN N.toNat a) (h2 : inN N.toNat b) (hd : dB N L a b ≠ Fr) : fitF N L (rchX N L a b) = (true, 0) := by
  have ha := ask_of hc
  have hN := toNat_of hc
  obtain ⟨k1, k2, k3, k4, _⟩ := rch_ok ha hn h1 h2 hd
  exact fit_0 (fit_iff.2 ⟨hc, by show (((rchX N L a b).length : Nat) : Int) = N; omega, k3, k4, k2⟩)
/-- The system with the two links is one. -/
theorem ck_app {N : Int} : ∀ {L M : List Lk} {i : Nat}, (∀ l ∈ L, badL N l = false) → (ckL N i (L ++ M)).1 = (ckL N (i + L.length) M).1
  | [], M, i, _ => by simp
  | l :: L, M, i, h => by
    rw [List.cons_append, ckL, if_neg (by rw [h l (by simp)]; simp), ck_app fun x hx => h x (by simp [hx])]
    rw [show i + 1 + L.length = i + (l :: L).length by simp; omega]
theorem good_of {N : Int} {L : List Lk} (h : (checkF N L).1 = 0) : ∀ l ∈ L, badL N l = false := by
  obtain ⟨hn, hl, _⟩ := checkF_ok h
  unfold checkF at h
  rw [if_neg (by omega), if_neg (by omega)] at h
  exact ckL_all h
theorem two_check {N : Int} {L : List Lk} {a b n : Int} (h : (checkF N L).1 = 0) (hl : L.length ≤ 298) (h1 : inN N.toNat a) (h2 : inN N.toNat b) (hab : ¬ a = b) (hn : -4503599627370496 ≤ n) (hm : n ≤ 4503599627370496) : (checkF N (L ++ [(a, b, n), (b, a, -n)])).1 = 0 := by
  have hg := good_of h
  obtain ⟨hN, _, _⟩ := checkF_ok h
  have e1 : badL N (a, b, n) = false := by
    simp only [badL, nodeB_iff.2 h1, nodeB_iff.2 h2, Bool.not_true, Bool.false_or, Bool.or_eq_false_iff, decide_eq_false_iff_not, beq_eq_false_iff_ne]
    exact ⟨⟨hab, by omega⟩, by omega⟩
  have e2 : badL N (b, a, -n) = false := by
    simp only [badL, nodeB_iff.2 h1, nodeB_iff.2 h2, Bool.not_true, Bool.false_or, Bool.or_eq_false_iff, decide_eq_false_iff_not, beq_eq_false_iff_ne]
    exact ⟨⟨fun e => hab e.symm, by omega⟩, by omega⟩
  unfold checkF
  rw [if_neg (by omega), if_neg (by simp; omega), ck_app hg, ckL, e1, ckL, e2]
  rfl
/-! ### Two links more, there and back -/
theorem two_con {n : Int} (ha : AskL N.toNat L) (hb : AskL N.toNat ((L ++ [(a, b, n)]) ++ [(b, a, -n)])) (hn : NoNeg L) (h1 : inN N.toNat a) (h2 : inN N.toNat b) (d1 : dB N L a b ≠ Fr) (d2 : dB N L b a ≠ Fr) :
    conB N ((L ++ [(a, b, n)]) ++ [(b, a, -n)]) = true ↔ n ≤ dB N L a b ∧ - dB N L b a ≤ n := by
  have ha' : AskL N.toNat (L ++ [(a, b, n)]) := ⟨hb.n, by have := hb.l; simp at this ⊢; omega, hb.ok.sub fun l hl => List.mem_append_left _ hl⟩
  have b1 := d_low ha hn h2 (bd_isD ha hn h1 h2).1 d1
  have b2 := d_low ha hn h1 (bd_isD ha hn h2 h1).1 d2
  have m1 := more_con ha ha' hn
  replace m1 : conB N (L ++ [(a, b, n)]) = true ↔ dB N L b a = Fr ∨ 0 ≤ n + dB N L b a := m1
  have hl := ha'.last
  have hms : -4503599627370496 ≤ n ∧ n ≤ 4503599627370496 := hl.2.2
  by_cases hc : conB N (L ++ [(a, b, n)]) = true
  · have hn' := (con_iff ha').1 hc
    have m2 := more_con ha' hb hn'
    replace m2 : conB N ((L ++ [(a, b, n)]) ++ [(b, a, -n)]) = true ↔ dB N (L ++ [(a, b, n)]) a b = Fr ∨ 0 ≤ -n + dB N (L ++ [(a, b, n)]) a b := m2
    have e := more_d ha ha' hn hc h1 h2
    replace e : dB N (L ++ [(a, b, n)]) a b = if dB N L a a ≠ Fr ∧ dB N L b b ≠ Fr then min (dB N L a b) (dB N L a a + n + dB N L b b) else dB N L a b := e
    rw [d_self ha hn h1, d_self ha hn h2, if_pos (by decide)] at e
    rw [m2, e]
    have := m1.1 hc
    unfold Fr at *
    omega
  · constructor
    · intro h
      have hb' := (con_iff hb).1 h
      exact absurd ((con_iff ha').2 (noneg_sub hb' fun x hx => List.mem_append_left _ hx)) hc
    · intro ⟨_, h⟩
      exact absurd (m1.2 (.inr (by omega))) hc
theorem two_d {n : Int} (hb : AskL N.toNat ((L ++ [(a, b, n)]) ++ [(b, a, -n)])) (hc : conB N ((L ++ [(a, b, n)]) ++ [(b, a, -n)]) = true) (h1 : inN N.toNat a) (h2 : inN N.toNat b) :
    dB N ((L ++ [(a, b, n)]) ++ [(b, a, -n)]) a b = n := by
  have hn := (con_iff hb).1 hc
  have e1 := d_edge hb hn (l := (a, b, n)) (by simp)
  have e2 := d_edge hb hn (l := (b, a, -n)) (by simp)
  replace e1 : dB N ((L ++ [(a, b, n)]) ++ [(b, a, -n)]) a b ≤ n ∧ dB N ((L ++ [(a, b, n)]) ++ [(b, a, -n)]) a b ≠ Fr := e1
  replace e2 : dB N ((L ++ [(a, b, n)]) ++ [(b, a, -n)]) b a ≤ -n ∧ dB N ((L ++ [(a, b, n)]) ++ [(b, a, -n)]) b a ≠ Fr := e2
  have t := (d_tri hb hn h1 h2 h1 e1.2 e2.2).1
  rw [d_self hb hn h1] at t
  omega
end
end Go.Proofs.Ytlmhkeoblgodiaa
end

section
/-
  Chapter 2: the law ChainChanges. Printed by gen31.py.
-/
namespace Go.Proofs.Ytlmhkeoblgodiaa
open Go Go.Sy Go.Chn
set_option maxRecDepth 100000
set_option maxHeartbeats 4000000
set_option linter.unusedVariables false
set_option linter.unusedSimpArgs false
variable {Γ : Glob}
def fSKI (D : Int → List Lk → List Lk → List Int → List Duty) (F : Int → List Lk → List Lk → List Int → Tm) : Ctr := .fn fun args rg => match args with
  | [.agg [.v (.int .i64 N0), x0], .a x1, .a x2] => (match arrOf 44 kL rg x0, arrOf 44 kL rg x1, arrOf 3 kI rg x2 with | some (q0, L0), some (q1, L1), some (q2, L2) => some (q0 ++ (q1 ++ (q2 ++ (D N0 L0 L1 L2))), F N0 L0 L1 L2) | _, _, _ => none)
  | _ => none
theorem fSKI_ok {f : FuncId} {b : Body} {E : Env} {d : Nat} (hP : ProgOk Try.prog Γ E) (hb : BodyOk Try.prog f b) {D : Int → List Lk → List Lk → List Int → List Duty} {F : Int → List Lk → List Lk → List Int → Tm} (hp : ∀ (N0 : Int) (L0 : List Lk) (L1 : List Lk) (L2 : List Int), (F N0 L0 L1 L2).plain = true)
    (H : ∀ (N0 : Int) (L0 : List Lk) (L1 : List Lk) (L2 : List Int), obl (D N0 L0 L1 L2) → evTop E d b [.agg [vI N0, .sl 0 [] 0 L0.length], .a (.sl 1 [] 0 L1.length), .a (.sl 2 [] 0 L2.length)] [.arr 44 kL L0 false false, .arr 44 kL L1 false false, .arr 3 kI L2 false false] (fun x _ => eqT x (F N0 L0 L1 L2))) : Ctr.Ok Try.prog Γ f (fSKI D F) := Ctr.fn_ok (d := d) hP hb (by
  intro args rg q t hF hq
  split at hF
  next N0 x0 x1 x2 =>
    split at hF
    next q0 L0 q1 L1 q2 L2 hx0 hx1 hx2 =>
      obtain ⟨rfl, rfl⟩ := Prod.mk.inj (Option.some.inj hF); clear hF
      rw [obl_append, obl_append, obl_append] at hq
      obtain ⟨hq0, hq1, hq2, hD⟩ := hq
      obtain ⟨e0, he0⟩ := pas_arr (by simp [kL]) hx0 hq0
      obtain ⟨e1, he1⟩ := pas_arr (by simp [kL]) hx1 hq1
      obtain ⟨e2, he2⟩ := pas_arr (by simp [kI]) hx2 hq2
      obtain ⟨p0, r0⟩ := he0 [e0, e1, e2] 0 3 rfl (by omega)
      obtain ⟨p1, r1⟩ := he1 [e0, e1, e2] 1 3 rfl (by omega)
      obtain ⟨p2, r2⟩ := he2 [e0, e1, e2] 2 3 rfl (by omega)
      refine ⟨hp _ _ _ _, [e0, e1, e2], [.agg [vI N0, .sl 0 [] 0 L0.length], .a (.sl 1 [] 0 L1.length), .a (.sl 2 [] 0 L2.length)], [.arr 44 kL L0 false false, .arr 44 kL L1 false false, .arr 3 kI L2 false false], ⟨⟨⟨rfl, p0, trivial⟩, p1, p2, trivial⟩, fun r g hg => ?_⟩, H _ _ _ _ hD⟩
      match r, hg with
      | 0, hg => obtain rfl := Option.some.inj hg; exact r0
      | 1, hg => obtain rfl := Option.some.inj hg; exact r1
      | 2, hg => obtain rfl := Option.some.inj hg; exact r2
    next => cases hF
  next => cases hF)

def t10 : OT := (.take 0 (.take 1 (.alt 2 (.take 3 (.take 4 (.alt 5 (.take 6 (.alt 7 (.alt 8 (.alt 9 (.alt 10 (.alt 11 (.alt 12 (.take 13 (.take 14 (.alt 15 (.take 16 (.take 19 (.alt 17 (.alt 18 (.alt 20 (.alt 21 (.alt 22 (.alt 23 (.alt 24 .fin .fin) .fin) .fin) .fin) .fin) .fin) (.alt 18 (.alt 17 (.alt 20 (.alt 21 (.alt 22 (.alt 23 (.alt 24 .fin .fin) .fin) .fin) .fin) .fin) (.alt 20 (.alt 17 (.alt 21 (.alt 22 (.alt 23 (.alt 24 .fin .fin) .fin) .fin) .fin) .fin) .fin)) .fin)))) .fin))) .fin) .fin) .fin) .fin) .fin) (.alt 8 (.alt 7 (.alt 9 (.alt 10 (.alt 11 (.alt 12 (.take 13 (.take 14 (.alt 15 (.take 16 (.take 19 (.alt 17 (.alt 18 (.alt 20 (.alt 21 (.alt 22 (.alt 23 (.alt 24 .fin .fin) .fin) .fin) .fin) .fin) .fin) (.alt 18 (.alt 17 (.alt 20 (.alt 21 (.alt 22 (.alt 23 (.alt 24 .fin .fin) .fin) .fin) .fin) .fin) (.alt 20 (.alt 17 (.alt 21 (.alt 22 (.alt 23 (.alt 24 .fin .fin) .fin) .fin) .fin) .fin) .fin)) .fin)))) .fin))) .fin) .fin) .fin) .fin) .fin) .fin))) .fin))) .fin)))
def L10 : List (Nat × Ctr) := [(20, c20), (21, c21), (34, c34), (45, c45 false), (48, c48), (49, c49), (50, c50), (51, c51)]
theorem L10_ok : CsOk Try.prog Γ L10 := (((((((CsOk.nil.cons (body_of Try.func51 rfl rfl).fn c51_ok).cons (body_of Try.func50 rfl rfl).fn c50_ok).cons (body_of Try.func49 rfl rfl).fn c49_ok).cons (body_of Try.func48 rfl rfl).fn c48_ok).cons (body_of Try.func45 rfl rfl).fn (c45_ok _)).cons (body_of Try.func34 rfl rfl).fn c34_ok).cons (body_of Try.func21 rfl rfl).fn c21_ok).cons (body_of Try.func20 rfl rfl).fn c20_ok
noncomputable def e10 : Env := { tabs.env L10 [] false 0 with tree := fun id => match Nat.beq id 6 with | true => some t10 | false => none }
theorem e10_ok : ProgOk Try.prog Γ e10 := (prog_ok L10_ok BsOk.nil false 0).trees _
theorem same_self {N : Int} {L : List Lk} : sameB N L N L = true := by unfold sameB; simp
theorem wo_eq {N : Int} {L : List Lk} {I : List Int} (h : (checkF N L).1 = 0) : woutF N L I = ((N, keepL I 0 L), 0) := by unfold woutF; rw [if_neg (by simp [h])]
theorem wo_bad {N : Int} {L : List Lk} {I : List Int} (h : ¬ (checkF N L).1 = 0) : woutF N L I = ((0, []), (checkF N L).1) := by unfold woutF; rw [if_pos h]
theorem wi_eq {N : Int} {L M : List Lk} (h : (checkF N L).1 = 0) (h2 : (checkF N (L ++ M)).1 = 0) : withF N L M = ((N, L ++ M), 0) := by unfold withF; rw [if_neg (by simp [h]), if_neg (by simp [h2])]
theorem wi_no {N : Int} {L M : List Lk} (h : (checkF N L).1 = 0) (h2 : ¬ (checkF N (L ++ M)).1 = 0) : withF N L M = ((0, []), (checkF N (L ++ M)).1) := by unfold withF; rw [if_neg (by simp [h]), if_pos h2]
theorem wi_bad {N : Int} {L M : List Lk} (h : ¬ (checkF N L).1 = 0) : withF N L M = ((0, []), (checkF N L).1) := by unfold withF; rw [if_pos h]
theorem wo_len {N : Int} {L : List Lk} {I : List Int} : (woutF N L I).1.2.length ≤ L.length := by
  unfold woutF; split
  · exact Nat.zero_le _
  · exact keep_len
theorem wi_len {N : Int} {L M : List Lk} : (withF N L M).1.2.length ≤ L.length + M.length := by
  unfold withF; split
  · exact Nat.zero_le _
  · split
    · exact Nat.zero_le _
    · simp
attribute [local irreducible] gi lk checkF smallB hasB keepL sameB withF woutF
def c10 : Ctr := fSKI (fun _ _ _ _ => []) (fun _ _ _ _ => bl true)
theorem c10_ok : Ctr.Ok Try.prog Γ 10 c10 := fSKI_ok (d := 0) e10_ok (body_of Try.func10 rfl rfl) (fun _ _ _ _ => rfl) (by
  intro N L M I _
  repeat' ((conv => whnf); (first | apply And.intro | intro _))
  all_goals try (conv => whnf)
  all_goals try first
    | exact LexB.mk (by kernel_rfl)
    | exact LexT.mk (by kernel_rfl)
    | exact ⟨rfl⟩
    | exact ⟨trivial⟩
  all_goals subst_vars
  all_goals try simp only [getL, getI, castLk, castIk] at *
  all_goals try simp only [app_norm, nil_norm] at *
  all_goals try contradiction
  all_goals try
    (have hL := small_len (N := N) (L := L) (by assumption)
     have hM := len_no (n := M.length) (k := 30) (by assumption)
     have hI := len_no (n := I.length) (k := 60) (by assumption)
     have k1 := wo_len (N := N) (L := L) (I := I)
     have k2 := wi_len (N := N) (L := L) (M := M)
     first
       | exact ⟨show L.length ≤ 1000000 by omega⟩
       | exact ⟨show M.length ≤ 1000000 by omega⟩
       | exact ⟨show I.length ≤ 1000000 by omega⟩
       | exact ⟨show (L ++ M).length ≤ 1000000 by rw [List.length_append]; omega⟩
       | exact ⟨show (woutF N L I).1.2.length ≤ 1000000 by omega⟩
       | exact ⟨show (withF N L M).1.2.length ≤ 1000000 by omega⟩)
  all_goals try
    (by_cases hc : (checkF N L).1 = 0
     · by_cases h2 : (checkF N (L ++ M)).1 = 0
       · simp only [wo_eq hc, wi_eq hc h2, same_self, hc, h2] at * <;> simp_all
       · simp only [wo_eq hc, wi_no hc h2, same_self, hc] at * <;> simp_all
     · simp only [wo_bad hc, wi_bad hc, same_self] at * <;> simp_all))
end Go.Proofs.Ytlmhkeoblgodiaa
end

section
/-
  Chapter 2: Reach. Printed by gen43.py.
-/
namespace Go.Proofs.Ytlmhkeoblgodiaa
open Go Go.Sy Go.Chn
set_option maxRecDepth 100000
set_option maxHeartbeats 1000000
set_option linter.unusedVariables false
set_option linter.unusedSimpArgs false
variable {Γ : Glob}
def newSnn (D : Int → List Lk → Int → Int → List Duty) (R : Int → List Lk → Int → Int → Res) : Ctr := .new fun args rg K => match args with
  | [.agg [.v (.int .i64 N0), x0], .a (.v (.int .i64 i0)), .a (.v (.int .i64 i1))] => (match arrOf 44 kL rg x0 with | some (q0, L0) => oblige false (q0 ++ (D N0 L0 i0 i1)) (K (R N0 L0 i0 i1)) | _ => False)
  | _ => False
theorem newSnn_ok {f : FuncId} {b : Body} {E : Env} {d : Nat} (hP : ProgOk Try.prog Γ E) (hb : BodyOk Try.prog f b) {D : Int → List Lk → Int → Int → List Duty} {R : Int → List Lk → Int → Int → Res}
    (H : ∀ (N0 : Int) (L0 : List Lk) (i0 : Int) (i1 : Int) (K : Res → Prop), obl (D N0 L0 i0 i1) → K (R N0 L0 i0 i1) → evTop E d b [.agg [vI N0, .sl 0 [] 0 L0.length], .a (vI i0), .a (vI i1)] [.arr 44 kL L0 false false] (resW K)) : Ctr.Ok Try.prog Γ f (newSnn D R) := Ctr.new_okW (d := d) hP hb (by
  intro args rg K hC
  split at hC
  next N0 x0 i0 i1 =>
    split at hC
    next q0 L0 hx0 =>
      rw [oblige_iff, obl_append] at hC
      obtain ⟨⟨hq0, hD⟩, hK⟩ := hC
      obtain ⟨e0, he0⟩ := pas_arr (by simp [kL]) hx0 hq0
      obtain ⟨p0, r0⟩ := he0 [e0] 0 1 rfl (by omega)
      refine ⟨[e0], [.agg [vI N0, .sl 0 [] 0 L0.length], .a (vI i0), .a (vI i1)], [.arr 44 kL L0 false false], ⟨⟨⟨rfl, p0, trivial⟩, rfl, rfl, trivial⟩, fun r g hg => ?_⟩, resW K, H _ _ _ _ K hD hK, fun x st h => h⟩
      match r, hg with
      | 0, hg => obtain rfl := Option.some.inj hg; exact r0
    next => exact hC.elim
  next => exact hC.elim)

def t40 : OT := (.take 0 (.take 2 (.take 5 (.take 6 (.take 7 (.take 8 (.take 9 (.alt 1 (.alt 3 (.alt 4 (.alt 10 (.alt 11 (.take 12 (.alt 13 (.alt 14 .fin .fin) .fin)) (.alt 13 (.alt 11 (.take 12 (.alt 14 .fin .fin)) .fin) .fin)) (.alt 13 (.alt 10 (.alt 11 (.take 12 (.alt 14 .fin .fin)) .fin) .fin) .fin)) (.alt 10 (.alt 4 (.alt 11 (.take 12 (.alt 13 (.alt 14 .fin .fin) .fin)) (.alt 13 (.alt 11 (.take 12 (.alt 14 .fin .fin)) .fin) .fin)) (.alt 13 (.alt 4 (.alt 11 (.take 12 (.alt 14 .fin .fin)) .fin) .fin) .fin)) (.alt 13 (.alt 4 (.alt 10 (.alt 11 (.take 12 (.alt 14 .fin .fin)) .fin) .fin) (.alt 10 (.alt 4 (.alt 11 (.take 12 (.alt 14 .fin .fin)) .fin) .fin) .fin)) .fin))) (.alt 10 (.alt 3 (.alt 4 (.alt 11 (.take 12 (.alt 13 (.alt 14 .fin .fin) .fin)) (.alt 13 (.alt 11 (.take 12 (.alt 14 .fin .fin)) .fin) .fin)) (.alt 13 (.alt 4 (.alt 11 (.take 12 (.alt 14 .fin .fin)) .fin) .fin) .fin)) (.alt 13 (.alt 3 (.alt 4 (.alt 11 (.take 12 (.alt 14 .fin .fin)) .fin) .fin) .fin) .fin)) (.alt 13 (.alt 3 (.alt 4 (.alt 10 (.alt 11 (.take 12 (.alt 14 .fin .fin)) .fin) .fin) (.alt 10 (.alt 4 (.alt 11 (.take 12 (.alt 14 .fin .fin)) .fin) .fin) .fin)) (.alt 10 (.alt 3 (.alt 4 (.alt 11 (.take 12 (.alt 14 .fin .fin)) .fin) .fin) .fin) .fin)) .fin))) (.alt 3 (.alt 1 (.alt 4 (.alt 10 (.alt 11 (.take 12 (.alt 13 (.alt 14 .fin .fin) .fin)) (.alt 13 (.alt 11 (.take 12 (.alt 14 .fin .fin)) .fin) .fin)) (.alt 13 (.alt 10 (.alt 11 (.take 12 (.alt 14 .fin .fin)) .fin) .fin) .fin)) (.alt 10 (.alt 4 (.alt 11 (.take 12 (.alt 13 (.alt 14 .fin .fin) .fin)) (.alt 13 (.alt 11 (.take 12 (.alt 14 .fin .fin)) .fin) .fin)) (.alt 13 (.alt 4 (.alt 11 (.take 12 (.alt 14 .fin .fin)) .fin) .fin) .fin)) (.alt 13 (.alt 4 (.alt 10 (.alt 11 (.take 12 (.alt 14 .fin .fin)) .fin) .fin) (.alt 10 (.alt 4 (.alt 11 (.take 12 (.alt 14 .fin .fin)) .fin) .fin) .fin)) .fin))) (.alt 4 (.alt 1 (.alt 10 (.alt 11 (.take 12 (.alt 13 (.alt 14 .fin .fin) .fin)) (.alt 13 (.alt 11 (.take 12 (.alt 14 .fin .fin)) .fin) .fin)) (.alt 13 (.alt 10 (.alt 11 (.take 12 (.alt 14 .fin .fin)) .fin) .fin) .fin)) (.alt 10 (.alt 1 (.alt 11 (.take 12 (.alt 13 (.alt 14 .fin .fin) .fin)) (.alt 13 (.alt 11 (.take 12 (.alt 14 .fin .fin)) .fin) .fin)) (.alt 11 (.alt 1 (.take 12 (.alt 13 (.alt 14 .fin .fin) .fin)) (.alt 13 (.alt 1 (.take 12 (.alt 14 .fin .fin)) .fin) .fin)) (.alt 13 (.alt 1 (.alt 11 (.take 12 (.alt 14 .fin .fin)) .fin) (.alt 11 (.alt 1 (.take 12 (.alt 14 .fin .fin)) .fin) .fin)) .fin))) (.alt 13 (.alt 1 (.alt 10 (.alt 11 (.take 12 (.alt 14 .fin .fin)) .fin) .fin) (.alt 10 (.alt 1 (.alt 11 (.take 12 (.alt 14 .fin .fin)) .fin) (.alt 11 (.alt 1 (.take 12 (.alt 14 .fin .fin)) .fin) .fin)) .fin)) .fin))) (.alt 10 (.alt 1 (.alt 4 (.alt 11 (.take 12 (.alt 13 (.alt 14 .fin .fin) .fin)) (.alt 13 (.alt 11 (.take 12 (.alt 14 .fin .fin)) .fin) .fin)) (.alt 13 (.alt 4 (.alt 11 (.take 12 (.alt 14 .fin .fin)) .fin) .fin) .fin)) (.alt 4 (.alt 1 (.alt 11 (.take 12 (.alt 13 (.alt 14 .fin .fin) .fin)) (.alt 13 (.alt 11 (.take 12 (.alt 14 .fin .fin)) .fin) .fin)) (.alt 11 (.alt 1 (.take 12 (.alt 13 (.alt 14 .fin .fin) .fin)) (.alt 13 (.alt 1 (.take 12 (.alt 14 .fin .fin)) .fin) .fin)) (.alt 13 (.alt 1 (.alt 11 (.take 12 (.alt 14 .fin .fin)) .fin) (.alt 11 (.alt 1 (.take 12 (.alt 14 .fin .fin)) .fin) .fin)) .fin))) (.alt 13 (.alt 1 (.alt 4 (.alt 11 (.take 12 (.alt 14 .fin .fin)) .fin) .fin) (.alt 4 (.alt 1 (.alt 11 (.take 12 (.alt 14 .fin .fin)) .fin) (.alt 11 (.alt 1 (.take 12 (.alt 14 .fin .fin)) .fin) .fin)) .fin)) .fin))) (.alt 13 (.alt 1 (.alt 4 (.alt 10 (.alt 11 (.take 12 (.alt 14 .fin .fin)) .fin) .fin) (.alt 10 (.alt 4 (.alt 11 (.take 12 (.alt 14 .fin .fin)) .fin) .fin) .fin)) (.alt 4 (.alt 1 (.alt 10 (.alt 11 (.take 12 (.alt 14 .fin .fin)) .fin) .fin) (.alt 10 (.alt 1 (.alt 11 (.take 12 (.alt 14 .fin .fin)) .fin) (.alt 11 (.alt 1 (.take 12 (.alt 14 .fin .fin)) .fin) .fin)) .fin)) (.alt 10 (.alt 1 (.alt 4 (.alt 11 (.take 12 (.alt 14 .fin .fin)) .fin) .fin) (.alt 4 (.alt 1 (.alt 11 (.take 12 (.alt 14 .fin .fin)) .fin) (.alt 11 (.alt 1 (.take 12 (.alt 14 .fin .fin)) .fin) .fin)) .fin)) .fin))) .fin)))) (.alt 10 (.alt 1 (.alt 3 (.alt 4 (.alt 11 (.take 12 (.alt 13 (.alt 14 .fin .fin) .fin)) (.alt 13 (.alt 11 (.take 12 (.alt 14 .fin .fin)) .fin) .fin)) (.alt 13 (.alt 4 (.alt 11 (.take 12 (.alt 14 .fin .fin)) .fin) .fin) .fin)) (.alt 13 (.alt 3 (.alt 4 (.alt 11 (.take 12 (.alt 14 .fin .fin)) .fin) .fin) .fin) .fin)) (.alt 3 (.alt 1 (.alt 4 (.alt 11 (.take 12 (.alt 13 (.alt 14 .fin .fin) .fin)) (.alt 13 (.alt 11 (.take 12 (.alt 14 .fin .fin)) .fin) .fin)) (.alt 13 (.alt 4 (.alt 11 (.take 12 (.alt 14 .fin .fin)) .fin) .fin) .fin)) (.alt 4 (.alt 1 (.alt 11 (.take 12 (.alt 13 (.alt 14 .fin .fin) .fin)) (.alt 13 (.alt 11 (.take 12 (.alt 14 .fin .fin)) .fin) .fin)) (.alt 11 (.alt 1 (.take 12 (.alt 13 (.alt 14 .fin .fin) .fin)) (.alt 13 (.alt 1 (.take 12 (.alt 14 .fin .fin)) .fin) .fin)) (.alt 13 (.alt 1 (.alt 11 (.take 12 (.alt 14 .fin .fin)) .fin) (.alt 11 (.alt 1 (.take 12 (.alt 14 .fin .fin)) .fin) .fin)) .fin))) (.alt 13 (.alt 1 (.alt 4 (.alt 11 (.take 12 (.alt 14 .fin .fin)) .fin) .fin) (.alt 4 (.alt 1 (.alt 11 (.take 12 (.alt 14 .fin .fin)) .fin) (.alt 11 (.alt 1 (.take 12 (.alt 14 .fin .fin)) .fin) .fin)) .fin)) .fin))) (.alt 13 (.alt 1 (.alt 3 (.alt 4 (.alt 11 (.take 12 (.alt 14 .fin .fin)) .fin) .fin) .fin) (.alt 3 (.alt 1 (.alt 4 (.alt 11 (.take 12 (.alt 14 .fin .fin)) .fin) .fin) (.alt 4 (.alt 1 (.alt 11 (.take 12 (.alt 14 .fin .fin)) .fin) (.alt 11 (.alt 1 (.take 12 (.alt 14 .fin .fin)) .fin) .fin)) .fin)) .fin)) .fin))) (.alt 13 (.alt 1 (.alt 3 (.alt 4 (.alt 10 (.alt 11 (.take 12 (.alt 14 .fin .fin)) .fin) .fin) (.alt 10 (.alt 4 (.alt 11 (.take 12 (.alt 14 .fin .fin)) .fin) .fin) .fin)) (.alt 10 (.alt 3 (.alt 4 (.alt 11 (.take 12 (.alt 14 .fin .fin)) .fin) .fin) .fin) .fin)) (.alt 3 (.alt 1 (.alt 4 (.alt 10 (.alt 11 (.take 12 (.alt 14 .fin .fin)) .fin) .fin) (.alt 10 (.alt 4 (.alt 11 (.take 12 (.alt 14 .fin .fin)) .fin) .fin) .fin)) (.alt 4 (.alt 1 (.alt 10 (.alt 11 (.take 12 (.alt 14 .fin .fin)) .fin) .fin) (.alt 10 (.alt 1 (.alt 11 (.take 12 (.alt 14 .fin .fin)) .fin) (.alt 11 (.alt 1 (.take 12 (.alt 14 .fin .fin)) .fin) .fin)) .fin)) (.alt 10 (.alt 1 (.alt 4 (.alt 11 (.take 12 (.alt 14 .fin .fin)) .fin) .fin) (.alt 4 (.alt 1 (.alt 11 (.take 12 (.alt 14 .fin .fin)) .fin) (.alt 11 (.alt 1 (.take 12 (.alt 14 .fin .fin)) .fin) .fin)) .fin)) .fin))) (.alt 10 (.alt 1 (.alt 3 (.alt 4 (.alt 11 (.take 12 (.alt 14 .fin .fin)) .fin) .fin) .fin) (.alt 3 (.alt 1 (.alt 4 (.alt 11 (.take 12 (.alt 14 .fin .fin)) .fin) .fin) (.alt 4 (.alt 1 (.alt 11 (.take 12 (.alt 14 .fin .fin)) .fin) (.alt 11 (.alt 1 (.take 12 (.alt 14 .fin .fin)) .fin) .fin)) .fin)) .fin)) .fin))) .fin)))))))))))
def L40 : List (Nat × Ctr) := [(38, c38), (65, c65x), (79, c79 false)]
theorem L40_ok : CsOk Try.prog Γ L40 := ((CsOk.nil.cons (body_of Try.func79 rfl rfl).fn (c79_ok _)).cons (body_of Try.func65 rfl rfl).fn c65x_ok).cons (body_of Try.func38 rfl rfl).fn c38_ok
noncomputable def e40 : Env := { tabs.env L40 [] false 0 with tree := fun id => match Nat.beq id 4 with | true => some t40 | false => none }
theorem e40_ok : ProgOk Try.prog Γ e40 := (prog_ok L40_ok BsOk.nil false 0).trees _
theorem rc0 {N : Int} {L : List Lk} {a b : Int} (h : ((bndF N L a b).2 != 0) = true) : rchF N L a b = ([], (bndF N L a b).2) := by unfold rchF; rw [if_pos (by simpa using h)]
theorem rc1 {N : Int} {L : List Lk} {a b : Int} (h : ((bndF N L a b).2 != 0) = false) : rchF N L a b = (rchX N L a b, 0) := by unfold rchF; rw [if_neg (by simpa using h)]
attribute [local irreducible] checkF gi lk boundsF dB bndF rchF relaxF solF
def c40 : Ctr := newSnn (fun _ L _ _ => [(Duty.of (L.length ≤ 1000000))]) (fun N L a b => ⟨[.arr 3 kI (rchF N L a b).1 true true], .tup [.a (.sl 0 [] 0 (rchF N L a b).1.length), .a (vI (rchF N L a b).2)]⟩)
theorem c40_ok : Ctr.Ok Try.prog Γ 40 c40 := newSnn_ok (d := 0) e40_ok (body_of Try.func40 rfl rfl) (by
  intro N L a b K ⟨hL, _⟩ hK
  simp only [Duty.of_p] at hL
  repeat' ((conv => whnf); (first | apply And.intro | intro _))
  all_goals try (conv => whnf)
  all_goals try first
    | exact LexB.mk (by kernel_rfl)
    | exact LexT.mk (by kernel_rfl)
  all_goals subst_vars
  all_goals try simp only [getL, getI, castLk, castIk] at *
  all_goals try first
    | exact ⟨rfl⟩
    | exact ⟨trivial⟩
    | exact ⟨show L.length ≤ 1099511627776 by omega⟩
    | exact ⟨show L.length ≤ 1000000 by omega⟩
    | exact klE (te := 3) (tg := kI) (by simp [kI]) (by rw [rc0 (by assumption)] at hK; exact hK) rfl
  all_goals have hq : ((bndF N L a b).2 != 0) = false := by assumption
  all_goals have hz : (bndF N L a b).2 = 0 := by simpa using hq
  all_goals obtain ⟨q1, q2, q3⟩ := bnd_0 hz
  all_goals obtain ⟨ha, hn, h1, h2, hN, hc⟩ := ask_2 q1
  all_goals simp only [q3] at *
  all_goals have hX := rch_ask ha hn h1 h2 q2
  all_goals have hT := rch_true ha hn h1 h2 q2
  all_goals have hO := rch_ok ha hn h1 h2 q2
  all_goals try first
    | exact ⟨hN⟩
    | exact ⟨hX⟩
    | exact hX
    | exact hN
    | exact ⟨show (0 : Nat) < 1 by omega⟩
    | exact ⟨Nat.le_of_ble_eq_true rfl⟩
    | exact ⟨Nat.zero_add _⟩
    | exact ⟨show (L.length + 1) * 3 ≤ 1099511627776 by omega⟩
    | (refine Ob.mk ?_; have := d_low ha hn h2 (bd_isD ha hn h1 h2).1 q2; simp only [inRQ, inR, Duty.of_p]; omega)
    | (show L.length + 1 = (L ++ [((b, a, 0 - dB N L a b) : Lk)]).length; simp; done)
    | exact absurd (hT.symm.trans (show (_ : Bool) = false by assumption)) (by decide)
  all_goals rw [rc1 hq] at hK
  all_goals replace hK : K ⟨[.arr 3 kI (rchX N L a b) true true], .tup [.a (.sl 0 [] 0 (rchX N L a b).length), .a (vI 0)]⟩ := hK
  all_goals rw [hO.1] at hK
  all_goals exact klC (i := 5) hK rfl rfl)
end Go.Proofs.Ytlmhkeoblgodiaa
end
