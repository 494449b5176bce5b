/-
  Texts of the claims on chapter 2: C30. No condition: lemmas and contracts.
-/
import Derived.Test.YtlmhkeoblgodiaaC29
set_option linter.all false
section
/-
  Chapter 2: Without, and the specification's With and Without. Printed by gen30.py.
-/
namespace Go.Proofs.Ytlmhkeoblgodiaa
open Go Go.Sy Go.Chn
set_option maxRecDepth 100000
set_option maxHeartbeats 1000000
set_option linter.unusedVariables false
set_option linter.unusedSimpArgs false
variable {Γ : Glob}
def keepL (I : List Int) : Nat → List Lk → List Lk
  | _, [] => []
  | i, l :: L => if hasB I i = true then keepL I (i + 1) L else l :: keepL I (i + 1) L
theorem keep_snoc {I : List Int} {l : Lk} : ∀ {L : List Lk} {k : Nat}, keepL I k (L ++ [l]) = keepL I k L ++ (if hasB I (k + L.length : Nat) = true then [] else [l])
  | [], k => by
    show (if hasB I k = true then ([] : List Lk) else [l]) = [] ++ _
    rw [List.nil_append]; rfl
  | x :: L, k => by
    have e : k + (x :: L).length = k + 1 + L.length := by simp; omega
    rw [List.cons_append, keepL, keepL, keep_snoc, e]
    split <;> simp
theorem keep_in {I : List Int} {L : List Lk} {i : Nat} (h : i < L.length) (hb : hasB I i = true) : keepL I 0 (L.take i) = keepL I 0 (L.take (i + 1)) := by
  have e : 0 + (L.take i).length = i := by simp; omega
  rw [take_lk h, keep_snoc, e, if_pos hb, List.append_nil]
theorem keep_out {I : List Int} {L : List Lk} {i : Nat} (h : i < L.length) (hb : hasB I i = false) : keepL I 0 (L.take i) ++ [lk L i] = keepL I 0 (L.take (i + 1)) := by
  have e : 0 + (L.take i).length = i := by simp; omega
  rw [take_lk h, keep_snoc, e, hb]; rfl
theorem keep_len {I : List Int} : ∀ {L : List Lk} {k : Nat}, (keepL I k L).length ≤ L.length
  | [], _ => Nat.le_refl _
  | l :: L, k => by
    have := keep_len (I := I) (L := L) (k := k + 1)
    rw [keepL]; split <;> simp <;> omega
theorem keep_nil {I : List Int} : [] = keepL I 0 (([] : List Lk)) := rfl
theorem keep_end {I : List Int} {L : List Lk} {i : Nat} (h : L.length ≤ i) : keepL I 0 (L.take i) = keepL I 0 L := by rw [List.take_of_length_le h]
def woutF (N : Int) (L : List Lk) (I : List Int) : (Int × List Lk) × Int := if (checkF N L).1 ≠ 0 then ((0, []), (checkF N L).1) else ((N, keepL I 0 L), 0)
theorem wo0 {N : Int} {L : List Lk} {I : List Int} (h : ((checkF N L).1 != 0) = true) : woutF N L I = ((0, []), (checkF N L).1) := by
  unfold woutF; rw [if_pos (by simpa using h)]
theorem wo1 {N : Int} {L : List Lk} {I : List Int} (h : ((checkF N L).1 != 0) = false) : woutF N L I = ((N, keepL I 0 L), 0) := by
  unfold woutF; rw [if_neg (by simpa using h)]
/-- A system handed back alone. -/
def sysS (N : Int) (L : List Lk) : Res := ⟨[.arr 44 kL L true true], .agg [vI N, .sl 0 [] 0 L.length]⟩
theorem ksE {K : Res → Prop} {m : Int} {x : Tm} {st : St} (hK : K (sysR 0 [] [.a (vI m)])) (hx : x.mapA (At.vd st.rg.length) = .tup [.agg [vI 0, .sl st.rg.length [] 0 0], .a (vI m)]) : resW K x st := by
  refine .void 44 kL (by simp [kL]) ?_
  rw [hx]
  refine .base ⟨_, [st.rg.length], hK, ⟨?_, rfl, by simp, trivial⟩, rfl, ?_⟩
  · simp [St.push, List.getD]; rfl
  · exact ⟨⟨⟨rfl, rfl⟩, ⟨rfl, rfl, rfl, rfl⟩, trivial⟩, ⟨rfl, rfl⟩, trivial⟩
theorem ksC {K : Res → Prop} {m N : Int} {M : List Lk} {x : Tm} {st : St} {i : Nat} (hK : K (sysR N M [.a (vI m)])) (hx : x = .tup [.agg [vI N, .sl i [] 0 M.length], .a (vI m)]) (hi : st.rg.getD i .dead = .arr 44 kL M true true) : resW K x st := by
  subst hx
  refine .base ⟨_, [i], hK, ⟨hi, rfl, by simp, trivial⟩, rfl, ?_⟩
  exact ⟨⟨⟨rfl, rfl⟩, ⟨rfl, rfl, rfl, rfl⟩, trivial⟩, ⟨rfl, rfl⟩, trivial⟩
theorem ksS {K : Res → Prop} {N : Int} {M : List Lk} {x : Tm} {st : St} {i : Nat} (hK : K (sysS N M)) (hx : x = .agg [vI N, .sl i [] 0 M.length]) (hi : st.rg.getD i .dead = .arr 44 kL M true true) : resW K x st := by
  subst hx
  refine .base ⟨_, [i], hK, ⟨hi, rfl, by simp, trivial⟩, rfl, ?_⟩
  exact ⟨⟨rfl, rfl⟩, ⟨rfl, rfl, rfl, rfl⟩, trivial⟩
theorem ksSv {K : Res → Prop} {N : Int} {x : Tm} {st : St} (hK : K (sysS N [])) (hx : x.mapA (At.vd st.rg.length) = .agg [vI N, .sl st.rg.length [] 0 0]) : resW K x st := by
  refine .void 44 kL (by simp [kL]) ?_
  rw [hx]
  refine .base ⟨_, [st.rg.length], hK, ⟨?_, rfl, by simp, trivial⟩, rfl, ?_⟩
  · simp [St.push, List.getD]; rfl
  · exact ⟨⟨rfl, rfl⟩, ⟨rfl, rfl, rfl, rfl⟩, trivial⟩
def L48 : List (Nat × Ctr) := [(22, c22), (83, c83)]
theorem L48_ok : CsOk Try.prog Γ L48 := (CsOk.nil.cons (body_of Try.func83 rfl rfl).fn c83_ok).cons (body_of Try.func22 rfl rfl).fn c22_ok
attribute [local irreducible] hasB keepL checkF lk woutF
def newSI (D : Int → List Lk → List Int → List Duty) (R : Int → List Lk → List Int → Res) : Ctr := .new fun args rg K => match args with
  | [.agg [.v (.int .i64 N), x], .a y] => (match arrOf 44 kL rg x, arrOf 3 kI rg y with
     | some (q, L), some (q', I) => oblige false (q ++ (q' ++ D N L I)) (K (R N L I))
     | _, _ => False)
  | _ => False
theorem newSI_ok {f : FuncId} {b : Body} {E : Env} {d : Nat} (hP : ProgOk Try.prog Γ E) (hb : BodyOk Try.prog f b) {D : Int → List Lk → List Int → List Duty} {R : Int → List Lk → List Int → Res}
    (H : ∀ (N : Int) (L : List Lk) (I : List Int) (K : Res → Prop), obl (D N L I) → K (R N L I) → evTop E d b [.agg [vI N, .sl 0 [] 0 L.length], .a (.sl 1 [] 0 I.length)] [.arr 44 kL L false false, .arr 3 kI I false false] (resW K)) : Ctr.Ok Try.prog Γ f (newSI D R) := Ctr.new_okW (d := d) hP hb (by
  intro args rg K hC
  split at hC
  next N x y =>
    split at hC
    next q L q' I hx hy =>
      rw [oblige_iff, obl_append, obl_append] at hC
      obtain ⟨⟨hq, hq', hD⟩, hK⟩ := hC
      obtain ⟨e, he⟩ := pas_arr (by simp [kL]) hx hq
      obtain ⟨e', he'⟩ := pas_arr (by simp [kI]) hy hq'
      obtain ⟨p1, p2⟩ := he [e, e'] 0 2 rfl (by omega)
      obtain ⟨p3, p4⟩ := he' [e, e'] 1 2 rfl (by omega)
      refine ⟨[e, e'], [.agg [vI N, .sl 0 [] 0 L.length], .a (.sl 1 [] 0 I.length)], [.arr 44 kL L false false, .arr 3 kI I false false], ⟨⟨⟨rfl, p1, trivial⟩, p3, trivial⟩, fun r g hg => ?_⟩, resW K, H N L I K hD hK, fun x st h => h⟩
      match r, hg with
      | 0, hg => obtain rfl := Option.some.inj hg; exact p2
      | 1, hg => obtain rfl := Option.some.inj hg; exact p4
    next => exact hC.elim
  next => exact hC.elim)
def c48 : Ctr := newSI (fun _ L I => [(Duty.of (L.length ≤ 1000000)), (Duty.of (I.length ≤ 1000000))]) (fun N L I => sysR (woutF N L I).1.1 (woutF N L I).1.2 [.a (vI (woutF N L I).2)])
theorem c48_ok : Ctr.Ok Try.prog Γ 48 c48 := newSI_ok (d := 0) (prog_ok L48_ok BsOk.nil false 0) (body_of Try.func48 rfl rfl) (by
  intro N L I K ⟨hL, hI, _⟩ hK
  simp only [Duty.of_p] at hL hI
  repeat' ((conv => whnf); (first | apply And.intro | intro _))
  all_goals try (conv => whnf)
  all_goals try exact LexB.mk (by kernel_rfl)
  all_goals subst_vars
  all_goals try simp only [getL, getI, castLk, castIk] at *
  all_goals try first
    | exact ⟨rfl⟩
    | exact ⟨trivial⟩
    | exact ⟨show L.length ≤ 1099511627776 by omega⟩
    | exact ⟨show L.length ≤ 1000000 from hL⟩
    | exact ksE (by rw [wo0 (by assumption)] at hK; exact hK) rfl
  have hc : ((checkF N L).1 != 0) = false := by assumption
  rw [wo1 hc] at hK
  refine ⟨Nat, fun i => i ≤ L.length, fun i => ⟨slotsT 43 [1, 4, 8, 24, 25, 26] [.a (.sl 1 [] 0 I.length), .a (.p 3 [] 0 0), .a (.p 4 [] 0 0), .a (.sl 0 [] 0 L.length), .a (vI L.length), .a (vI i)], [], [.arr 44 kL L false false, .arr 3 kI I false false, .box true [vI N, .sl 0 [] 0 L.length], .box true [vI 0, .v (.slice none 0 0)], .box true [vI N, .sl 5 [] 0 (keepL I 0 (L.take i)).length], .arr 44 kL (keepL I 0 (L.take i)) true true]⟩, fun i => L.length - i, 0, [0, 1, 2, 3, 4, 1000], Nat.zero_le _, ?_, ?_⟩
  · have e0 : [] = keepL I 0 (L.take 0) := by rw [List.take_zero]; exact keep_nil
    have e1 : (keepL I 0 (L.take 0)).length = 0 := by rw [← e0]; rfl
    repeat' ((conv => whnf); (first | apply And.intro | intro _))
    all_goals first | rfl | trivial | exact Nat.le_of_ble_eq_true rfl | exact ⟨rfl, rfl, rfl⟩ | exact ⟨rfl, rfl, rfl, rfl⟩ | exact ⟨rfl, rfl⟩ | exact e0 | exact e0.symm | exact e1
  rintro i hi
  have hkl : (keepL I 0 (L.take i)).length ≤ 1000000 := by have := keep_len (I := I) (L := L.take i) (k := 0); rw [List.length_take] at this; omega
  repeat' ((conv => whnf); (first | apply And.intro | intro _))
  all_goals try (conv => whnf)
  all_goals try first
    | exact LexB.mk (by kernel_rfl)
    | exact LexG.mk (by kernel_rfl)
    | exact Forced.mk (by kernel_rfl)
  all_goals try exact ⟨Nat.le_of_ble_eq_true rfl⟩
  all_goals try exact ⟨rfl⟩
  all_goals try (refine Ob.mk ?_; (try simp only [Duty.of_p, inRQ]); subst_vars; (try simp only [getL, getI, getB, castL_rfl] at *); (try dsimp only [kL, kI, Tup, CK.ty] at *); (try simp only [getL, getI, getB, gi_nn, castL_rfl, Nat.zero_add, Nat.add_zero, Nat.sub_zero, Int.toNat_natCast, List.length_set, List.length_replicate, List.length_cons, List.length_nil, decide_eq_true_eq, decide_eq_false_iff_not, cap40, inR] at *); (all_goals first | omega | (split <;> omega)))
  all_goals subst_vars
  all_goals try simp only [getL, getI, castLk, castIk, Nat.zero_add, Int.toNat_natCast] at *
  all_goals try first
    | exact ⟨show I.length ≤ 1000000 from hI⟩
    | exact ksC (i := 5) (by rw [← keep_end (I := I) (ge_of_dec (i := i) (n := L.length) (by assumption))] at hK; exact hK) rfl rfl
  · have hi1 : i < L.length := lt_of_dec (by assumption)
    have hb : hasB I i = false := nt_t (by assumption)
    have e0 : List.drop 0 (keepL I 0 (L.take i)) ++ List.take 1 (List.drop 0 [lk L i]) = keepL I 0 (L.take (i + 1)) := keep_out hi1 hb
    have e3 : (keepL I 0 (L.take i)).length + 1 = (keepL I 0 (L.take (i + 1))).length := by rw [← keep_out hi1 hb]; simp
    refine ⟨i + 1, [0, 1, 2, 3, 4, 5], hi1, ?_, by show L.length - (i + 1) < L.length - i; omega⟩
    repeat' ((conv => whnf); (first | apply And.intro | intro _))
    all_goals first | rfl | trivial | exact Nat.le_of_ble_eq_true rfl | exact ⟨rfl, rfl, rfl⟩ | exact ⟨rfl, rfl, rfl, rfl⟩ | exact ⟨rfl, rfl⟩ | exact e0 | exact e3 | exact ⟨rfl, rfl, e0⟩ | exact ⟨rfl, e0⟩
  · have hi1 : i < L.length := lt_of_dec (by assumption)
    have hb : hasB I i = true := nt_f (by assumption)
    have e0 := keep_in (I := I) hi1 hb
    have e3 : (keepL I 0 (L.take i)).length = (keepL I 0 (L.take (i + 1))).length := by rw [e0]
    refine ⟨i + 1, [0, 1, 2, 3, 4, 5], hi1, ?_, by show L.length - (i + 1) < L.length - i; omega⟩
    repeat' ((conv => whnf); (first | apply And.intro | intro _))
    all_goals first | rfl | trivial | exact Nat.le_of_ble_eq_true rfl | exact ⟨rfl, rfl, rfl⟩ | exact ⟨rfl, rfl, rfl, rfl⟩ | exact ⟨rfl, rfl⟩ | exact e0 | exact e3 | exact ⟨rfl, rfl, e0⟩ | exact ⟨rfl, e0⟩)
def L50 : List (Nat × Ctr) := [(61, c61)]
theorem L50_ok : CsOk Try.prog Γ L50 := CsOk.nil.cons (body_of Try.func61 rfl rfl).fn c61_ok
def c50 : Ctr := newSI (fun _ L I => [(Duty.of (L.length ≤ 1000000)), (Duty.of (I.length ≤ 1000000))]) (fun N L I => sysS N (keepL I 0 L))
theorem c50_ok : Ctr.Ok Try.prog Γ 50 c50 := newSI_ok (d := 0) (prog_ok L50_ok BsOk.nil false 0) (body_of Try.func50 rfl rfl) (by
  intro N L I K ⟨hL, hI, _⟩ hK
  simp only [Duty.of_p] at hL hI
  repeat' ((conv => whnf); (first | apply And.intro | intro _))
  all_goals try (conv => whnf)
  all_goals try exact LexB.mk (by kernel_rfl)
  all_goals subst_vars
  all_goals try simp only [getL, getI, castLk, castIk] at *
  all_goals try first
    | exact ⟨rfl⟩
    | exact ⟨trivial⟩
  refine ⟨Nat, fun i => i ≤ L.length, fun i => ⟨slotsT 32 [1, 2, 4, 5, 6] [.a (.sl 1 [] 0 I.length), .a (.p 2 [] 0 0), .a (.p 3 [] 0 0), .a (.p 4 [] 0 0), .a (vI i)], [], [.arr 44 kL L false false, .arr 3 kI I false false, .box true [vI N, .sl 0 [] 0 L.length], .box true [vI 0, .v (.slice none 0 0)], .box true [vI N, .sl 5 [] 0 (keepL I 0 (L.take i)).length], .arr 44 kL (keepL I 0 (L.take i)) true true]⟩, fun i => L.length - i, 0, [0, 1, 2, 3, 4, 1000], Nat.zero_le _, ?_, ?_⟩
  · have e0 : [] = keepL I 0 (L.take 0) := by rw [List.take_zero]; exact keep_nil
    have e1 : (keepL I 0 (L.take 0)).length = 0 := by rw [← e0]; rfl
    repeat' ((conv => whnf); (first | apply And.intro | intro _))
    all_goals first | rfl | trivial | exact Nat.le_of_ble_eq_true rfl | exact ⟨rfl, rfl, rfl⟩ | exact ⟨rfl, rfl, rfl, rfl⟩ | exact ⟨rfl, rfl⟩ | exact e0 | exact e0.symm | exact e1
  rintro i hi
  have hkl : (keepL I 0 (L.take i)).length ≤ 1000000 := by have := keep_len (I := I) (L := L.take i) (k := 0); rw [List.length_take] at this; omega
  repeat' ((conv => whnf); (first | apply And.intro | intro _))
  all_goals try (conv => whnf)
  all_goals try first
    | exact LexB.mk (by kernel_rfl)
    | exact LexG.mk (by kernel_rfl)
    | exact Forced.mk (by kernel_rfl)
  all_goals try exact ⟨Nat.le_of_ble_eq_true rfl⟩
  all_goals try exact ⟨rfl⟩
  all_goals try (refine Ob.mk ?_; (try simp only [Duty.of_p, inRQ]); subst_vars; (try simp only [getL, getI, getB, castL_rfl] at *); (try dsimp only [kL, kI, Tup, CK.ty] at *); (try simp only [getL, getI, getB, gi_nn, castL_rfl, Nat.zero_add, Nat.add_zero, Nat.sub_zero, Int.toNat_natCast, List.length_set, List.length_replicate, List.length_cons, List.length_nil, decide_eq_true_eq, decide_eq_false_iff_not, cap40, inR] at *); (all_goals first | omega | (split <;> omega)))
  all_goals subst_vars
  all_goals try simp only [getL, getI, castLk, castIk, Nat.zero_add, Int.toNat_natCast] at *
  all_goals try first
    | exact ⟨show I.length ≤ 1000000 from hI⟩
    | exact ksS (i := 5) (by rw [← keep_end (I := I) (ge_of_dec (i := i) (n := L.length) (by assumption))] at hK; exact hK) rfl rfl
  · have hi1 : i < L.length := lt_of_dec (by assumption)
    have hb : hasB I i = false := nt_t (by assumption)
    have e0 : List.drop 0 (keepL I 0 (L.take i)) ++ List.take 1 (List.drop 0 [lk L i]) = keepL I 0 (L.take (i + 1)) := keep_out hi1 hb
    have e3 : (keepL I 0 (L.take i)).length + 1 = (keepL I 0 (L.take (i + 1))).length := by rw [← keep_out hi1 hb]; simp
    refine ⟨i + 1, [0, 1, 2, 3, 4, 5], hi1, ?_, by show L.length - (i + 1) < L.length - i; omega⟩
    repeat' ((conv => whnf); (first | apply And.intro | intro _))
    all_goals first | rfl | trivial | exact Nat.le_of_ble_eq_true rfl | exact ⟨rfl, rfl, rfl⟩ | exact ⟨rfl, rfl, rfl, rfl⟩ | exact ⟨rfl, rfl⟩ | exact e0 | exact e3 | exact ⟨rfl, rfl, e0⟩ | exact ⟨rfl, e0⟩
  · have hi1 : i < L.length := lt_of_dec (by assumption)
    have hb : hasB I i = true := nt_f (by assumption)
    have e0 := keep_in (I := I) hi1 hb
    have e3 : (keepL I 0 (L.take i)).length = (keepL I 0 (L.take (i + 1))).length := by rw [e0]
    refine ⟨i + 1, [0, 1, 2, 3, 4, 5], hi1, ?_, by show L.length - (i + 1) < L.length - i; omega⟩
    repeat' ((conv => whnf); (first | apply And.intro | intro _))
    all_goals first | rfl | trivial | exact Nat.le_of_ble_eq_true rfl | exact ⟨rfl, rfl, rfl⟩ | exact ⟨rfl, rfl, rfl, rfl⟩ | exact ⟨rfl, rfl⟩ | exact e0 | exact e3 | exact ⟨rfl, rfl, e0⟩ | exact ⟨rfl, e0⟩)
def newSK (D : Int → List Lk → List Lk → List Duty) (R : Int → List Lk → List Lk → Res) : Ctr := .new fun args rg K => match args with
  | [.agg [.v (.int .i64 N), x], .a y] => (match arrOf 44 kL rg x, arrOf 44 kL rg y with
     | some (q, L), some (q', M) => oblige false (q ++ (q' ++ D N L M)) (K (R N L M))
     | _, _ => False)
  | _ => False
theorem newSK_ok {f : FuncId} {b : Body} {E : Env} {d : Nat} (hP : ProgOk Try.prog Γ E) (hb : BodyOk Try.prog f b) {D : Int → List Lk → List Lk → List Duty} {R : Int → List Lk → List Lk → Res}
    (H : ∀ (N : Int) (L : List Lk) (M : List Lk) (K : Res → Prop), obl (D N L M) → K (R N L M) → evTop E d b [.agg [vI N, .sl 0 [] 0 L.length], .a (.sl 1 [] 0 M.length)] [.arr 44 kL L false false, .arr 44 kL M false false] (resW K)) : Ctr.Ok Try.prog Γ f (newSK D R) := Ctr.new_okW (d := d) hP hb (by
  intro args rg K hC
  split at hC
  next N x y =>
    split at hC
    next q L q' M hx hy =>
      rw [oblige_iff, obl_append, obl_append] at hC
      obtain ⟨⟨hq, hq', hD⟩, hK⟩ := hC
      obtain ⟨e, he⟩ := pas_arr (by simp [kL]) hx hq
      obtain ⟨e', he'⟩ := pas_arr (by simp [kL]) hy hq'
      obtain ⟨p1, p2⟩ := he [e, e'] 0 2 rfl (by omega)
      obtain ⟨p3, p4⟩ := he' [e, e'] 1 2 rfl (by omega)
      refine ⟨[e, e'], [.agg [vI N, .sl 0 [] 0 L.length], .a (.sl 1 [] 0 M.length)], [.arr 44 kL L false false, .arr 44 kL M false false], ⟨⟨⟨rfl, p1, trivial⟩, p3, trivial⟩, fun r g hg => ?_⟩, resW K, H N L M K hD hK, fun x st h => h⟩
      match r, hg with
      | 0, hg => obtain rfl := Option.some.inj hg; exact p2
      | 1, hg => obtain rfl := Option.some.inj hg; exact p4
    next => exact hC.elim
  next => exact hC.elim)
theorem y51 {L ys : List Lk} (h : List.take L.length (List.drop 0 L) = ys) : L = ys := by rw [← h, List.drop_zero, List.take_length]
theorem ksA {K : Res → Prop} {N : Int} {L M : List Lk} {x : Tm} {st : St} {i : Nat} (hK : K (sysS N (L ++ M))) (hx : x = .agg [vI N, .sl i [] 0 (L.length + M.length)]) (hi : st.rg.getD i .dead = .arr 44 kL (L ++ M) true true) : resW K x st :=
  ksS hK (by rw [List.length_append]; exact hx) hi
def t51 : OT := (.take 0 (.take 3 (.take 6 (.alt 1 (.alt 2 (.alt 4 (.alt 5 (.alt 7 (.alt 8 (.alt 9 .fin .fin) .fin) .fin) .fin) .fin) (.alt 4 (.alt 2 (.alt 5 (.alt 7 (.alt 8 (.alt 9 .fin .fin) .fin) .fin) .fin) .fin) .fin)) (.alt 2 (.alt 1 (.alt 4 (.alt 5 (.alt 7 (.alt 8 (.alt 9 .fin .fin) .fin) .fin) .fin) .fin) (.alt 4 (.alt 1 (.alt 5 (.alt 7 (.alt 8 (.alt 9 .fin .fin) .fin) .fin) .fin) (.alt 5 (.alt 1 (.alt 7 (.alt 8 (.alt 9 .fin .fin) .fin) .fin) (.alt 7 (.alt 1 (.alt 8 (.alt 9 .fin .fin) .fin) .fin) .fin)) .fin)) .fin)) (.alt 4 (.alt 1 (.alt 2 (.alt 5 (.alt 7 (.alt 8 (.alt 9 .fin .fin) .fin) .fin) .fin) .fin) (.alt 2 (.alt 1 (.alt 5 (.alt 7 (.alt 8 (.alt 9 .fin .fin) .fin) .fin) .fin) (.alt 5 (.alt 1 (.alt 7 (.alt 8 (.alt 9 .fin .fin) .fin) .fin) (.alt 7 (.alt 1 (.alt 8 (.alt 9 .fin .fin) .fin) .fin) .fin)) .fin)) .fin)) .fin))))))
noncomputable def e51 : Env := { tabs.env [] [] false 0 with tree := fun id => match Nat.beq id 1 with | true => some t51 | false => none }
theorem e51_ok : ProgOk Try.prog Γ e51 := (prog_ok CsOk.nil BsOk.nil false 0).trees _
def c51 : Ctr := newSK (fun _ L M => [(Duty.of (L.length ≤ 1000000)), (Duty.of (M.length ≤ 1000000))]) (fun N L M => sysS N (L ++ M))
theorem c51_ok : Ctr.Ok Try.prog Γ 51 c51 := newSK_ok (d := 0) e51_ok (body_of Try.func51 rfl rfl) (by
  intro N L M K ⟨hL, hM, _⟩ hK
  simp only [Duty.of_p] at hL hM
  repeat' ((conv => whnf); (first | apply And.intro | intro _))
  all_goals try (conv => whnf)
  all_goals try exact LexT.mk (by kernel_rfl)
  all_goals try first
    | trivial
    | exact ⟨rfl⟩
  all_goals try first
    | exact ⟨Nat.le_of_eq (Nat.zero_add _)⟩
    | exact ⟨show L.length * 3 ≤ 1099511627776 by omega⟩
    | exact ⟨show (L.length + M.length) * 3 ≤ 1099511627776 by omega⟩
  all_goals obtain rfl := y51 ‹List.take L.length (List.drop 0 L) = _›
  all_goals try exact ⟨Nat.zero_add _⟩
  all_goals obtain rfl := y45 ‹List.drop 0 L ++ List.take M.length (List.drop 0 M) = _›
  all_goals first
    | exact ksA (i := 4) hK rfl rfl
    | exact ksA (i := 5) hK rfl rfl
    | exact ksA (i := 6) hK rfl rfl)
end Go.Proofs.Ytlmhkeoblgodiaa
end
