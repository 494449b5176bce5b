/-
  Texts of the claims on chapter 2: C31. No condition: lemmas and contracts.
-/
import Derived.Test.YtlmhkeoblgodiaaC30
set_option linter.all false
section
/-
  Chapter 2: the law ChainChanges. Printed by gen31.py.
-/
namespace Go.Proofs.Ytlmhkeoblgodiaa
open Go Go.Sy Go.Chn
set_option maxRecDepth 100000
set_option maxHeartbeats 4000000
set_option linter.unusedVariables false
set_option linter.unusedSimpArgs false
variable {Γ : Glob}
def fSKI (D : Int → List Lk → List Lk → List Int → List Duty) (F : Int → List Lk → List Lk → List Int → Tm) : Ctr := .fn fun args rg => match args with
  | [.agg [.v (.int .i64 N0), x0], .a x1, .a x2] => (match arrOf 44 kL rg x0, arrOf 44 kL rg x1, arrOf 3 kI rg x2 with | some (q0, L0), some (q1, L1), some (q2, L2) => some (q0 ++ (q1 ++ (q2 ++ (D N0 L0 L1 L2))), F N0 L0 L1 L2) | _, _, _ => none)
  | _ => none
theorem fSKI_ok {f : FuncId} {b : Body} {E : Env} {d : Nat} (hP : ProgOk Try.prog Γ E) (hb : BodyOk Try.prog f b) {D : Int → List Lk → List Lk → List Int → List Duty} {F : Int → List Lk → List Lk → List Int → Tm} (hp : ∀ (N0 : Int) (L0 : List Lk) (L1 : List Lk) (L2 : List Int), (F N0 L0 L1 L2).plain = true)
    (H : ∀ (N0 : Int) (L0 : List Lk) (L1 : List Lk) (L2 : List Int), obl (D N0 L0 L1 L2) → evTop E d b [.agg [vI N0, .sl 0 [] 0 L0.length], .a (.sl 1 [] 0 L1.length), .a (.sl 2 [] 0 L2.length)] [.arr 44 kL L0 false false, .arr 44 kL L1 false false, .arr 3 kI L2 false false] (fun x _ => eqT x (F N0 L0 L1 L2))) : Ctr.Ok Try.prog Γ f (fSKI D F) := Ctr.fn_ok (d := d) hP hb (by
  intro args rg q t hF hq
  split at hF
  next N0 x0 x1 x2 =>
    split at hF
    next q0 L0 q1 L1 q2 L2 hx0 hx1 hx2 =>
      obtain ⟨rfl, rfl⟩ := Prod.mk.inj (Option.some.inj hF); clear hF
      rw [obl_append, obl_append, obl_append] at hq
      obtain ⟨hq0, hq1, hq2, hD⟩ := hq
      obtain ⟨e0, he0⟩ := pas_arr (by simp [kL]) hx0 hq0
      obtain ⟨e1, he1⟩ := pas_arr (by simp [kL]) hx1 hq1
      obtain ⟨e2, he2⟩ := pas_arr (by simp [kI]) hx2 hq2
      obtain ⟨p0, r0⟩ := he0 [e0, e1, e2] 0 3 rfl (by omega)
      obtain ⟨p1, r1⟩ := he1 [e0, e1, e2] 1 3 rfl (by omega)
      obtain ⟨p2, r2⟩ := he2 [e0, e1, e2] 2 3 rfl (by omega)
      refine ⟨hp _ _ _ _, [e0, e1, e2], [.agg [vI N0, .sl 0 [] 0 L0.length], .a (.sl 1 [] 0 L1.length), .a (.sl 2 [] 0 L2.length)], [.arr 44 kL L0 false false, .arr 44 kL L1 false false, .arr 3 kI L2 false false], ⟨⟨⟨rfl, p0, trivial⟩, p1, p2, trivial⟩, fun r g hg => ?_⟩, H _ _ _ _ hD⟩
      match r, hg with
      | 0, hg => obtain rfl := Option.some.inj hg; exact r0
      | 1, hg => obtain rfl := Option.some.inj hg; exact r1
      | 2, hg => obtain rfl := Option.some.inj hg; exact r2
    next => cases hF
  next => cases hF)

def t10 : OT := (.take 0 (.take 1 (.alt 2 (.take 3 (.take 4 (.alt 5 (.take 6 (.alt 7 (.alt 8 (.alt 9 (.alt 10 (.alt 11 (.alt 12 (.take 13 (.take 14 (.alt 15 (.take 16 (.take 19 (.alt 17 (.alt 18 (.alt 20 (.alt 21 (.alt 22 (.alt 23 (.alt 24 .fin .fin) .fin) .fin) .fin) .fin) .fin) (.alt 18 (.alt 17 (.alt 20 (.alt 21 (.alt 22 (.alt 23 (.alt 24 .fin .fin) .fin) .fin) .fin) .fin) (.alt 20 (.alt 17 (.alt 21 (.alt 22 (.alt 23 (.alt 24 .fin .fin) .fin) .fin) .fin) .fin) .fin)) .fin)))) .fin))) .fin) .fin) .fin) .fin) .fin) (.alt 8 (.alt 7 (.alt 9 (.alt 10 (.alt 11 (.alt 12 (.take 13 (.take 14 (.alt 15 (.take 16 (.take 19 (.alt 17 (.alt 18 (.alt 20 (.alt 21 (.alt 22 (.alt 23 (.alt 24 .fin .fin) .fin) .fin) .fin) .fin) .fin) (.alt 18 (.alt 17 (.alt 20 (.alt 21 (.alt 22 (.alt 23 (.alt 24 .fin .fin) .fin) .fin) .fin) .fin) (.alt 20 (.alt 17 (.alt 21 (.alt 22 (.alt 23 (.alt 24 .fin .fin) .fin) .fin) .fin) .fin) .fin)) .fin)))) .fin))) .fin) .fin) .fin) .fin) .fin) .fin))) .fin))) .fin)))
def L10 : List (Nat × Ctr) := [(20, c20), (21, c21), (34, c34), (45, c45 false), (48, c48), (49, c49), (50, c50), (51, c51)]
theorem L10_ok : CsOk Try.prog Γ L10 := (((((((CsOk.nil.cons (body_of Try.func51 rfl rfl).fn c51_ok).cons (body_of Try.func50 rfl rfl).fn c50_ok).cons (body_of Try.func49 rfl rfl).fn c49_ok).cons (body_of Try.func48 rfl rfl).fn c48_ok).cons (body_of Try.func45 rfl rfl).fn (c45_ok _)).cons (body_of Try.func34 rfl rfl).fn c34_ok).cons (body_of Try.func21 rfl rfl).fn c21_ok).cons (body_of Try.func20 rfl rfl).fn c20_ok
noncomputable def e10 : Env := { tabs.env L10 [] false 0 with tree := fun id => match Nat.beq id 6 with | true => some t10 | false => none }
theorem e10_ok : ProgOk Try.prog Γ e10 := (prog_ok L10_ok BsOk.nil false 0).trees _
theorem same_self {N : Int} {L : List Lk} : sameB N L N L = true := by unfold sameB; simp
theorem wo_eq {N : Int} {L : List Lk} {I : List Int} (h : (checkF N L).1 = 0) : woutF N L I = ((N, keepL I 0 L), 0) := by unfold woutF; rw [if_neg (by simp [h])]
theorem wo_bad {N : Int} {L : List Lk} {I : List Int} (h : ¬ (checkF N L).1 = 0) : woutF N L I = ((0, []), (checkF N L).1) := by unfold woutF; rw [if_pos h]
theorem wi_eq {N : Int} {L M : List Lk} (h : (checkF N L).1 = 0) (h2 : (checkF N (L ++ M)).1 = 0) : withF N L M = ((N, L ++ M), 0) := by unfold withF; rw [if_neg (by simp [h]), if_neg (by simp [h2])]
theorem wi_no {N : Int} {L M : List Lk} (h : (checkF N L).1 = 0) (h2 : ¬ (checkF N (L ++ M)).1 = 0) : withF N L M = ((0, []), (checkF N (L ++ M)).1) := by unfold withF; rw [if_neg (by simp [h]), if_pos h2]
theorem wi_bad {N : Int} {L M : List Lk} (h : ¬ (checkF N L).1 = 0) : withF N L M = ((0, []), (checkF N L).1) := by unfold withF; rw [if_pos h]
theorem wo_len {N : Int} {L : List Lk} {I : List Int} : (woutF N L I).1.2.length ≤ L.length := by
  unfold woutF; split
  · exact Nat.zero_le _
  · exact keep_len
theorem wi_len {N : Int} {L M : List Lk} : (withF N L M).1.2.length ≤ L.length + M.length := by
  unfold withF; split
  · exact Nat.zero_le _
  · split
    · exact Nat.zero_le _
    · simp
attribute [local irreducible] gi lk checkF smallB hasB keepL sameB withF woutF
def c10 : Ctr := fSKI (fun _ _ _ _ => []) (fun _ _ _ _ => bl true)
theorem c10_ok : Ctr.Ok Try.prog Γ 10 c10 := fSKI_ok (d := 0) e10_ok (body_of Try.func10 rfl rfl) (fun _ _ _ _ => rfl) (by
  intro N L M I _
  repeat' ((conv => whnf); (first | apply And.intro | intro _))
  all_goals try (conv => whnf)
  all_goals try first
    | exact LexB.mk (by kernel_rfl)
    | exact LexT.mk (by kernel_rfl)
    | exact ⟨rfl⟩
    | exact ⟨trivial⟩
  all_goals subst_vars
  all_goals try simp only [getL, getI, castLk, castIk] at *
  all_goals try simp only [app_norm, nil_norm] at *
  all_goals try contradiction
  all_goals try
    (have hL := small_len (N := N) (L := L) (by assumption)
     have hM := len_no (n := M.length) (k := 30) (by assumption)
     have hI := len_no (n := I.length) (k := 60) (by assumption)
     have k1 := wo_len (N := N) (L := L) (I := I)
     have k2 := wi_len (N := N) (L := L) (M := M)
     first
       | exact ⟨show L.length ≤ 1000000 by omega⟩
       | exact ⟨show M.length ≤ 1000000 by omega⟩
       | exact ⟨show I.length ≤ 1000000 by omega⟩
       | exact ⟨show (L ++ M).length ≤ 1000000 by rw [List.length_append]; omega⟩
       | exact ⟨show (woutF N L I).1.2.length ≤ 1000000 by omega⟩
       | exact ⟨show (withF N L M).1.2.length ≤ 1000000 by omega⟩)
  all_goals try
    (by_cases hc : (checkF N L).1 = 0
     · by_cases h2 : (checkF N (L ++ M)).1 = 0
       · simp only [wo_eq hc, wi_eq hc h2, same_self, hc, h2] at * <;> simp_all
       · simp only [wo_eq hc, wi_no hc h2, same_self, hc] at * <;> simp_all
     · simp only [wo_bad hc, wi_bad hc, same_self] at * <;> simp_all))
end Go.Proofs.Ytlmhkeoblgodiaa
end
