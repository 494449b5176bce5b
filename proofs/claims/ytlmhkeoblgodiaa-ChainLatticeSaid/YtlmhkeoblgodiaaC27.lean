/-
  Texts of the claims on chapter 2: C27. No condition: lemmas and contracts.
-/
import Derived.Test.YtlmhkeoblgodiaaC27a
set_option linter.all false
section
/-
  Chapter 2: the law ChainLists. Printed by gen27.py.
-/
namespace Go.Proofs.Ytlmhkeoblgodiaa
open Go Go.Sy Go.Chn
set_option maxRecDepth 100000
set_option maxHeartbeats 4000000
set_option linter.unusedVariables false
set_option linter.unusedSimpArgs false
variable {Γ : Glob}
def fSnnII (D : Int → List Lk → Int → Int → List Int → List Int → List Duty) (F : Int → List Lk → Int → Int → List Int → List Int → Tm) : Ctr := .fn fun args rg => match args with
  | [.agg [.v (.int .i64 N0), x0], .a (.v (.int .i64 i0)), .a (.v (.int .i64 i1)), .a x1, .a x2] => (match arrOf 44 kL rg x0, arrOf 3 kI rg x1, arrOf 3 kI rg x2 with | some (q0, L0), some (q1, L1), some (q2, L2) => some (q0 ++ (q1 ++ (q2 ++ (D N0 L0 i0 i1 L1 L2))), F N0 L0 i0 i1 L1 L2) | _, _, _ => none)
  | _ => none
theorem fSnnII_ok {f : FuncId} {b : Body} {E : Env} {d : Nat} (hP : ProgOk Try.prog Γ E) (hb : BodyOk Try.prog f b) {D : Int → List Lk → Int → Int → List Int → List Int → List Duty} {F : Int → List Lk → Int → Int → List Int → List Int → Tm} (hp : ∀ (N0 : Int) (L0 : List Lk) (i0 : Int) (i1 : Int) (L1 : List Int) (L2 : List Int), (F N0 L0 i0 i1 L1 L2).plain = true)
    (H : ∀ (N0 : Int) (L0 : List Lk) (i0 : Int) (i1 : Int) (L1 : List Int) (L2 : List Int), obl (D N0 L0 i0 i1 L1 L2) → evTop E d b [.agg [vI N0, .sl 0 [] 0 L0.length], .a (vI i0), .a (vI i1), .a (.sl 1 [] 0 L1.length), .a (.sl 2 [] 0 L2.length)] [.arr 44 kL L0 false false, .arr 3 kI L1 false false, .arr 3 kI L2 false false] (fun x _ => eqT x (F N0 L0 i0 i1 L1 L2))) : Ctr.Ok Try.prog Γ f (fSnnII D F) := Ctr.fn_ok (d := d) hP hb (by
  intro args rg q t hF hq
  split at hF
  next N0 x0 i0 i1 x1 x2 =>
    split at hF
    next q0 L0 q1 L1 q2 L2 hx0 hx1 hx2 =>
      obtain ⟨rfl, rfl⟩ := Prod.mk.inj (Option.some.inj hF); clear hF
      rw [obl_append, obl_append, obl_append] at hq
      obtain ⟨hq0, hq1, hq2, hD⟩ := hq
      obtain ⟨e0, he0⟩ := pas_arr (by simp [kL]) hx0 hq0
      obtain ⟨e1, he1⟩ := pas_arr (by simp [kI]) hx1 hq1
      obtain ⟨e2, he2⟩ := pas_arr (by simp [kI]) hx2 hq2
      obtain ⟨p0, r0⟩ := he0 [e0, e1, e2] 0 3 rfl (by omega)
      obtain ⟨p1, r1⟩ := he1 [e0, e1, e2] 1 3 rfl (by omega)
      obtain ⟨p2, r2⟩ := he2 [e0, e1, e2] 2 3 rfl (by omega)
      refine ⟨hp _ _ _ _ _ _, [e0, e1, e2], [.agg [vI N0, .sl 0 [] 0 L0.length], .a (vI i0), .a (vI i1), .a (.sl 1 [] 0 L1.length), .a (.sl 2 [] 0 L2.length)], [.arr 44 kL L0 false false, .arr 3 kI L1 false false, .arr 3 kI L2 false false], ⟨⟨⟨rfl, p0, trivial⟩, rfl, rfl, p1, p2, trivial⟩, fun r g hg => ?_⟩, H _ _ _ _ _ _ hD⟩
      match r, hg with
      | 0, hg => obtain rfl := Option.some.inj hg; exact r0
      | 1, hg => obtain rfl := Option.some.inj hg; exact r1
      | 2, hg => obtain rfl := Option.some.inj hg; exact r2
    next => cases hF
  next => cases hF)

def L14 : List (Nat × Ctr) := [(20, c20), (21, c21), (34, c34), (43, c43), (47, c47), (52, c52), (53, c53), (54, c54), (55, c55), (56, c56), (57, c57), (58, c58)]
theorem L14_ok : CsOk Try.prog Γ L14 := (((((((((((CsOk.nil.cons (body_of Try.func58 rfl rfl).fn c58_ok).cons (body_of Try.func57 rfl rfl).fn c57_ok).cons (body_of Try.func56 rfl rfl).fn c56_ok).cons (body_of Try.func55 rfl rfl).fn c55_ok).cons (body_of Try.func54 rfl rfl).fn c54_ok).cons
  (body_of Try.func53 rfl rfl).fn c53_ok).cons (body_of Try.func52 rfl rfl).fn c52_ok).cons (body_of Try.func47 rfl rfl).fn c47_ok).cons (body_of Try.func43 rfl rfl).fn c43_ok).cons (body_of Try.func34 rfl rfl).fn c34_ok).cons (body_of Try.func21 rfl rfl).fn c21_ok).cons (body_of Try.func20 rfl rfl).fn c20_ok
attribute [local irreducible] sumR idxB closB gi lk idxE checkF ccF ckcF fitF nodeB numB solB smallB
def c14 : Ctr := fSnnII (fun _ _ _ _ _ _ => []) (fun _ _ _ _ _ _ => bl true)
theorem castLk {h : kL = kL} (L : List Lk) : @castL kL kL h L = L := rfl
theorem castIk {h : kI = kI} (I : List Int) : @castL kI kI h I = I := rfl
theorem fit_eq {N : Int} {L : List Lk} {X : List Int} (h : (checkF N L).1 = 0) : fitF N L X = if numB N X = true then (solB N.toNat L X, 0) else (false, 1) := by
  by_cases hn : numB N X = true
  · rw [if_pos hn, (fit_yes h hn).1]
  · rw [if_neg hn, fit_no h (by simpa using hn)]
theorem gt80 (n : Nat) : ((n : Int) > 80) = (n > 80) := by apply propext; omega
theorem small_len {N : Int} {L : List Lk} (h : (!smallB N L) = false) : L.length ≤ 310 := by
  unfold smallB at h
  rw [Bool.not_eq_false', Bool.and_eq_true, decide_eq_true_eq] at h
  exact h.1
theorem ok_of {x : Int} (h : (x != 0) = false) : x = 0 := by simpa using h
theorem no_of {x : Int} (h : (x != 0) = true) : ¬ x = 0 := by simpa using h
theorem len_no {n : Nat} {k : Int} (h : decide ((n : Int) > k) = false) : (n : Int) ≤ k := by simpa using h
theorem nt_f {b : Bool} (h : (!b) = false) : b = true := by simpa using h
theorem nt_t {b : Bool} (h : (!b) = true) : b = false := by simpa using h
theorem c14_ok : Ctr.Ok Try.prog Γ 14 c14 := fSnnII_ok (d := 0) (prog_ok L14_ok BsOk.nil false 0) (body_of Try.func14 rfl rfl) (fun _ _ _ _ _ _ => rfl) (by
  intro N L a b I X _
  repeat' ((conv => whnf); (first | apply And.intro | intro _))
  all_goals try (conv => whnf)
  all_goals try exact LexB.mk (by kernel_rfl)
  all_goals subst_vars
  all_goals try simp only [getL, getI, castLk, castIk, Nat.zero_add, Int.toNat_zero] at *
  all_goals try first
    | exact ⟨rfl⟩
    | exact ⟨trivial⟩
    | exact ⟨show L.length ≤ 1000000 by have := small_len (N := N) (L := L) (by assumption); omega⟩
    | exact ⟨show I.length ≤ 1000000 by have := len_no (n := I.length) (k := 90) (by assumption); omega⟩
    | exact ⟨show X.length ≤ 1000000 by have := len_no (n := X.length) (k := 90) (by assumption); omega⟩
    | exact ⟨show I.length ≤ 1000 by have := len_no (n := I.length) (k := 90) (by assumption); omega⟩
    | exact ⟨(checkF_ok (ok_of (x := (checkF N L).1) (by assumption))).2.2⟩
    | exact ⟨(fit_yes (N := N) (L := L) (X := X) (ok_of (by assumption)) (nt_f (by assumption))).2.1⟩
    | exact ⟨(fit_yes (N := N) (L := L) (X := X) (ok_of (by assumption)) (nt_f (by assumption))).2.2.2.1⟩
    | exact ⟨(fit_yes (N := N) (L := L) (X := X) (ok_of (by assumption)) (nt_f (by assumption))).2.2.2.2⟩
    | exact ⟨show X.length ≤ 1000 by have := len_no (n := X.length) (k := 90) (by assumption); omega⟩
  all_goals try contradiction
  all_goals try
    (by_cases hc : (checkF N L).1 = 0
     · simp only [cc_eq hc, ckc_eq hc, fit_eq hc, hc, gt80] at *
       first | (simp_all; done) | (split at * <;> simp_all; done)
     · simp only [cc_bad hc, ckc_bad hc, fit_bad hc] at *
       simp_all; done))
end Go.Proofs.Ytlmhkeoblgodiaa
end
