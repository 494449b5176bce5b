/-
  Texts of the claims on chapter 2: Yd. No condition: lemmas and contracts.
-/
import Derived.Test.YtlmhkeoblgodiaaYc
set_option linter.all false
section
/-
  Chapter 2: sanity.
-/
namespace Go.Proofs.Ytlmhkeoblgodiaa
open Go Go.Sy Go.Chn
set_option maxRecDepth 100000
set_option maxHeartbeats 4000000
set_option linter.unusedVariables false
variable {Γ : Glob}
def exM : List Lk := [(1, 0, -6)]
def c45p : Ctr := .new fun args rg K => match args with
  | [.agg [.v (.int .i64 N), x], .a y] => (match arrOf 44 kL rg x, arrOf 44 kL rg y with
     | some (q, L), some (q', M) => oblige true (q ++ (q' ++ [(Duty.of (N = 4)), eqLk L exL, eqLk M exM])) (K ⟨[.arr 44 kL exL2 true true], .tup [.agg [vI 4, .sl 0 [] 0 6], .a (vI 0)]⟩)
     | _, _ => False)
  | _ => False
theorem with_ex : withF 4 exL exM = ((4, exL2), 0) := by decide +kernel
theorem c45p_ok : Ctr.Ok Try.prog Γ 45 c45p := Ctr.new_mono (c45_ok true) (by
  intro args rg K hC
  split at hC
  next N x y =>
    split at hC
    next q L q' M hx hy =>
      rw [oblige_iff, obl_append, obl_append] at hC
      obtain ⟨⟨hq, hq', h1, h2, h3, _⟩, hK⟩ := hC
      simp only [Duty.of_p] at h1
      replace h2 : L = exL := h2
      replace h3 : M = exM := h3
      subst h1 h2 h3
      simp only [hx, hy]
      rw [oblige_iff, obl_append, obl_append]
      refine ⟨⟨hq, hq', by simp only [Duty.of_p]; decide, by simp only [Duty.of_p]; decide, trivial⟩, ?_⟩
      exact (show K (sysR (withF 4 exL exM).1.1 (withF 4 exL exM).1.2 [.a (vI (withF 4 exL exM).2)]) from by rw [with_ex]; exact hK)
    next => exact hC.elim
  next => exact hC.elim)
def cs21 : List (Nat × Ctr) := [(38, c38p), (39, c39p), (62, ptS exL 78 kS exS), (30, c30p), (32, ptS exL 3 kI [(2 : Int)]), (33, ptS exL 3 kI [(0 : Int), (1 : Int), (3 : Int), (4 : Int)]), (45, c45p),
  (25, ptS exL2 3 kI [(0 : Int), (5 : Int)]), (31, ptS exL2 3 kI [(0 : Int), (5 : Int)]), (52, c52p)]
theorem cs21_ok : CsOk Try.prog Γ cs21 := (((((((((CsOk.nil.cons (body_of Try.func52 rfl rfl).fn c52p_ok).cons (body_of Try.func31 rfl rfl).fn c31p_ok).cons (body_of Try.func25 rfl rfl).fn c25p_ok).cons (body_of Try.func45 rfl rfl).fn c45p_ok).cons
  (body_of Try.func33 rfl rfl).fn c33p_ok).cons (body_of Try.func32 rfl rfl).fn c32p_ok).cons (body_of Try.func30 rfl rfl).fn c30p_ok).cons (body_of Try.func62 rfl rfl).fn c62p_ok).cons (body_of Try.func39 rfl rfl).fn c39p_ok).cons (body_of Try.func38 rfl rfl).fn c38p_ok
noncomputable def bs21 : List (Nat × Body) := [(27, bo Try.f27), (63, bo Try.f63)]
theorem bs21_ok : BsOk Try.prog bs21 := (BsOk.nil.cons (body_bo Try.func63 rfl rfl)).cons (body_bo Try.func27 rfl rfl)
noncomputable def e21 : Env := tabs.env cs21 bs21 true 100
theorem e21_ok : ProgOk Try.prog Γ e21 := prog_ok cs21_ok bs21_ok true 100
noncomputable def q21 : Prop := evTop e21 3 (bo Try.f21) [] [] (fun x _ => isT (tmB x (bl true)))
theorem run21 : Run q21 := .of (by kernel_rfl)
def c21 : Ctr := .fn fun args _ => match args with
  | [] => some ([], bl true)
  | _ => none
theorem c21_ok : Ctr.Ok Try.prog Γ 21 c21 := Ctr.fn_okX (d := 3) e21_ok (b := bo Try.f21) (body_bo Try.func21 rfl rfl) (by
  intro args rg q t hF hq
  split at hF
  next =>
    obtain ⟨rfl, rfl⟩ := Prod.mk.inj (Option.some.inj hF)
    exact ⟨rfl, [], [], [], ⟨trivial, fun r g hg => by simp at hg⟩, _, run21.h, fun x st h => tmB_sound (isT_iff.1 h)⟩
  next => cases hF)
end Go.Proofs.Ytlmhkeoblgodiaa
end

section
/-
  Chapter 2: contracts by the shape of the arguments. Printed by gen18.py.
-/
namespace Go.Proofs.Ytlmhkeoblgodiaa
open Go Go.Sy Go.Chn
set_option maxRecDepth 100000
set_option linter.unusedVariables false
variable {Γ : Glob}
def fS (D : Int → List Lk → List Duty) (F : Int → List Lk → Tm) : Ctr := .fn fun args rg => match args with
  | [.agg [.v (.int .i64 N0), x0]] => (match arrOf 44 kL rg x0 with | some (q0, L0) => some (q0 ++ (D N0 L0), F N0 L0) | _ => none)
  | _ => none
theorem fS_ok {f : FuncId} {b : Body} {E : Env} {d : Nat} (hP : ProgOk Try.prog Γ E) (hb : BodyOk Try.prog f b) {D : Int → List Lk → List Duty} {F : Int → List Lk → Tm} (hp : ∀ (N0 : Int) (L0 : List Lk), (F N0 L0).plain = true)
    (H : ∀ (N0 : Int) (L0 : List Lk), obl (D N0 L0) → evTop E d b [.agg [vI N0, .sl 0 [] 0 L0.length]] [.arr 44 kL L0 false false] (fun x _ => eqT x (F N0 L0))) : Ctr.Ok Try.prog Γ f (fS D F) := Ctr.fn_ok (d := d) hP hb (by
  intro args rg q t hF hq
  split at hF
  next N0 x0 =>
    split at hF
    next q0 L0 hx0 =>
      obtain ⟨rfl, rfl⟩ := Prod.mk.inj (Option.some.inj hF); clear hF
      rw [obl_append] at hq
      obtain ⟨hq0, hD⟩ := hq
      obtain ⟨e0, he0⟩ := pas_arr (by simp [kL]) hx0 hq0
      obtain ⟨p0, r0⟩ := he0 [e0] 0 1 rfl (by omega)
      refine ⟨hp _ _, [e0], [.agg [vI N0, .sl 0 [] 0 L0.length]], [.arr 44 kL L0 false false], ⟨⟨⟨rfl, p0, trivial⟩, trivial⟩, fun r g hg => ?_⟩, H _ _ hD⟩
      match r, hg with
      | 0, hg => obtain rfl := Option.some.inj hg; exact r0
    next => cases hF
  next => cases hF)

def fSn (D : Int → List Lk → Int → List Duty) (F : Int → List Lk → Int → Tm) : Ctr := .fn fun args rg => match args with
  | [.agg [.v (.int .i64 N0), x0], .a (.v (.int .i64 i0))] => (match arrOf 44 kL rg x0 with | some (q0, L0) => some (q0 ++ (D N0 L0 i0), F N0 L0 i0) | _ => none)
  | _ => none
theorem fSn_ok {f : FuncId} {b : Body} {E : Env} {d : Nat} (hP : ProgOk Try.prog Γ E) (hb : BodyOk Try.prog f b) {D : Int → List Lk → Int → List Duty} {F : Int → List Lk → Int → Tm} (hp : ∀ (N0 : Int) (L0 : List Lk) (i0 : Int), (F N0 L0 i0).plain = true)
    (H : ∀ (N0 : Int) (L0 : List Lk) (i0 : Int), obl (D N0 L0 i0) → evTop E d b [.agg [vI N0, .sl 0 [] 0 L0.length], .a (vI i0)] [.arr 44 kL L0 false false] (fun x _ => eqT x (F N0 L0 i0))) : Ctr.Ok Try.prog Γ f (fSn D F) := Ctr.fn_ok (d := d) hP hb (by
  intro args rg q t hF hq
  split at hF
  next N0 x0 i0 =>
    split at hF
    next q0 L0 hx0 =>
      obtain ⟨rfl, rfl⟩ := Prod.mk.inj (Option.some.inj hF); clear hF
      rw [obl_append] at hq
      obtain ⟨hq0, hD⟩ := hq
      obtain ⟨e0, he0⟩ := pas_arr (by simp [kL]) hx0 hq0
      obtain ⟨p0, r0⟩ := he0 [e0] 0 1 rfl (by omega)
      refine ⟨hp _ _ _, [e0], [.agg [vI N0, .sl 0 [] 0 L0.length], .a (vI i0)], [.arr 44 kL L0 false false], ⟨⟨⟨rfl, p0, trivial⟩, rfl, trivial⟩, fun r g hg => ?_⟩, H _ _ _ hD⟩
      match r, hg with
      | 0, hg => obtain rfl := Option.some.inj hg; exact r0
    next => cases hF
  next => cases hF)

def fSI (D : Int → List Lk → List Int → List Duty) (F : Int → List Lk → List Int → Tm) : Ctr := .fn fun args rg => match args with
  | [.agg [.v (.int .i64 N0), x0], .a x1] => (match arrOf 44 kL rg x0, arrOf 3 kI rg x1 with | some (q0, L0), some (q1, L1) => some (q0 ++ (q1 ++ (D N0 L0 L1)), F N0 L0 L1) | _, _ => none)
  | _ => none
theorem fSI_ok {f : FuncId} {b : Body} {E : Env} {d : Nat} (hP : ProgOk Try.prog Γ E) (hb : BodyOk Try.prog f b) {D : Int → List Lk → List Int → List Duty} {F : Int → List Lk → List Int → Tm} (hp : ∀ (N0 : Int) (L0 : List Lk) (L1 : List Int), (F N0 L0 L1).plain = true)
    (H : ∀ (N0 : Int) (L0 : List Lk) (L1 : List Int), obl (D N0 L0 L1) → evTop E d b [.agg [vI N0, .sl 0 [] 0 L0.length], .a (.sl 1 [] 0 L1.length)] [.arr 44 kL L0 false false, .arr 3 kI L1 false false] (fun x _ => eqT x (F N0 L0 L1))) : Ctr.Ok Try.prog Γ f (fSI D F) := Ctr.fn_ok (d := d) hP hb (by
  intro args rg q t hF hq
  split at hF
  next N0 x0 x1 =>
    split at hF
    next q0 L0 q1 L1 hx0 hx1 =>
      obtain ⟨rfl, rfl⟩ := Prod.mk.inj (Option.some.inj hF); clear hF
      rw [obl_append, obl_append] at hq
      obtain ⟨hq0, hq1, hD⟩ := hq
      obtain ⟨e0, he0⟩ := pas_arr (by simp [kL]) hx0 hq0
      obtain ⟨e1, he1⟩ := pas_arr (by simp [kI]) hx1 hq1
      obtain ⟨p0, r0⟩ := he0 [e0, e1] 0 2 rfl (by omega)
      obtain ⟨p1, r1⟩ := he1 [e0, e1] 1 2 rfl (by omega)
      refine ⟨hp _ _ _, [e0, e1], [.agg [vI N0, .sl 0 [] 0 L0.length], .a (.sl 1 [] 0 L1.length)], [.arr 44 kL L0 false false, .arr 3 kI L1 false false], ⟨⟨⟨rfl, p0, trivial⟩, p1, trivial⟩, fun r g hg => ?_⟩, H _ _ _ hD⟩
      match r, hg with
      | 0, hg => obtain rfl := Option.some.inj hg; exact r0
      | 1, hg => obtain rfl := Option.some.inj hg; exact r1
    next => cases hF
  next => cases hF)

def fSnI (D : Int → List Lk → Int → List Int → List Duty) (F : Int → List Lk → Int → List Int → Tm) : Ctr := .fn fun args rg => match args with
  | [.agg [.v (.int .i64 N0), x0], .a (.v (.int .i64 i0)), .a x1] => (match arrOf 44 kL rg x0, arrOf 3 kI rg x1 with | some (q0, L0), some (q1, L1) => some (q0 ++ (q1 ++ (D N0 L0 i0 L1)), F N0 L0 i0 L1) | _, _ => none)
  | _ => none
theorem fSnI_ok {f : FuncId} {b : Body} {E : Env} {d : Nat} (hP : ProgOk Try.prog Γ E) (hb : BodyOk Try.prog f b) {D : Int → List Lk → Int → List Int → List Duty} {F : Int → List Lk → Int → List Int → Tm} (hp : ∀ (N0 : Int) (L0 : List Lk) (i0 : Int) (L1 : List Int), (F N0 L0 i0 L1).plain = true)
    (H : ∀ (N0 : Int) (L0 : List Lk) (i0 : Int) (L1 : List Int), obl (D N0 L0 i0 L1) → evTop E d b [.agg [vI N0, .sl 0 [] 0 L0.length], .a (vI i0), .a (.sl 1 [] 0 L1.length)] [.arr 44 kL L0 false false, .arr 3 kI L1 false false] (fun x _ => eqT x (F N0 L0 i0 L1))) : Ctr.Ok Try.prog Γ f (fSnI D F) := Ctr.fn_ok (d := d) hP hb (by
  intro args rg q t hF hq
  split at hF
  next N0 x0 i0 x1 =>
    split at hF
    next q0 L0 q1 L1 hx0 hx1 =>
      obtain ⟨rfl, rfl⟩ := Prod.mk.inj (Option.some.inj hF); clear hF
      rw [obl_append, obl_append] at hq
      obtain ⟨hq0, hq1, hD⟩ := hq
      obtain ⟨e0, he0⟩ := pas_arr (by simp [kL]) hx0 hq0
      obtain ⟨e1, he1⟩ := pas_arr (by simp [kI]) hx1 hq1
      obtain ⟨p0, r0⟩ := he0 [e0, e1] 0 2 rfl (by omega)
      obtain ⟨p1, r1⟩ := he1 [e0, e1] 1 2 rfl (by omega)
      refine ⟨hp _ _ _ _, [e0, e1], [.agg [vI N0, .sl 0 [] 0 L0.length], .a (vI i0), .a (.sl 1 [] 0 L1.length)], [.arr 44 kL L0 false false, .arr 3 kI L1 false false], ⟨⟨⟨rfl, p0, trivial⟩, rfl, p1, trivial⟩, fun r g hg => ?_⟩, H _ _ _ _ hD⟩
      match r, hg with
      | 0, hg => obtain rfl := Option.some.inj hg; exact r0
      | 1, hg => obtain rfl := Option.some.inj hg; exact r1
    next => cases hF
  next => cases hF)

def fSnnI (D : Int → List Lk → Int → Int → List Int → List Duty) (F : Int → List Lk → Int → Int → List Int → Tm) : Ctr := .fn fun args rg => match args with
  | [.agg [.v (.int .i64 N0), x0], .a (.v (.int .i64 i0)), .a (.v (.int .i64 i1)), .a x1] => (match arrOf 44 kL rg x0, arrOf 3 kI rg x1 with | some (q0, L0), some (q1, L1) => some (q0 ++ (q1 ++ (D N0 L0 i0 i1 L1)), F N0 L0 i0 i1 L1) | _, _ => none)
  | _ => none
theorem fSnnI_ok {f : FuncId} {b : Body} {E : Env} {d : Nat} (hP : ProgOk Try.prog Γ E) (hb : BodyOk Try.prog f b) {D : Int → List Lk → Int → Int → List Int → List Duty} {F : Int → List Lk → Int → Int → List Int → Tm} (hp : ∀ (N0 : Int) (L0 : List Lk) (i0 : Int) (i1 : Int) (L1 : List Int), (F N0 L0 i0 i1 L1).plain = true)
    (H : ∀ (N0 : Int) (L0 : List Lk) (i0 : Int) (i1 : Int) (L1 : List Int), obl (D N0 L0 i0 i1 L1) → evTop E d b [.agg [vI N0, .sl 0 [] 0 L0.length], .a (vI i0), .a (vI i1), .a (.sl 1 [] 0 L1.length)] [.arr 44 kL L0 false false, .arr 3 kI L1 false false] (fun x _ => eqT x (F N0 L0 i0 i1 L1))) : Ctr.Ok Try.prog Γ f (fSnnI D F) := Ctr.fn_ok (d := d) hP hb (by
  intro args rg q t hF hq
  split at hF
  next N0 x0 i0 i1 x1 =>
    split at hF
    next q0 L0 q1 L1 hx0 hx1 =>
      obtain ⟨rfl, rfl⟩ := Prod.mk.inj (Option.some.inj hF); clear hF
      rw [obl_append, obl_append] at hq
      obtain ⟨hq0, hq1, hD⟩ := hq
      obtain ⟨e0, he0⟩ := pas_arr (by simp [kL]) hx0 hq0
      obtain ⟨e1, he1⟩ := pas_arr (by simp [kI]) hx1 hq1
      obtain ⟨p0, r0⟩ := he0 [e0, e1] 0 2 rfl (by omega)
      obtain ⟨p1, r1⟩ := he1 [e0, e1] 1 2 rfl (by omega)
      refine ⟨hp _ _ _ _ _, [e0, e1], [.agg [vI N0, .sl 0 [] 0 L0.length], .a (vI i0), .a (vI i1), .a (.sl 1 [] 0 L1.length)], [.arr 44 kL L0 false false, .arr 3 kI L1 false false], ⟨⟨⟨rfl, p0, trivial⟩, rfl, rfl, p1, trivial⟩, fun r g hg => ?_⟩, H _ _ _ _ _ hD⟩
      match r, hg with
      | 0, hg => obtain rfl := Option.some.inj hg; exact r0
      | 1, hg => obtain rfl := Option.some.inj hg; exact r1
    next => cases hF
  next => cases hF)

def fII (D : List Int → List Int → List Duty) (F : List Int → List Int → Tm) : Ctr := .fn fun args rg => match args with
  | [.a x0, .a x1] => (match arrOf 3 kI rg x0, arrOf 3 kI rg x1 with | some (q0, L0), some (q1, L1) => some (q0 ++ (q1 ++ (D L0 L1)), F L0 L1) | _, _ => none)
  | _ => none
theorem fII_ok {f : FuncId} {b : Body} {E : Env} {d : Nat} (hP : ProgOk Try.prog Γ E) (hb : BodyOk Try.prog f b) {D : List Int → List Int → List Duty} {F : List Int → List Int → Tm} (hp : ∀ (L0 : List Int) (L1 : List Int), (F L0 L1).plain = true)
    (H : ∀ (L0 : List Int) (L1 : List Int), obl (D L0 L1) → evTop E d b [.a (.sl 0 [] 0 L0.length), .a (.sl 1 [] 0 L1.length)] [.arr 3 kI L0 false false, .arr 3 kI L1 false false] (fun x _ => eqT x (F L0 L1))) : Ctr.Ok Try.prog Γ f (fII D F) := Ctr.fn_ok (d := d) hP hb (by
  intro args rg q t hF hq
  split at hF
  next x0 x1 =>
    split at hF
    next q0 L0 q1 L1 hx0 hx1 =>
      obtain ⟨rfl, rfl⟩ := Prod.mk.inj (Option.some.inj hF); clear hF
      rw [obl_append, obl_append] at hq
      obtain ⟨hq0, hq1, hD⟩ := hq
      obtain ⟨e0, he0⟩ := pas_arr (by simp [kI]) hx0 hq0
      obtain ⟨e1, he1⟩ := pas_arr (by simp [kI]) hx1 hq1
      obtain ⟨p0, r0⟩ := he0 [e0, e1] 0 2 rfl (by omega)
      obtain ⟨p1, r1⟩ := he1 [e0, e1] 1 2 rfl (by omega)
      refine ⟨hp _ _, [e0, e1], [.a (.sl 0 [] 0 L0.length), .a (.sl 1 [] 0 L1.length)], [.arr 3 kI L0 false false, .arr 3 kI L1 false false], ⟨⟨p0, p1, trivial⟩, fun r g hg => ?_⟩, H _ _ hD⟩
      match r, hg with
      | 0, hg => obtain rfl := Option.some.inj hg; exact r0
      | 1, hg => obtain rfl := Option.some.inj hg; exact r1
    next => cases hF
  next => cases hF)

def fSS (D : Int → List Lk → Int → List Lk → List Duty) (F : Int → List Lk → Int → List Lk → Tm) : Ctr := .fn fun args rg => match args with
  | [.agg [.v (.int .i64 N0), x0], .agg [.v (.int .i64 N1), x1]] => (match arrOf 44 kL rg x0, arrOf 44 kL rg x1 with | some (q0, L0), some (q1, L1) => some (q0 ++ (q1 ++ (D N0 L0 N1 L1)), F N0 L0 N1 L1) | _, _ => none)
  | _ => none
theorem fSS_ok {f : FuncId} {b : Body} {E : Env} {d : Nat} (hP : ProgOk Try.prog Γ E) (hb : BodyOk Try.prog f b) {D : Int → List Lk → Int → List Lk → List Duty} {F : Int → List Lk → Int → List Lk → Tm} (hp : ∀ (N0 : Int) (L0 : List Lk) (N1 : Int) (L1 : List Lk), (F N0 L0 N1 L1).plain = true)
    (H : ∀ (N0 : Int) (L0 : List Lk) (N1 : Int) (L1 : List Lk), obl (D N0 L0 N1 L1) → evTop E d b [.agg [vI N0, .sl 0 [] 0 L0.length], .agg [vI N1, .sl 1 [] 0 L1.length]] [.arr 44 kL L0 false false, .arr 44 kL L1 false false] (fun x _ => eqT x (F N0 L0 N1 L1))) : Ctr.Ok Try.prog Γ f (fSS D F) := Ctr.fn_ok (d := d) hP hb (by
  intro args rg q t hF hq
  split at hF
  next N0 x0 N1 x1 =>
    split at hF
    next q0 L0 q1 L1 hx0 hx1 =>
      obtain ⟨rfl, rfl⟩ := Prod.mk.inj (Option.some.inj hF); clear hF
      rw [obl_append, obl_append] at hq
      obtain ⟨hq0, hq1, hD⟩ := hq
      obtain ⟨e0, he0⟩ := pas_arr (by simp [kL]) hx0 hq0
      obtain ⟨e1, he1⟩ := pas_arr (by simp [kL]) hx1 hq1
      obtain ⟨p0, r0⟩ := he0 [e0, e1] 0 2 rfl (by omega)
      obtain ⟨p1, r1⟩ := he1 [e0, e1] 1 2 rfl (by omega)
      refine ⟨hp _ _ _ _, [e0, e1], [.agg [vI N0, .sl 0 [] 0 L0.length], .agg [vI N1, .sl 1 [] 0 L1.length]], [.arr 44 kL L0 false false, .arr 44 kL L1 false false], ⟨⟨⟨rfl, p0, trivial⟩, ⟨rfl, p1, trivial⟩, trivial⟩, fun r g hg => ?_⟩, H _ _ _ _ hD⟩
      match r, hg with
      | 0, hg => obtain rfl := Option.some.inj hg; exact r0
      | 1, hg => obtain rfl := Option.some.inj hg; exact r1
    next => cases hF
  next => cases hF)

def fIn (D : List Int → Int → List Duty) (F : List Int → Int → Tm) : Ctr := .fn fun args rg => match args with
  | [.a x0, .a (.v (.int .i64 i0))] => (match arrOf 3 kI rg x0 with | some (q0, L0) => some (q0 ++ (D L0 i0), F L0 i0) | _ => none)
  | _ => none
theorem fIn_ok {f : FuncId} {b : Body} {E : Env} {d : Nat} (hP : ProgOk Try.prog Γ E) (hb : BodyOk Try.prog f b) {D : List Int → Int → List Duty} {F : List Int → Int → Tm} (hp : ∀ (L0 : List Int) (i0 : Int), (F L0 i0).plain = true)
    (H : ∀ (L0 : List Int) (i0 : Int), obl (D L0 i0) → evTop E d b [.a (.sl 0 [] 0 L0.length), .a (vI i0)] [.arr 3 kI L0 false false] (fun x _ => eqT x (F L0 i0))) : Ctr.Ok Try.prog Γ f (fIn D F) := Ctr.fn_ok (d := d) hP hb (by
  intro args rg q t hF hq
  split at hF
  next x0 i0 =>
    split at hF
    next q0 L0 hx0 =>
      obtain ⟨rfl, rfl⟩ := Prod.mk.inj (Option.some.inj hF); clear hF
      rw [obl_append] at hq
      obtain ⟨hq0, hD⟩ := hq
      obtain ⟨e0, he0⟩ := pas_arr (by simp [kI]) hx0 hq0
      obtain ⟨p0, r0⟩ := he0 [e0] 0 1 rfl (by omega)
      refine ⟨hp _ _, [e0], [.a (.sl 0 [] 0 L0.length), .a (vI i0)], [.arr 3 kI L0 false false], ⟨⟨p0, rfl, trivial⟩, fun r g hg => ?_⟩, H _ _ hD⟩
      match r, hg with
      | 0, hg => obtain rfl := Option.some.inj hg; exact r0
    next => cases hF
  next => cases hF)
end Go.Proofs.Ytlmhkeoblgodiaa
end

section
/-
  Chapter 2: small functions of the specification. Printed by gen19.py.
-/
namespace Go.Proofs.Ytlmhkeoblgodiaa
open Go Go.Sy Go.Chn
set_option maxRecDepth 100000
set_option maxHeartbeats 1000000
set_option linter.unusedVariables false
set_option linter.unusedSimpArgs false
variable {Γ : Glob}
def smallB (N : Int) (L : List Lk) : Bool := decide (L.length ≤ 310) && decide (N ≤ 70)
def c20 : Ctr := fS (fun _ _ => []) (fun N L => bl (smallB N L))
theorem c20_ok : Ctr.Ok Try.prog Γ 20 c20 := fS_ok (d := 0) (prog_ok CsOk.nil BsOk.nil false 0) (body_of Try.func20 rfl rfl) (fun _ _ => rfl) (by
  intro N L _
  unfold smallB
  repeat' ((conv => whnf); (first | apply And.intro | intro _))
  all_goals try (conv => whnf)
  all_goals subst_vars
  all_goals simp only [decide_eq_true_eq, decide_eq_false_iff_not] at *
  · rw [decide_eq_true (show L.length ≤ 310 by omega)]; rfl
  · rw [decide_eq_false (show ¬ L.length ≤ 310 by omega)]; rfl)
def idxB (n : Nat) : List Int → Bool
  | [] => true
  | i :: l => decide (0 ≤ i) && decide (i < n) && idxB n l
theorem idx_no {n : Nat} {I : List Int} {i : Nat} (h : i < I.length) (hb : gi I i < 0 ∨ (n : Int) ≤ gi I i) : idxB n (I.drop i) = false := by
  rw [drop_gi h, idxB]
  rcases hb with hb | hb
  · rw [decide_eq_false (by omega)]; rfl
  · rw [decide_eq_false (p := gi I i < n) (by omega), Bool.and_false]; rfl
theorem idx_yes {n : Nat} {I : List Int} {i : Nat} (h : i < I.length) (h1 : 0 ≤ gi I i) (h2 : gi I i < (n : Int)) : idxB n (I.drop i) = idxB n (I.drop (i + 1)) := by
  rw [drop_gi h, idxB, decide_eq_true h1, decide_eq_true h2]; rfl
theorem idx_end {n : Nat} {I : List Int} {i : Nat} (h : I.length ≤ i) : idxB n (I.drop i) = true := by
  rw [List.drop_eq_nil_of_le h]; rfl
def c54 : Ctr := fSI (fun _ L I => [(Duty.of (L.length ≤ 1000000)), (Duty.of (I.length ≤ 1000000))]) (fun _ L I => bl (idxB L.length I))
theorem c54_ok : Ctr.Ok Try.prog Γ 54 c54 := fSI_ok (d := 0) (prog_ok CsOk.nil BsOk.nil false 0) (body_of Try.func54 rfl rfl) (fun _ _ _ => rfl) (by
  intro N L I ⟨hL, hI, _⟩
  simp only [Duty.of_p] at hL hI
  repeat' ((conv => whnf); (first | apply And.intro | intro _))
  all_goals try (conv => whnf)
  refine ⟨Nat, fun i => i ≤ I.length ∧ idxB L.length I = idxB L.length (I.drop i), fun i => ⟨slotsT 27 [1, 2, 5] [.a (.sl 1 [] 0 I.length), .a (.p 2 [] 0 0), .a (vI i)], [], [.arr 44 kL L false false, .arr 3 kI I false false, .box true [vI N, .sl 0 [] 0 L.length]]⟩, fun i => I.length - i, 0, [], ⟨Nat.zero_le _, rfl⟩, ?_, ?_⟩
  · repeat' ((conv => whnf); (first | apply And.intro | intro _))
    all_goals first | rfl | trivial | exact Nat.le_of_ble_eq_true rfl | exact ⟨rfl, rfl, rfl⟩ | exact ⟨rfl, rfl, rfl, rfl⟩
  rintro i ⟨hi, hv⟩
  rw [hv]
  repeat' ((conv => whnf); (first | apply And.intro | intro _))
  all_goals try (conv => whnf)
  all_goals try exact LexB.mk (by kernel_rfl)
  all_goals try exact ⟨Nat.le_of_ble_eq_true rfl⟩
  all_goals try exact ⟨rfl⟩
  all_goals try (refine Ob.mk ?_; (try simp only [Duty.of_p, inRQ]); subst_vars; (try simp only [getL, getI, getB, castL_rfl] at *); (try dsimp only [kL, kI, Tup, CK.ty] at *); (try simp only [getL, getI, getB, gi_nn, castL_rfl, Nat.zero_add, Nat.add_zero, Nat.sub_zero, Int.toNat_natCast, List.length_set, List.length_replicate, List.length_cons, List.length_nil, decide_eq_true_eq, decide_eq_false_iff_not, cap40, inR] at *); (all_goals first | omega | (split <;> omega)))
  all_goals subst_vars
  all_goals try simp only [getL, getI, Nat.zero_add, Int.toNat_natCast, decide_eq_true_eq, decide_eq_false_iff_not] at *
  all_goals try first
    | exact idx_no (by omega) (.inl (by assumption))
    | exact idx_no (by omega) (.inr (by assumption))
    | exact idx_end (by omega)
  refine ⟨i + 1, [], ⟨by omega, idx_yes (by omega) (by omega) (by omega)⟩, ?_, by omega⟩
  repeat' ((conv => whnf); (first | apply And.intro | intro _))
  all_goals first | rfl | trivial | exact Nat.le_of_ble_eq_true rfl | exact ⟨rfl, rfl, rfl⟩ | exact ⟨rfl, rfl, rfl, rfl⟩)
def sumR (L : List Lk) : Int → Int → List Int → Int × Int × Bool
  | a, s, [] => (s, a, true)
  | a, s, i :: I => if 0 ≤ i ∧ i < L.length ∧ (lk L i.toNat).1 = a then sumR L (lk L i.toNat).2.1 (s + (lk L i.toNat).2.2) I else (0, 0, false)
theorem sumR_no {L : List Lk} {a s : Int} {I : List Int} {i : Nat} (h : i < I.length) (hb : ¬ (0 ≤ gi I i ∧ gi I i < L.length ∧ (lk L (gi I i).toNat).1 = a)) : sumR L a s (I.drop i) = (0, 0, false) := by
  rw [drop_gi h, sumR, if_neg hb]
theorem sumR_ne {L : List Lk} {a s : Int} {I : List Int} {i : Nat} (h : i < I.length) (hb : ¬ (lk L (gi I i).toNat).1 = a) : sumR L a s (I.drop i) = (0, 0, false) := sumR_no h fun h => hb h.2.2
theorem sumR_yes {L : List Lk} {a s : Int} {I : List Int} {i : Nat} (h : i < I.length) (h1 : 0 ≤ gi I i) (h2 : gi I i < (L.length : Int)) (h3 : (lk L (gi I i).toNat).1 = a) : sumR L a s (I.drop i) = sumR L (lk L (gi I i).toNat).2.1 (s + (lk L (gi I i).toNat).2.2) (I.drop (i + 1)) := by
  rw [drop_gi h]; conv => lhs; rw [sumR]
  rw [if_pos ⟨h1, h2, h3⟩]
theorem sumR_end {L : List Lk} {a s : Int} {I : List Int} {i : Nat} (h : I.length ≤ i) : sumR L a s (I.drop i) = (s, a, true) := by
  rw [List.drop_eq_nil_of_le h]; rfl
def okM (L : List Lk) : Prop := ∀ l ∈ L, -4503599627370496 ≤ l.2.2 ∧ l.2.2 ≤ 4503599627370496
instance (L : List Lk) : Decidable (okM L) := by unfold okM; infer_instance
theorem okM.at {L : List Lk} (h : okM L) {k : Nat} (hk : k < L.length) : -4503599627370496 ≤ (lk L k).2.2 ∧ (lk L k).2.2 ≤ 4503599627370496 := h _ (by simp [lk, List.getD, hk])
def c56 : Ctr := fSnI (fun _ L _ I => [(Duty.of (L.length ≤ 1000000)), (Duty.of (I.length ≤ 1000)), (Duty.of (okM L))]) (fun _ L a I => .tup [.a (vI (sumR L a 0 I).1), .a (vI (sumR L a 0 I).2.1), .a (.v (.bool (sumR L a 0 I).2.2))])
theorem c56_ok : Ctr.Ok Try.prog Γ 56 c56 := fSnI_ok (d := 0) (prog_ok CsOk.nil BsOk.nil false 0) (body_of Try.func56 rfl rfl) (fun _ _ _ _ => rfl) (by
  intro N L a I ⟨hL, hI, hM, _⟩
  simp only [Duty.of_p] at hL hI hM
  have hm : ∀ k, k < L.length → -4503599627370496 ≤ (lk L k).2.2 ∧ (lk L k).2.2 ≤ 4503599627370496 := fun k hk => hM.at hk
  repeat' ((conv => whnf); (first | apply And.intro | intro _))
  all_goals try (conv => whnf)
  refine ⟨Nat × Int × Int, fun x => x.1 ≤ I.length ∧ sumR L a 0 I = sumR L x.2.1 x.2.2 (I.drop x.1) ∧ -4503599627370496 * (x.1 : Int) ≤ x.2.2 ∧ x.2.2 ≤ 4503599627370496 * (x.1 : Int), fun x => ⟨slotsT 67 [1, 2, 3, 9, 10] [.a (vI x.2.1), .a (.sl 1 [] 0 I.length), .a (.p 2 [] 0 0), .a (vI x.2.2), .a (vI x.1)], [], [.arr 44 kL L false false, .arr 3 kI I false false, .box true [vI N, .sl 0 [] 0 L.length]]⟩, fun x => I.length - x.1, (0, a, 0), [], ⟨Nat.zero_le _, rfl, Int.le_refl _, Int.le_refl _⟩, ?_, ?_⟩
  · repeat' ((conv => whnf); (first | apply And.intro | intro _))
    all_goals first | rfl | trivial | exact Nat.le_of_ble_eq_true rfl | exact ⟨rfl, rfl, rfl⟩ | exact ⟨rfl, rfl, rfl, rfl⟩
  rintro ⟨i, c, s⟩ ⟨hi, hv, hs1, hs2⟩
  dsimp only at hi hv hs1 hs2
  rw [hv]
  repeat' ((conv => whnf); (first | apply And.intro | intro _))
  all_goals try (conv => whnf)
  all_goals try exact LexB.mk (by kernel_rfl)
  all_goals try exact ⟨Nat.le_of_ble_eq_true rfl⟩
  all_goals try exact ⟨rfl⟩
  all_goals try (refine Ob.mk ?_; (try simp only [Duty.of_p, inRQ]); subst_vars; (try simp only [getL, getI, getB, castL_rfl] at *); (try dsimp only [kL, kI, Tup, CK.ty] at *); (try simp only [getL, getI, getB, gi_nn, castL_rfl, Nat.zero_add, Nat.add_zero, Nat.sub_zero, Int.toNat_natCast, List.length_set, List.length_replicate, List.length_cons, List.length_nil, decide_eq_true_eq, decide_eq_false_iff_not, cap40, inR] at *); (all_goals first | omega | (split <;> omega)))
  all_goals subst_vars
  all_goals try simp only [getL, getI, Nat.zero_add, Int.toNat_natCast, decide_eq_true_eq, decide_eq_false_iff_not, bne_iff_ne, ne_eq, bne_eq_false_iff_eq] at *
  all_goals try first
    | (rw [sumR_no (by omega) (by omega)]; done)
    | (rw [sumR_end (by omega)]; done)
    | (rw [sumR_ne (by omega) (by assumption)]; done)
  all_goals have hmi := hm (gi I i).toNat (by omega)
  · refine ⟨?_⟩
    simp only [inRQ, Duty.of_p, inR]
    omega
  refine ⟨(i + 1, (lk L (gi I i).toNat).2.1, s + (lk L (gi I i).toNat).2.2), [], ⟨by show i + 1 ≤ I.length; omega, sumR_yes (by omega) (by omega) (by omega) (by assumption), by show -4503599627370496 * ((i + 1 : Nat) : Int) ≤ s + (lk L (gi I i).toNat).2.2; omega, by show s + (lk L (gi I i).toNat).2.2 ≤ 4503599627370496 * ((i + 1 : Nat) : Int); omega⟩, ?_, by show I.length - (i + 1) < I.length - i; omega⟩
  repeat' ((conv => whnf); (first | apply And.intro | intro _))
  all_goals first | rfl | trivial | exact Nat.le_of_ble_eq_true rfl | exact ⟨rfl, rfl, rfl⟩ | exact ⟨rfl, rfl, rfl, rfl⟩)
end Go.Proofs.Ytlmhkeoblgodiaa
end

section
/-
  Chapter 2: small functions of the specification. Printed by gen20.py.
-/
namespace Go.Proofs.Ytlmhkeoblgodiaa
open Go Go.Sy Go.Chn
set_option maxRecDepth 100000
set_option maxHeartbeats 1000000
set_option linter.unusedVariables false
set_option linter.unusedSimpArgs false
variable {Γ : Glob}
def c57 : Ctr := fSn (fun _ L _ => [(Duty.of (L.length ≤ 1000000))]) (fun N _ n => bl (nodeB N n))
theorem c57_ok : Ctr.Ok Try.prog Γ 57 c57 := fSn_ok (d := 0) (prog_ok CsOk.nil BsOk.nil false 0) (body_of Try.func57 rfl rfl) (fun _ _ _ => rfl) (by
  intro N L n _
  repeat' ((conv => whnf); (first | apply And.intro | intro _))
  all_goals try (conv => whnf)
  all_goals simp only [decide_eq_true_eq, decide_eq_false_iff_not] at *
  · unfold nodeB; rw [decide_eq_true (show 0 ≤ n by omega)]; rfl
  · unfold nodeB; rw [decide_eq_false (show ¬ 0 ≤ n by omega)]; rfl)
def numL (N : Int) : Nat → List Int → Bool
  | _, [] => true
  | i, x :: xs => if N < (i : Int) then true else if x < -1152921504606846976 ∨ 1152921504606846976 < x then false else numL N (i + 1) xs
theorem numL_no {N : Int} {I : List Int} {i : Nat} (h : i < I.length) (hn : (i : Int) ≤ N) (hb : gi I i < -1152921504606846976 ∨ 1152921504606846976 < gi I i) : numL N i (I.drop i) = false := by
  rw [drop_gi h, numL, if_neg (by omega), if_pos hb]
theorem numL_yes {N : Int} {I : List Int} {i : Nat} (h : i < I.length) (hn : (i : Int) ≤ N) (h1 : ¬ gi I i < -1152921504606846976) (h2 : ¬ gi I i > 1152921504606846976) : numL N i (I.drop i) = numL N (i + 1) (I.drop (i + 1)) := by
  rw [drop_gi h]; conv => lhs; rw [numL]
  rw [if_neg (by omega), if_neg (by omega)]
theorem numL_end {N : Int} {I : List Int} {i : Nat} (h : I.length ≤ i ∨ N < (i : Int)) : numL N i (I.drop i) = true := by
  rcases Nat.lt_or_ge i I.length with hl | hl
  · rw [drop_gi hl, numL, if_pos (by omega)]
  · rw [List.drop_eq_nil_of_le hl]; rfl
def numB (N : Int) (I : List Int) : Bool := numL N 0 I && ((I.length : Int) == N)
def c58 : Ctr := fSI (fun _ L I => [(Duty.of (L.length ≤ 1000000)), (Duty.of (I.length ≤ 1000000))]) (fun N _ I => bl (numB N I))
theorem c58_ok : Ctr.Ok Try.prog Γ 58 c58 := fSI_ok (d := 0) (prog_ok CsOk.nil BsOk.nil false 0) (body_of Try.func58 rfl rfl) (fun _ _ _ => rfl) (by
  intro N L I ⟨hL, hI, _⟩
  simp only [Duty.of_p] at hL hI
  unfold numB
  repeat' ((conv => whnf); (first | apply And.intro | intro _))
  all_goals try (conv => whnf)
  refine ⟨Nat, fun i => i ≤ I.length ∧ numL N 0 I = numL N i (I.drop i), fun i => ⟨slotsT 35 [1, 2, 5] [.a (.sl 1 [] 0 I.length), .a (.p 2 [] 0 0), .a (vI i)], [], [.arr 44 kL L false false, .arr 3 kI I false false, .box true [vI N, .sl 0 [] 0 L.length]]⟩, fun i => I.length - i, 0, [], ⟨Nat.zero_le _, rfl⟩, ?_, ?_⟩
  · repeat' ((conv => whnf); (first | apply And.intro | intro _))
    all_goals first | rfl | trivial | exact Nat.le_of_ble_eq_true rfl | exact ⟨rfl, rfl, rfl⟩ | exact ⟨rfl, rfl, rfl, rfl⟩
  rintro i ⟨hi, hv⟩
  rw [hv]
  repeat' ((conv => whnf); (first | apply And.intro | intro _))
  all_goals try (conv => whnf)
  all_goals try exact LexB.mk (by kernel_rfl)
  all_goals try exact ⟨Nat.le_of_ble_eq_true rfl⟩
  all_goals try exact ⟨rfl⟩
  all_goals try (refine Ob.mk ?_; (try simp only [Duty.of_p, inRQ]); subst_vars; (try simp only [getL, getI, getB, castL_rfl] at *); (try dsimp only [kL, kI, Tup, CK.ty] at *); (try simp only [getL, getI, getB, gi_nn, castL_rfl, Nat.zero_add, Nat.add_zero, Nat.sub_zero, Int.toNat_natCast, List.length_set, List.length_replicate, List.length_cons, List.length_nil, decide_eq_true_eq, decide_eq_false_iff_not, cap40, inR] at *); (all_goals first | omega | (split <;> omega)))
  all_goals subst_vars
  all_goals try simp only [getL, getI, Nat.zero_add, Int.toNat_natCast, decide_eq_true_eq, decide_eq_false_iff_not, bne_iff_ne, ne_eq, bne_eq_false_iff_eq, Bool.not_eq_true, Bool.not_eq_false, Bool.not_eq_true', Bool.not_eq_false'] at *
  all_goals try first
    | (rw [numL_no (by omega) (by omega) (.inl (by omega))]; rfl)
    | (rw [numL_no (by omega) (by omega) (.inr (by omega))]; rfl)
    | (rw [numL_end (.inl (by omega))]; rfl)
    | (rw [numL_end (.inr (by omega))]; rfl)
  refine ⟨i + 1, [], ⟨by omega, numL_yes (by omega) (by omega) (by omega) (by omega)⟩, ?_, by omega⟩
  repeat' ((conv => whnf); (first | apply And.intro | intro _))
  all_goals first | rfl | trivial | exact Nat.le_of_ble_eq_true rfl | exact ⟨rfl, rfl, rfl⟩ | exact ⟨rfl, rfl, rfl, rfl⟩)
def c23 : Ctr := fS (fun _ L => [(Duty.of (L.length ≤ cap40))]) (fun N L => .tup [.a (vI (checkF N L).1), .a (vI (checkF N L).2)])
theorem c23_ok : Ctr.Ok Try.prog Γ 23 c23 := fS_ok (d := 0) (prog_ok CsOk.nil BsOk.nil false 0) (body_of Try.func23 rfl rfl) (fun _ _ => rfl) (by
  intro N L ⟨hL, _⟩
  simp only [Duty.of_p] at hL
  have f1 : N < 1 → checkF N L = (1, -1) := fun h => by unfold checkF; rw [if_pos (.inl h)]
  have f2 : N > 60 → checkF N L = (1, -1) := fun h => by unfold checkF; rw [if_pos (.inr h)]
  have f3 : ¬ N < 1 → ¬ N > 60 → L.length > 300 → checkF N L = (2, -1) := fun h h' h2 => by unfold checkF; rw [if_neg (by omega), if_pos h2]
  have f4 : ¬ N < 1 → ¬ N > 60 → ¬ L.length > 300 → checkF N L = ckL N 0 L := fun h h' h2 => by unfold checkF; rw [if_neg (by omega), if_neg h2]
  generalize checkF N L = res at *
  repeat' ((conv => whnf); (first | apply And.intro | intro _))
  all_goals try (conv => whnf)
  all_goals try trivial
  all_goals try simp only [decide_eq_true_eq, decide_eq_false_iff_not] at *
  all_goals try subst_vars
  · rw [f1 (by omega)]
  · rw [f1 (by omega)]
  · rw [f2 (by omega)]
  · rw [f2 (by omega)]
  · rw [f3 (by omega) (by omega) (by omega)]
  · rw [f3 (by omega) (by omega) (by omega)]
  rw [f4 (by omega) (by omega) (by omega)]
  refine ⟨Nat, fun i => i ≤ L.length ∧ ckL N 0 L = ckL N i (L.drop i), fun i => ⟨slotsT 70 [1, 4] [.a (.p 1 [] 0 0), .a (vI i)], [], [.arr 44 kL L false false, .box true [vI N, .sl 0 [] 0 L.length]]⟩, fun i => L.length - i, 0, [], ⟨Nat.zero_le _, rfl⟩, ?_, ?_⟩
  · repeat' ((conv => whnf); (first | apply And.intro | intro _))
    all_goals first | rfl | trivial | exact Nat.le_of_ble_eq_true rfl | exact ⟨rfl, rfl, rfl⟩
  rintro i ⟨hi, hv⟩
  rw [hv]
  repeat' ((conv => whnf); (first | apply And.intro | intro _))
  all_goals try (conv => whnf)
  all_goals try trivial
  all_goals try exact LexB.mk (by kernel_rfl)
  all_goals try subst_vars
  all_goals try simp only [getL] at *
  all_goals try dsimp only [kL, Tup, CK.ty] at *
  all_goals try simp only [decide_eq_true_eq, decide_eq_false_iff_not, Nat.zero_add, Int.toNat_natCast, Bool.not_eq_true', Bool.not_eq_false', Bool.not_eq_true, Bool.not_eq_false, Bool.not_not, bne_iff_ne, ne_eq, beq_iff_eq, beq_eq_false_iff_ne] at *
  all_goals try first
    | exact ⟨by simp only [Duty.of_p]; omega⟩
    | exact ⟨by simp only [inRQ, inR]; omega⟩
    | (rw [drop_lk (show i < L.length by omega), ckL, if_pos (by simp [badL, nodeB]; omega)]; done)
    | (rw [List.drop_eq_nil_of_le (by omega), ckL]; done)
  refine ⟨i + 1, [], ⟨by omega, ?_⟩, ?_, by omega⟩
  · rw [drop_lk (show i < L.length by omega)]
    conv => lhs; rw [ckL]
    rw [if_neg (by simp [badL, nodeB]; omega)]
  repeat' ((conv => whnf); (first | apply And.intro | intro _))
  all_goals first | rfl | trivial | exact Nat.le_of_ble_eq_true rfl | exact ⟨rfl, rfl, rfl⟩ | exact ⟨rfl, rfl, rfl, rfl⟩)
def L34 : List (Nat × Ctr) := [(23, c23)]
theorem L34_ok : CsOk Try.prog Γ L34 := CsOk.nil.cons (body_of Try.func23 rfl rfl).fn c23_ok
def c34 : Ctr := fS (fun _ L => [(Duty.of (L.length ≤ 1000000))]) (fun N L => .a (vI (checkF N L).1))
theorem c34_ok : Ctr.Ok Try.prog Γ 34 c34 := fS_ok (d := 0) (prog_ok L34_ok BsOk.nil false 0) (body_of Try.func34 rfl rfl) (fun _ _ => rfl) (by
  intro N L ⟨hL, _⟩
  simp only [Duty.of_p] at hL
  repeat' ((conv => whnf); (first | apply And.intro | intro _))
  all_goals try (conv => whnf)
  all_goals subst_vars
  all_goals try first
    | rfl
    | exact ⟨rfl⟩
    | exact ⟨show L.length ≤ 1099511627776 by omega⟩)
def closB (L : List Lk) (I : List Int) : Bool := I.length != 0 && idxB L.length I && (let r := sumR L (lk L (gi I 0).toNat).1 0 I; r.2.2 && (r.2.1 == (lk L (gi I 0).toNat).1) && decide (r.1 < 0))
def L55 : List (Nat × Ctr) := [(54, c54), (56, c56)]
theorem L55_ok : CsOk Try.prog Γ L55 := (CsOk.nil.cons (body_of Try.func56 rfl rfl).fn c56_ok).cons (body_of Try.func54 rfl rfl).fn c54_ok
theorem idx0 {n : Nat} {I : List Int} (h : I.length ≠ 0) (hb : idxB n I = true) : 0 ≤ gi I 0 ∧ gi I 0 < (n : Int) := by
  cases I with
  | nil => exact absurd rfl h
  | cons i I =>
    simp only [idxB, Bool.and_eq_true, decide_eq_true_eq] at hb
    exact hb.1
theorem cl0 {L : List Lk} {I : List Int} (h : ((I.length : Int) == 0) = true) : closB L I = false := by
  have : I.length = 0 := by have := eq_of_beq h; omega
  simp [closB, this]
theorem cl1 {L : List Lk} {I : List Int} (h : (!idxB L.length I) = true) : closB L I = false := by
  simp only [Bool.not_eq_true'] at h
  simp [closB, h]
theorem cl3 {L : List Lk} {I : List Int} (h : ((sumR L (lk L (gi I 0).toNat).1 0 I).2.1 == (lk L (gi I 0).toNat).1) = false) : closB L I = false := by
  simp only [closB, h]; simp
theorem cl4 {L : List Lk} {I : List Int} (h : (sumR L (lk L (gi I 0).toNat).1 0 I).2.2 = false) : closB L I = false := by
  simp only [closB, h]; simp
theorem ne0 {n : Nat} (h : ((n : Int) == 0) = false) : n ≠ 0 := fun e => by rw [e] at h; cases h
theorem cl2 {L : List Lk} {I : List Int} (h0 : ((I.length : Int) == 0) = false) (h1 : (!idxB L.length I) = false) (h2 : ((sumR L (lk L (gi I 0).toNat).1 0 I).2.1 == (lk L (gi I 0).toNat).1) = true) (h3 : (sumR L (lk L (gi I 0).toNat).1 0 I).2.2 = true) :
    decide ((sumR L (lk L (gi I 0).toNat).1 0 I).1 < 0) = closB L I := by
  have h1' : idxB L.length I = true := by simpa using h1
  have h0' : (I.length != 0) = true := by simpa using ne0 h0
  simp only [closB, h0', h1', h2, h3]
  rfl
theorem ix55 {L : List Lk} {I : List Int} (h0 : ((I.length : Int) == 0) = false) (h1 : (!idxB L.length I) = false) : ((0 : Int) ≤ 0 ∧ (0 : Int) < I.length) ∧ (0 + Int.toNat 0 < I.length) ∧ (0 ≤ gi I 0 ∧ gi I 0 < (L.length : Int)) ∧ 0 + (gi I 0).toNat < L.length := by
  have h := ne0 h0
  have := idx0 h (show idxB L.length I = true by simpa using h1)
  omega
attribute [local irreducible] sumR idxB closB gi lk
def c55 : Ctr := fSI (fun _ L I => [(Duty.of (L.length ≤ 1000000)), (Duty.of (I.length ≤ 1000)), (Duty.of (okM L))]) (fun _ L I => bl (closB L I))
theorem c55_ok : Ctr.Ok Try.prog Γ 55 c55 := fSI_ok (d := 0) (prog_ok L55_ok BsOk.nil false 0) (body_of Try.func55 rfl rfl) (fun _ _ _ => rfl) (by
  intro N L I ⟨hL, hI, hM, _⟩
  simp only [Duty.of_p] at hL hI hM
  repeat' ((conv => whnf); (first | apply And.intro | intro _))
  all_goals try (conv => whnf)
  all_goals try exact LexB.mk (by kernel_rfl)
  all_goals subst_vars
  all_goals try simp only [getL, getI, castL_rfl, Nat.zero_add, Int.toNat_zero] at *
  all_goals try first
    | exact ⟨rfl⟩
    | exact ⟨show L.length ≤ 1000000 from hL⟩
    | exact ⟨show I.length ≤ 1000000 by omega⟩
    | exact ⟨show I.length ≤ 1000 from hI⟩
    | exact ⟨show okM L from hM⟩
    | exact ⟨(ix55 (by assumption) (by assumption)).1⟩
    | exact ⟨(ix55 (by assumption) (by assumption)).2.1⟩
    | exact ⟨(ix55 (by assumption) (by assumption)).2.2.1⟩
    | exact ⟨(ix55 (by assumption) (by assumption)).2.2.2⟩
    | exact ⟨trivial⟩
    | exact ⟨(Nat.zero_add _).symm ▸ (ix55 (by assumption) (by assumption)).2.2.2⟩
    | exact ⟨Nat.lt_of_le_of_lt (Nat.le_of_eq (Nat.zero_add _).symm) (ix55 (by assumption) (by assumption)).2.2.2⟩
    | exact cl0 (by assumption)
    | exact cl1 (by assumption)
    | exact cl2 (by assumption) (by assumption) (by assumption) (by assumption)
    | exact cl3 (by assumption)
    | exact cl4 (by assumption))
end Go.Proofs.Ytlmhkeoblgodiaa
end

section
/-
  Chapter 2: small functions: Solves, indices, walk. Printed by gen21.py.
-/
namespace Go.Proofs.Ytlmhkeoblgodiaa
open Go Go.Sy Go.Chn
set_option maxRecDepth 100000
set_option maxHeartbeats 1000000
set_option linter.unusedVariables false
set_option linter.unusedSimpArgs false
variable {Γ : Glob}
def frM (I : List Int) : Prop := ∀ x ∈ I, -1152921504606846976 ≤ x ∧ x ≤ 1152921504606846976
instance (I : List Int) : Decidable (frM I) := by unfold frM; infer_instance
theorem frM.at {I : List Int} (h : frM I) (k : Int) : -1152921504606846976 ≤ gi I k ∧ gi I k ≤ 1152921504606846976 := by
  unfold gi
  rcases Nat.lt_or_ge k.toNat I.length with hk | hk
  · exact h _ (by simp [List.getD, hk])
  · simp [List.getD, List.getElem?_eq_none hk]
def solL (I : List Int) : List Lk → Bool
  | [] => true
  | l :: L => if gi I l.2.1 > gi I l.1 + l.2.2 then false else solL I L
theorem solL_no {I : List Int} {L : List Lk} {i : Nat} (h : i < L.length) (hb : gi I (lk L i).2.1 > gi I (lk L i).1 + (lk L i).2.2) : solL I (L.drop i) = false := by
  rw [drop_lk h, solL, if_pos hb]
theorem solL_yes {I : List Int} {L : List Lk} {i : Nat} (h : i < L.length) (hb : ¬ gi I (lk L i).2.1 > gi I (lk L i).1 + (lk L i).2.2) : solL I (L.drop i) = solL I (L.drop (i + 1)) := by
  rw [drop_lk h]; conv => lhs; rw [solL]
  rw [if_neg hb]
theorem solL_end {I : List Int} {L : List Lk} {i : Nat} (h : L.length ≤ i) : solL I (L.drop i) = true := by
  rw [List.drop_eq_nil_of_le h]; rfl
def solB (N : Nat) (L : List Lk) (I : List Int) : Bool := (I.length == N) && ((gi I 0 == 0) && solL I L)
def c43 : Ctr := fSI (fun N L I => [(Duty.of (N = N.toNat)), askD N.toNat L, (Duty.of (I.length ≤ 1000)), (Duty.of (frM I))]) (fun N L I => bl (solB N.toNat L I))
theorem sol0 {N : Nat} {L : List Lk} {I : List Int} (h : ((I.length : Int) != (N : Int)) = true) : solB N L I = false := by
  have : (I.length == N) = false := by simp only [bne_iff_ne, ne_eq] at h; simp; omega
  simp [solB, this]
theorem sol1 {N : Nat} {L : List Lk} {I : List Int} (h : (gi I 0 != 0) = true) : solB N L I = false := by
  have : (gi I 0 == 0) = false := by simpa using h
  simp [solB, this]
theorem sol2 {N : Nat} {L : List Lk} {I : List Int} (h : ((I.length : Int) != (N : Int)) = false) (h2 : (gi I 0 != 0) = false) : solB N L I = solL I L := by
  have h1 : (I.length == N) = true := by simp only [bne_eq_false_iff_eq] at h; simp; omega
  have h2 : (gi I 0 == 0) = true := by simpa using h2
  simp [solB, h1, h2]
theorem len43 {n m : Nat} (h : ((n : Int) != (m : Int)) = false) : n = m := by simp only [bne_eq_false_iff_eq] at h; omega
attribute [local irreducible] solB solL
theorem c43_ok : Ctr.Ok Try.prog Γ 43 c43 := fSI_ok (d := 0) (prog_ok CsOk.nil BsOk.nil false 0) (body_of Try.func43 rfl rfl) (fun _ _ _ => rfl) (by
  intro N L I ⟨hN, ha, hI, hM, _⟩
  simp only [Duty.of_p] at hN hI hM
  replace ha : AskL N.toNat L := ha
  generalize N.toNat = M at *
  subst hN
  have hn := ha.n
  have hl3 := ha.l
  have hlk : ∀ (i : Nat), i < L.length → (inN M (lk L i).1 ∧ inN M (lk L i).2.1) ∧ -4503599627370496 ≤ (lk L i).2.2 ∧ (lk L i).2.2 ≤ 4503599627370496 := fun i hi => by
    have hm : lk L i ∈ L := by simp [lk, List.getD, hi]
    exact ⟨ha.ok.nd _ hm, ha.ok.ms _ hm⟩
  repeat' ((conv => whnf); (first | apply And.intro | intro _))
  all_goals try (conv => whnf)
  all_goals try exact LexB.mk (by kernel_rfl)
  all_goals subst_vars
  all_goals try first
    | exact ⟨rfl⟩
    | exact sol0 (by assumption)
    | exact sol1 (by assumption)
    | exact ⟨by have := len43 (n := I.length) (m := M) (by assumption); show (0 : Int) ≤ 0 ∧ (0 : Int) < (I.length : Int); omega⟩
    | exact ⟨by have := len43 (n := I.length) (m := M) (by assumption); show 0 + Int.toNat 0 < I.length; omega⟩
  rename_i hA hB
  have hlen := len43 hA
  rw [sol2 hA hB]
  clear hA hB
  refine ⟨Nat, fun i => i ≤ L.length ∧ solL I L = solL I (L.drop i), fun i => ⟨slotsT 44 [1, 2, 5] [.a (.sl 1 [] 0 I.length), .a (.p 2 [] 0 0), .a (vI i)], [], [.arr 44 kL L false false, .arr 3 kI I false false, .box true [vI M, .sl 0 [] 0 L.length]]⟩, fun i => L.length - i, 0, [], ⟨Nat.zero_le _, rfl⟩, ?_, ?_⟩
  · repeat' ((conv => whnf); (first | apply And.intro | intro _))
    all_goals first | rfl | trivial | exact Nat.le_of_ble_eq_true rfl | exact ⟨rfl, rfl, rfl⟩ | exact ⟨rfl, rfl, rfl, rfl⟩
  rintro i ⟨hi, hv⟩
  rw [hv]
  rcases Nat.lt_or_ge i L.length with hi1 | hi1
  · obtain ⟨⟨⟨n1, n2⟩, ⟨n3, n4⟩⟩, m1, m2⟩ := hlk i hi1
    have g1 := hM.at (lk L i).1
    have g2 := hM.at (lk L i).2.1
    repeat' ((conv => whnf); (first | apply And.intro | intro _))
    all_goals try (conv => whnf)
    all_goals try exact LexB.mk (by kernel_rfl)
    all_goals subst_vars
    all_goals try exact (key_ge (i := i) (n := L.length) hi1 (by assumption)).elim
    all_goals try exact ⟨Nat.le_of_ble_eq_true rfl⟩
    all_goals try exact ⟨rfl⟩
    all_goals try (refine Ob.mk ?_; (try simp only [Duty.of_p, inRQ]); subst_vars; (try simp only [getL, getI, getB, castL_rfl] at *); (try dsimp only [kL, kI, Tup, CK.ty] at *); (try simp only [getL, getI, getB, gi_nn, castL_rfl, Nat.zero_add, Nat.add_zero, Nat.sub_zero, Int.toNat_natCast, List.length_set, List.length_replicate, List.length_cons, List.length_nil, decide_eq_true_eq, decide_eq_false_iff_not, cap40, inR] at *); (all_goals first | omega | (split <;> omega)))
    all_goals subst_vars
    all_goals try simp only [getL, getI, gi_nn, Nat.zero_add, Int.toNat_natCast, decide_eq_true_eq, decide_eq_false_iff_not] at *
    all_goals try first
      | exact solL_no (by omega) (by assumption)
    refine ⟨i + 1, [], ⟨by omega, solL_yes hi1 (by assumption)⟩, ?_, by omega⟩
    repeat' ((conv => whnf); (first | apply And.intro | intro _))
    all_goals first | rfl | trivial | exact Nat.le_of_ble_eq_true rfl | exact ⟨rfl, rfl, rfl⟩ | exact ⟨rfl, rfl, rfl, rfl⟩
  · repeat' ((conv => whnf); (first | apply And.intro | intro _))
    all_goals try (conv => whnf)
    all_goals try exact LexB.mk (by kernel_rfl)
    all_goals subst_vars
    all_goals try exact (key_lt (i := i) (n := L.length) (by omega) (by assumption)).elim
    all_goals subst_vars
    all_goals try first
      | exact solL_end hi1
      | exact ⟨rfl⟩)
end Go.Proofs.Ytlmhkeoblgodiaa
end

section
/-
  Chapter 2: indices, walk. Printed by gen22.py.
-/
namespace Go.Proofs.Ytlmhkeoblgodiaa
open Go Go.Sy Go.Chn
set_option maxRecDepth 100000
set_option maxHeartbeats 1000000
set_option linter.unusedVariables false
set_option linter.unusedSimpArgs false
variable {Γ : Glob}
noncomputable def bs84 : List (Nat × Body) := [(81, bo Try.f81), (90, bo Try.f90), (92, bo Try.f92)]
theorem bs84_ok : BsOk Try.prog bs84 := ((BsOk.nil.cons (body_bo Try.func92 rfl rfl)).cons (body_bo Try.func90 rfl rfl)).cons (body_bo Try.func81 rfl rfl)
def idxE (L : List Lk) (I : List Int) : Int := if I.length > 80 then 2 else if idxB L.length I = true then 0 else 1
theorem ie0 {L : List Lk} {I : List Int} (h : I.length > 80) : idxE L I = 2 := by unfold idxE; rw [if_pos h]
theorem ie1 {L : List Lk} {I : List Int} (h : ¬ I.length > 80) (h2 : idxB L.length I = false) : idxE L I = 1 := by unfold idxE; rw [if_neg h, h2]; rfl
theorem ie2 {L : List Lk} {I : List Int} (h : ¬ I.length > 80) (h2 : idxB L.length I = true) : idxE L I = 0 := by unfold idxE; rw [if_neg h, h2]; rfl
def c84 : Ctr := fSI (fun _ L I => [(Duty.of (L.length ≤ 1000000)), (Duty.of (I.length ≤ 1000000))]) (fun _ L I => .a (vI (idxE L I)))
theorem c84_ok : Ctr.Ok Try.prog Γ 84 c84 := fSI_ok (d := 3) (prog_ok CsOk.nil bs84_ok false 0) (body_of Try.func84 rfl rfl) (fun _ _ _ => rfl) (by
  intro N L I ⟨hL, hI, _⟩
  simp only [Duty.of_p] at hL hI
  have f0 := @ie0 L I
  have f1 := @ie1 L I
  have f2 := @ie2 L I
  generalize idxE L I = res at *
  repeat' ((conv => whnf); (first | apply And.intro | intro _))
  all_goals try (conv => whnf)
  all_goals subst_vars
  all_goals simp only [decide_eq_true_eq, decide_eq_false_iff_not] at *
  · rw [f0 (by omega)]
  have h80 : ¬ I.length > 80 := by omega
  refine ⟨Nat, fun i => i ≤ I.length ∧ idxB L.length I = idxB L.length (I.drop i), fun i => ⟨slotsT 19 [0, 1, 7, 8] [.a (.sl 1 [] 0 I.length), .a (.fn 92 [2]), .a (vI I.length), .a (vI i)], [slotsT 9 [] [], slotsT 11 [] []], [.arr 44 kL L false false, .arr 3 kI I false false, .box true [vI N, .sl 0 [] 0 L.length]]⟩, fun i => I.length - i, 0, [], ⟨Nat.zero_le _, rfl⟩, ?_, ?_⟩
  · repeat' ((conv => whnf); (first | apply And.intro | intro _))
    all_goals first | rfl | trivial | exact Nat.le_of_ble_eq_true rfl | exact ⟨rfl, rfl, rfl⟩ | exact ⟨rfl, rfl, rfl, rfl⟩ | (rename_i r hr; obtain rfl := List.mem_singleton.1 hr; exact Nat.le_of_ble_eq_true rfl) | exact ⟨rfl, rfl⟩
  rintro i ⟨hi, hv⟩
  repeat' ((conv => whnf); (first | apply And.intro | intro _))
  all_goals try (conv => whnf)
  all_goals try exact LexB.mk (by kernel_rfl)
  all_goals try exact ⟨Nat.le_of_ble_eq_true rfl⟩
  all_goals try exact ⟨rfl⟩
  all_goals try (refine Ob.mk ?_; (try simp only [Duty.of_p, inRQ]); subst_vars; (try simp only [getL, getI, getB, castL_rfl] at *); (try dsimp only [kL, kI, Tup, CK.ty] at *); (try simp only [getL, getI, getB, gi_nn, castL_rfl, Nat.zero_add, Nat.add_zero, Nat.sub_zero, Int.toNat_natCast, List.length_set, List.length_replicate, List.length_cons, List.length_nil, decide_eq_true_eq, decide_eq_false_iff_not, cap40, inR] at *); (all_goals first | omega | (split <;> omega)))
  all_goals subst_vars
  all_goals try simp only [getL, getI, Nat.zero_add, Int.toNat_natCast, decide_eq_true_eq, decide_eq_false_iff_not] at *
  all_goals try first
    | (exfalso; omega)
    | exact (f1 h80 (hv.trans (idx_no (by omega) (.inl (by assumption))))).symm
    | exact (f1 h80 (hv.trans (idx_no (by omega) (.inr (by assumption))))).symm
    | exact (f2 h80 (hv.trans (idx_end (by omega)))).symm
  refine ⟨i + 1, [], ⟨by omega, hv.trans (idx_yes (by omega) (by omega) (by omega))⟩, ?_, by omega⟩
  repeat' ((conv => whnf); (first | apply And.intro | intro _))
  all_goals first | rfl | trivial | exact Nat.le_of_ble_eq_true rfl | exact ⟨rfl, rfl, rfl⟩ | exact ⟨rfl, rfl, rfl, rfl⟩ | (rename_i r hr; obtain rfl := List.mem_singleton.1 hr; exact Nat.le_of_ble_eq_true rfl) | exact ⟨rfl, rfl⟩)
end Go.Proofs.Ytlmhkeoblgodiaa
end

section
/-
  Chapter 2: walk. Printed by gen23.py.
-/
namespace Go.Proofs.Ytlmhkeoblgodiaa
open Go Go.Sy Go.Chn
set_option maxRecDepth 100000
set_option maxHeartbeats 1000000
set_option linter.unusedVariables false
set_option linter.unusedSimpArgs false
variable {Γ : Glob}
theorem idx_in {n : Nat} {I : List Int} {i : Nat} (h : i < I.length) (hb : idxB n (I.drop i) = true) : (0 ≤ gi I i ∧ gi I i < (n : Int)) ∧ idxB n (I.drop (i + 1)) = true := by
  rw [drop_gi h, idxB] at hb
  simp only [Bool.and_eq_true, decide_eq_true_eq] at hb
  exact hb
def c85 : Ctr := fSnI (fun _ L _ I => [(Duty.of (L.length ≤ 1000000)), (Duty.of (I.length ≤ 1000)), (Duty.of (okM L)), (Duty.of (idxB L.length I = true))]) (fun _ L a I => .tup [.a (vI (sumR L a 0 I).2.1), .a (vI (sumR L a 0 I).1), .a (.v (.bool (sumR L a 0 I).2.2))])
theorem c85_ok : Ctr.Ok Try.prog Γ 85 c85 := fSnI_ok (d := 0) (prog_ok CsOk.nil BsOk.nil false 0) (body_of Try.func85 rfl rfl) (fun _ _ _ _ => rfl) (by
  intro N L a I ⟨hL, hI, hM, hX, _⟩
  simp only [Duty.of_p] at hL hI hM hX
  have hm : ∀ k, k < L.length → -4503599627370496 ≤ (lk L k).2.2 ∧ (lk L k).2.2 ≤ 4503599627370496 := fun k hk => hM.at hk
  repeat' ((conv => whnf); (first | apply And.intro | intro _))
  all_goals try (conv => whnf)
  all_goals subst_vars
  refine ⟨Nat × Int × Int, fun x => x.1 ≤ I.length ∧ sumR L a 0 I = sumR L x.2.1 x.2.2 (I.drop x.1) ∧ idxB L.length (I.drop x.1) = true ∧ -4503599627370496 * (x.1 : Int) ≤ x.2.2 ∧ x.2.2 ≤ 4503599627370496 * (x.1 : Int), fun x => ⟨slotsT 37 [1, 3, 9, 13, 14, 15] [.a (vI x.2.1), .a (.p 2 [] 0 0), .a (vI x.2.2), .a (.sl 1 [] 0 I.length), .a (vI I.length), .a (vI x.1)], [], [.arr 44 kL L false false, .arr 3 kI I false false, .box true [vI N, .sl 0 [] 0 L.length]]⟩, fun x => I.length - x.1, (0, a, 0), [], ⟨Nat.zero_le _, rfl, hX, Int.le_refl _, Int.le_refl _⟩, ?_, ?_⟩
  · repeat' ((conv => whnf); (first | apply And.intro | intro _))
    all_goals first | rfl | trivial | exact Nat.le_of_ble_eq_true rfl | exact ⟨rfl, rfl, rfl⟩ | exact ⟨rfl, rfl, rfl, rfl⟩
  rintro ⟨i, c, s⟩ ⟨hi, hv, hx, hs1, hs2⟩
  dsimp only at hi hv hs1 hs2 hx
  rw [hv]
  rcases Nat.lt_or_ge i I.length with hi1 | hi1
  · obtain ⟨⟨x1, x2⟩, hx'⟩ := idx_in hi1 hx
    have hmi := hm (gi I i).toNat (by omega)
    repeat' ((conv => whnf); (first | apply And.intro | intro _))
    all_goals try (conv => whnf)
    all_goals try exact LexB.mk (by kernel_rfl)
    all_goals subst_vars
    all_goals try exact (key_ge (i := i) (n := I.length) hi1 (by assumption)).elim
    all_goals try exact ⟨Nat.le_of_ble_eq_true rfl⟩
    all_goals try exact ⟨rfl⟩
    all_goals try (refine Ob.mk ?_; (try simp only [Duty.of_p, inRQ]); subst_vars; (try simp only [getL, getI, getB, castL_rfl] at *); (try dsimp only [kL, kI, Tup, CK.ty] at *); (try simp only [getL, getI, getB, gi_nn, castL_rfl, Nat.zero_add, Nat.add_zero, Nat.sub_zero, Int.toNat_natCast, List.length_set, List.length_replicate, List.length_cons, List.length_nil, decide_eq_true_eq, decide_eq_false_iff_not, cap40, inR] at *); (all_goals first | omega | (split <;> omega)))
    all_goals subst_vars
    all_goals try simp only [getL, getI, Nat.zero_add, Int.toNat_natCast, decide_eq_true_eq, decide_eq_false_iff_not, bne_iff_ne, ne_eq, bne_eq_false_iff_eq] at *
    all_goals try first
      | (rw [sumR_ne hi1 (by assumption)]; done)
    refine ⟨(i + 1, (lk L (gi I i).toNat).2.1, s + (lk L (gi I i).toNat).2.2), [], ⟨by show i + 1 ≤ I.length; omega, sumR_yes hi1 x1 x2 (by assumption), hx', by show -4503599627370496 * ((i + 1 : Nat) : Int) ≤ s + (lk L (gi I i).toNat).2.2; omega, by show s + (lk L (gi I i).toNat).2.2 ≤ 4503599627370496 * ((i + 1 : Nat) : Int); omega⟩, ?_, by show I.length - (i + 1) < I.length - i; omega⟩
    repeat' ((conv => whnf); (first | apply And.intro | intro _))
    all_goals first | rfl | trivial | exact Nat.le_of_ble_eq_true rfl | exact ⟨rfl, rfl, rfl⟩ | exact ⟨rfl, rfl, rfl, rfl⟩
  · repeat' ((conv => whnf); (first | apply And.intro | intro _))
    all_goals try (conv => whnf)
    all_goals try exact LexB.mk (by kernel_rfl)
    all_goals subst_vars
    all_goals try exact (key_lt (i := i) (n := I.length) (by omega) (by assumption)).elim
    all_goals try first
      | (rw [sumR_end hi1]; done)
      | exact ⟨rfl⟩
      | trivial)
end Go.Proofs.Ytlmhkeoblgodiaa
end

section
/-
  Chapter 2: CheckClash and CheckChain. Printed by gen24.py.
-/
namespace Go.Proofs.Ytlmhkeoblgodiaa
open Go Go.Sy Go.Chn
set_option maxRecDepth 100000
set_option maxHeartbeats 1000000
set_option linter.unusedVariables false
set_option linter.unusedSimpArgs false
variable {Γ : Glob}
theorem ckL_ok {N : Int} : ∀ {L : List Lk} {i : Nat}, (ckL N i L).1 = 0 → okM L
  | [], _, _ => fun l hl => by cases hl
  | l :: L, i, h => by
    rw [ckL] at h
    split at h
    · cases h
    · rename_i hb
      intro x hx
      rcases List.mem_cons.1 hx with rfl | hx
      · simp [badL] at hb
        omega
      · exact ckL_ok h x hx
theorem checkF_ok {N : Int} {L : List Lk} (h : (checkF N L).1 = 0) : (1 ≤ N ∧ N ≤ 60) ∧ L.length ≤ 300 ∧ okM L := by
  unfold checkF at h
  split at h
  · cases h
  · split at h
    · cases h
    · exact ⟨by omega, by omega, ckL_ok h⟩
def ccF (N : Int) (L : List Lk) (I : List Int) : Int := if (checkF N L).1 ≠ 0 then (checkF N L).1 else if idxE L I ≠ 0 then idxE L I else if closB L I = true then 0 else 8
theorem cc0 {N : Int} {L : List Lk} {I : List Int} (h : ((checkF N L).1 != 0) = true) : ccF N L I = (checkF N L).1 := by
  unfold ccF; rw [if_pos (by simpa using h)]
theorem cc1 {N : Int} {L : List Lk} {I : List Int} (h : ((checkF N L).1 != 0) = false) (h2 : (idxE L I != 0) = true) : ccF N L I = idxE L I := by
  unfold ccF; rw [if_neg (by simpa using h), if_pos (by simpa using h2)]
theorem cc2 {N : Int} {L : List Lk} {I : List Int} (h : ((checkF N L).1 != 0) = false) (h2 : (idxE L I != 0) = false) (h3 : closB L I = false) : ccF N L I = 8 := by
  unfold ccF; rw [if_neg (by simpa using h), if_neg (by simpa using h2), if_neg (by simp [h3])]
theorem cc3 {N : Int} {L : List Lk} {I : List Int} (h : ((checkF N L).1 != 0) = false) (h2 : (idxE L I != 0) = false) (h3 : closB L I = true) : ccF N L I = 0 := by
  unfold ccF; rw [if_neg (by simpa using h), if_neg (by simpa using h2), if_pos h3]
theorem idxE0 {L : List Lk} {I : List Int} (h : (idxE L I != 0) = false) : I.length ≤ 80 ∧ idxB L.length I = true := by
  have h : idxE L I = 0 := by simpa using h
  unfold idxE at h
  split at h
  · cases h
  · split at h
    · exact ⟨by omega, by assumption⟩
    · cases h
theorem cb1 {L : List Lk} {I : List Int} (h : (!(sumR L (lk L (gi I 0).toNat).1 0 I).2.2) = true) : closB L I = false := cl4 (by simpa using h)
theorem cb2 {L : List Lk} {I : List Int} (h : ((sumR L (lk L (gi I 0).toNat).1 0 I).2.1 != (lk L (gi I 0).toNat).1) = true) : closB L I = false := cl3 (by simpa using h)
theorem cb3 {L : List Lk} {I : List Int} (h : decide ((sumR L (lk L (gi I 0).toNat).1 0 I).1 ≥ 0) = true) : closB L I = false := by
  have : decide ((sumR L (lk L (gi I 0).toNat).1 0 I).1 < 0) = false := by
    have := of_decide_eq_true h
    exact decide_eq_false (by omega)
  simp only [closB, this]; simp
theorem cb4 {L : List Lk} {I : List Int} (h0 : ((I.length : Int) == 0) = false) (hx : (idxE L I != 0) = false) (h2 : ((sumR L (lk L (gi I 0).toNat).1 0 I).2.1 != (lk L (gi I 0).toNat).1) = false) (h3 : decide ((sumR L (lk L (gi I 0).toNat).1 0 I).1 ≥ 0) = false) (h4 : (!(sumR L (lk L (gi I 0).toNat).1 0 I).2.2) = false) : closB L I = true := by
  have h1 := (idxE0 hx).2
  have := of_decide_eq_false h3
  rw [← cl2 h0 (by simpa using h1) (by simpa using h2) (by simpa using h4)]
  exact decide_eq_true (by omega)
attribute [local irreducible] sumR idxB closB gi lk idxE checkF ccF
def L52 : List (Nat × Ctr) := [(22, c22), (84, c84), (85, c85)]
theorem L52_ok : CsOk Try.prog Γ L52 := ((CsOk.nil.cons (body_of Try.func85 rfl rfl).fn c85_ok).cons (body_of Try.func84 rfl rfl).fn c84_ok).cons (body_of Try.func22 rfl rfl).fn c22_ok
def c52 : Ctr := fSI (fun _ L I => [(Duty.of (L.length ≤ 1000000)), (Duty.of (I.length ≤ 1000000))]) (fun N L I => .a (vI (ccF N L I)))
theorem c52_ok : Ctr.Ok Try.prog Γ 52 c52 := fSI_ok (d := 0) (prog_ok L52_ok BsOk.nil false 0) (body_of Try.func52 rfl rfl) (fun _ _ _ => rfl) (by
  intro N L I ⟨hL, hI, _⟩
  simp only [Duty.of_p] at hL hI
  repeat' ((conv => whnf); (first | apply And.intro | intro _))
  all_goals try (conv => whnf)
  all_goals try exact LexB.mk (by kernel_rfl)
  all_goals subst_vars
  all_goals try simp only [getL, getI, castL_rfl, Nat.zero_add, Int.toNat_zero] at *
  all_goals try first
    | exact ⟨rfl⟩
    | exact ⟨trivial⟩
    | exact ⟨show L.length ≤ 1099511627776 by omega⟩
    | exact ⟨show L.length ≤ 1000000 from hL⟩
    | exact ⟨show I.length ≤ 1000000 from hI⟩
    | exact (cc0 (by assumption)).symm
    | exact (cc1 (by assumption) (by assumption)).symm
  all_goals have hc : ((checkF N L).1 != 0) = false := by assumption
  all_goals have hz : (idxE L I != 0) = false := by assumption
  all_goals have hz2 := idxE0 hz
  all_goals have hc2 := checkF_ok (show (checkF N L).1 = 0 by simpa using hc)
  all_goals first
    | exact (cc2 hc hz (cl0 (by assumption))).symm
    | exact (cc2 hc hz (cb1 (by assumption))).symm
    | exact (cc2 hc hz (cb2 (by assumption))).symm
    | exact (cc2 hc hz (cb3 (by assumption))).symm
    | exact (cc3 hc hz (cb4 (by assumption) hz (by assumption) (by assumption) (by assumption))).symm
    | exact ⟨show I.length ≤ 1000 by omega⟩
    | exact ⟨show okM L from hc2.2.2⟩
    | exact ⟨show idxB L.length I = true from hz2.2⟩
    | (have hi := ix55 (L := L) (I := I) (by assumption) (by simpa using hz2.2)
       first
       | exact ⟨hi.1⟩
       | exact ⟨hi.2.2.1⟩
       | exact ⟨Nat.lt_of_le_of_lt (Nat.le_of_eq (Nat.zero_add _).symm) hi.2.1⟩
       | exact ⟨Nat.lt_of_le_of_lt (Nat.le_of_eq (Nat.zero_add _).symm) hi.2.2.2⟩))
end Go.Proofs.Ytlmhkeoblgodiaa
end

section
/-
  Chapter 2: CheckChain. Printed by gen25.py.
-/
namespace Go.Proofs.Ytlmhkeoblgodiaa
open Go Go.Sy Go.Chn
set_option maxRecDepth 100000
set_option maxHeartbeats 1000000
set_option linter.unusedVariables false
set_option linter.unusedSimpArgs false
variable {Γ : Glob}
def ckcF (N : Int) (L : List Lk) (a b : Int) (I : List Int) : Int × Int :=
  if (checkF N L).1 ≠ 0 then (0, (checkF N L).1) else if nodeB N a = false ∨ nodeB N b = false then (0, 1) else if idxE L I ≠ 0 then (0, idxE L I) else
    if (sumR L a 0 I).2.2 = false ∨ (sumR L a 0 I).2.1 ≠ b then (0, 8) else ((sumR L a 0 I).1, 0)
theorem cc50 {N a b : Int} {L : List Lk} {I : List Int} (h : ((checkF N L).1 != 0) = true) : ckcF N L a b I = (0, (checkF N L).1) := by
  unfold ckcF; rw [if_pos (by simpa using h)]
theorem cc51 {N a b : Int} {L : List Lk} {I : List Int} (h : ((checkF N L).1 != 0) = false) (h2 : nodeB N a = false ∨ nodeB N b = false) : ckcF N L a b I = (0, 1) := by
  unfold ckcF; rw [if_neg (by simpa using h), if_pos h2]
theorem cc52 {N a b : Int} {L : List Lk} {I : List Int} (h : ((checkF N L).1 != 0) = false) (h2 : nodeB N a = true) (h3 : nodeB N b = true) (h4 : (idxE L I != 0) = true) : ckcF N L a b I = (0, idxE L I) := by
  unfold ckcF; rw [if_neg (by simpa using h), if_neg (by simp [h2, h3]), if_pos (by simpa using h4)]
theorem cc53 {N a b : Int} {L : List Lk} {I : List Int} (h : ((checkF N L).1 != 0) = false) (h2 : nodeB N a = true) (h3 : nodeB N b = true) (h4 : (idxE L I != 0) = false) (h5 : (sumR L a 0 I).2.2 = false ∨ (sumR L a 0 I).2.1 ≠ b) : ckcF N L a b I = (0, 8) := by
  unfold ckcF; rw [if_neg (by simpa using h), if_neg (by simp [h2, h3]), if_neg (by simpa using h4), if_pos h5]
theorem cc54 {N a b : Int} {L : List Lk} {I : List Int} (h : ((checkF N L).1 != 0) = false) (h2 : nodeB N a = true) (h3 : nodeB N b = true) (h4 : (idxE L I != 0) = false) (h5 : (sumR L a 0 I).2.2 = true) (h6 : (sumR L a 0 I).2.1 = b) : ckcF N L a b I = ((sumR L a 0 I).1, 0) := by
  unfold ckcF; rw [if_neg (by simpa using h), if_neg (by simp [h2, h3]), if_neg (by simpa using h4), if_neg (by simp [h5, h6])]
theorem cd1 {N a b : Int} {L : List Lk} {I : List Int} (h : ((checkF N L).1 != 0) = false) (h2 : (!nodeB N a) = true) : ckcF N L a b I = (0, 1) := cc51 h (.inl (by simpa using h2))
theorem cd1b {N a b : Int} {L : List Lk} {I : List Int} (h : ((checkF N L).1 != 0) = false) (h2 : (!nodeB N b) = true) : ckcF N L a b I = (0, 1) := cc51 h (.inr (by simpa using h2))
theorem cd2 {N a b : Int} {L : List Lk} {I : List Int} (h : ((checkF N L).1 != 0) = false) (h2 : (!nodeB N a) = false) (h3 : (!nodeB N b) = false) (h4 : (idxE L I != 0) = true) : ckcF N L a b I = (0, idxE L I) := cc52 h (by simpa using h2) (by simpa using h3) h4
theorem cd3 {N a b : Int} {L : List Lk} {I : List Int} (h : ((checkF N L).1 != 0) = false) (h2 : (!nodeB N a) = false) (h3 : (!nodeB N b) = false) (h4 : (idxE L I != 0) = false) (h5 : (!(sumR L a 0 I).2.2) = true) : ckcF N L a b I = (0, 8) := cc53 h (by simpa using h2) (by simpa using h3) h4 (.inl (by simpa using h5))
theorem cd3b {N a b : Int} {L : List Lk} {I : List Int} (h : ((checkF N L).1 != 0) = false) (h2 : (!nodeB N a) = false) (h3 : (!nodeB N b) = false) (h4 : (idxE L I != 0) = false) (h5 : ((sumR L a 0 I).2.1 != b) = true) : ckcF N L a b I = (0, 8) := cc53 h (by simpa using h2) (by simpa using h3) h4 (.inr (by simpa using h5))
theorem cd4 {N a b : Int} {L : List Lk} {I : List Int} (h : ((checkF N L).1 != 0) = false) (h2 : (!nodeB N a) = false) (h3 : (!nodeB N b) = false) (h4 : (idxE L I != 0) = false) (h5 : (!(sumR L a 0 I).2.2) = false) (h6 : ((sumR L a 0 I).2.1 != b) = false) : ckcF N L a b I = ((sumR L a 0 I).1, 0) := cc54 h (by simpa using h2) (by simpa using h3) h4 (by simpa using h5) (by simpa using h6)
attribute [local irreducible] sumR idxB closB gi lk idxE checkF ckcF nodeB
def L53 : List (Nat × Ctr) := (64, c64) :: L52
theorem L53_ok : CsOk Try.prog Γ L53 := L52_ok.cons (body_of Try.func64 rfl rfl).fn c64_ok
def c53 : Ctr := fSnnI (fun _ L _ _ I => [(Duty.of (L.length ≤ 1000000)), (Duty.of (I.length ≤ 1000000))]) (fun N L a b I => .tup [.a (vI (ckcF N L a b I).1), .a (vI (ckcF N L a b I).2)])
theorem c53_ok : Ctr.Ok Try.prog Γ 53 c53 := fSnnI_ok (d := 0) (prog_ok L53_ok BsOk.nil false 0) (body_of Try.func53 rfl rfl) (fun _ _ _ _ _ => rfl) (by
  intro N L a b I ⟨hL, hI, _⟩
  simp only [Duty.of_p] at hL hI
  repeat' ((conv => whnf); (first | apply And.intro | intro _))
  all_goals try (conv => whnf)
  all_goals try exact LexB.mk (by kernel_rfl)
  all_goals subst_vars
  all_goals try simp only [getL, getI, castL_rfl, Nat.zero_add, Int.toNat_zero] at *
  all_goals try first
    | exact ⟨rfl⟩
    | exact ⟨trivial⟩
    | exact ⟨show L.length ≤ 1099511627776 by omega⟩
    | exact ⟨show L.length ≤ 1000000 from hL⟩
    | exact ⟨show I.length ≤ 1000000 from hI⟩
    | exact (congrArg Prod.fst (cc50 (by assumption))).symm
    | exact (congrArg Prod.snd (cc50 (by assumption))).symm
    | exact (congrArg Prod.fst (cd1 (by assumption) (by assumption))).symm
    | exact (congrArg Prod.snd (cd1 (by assumption) (by assumption))).symm
    | exact (congrArg Prod.fst (cd1b (by assumption) (by assumption))).symm
    | exact (congrArg Prod.snd (cd1b (by assumption) (by assumption))).symm
    | exact (congrArg Prod.fst (cd2 (by assumption) (by assumption) (by assumption) (by assumption))).symm
    | exact (congrArg Prod.snd (cd2 (by assumption) (by assumption) (by assumption) (by assumption))).symm
    | exact (congrArg Prod.fst (cd3 (by assumption) (by assumption) (by assumption) (by assumption) (by assumption))).symm
    | exact (congrArg Prod.snd (cd3 (by assumption) (by assumption) (by assumption) (by assumption) (by assumption))).symm
    | exact (congrArg Prod.fst (cd3b (by assumption) (by assumption) (by assumption) (by assumption) (by assumption))).symm
    | exact (congrArg Prod.snd (cd3b (by assumption) (by assumption) (by assumption) (by assumption) (by assumption))).symm
    | exact (congrArg Prod.fst (cd4 (by assumption) (by assumption) (by assumption) (by assumption) (by assumption) (by assumption))).symm
    | exact (congrArg Prod.snd (cd4 (by assumption) (by assumption) (by assumption) (by assumption) (by assumption) (by assumption))).symm
  all_goals have hc2 := checkF_ok (show (checkF N L).1 = 0 by have : ((checkF N L).1 != 0) = false := by assumption
                                                              simpa using this)
  all_goals have hz2 := idxE0 (L := L) (I := I) (by assumption)
  all_goals try first
    | exact ⟨show I.length ≤ 1000 by omega⟩
    | exact ⟨show okM L from hc2.2.2⟩
    | exact ⟨show idxB L.length I = true from hz2.2⟩)
end Go.Proofs.Ytlmhkeoblgodiaa
end

section
/-
  Chapter 2: Fits. Printed by gen26.py.
-/
namespace Go.Proofs.Ytlmhkeoblgodiaa
open Go Go.Sy Go.Chn
set_option maxRecDepth 100000
set_option maxHeartbeats 1000000
set_option linter.unusedVariables false
set_option linter.unusedSimpArgs false
variable {Γ : Glob}
def frB : List Int → Bool
  | [] => true
  | x :: I => if x < -1152921504606846976 ∨ 1152921504606846976 < x then false else frB I
theorem frB_no {I : List Int} {i : Nat} (h : i < I.length) (hb : gi I i < -1152921504606846976 ∨ gi I i > 1152921504606846976) : frB (I.drop i) = false := by
  rw [drop_gi h, frB, if_pos (by omega)]
theorem frB_yes {I : List Int} {i : Nat} (h : i < I.length) (h1 : ¬ gi I i < -1152921504606846976) (h2 : ¬ gi I i > 1152921504606846976) : frB (I.drop i) = frB (I.drop (i + 1)) := by
  rw [drop_gi h]; conv => lhs; rw [frB]
  rw [if_neg (by omega)]
theorem frB_end {I : List Int} {i : Nat} (h : I.length ≤ i) : frB (I.drop i) = true := by
  rw [List.drop_eq_nil_of_le h]; rfl
theorem frB_iff : ∀ {I : List Int}, frB I = true ↔ frM I
  | [] => ⟨fun _ x hx => (by cases hx), fun _ => rfl⟩
  | x :: I => by
    rw [frB]
    constructor
    · intro h
      split at h
      · cases h
      · intro y hy
        rcases List.mem_cons.1 hy with rfl | hy
        · omega
        · exact (frB_iff.1 h) y hy
    · intro h
      have := h x (by simp)
      rw [if_neg (by omega)]
      exact frB_iff.2 fun y hy => h y (by simp [hy])
noncomputable def bs81 : List (Nat × Body) := [(90, bo Try.f90), (82, bo Try.f82)]
theorem bs81_ok : BsOk Try.prog bs81 := (BsOk.nil.cons (body_bo Try.func82 rfl rfl)).cons (body_bo Try.func90 rfl rfl)
def c81a : Ctr := .fn fun args rg => match args with
  | [.a x, .a (.fn 82 [])] => (match arrOf 3 kI rg x with | some (q, I) => some (q ++ [(Duty.of (I.length ≤ 1000000))], bl (!frB I)) | none => none)
  | _ => none
theorem w81 {I : List Int} (hI : I.length ≤ 1000000) (fn : Func) {c : Code} (hc : Try.f81.body = some c) :
    evTop (tabs.env [] bs81 false 0) 3 ⟨Try.f81.ntmps, c, Try.f81.results.toList⟩ [.a (.sl 0 [] 0 I.length), .a (.fn 82 [])] [.arr 3 kI I false false] (fun x _ => eqT x (bl (!frB I))) := by
  obtain rfl := Option.some.inj hc
  generalize hres : frB I = res
  repeat' ((conv => whnf); (first | apply And.intro | intro _))
  all_goals try (conv => whnf)
  all_goals subst_vars
  refine ⟨Nat, fun i => i ≤ I.length ∧ frB I = frB (I.drop i), fun i => ⟨slotsT 19 [0, 1, 7, 8] [.a (.sl 0 [] 0 I.length), .a (.fn 82 []), .a (vI I.length), .a (vI i)], [slotsT 9 [] []], [.arr 3 kI I false false]⟩, fun i => I.length - i, 0, [], ⟨Nat.zero_le _, rfl⟩, ?_, ?_⟩
  · repeat' ((conv => whnf); (first | apply And.intro | intro _))
    all_goals first | rfl | trivial | exact Nat.le_of_ble_eq_true rfl | exact ⟨rfl, rfl, rfl⟩ | exact ⟨rfl, rfl, rfl, rfl⟩ | (rename_i r hr; obtain rfl := List.mem_singleton.1 hr; exact Nat.le_of_ble_eq_true rfl) | exact ⟨rfl, rfl⟩ | (rename_i r hr; cases hr)
  rintro i ⟨hi, hv⟩
  repeat' ((conv => whnf); (first | apply And.intro | intro _))
  all_goals try (conv => whnf)
  all_goals try exact LexB.mk (by kernel_rfl)
  all_goals try exact ⟨Nat.le_of_ble_eq_true rfl⟩
  all_goals try exact ⟨rfl⟩
  all_goals try (refine Ob.mk ?_; (try simp only [Duty.of_p, inRQ]); subst_vars; (try simp only [getL, getI, getB, castL_rfl] at *); (try dsimp only [kL, kI, Tup, CK.ty] at *); (try simp only [getL, getI, getB, gi_nn, castL_rfl, Nat.zero_add, Nat.add_zero, Nat.sub_zero, Int.toNat_natCast, List.length_set, List.length_replicate, List.length_cons, List.length_nil, decide_eq_true_eq, decide_eq_false_iff_not, cap40, inR] at *); (all_goals first | omega | (split <;> omega)))
  all_goals subst_vars
  all_goals try simp only [getL, getI, Nat.zero_add, Int.toNat_natCast, decide_eq_true_eq, decide_eq_false_iff_not] at *
  all_goals try first
    | (rw [hv, frB_no (by omega) (.inl (by assumption))]; exact decide_eq_true (by omega))
    | (rw [hv, frB_no (by omega) (.inr (by assumption))]; exact decide_eq_true (by omega))
    | (rw [hv, frB_end (by omega)]; rfl)
  refine ⟨i + 1, [], ⟨by omega, hv.trans (frB_yes (by omega) (by assumption) (by assumption))⟩, ?_, by omega⟩
  repeat' ((conv => whnf); (first | apply And.intro | intro _))
  all_goals first | rfl | trivial | exact Nat.le_of_ble_eq_true rfl | exact ⟨rfl, rfl, rfl⟩ | exact ⟨rfl, rfl, rfl, rfl⟩ | (rename_i r hr; obtain rfl := List.mem_singleton.1 hr; exact Nat.le_of_ble_eq_true rfl) | exact ⟨rfl, rfl⟩ | (rename_i r hr; cases hr)
theorem c81a_ok : Ctr.Ok Try.prog Γ 81 c81a := Ctr.fn_ok (d := 3) (prog_ok CsOk.nil bs81_ok false 0) (body_of Try.func81 rfl rfl) (by
  intro args rg q t hF hq
  split at hF
  next x =>
    split at hF
    next q0 I hx =>
      obtain ⟨rfl, rfl⟩ := Prod.mk.inj (Option.some.inj hF); clear hF
      obtain ⟨hq0, hI, _⟩ := (obl_append _ _).1 hq
      simp only [Duty.of_p] at hI
      obtain ⟨e, he⟩ := pas_arr (by simp [kI]) hx hq0
      obtain ⟨p1, p2⟩ := he [e] 0 1 rfl (by omega)
      refine ⟨rfl, [e], [.a (.sl 0 [] 0 I.length), .a (.fn 82 [])], [.arr 3 kI I false false], ⟨⟨p1, ⟨[], rfl, trivial⟩, trivial⟩, fun r g hg => ?_⟩, w81 hI Try.f81 rfl⟩
      match r, hg with
      | 0, hg => obtain rfl := Option.some.inj hg; exact p2
    next => cases hF
  next => cases hF)
def fitF (N : Int) (L : List Lk) (I : List Int) : Bool × Int := if (checkF N L).1 ≠ 0 then (false, (checkF N L).1) else if (I.length : Int) ≠ N ∨ frB I = false then (false, 1) else (solL I L && (gi I 0 == 0), 0)
theorem ft0 {N : Int} {L : List Lk} {I : List Int} (h : ((checkF N L).1 != 0) = true) : fitF N L I = (false, (checkF N L).1) := by
  unfold fitF; rw [if_pos (by simpa using h)]
theorem ft1 {N : Int} {L : List Lk} {I : List Int} (h : ((checkF N L).1 != 0) = false) (h2 : ((I.length : Int) != N) = true) : fitF N L I = (false, 1) := by
  unfold fitF; rw [if_neg (by simpa using h), if_pos (.inl (by simpa using h2))]
theorem ft2 {N : Int} {L : List Lk} {I : List Int} (h : ((checkF N L).1 != 0) = false) (h2 : (!frB I) = true) : fitF N L I = (false, 1) := by
  unfold fitF; rw [if_neg (by simpa using h), if_pos (.inr (by simpa using h2))]
theorem ft3 {N : Int} {L : List Lk} {I : List Int} (h : ((checkF N L).1 != 0) = false) (h2 : ((I.length : Int) != N) = false) (h3 : (!frB I) = false) : fitF N L I = (solL I L && (gi I 0 == 0), 0) := by
  unfold fitF; rw [if_neg (by simpa using h), if_neg (by simp at h2 h3; simp [h2, h3])]
theorem lk_mem' {L : List Lk} {i : Nat} (hi : i < L.length) : lk L i ∈ L := by simp [lk, List.getD, hi]
theorem ckL_all {N : Int} : ∀ {L : List Lk} {i : Nat}, (ckL N i L).1 = 0 → ∀ l ∈ L, badL N l = false
  | [], _, _ => fun l hl => (by cases hl)
  | l :: L, i, h => by
    rw [ckL] at h
    split at h
    · cases h
    · rename_i hb
      intro x hx
      rcases List.mem_cons.1 hx with rfl | hx
      · simpa using hb
      · exact ckL_all h x hx
theorem ask_of {N : Int} {L : List Lk} (h : (checkF N L).1 = 0) : AskL N.toNat L := by
  obtain ⟨hn, hl, _⟩ := checkF_ok h
  have hb : ∀ l ∈ L, badL N l = false := by
    unfold checkF at h
    rw [if_neg (by omega), if_neg (by omega)] at h
    exact ckL_all h
  have hb' : ∀ l ∈ L, (0 ≤ l.1 ∧ l.1 < N) ∧ (0 ≤ l.2.1 ∧ l.2.1 < N) ∧ l.1 ≠ l.2.1 ∧ -4503599627370496 ≤ l.2.2 ∧ l.2.2 ≤ 4503599627370496 := fun l hl => by
    have h := hb l hl
    simp [badL, nodeB] at h
    omega
  refine ⟨by omega, hl, ⟨by omega, fun l hl => ?_, fun l hl => (hb' l hl).2.2.1, fun l hl => (hb' l hl).2.2.2⟩⟩
  have h := hb' l hl

  omega
def L47 : List (Nat × Ctr) := [(22, c22), (81, c81a)]
theorem L47_ok : CsOk Try.prog Γ L47 := (CsOk.nil.cons (body_of Try.func81 rfl rfl).fn c81a_ok).cons (body_of Try.func22 rfl rfl).fn c22_ok
attribute [local irreducible] frB solL checkF fitF
def c47 : Ctr := fSI (fun _ L I => [(Duty.of (L.length ≤ 1000000)), (Duty.of (I.length ≤ 1000000))]) (fun N L I => .tup [.a (.v (.bool (fitF N L I).1)), .a (vI (fitF N L I).2)])
theorem c47_ok : Ctr.Ok Try.prog Γ 47 c47 := fSI_ok (d := 0) (prog_ok L47_ok BsOk.nil false 0) (body_of Try.func47 rfl rfl) (fun _ _ _ => rfl) (by
  intro N L I ⟨hL, hI, _⟩
  simp only [Duty.of_p] at hL hI
  have g0 := @ft0 N L I
  have g1 := @ft1 N L I
  have g2 := @ft2 N L I
  have g3 := @ft3 N L I
  generalize fitF N L I = res at *
  repeat' ((conv => whnf); (first | apply And.intro | intro _))
  all_goals try (conv => whnf)
  all_goals try exact LexB.mk (by kernel_rfl)
  all_goals subst_vars
  all_goals try simp only [getL, getI, castL_rfl, Nat.zero_add, Int.toNat_zero] at *
  all_goals try first
    | exact ⟨rfl⟩
    | exact ⟨trivial⟩
    | exact ⟨show L.length ≤ 1099511627776 by omega⟩
    | exact ⟨show L.length ≤ 1000000 from hL⟩
    | exact ⟨show I.length ≤ 1000000 from hI⟩
    | (rw [g0 (by assumption)]; done)
    | exact (congrArg Prod.snd (g0 (by assumption))).symm
    | (rw [g1 (by assumption) (by assumption)]; done)
    | (rw [g2 (by assumption) (by assumption)]; done)
  rename_i hc hA hB
  replace hc : ((checkF N L).1 != 0) = false := hc
  replace hB : (!frB I) = false := hB
  have ha := ask_of (N := N) (L := L) (by simpa using hc)
  have hM : frM I := frB_iff.1 (by simpa using hB)
  rw [g3 hc hA hB]
  clear g0 g1 g2 g3 hc hB
  have hlen : (I.length : Int) = N := by simpa using hA
  subst hlen
  clear hA
  have hn := ha.n
  have hl3 := ha.l
  have hlk : ∀ (i : Nat), i < L.length → (inN I.length (lk L i).1 ∧ inN I.length (lk L i).2.1) ∧ -4503599627370496 ≤ (lk L i).2.2 ∧ (lk L i).2.2 ≤ 4503599627370496 := fun i hi => by
    have hm : lk L i ∈ L := lk_mem' hi
    exact ⟨ha.ok.nd _ hm, ha.ok.ms _ hm⟩
  refine ⟨Nat, fun i => i ≤ L.length ∧ solL I L = solL I (L.drop i), fun i => ⟨slotsT 53 [1, 2, 28, 29, 30] [.a (.sl 1 [] 0 I.length), .a (.p 2 [] 0 0), .a (.sl 0 [] 0 L.length), .a (vI L.length), .a (vI i)], [], [.arr 44 kL L false false, .arr 3 kI I false false, .box true [vI I.length, .sl 0 [] 0 L.length]]⟩, fun i => L.length - i, 0, [], ⟨Nat.zero_le _, rfl⟩, ?_, ?_⟩
  · repeat' ((conv => whnf); (first | apply And.intro | intro _))
    all_goals first | rfl | trivial | exact Nat.le_of_ble_eq_true rfl | exact ⟨rfl, rfl, rfl⟩ | exact ⟨rfl, rfl, rfl, rfl⟩ | (rename_i r hr; obtain rfl := List.mem_singleton.1 hr; exact Nat.le_of_ble_eq_true rfl) | exact ⟨rfl, rfl⟩ | (rename_i r hr; cases hr)
  rintro i ⟨hi, hv⟩
  rw [hv]
  rcases Nat.lt_or_ge i L.length with hi1 | hi1
  · obtain ⟨⟨⟨n1, n2⟩, ⟨n3, n4⟩⟩, m1, m2⟩ := hlk i hi1
    have q1 := hM.at (lk L i).1
    have q2 := hM.at (lk L i).2.1
    repeat' ((conv => whnf); (first | apply And.intro | intro _))
    all_goals try (conv => whnf)
    all_goals try exact LexB.mk (by kernel_rfl)
    all_goals subst_vars
    all_goals try exact (key_ge (i := i) (n := L.length) hi1 (by assumption)).elim
    all_goals try exact ⟨Nat.le_of_ble_eq_true rfl⟩
    all_goals try exact ⟨rfl⟩
    all_goals try (refine Ob.mk ?_; (try simp only [Duty.of_p, inRQ]); subst_vars; (try simp only [getL, getI, getB, castL_rfl] at *); (try dsimp only [kL, kI, Tup, CK.ty] at *); (try simp only [getL, getI, getB, gi_nn, castL_rfl, Nat.zero_add, Nat.add_zero, Nat.sub_zero, Int.toNat_natCast, List.length_set, List.length_replicate, List.length_cons, List.length_nil, decide_eq_true_eq, decide_eq_false_iff_not, cap40, inR] at *); (all_goals first | omega | (split <;> omega)))
    all_goals subst_vars
    all_goals try simp only [getL, getI, gi_nn, Nat.zero_add, Int.toNat_natCast, decide_eq_true_eq, decide_eq_false_iff_not] at *
    all_goals try first
      | (rw [solL_no (I := I) (L := L) (i := i) hi1 (by assumption)]; done)
      | (rw [solL_no (I := I) (L := L) (i := i) hi1 (by assumption)]; rfl)
    refine ⟨i + 1, [], ⟨by omega, solL_yes hi1 (by assumption)⟩, ?_, by omega⟩
    repeat' ((conv => whnf); (first | apply And.intro | intro _))
    all_goals first | rfl | trivial | exact Nat.le_of_ble_eq_true rfl | exact ⟨rfl, rfl, rfl⟩ | exact ⟨rfl, rfl, rfl, rfl⟩ | (rename_i r hr; obtain rfl := List.mem_singleton.1 hr; exact Nat.le_of_ble_eq_true rfl) | exact ⟨rfl, rfl⟩ | (rename_i r hr; cases hr)
  · repeat' ((conv => whnf); (first | apply And.intro | intro _))
    all_goals try (conv => whnf)
    all_goals try exact LexB.mk (by kernel_rfl)
    all_goals subst_vars
    all_goals try exact (key_lt (i := i) (n := L.length) (by omega) (by assumption)).elim
    all_goals try first
      | exact ⟨rfl⟩
      | exact ⟨show (0 : Int) ≤ 0 ∧ (0 : Int) < (I.length : Int) by omega⟩
      | exact ⟨show 0 + Int.toNat 0 < I.length by omega⟩
      | (rw [solL_end hi1]; rfl)
      | trivial)
end Go.Proofs.Ytlmhkeoblgodiaa
end
