/-
  Texts of the claims on chapter 2: Yc. No condition: lemmas and contracts.
-/
import Derived.Test.YtlmhkeoblgodiaaYb
set_option linter.all false
section
/-
  Chapter 2: slices.Clone.
-/
namespace Go.Proofs.Ytlmhkeoblgodiaa
open Go Go.Sy Go.Chn
set_option maxRecDepth 100000
set_option linter.unusedVariables false
variable {Γ : Glob}
def c79 (cc : Bool) : Ctr := .new fun args rg K => match args with
  | [.a x] => (match lksOf rg x with | some (q, L) => oblige cc (q ++ [(Duty.of (L.length ≤ 1000000))]) (K ⟨[.arr 44 kL L true true], .a (.sl 0 [] 0 L.length)⟩) | none => False)
  | _ => False
theorem c79_ok (cc : Bool) : Ctr.Ok Try.prog Γ 79 (c79 cc) := Ctr.new_okW (d := 0) (prog_ok CsOk.nil BsOk.nil false 0) (body_of Try.func79 rfl rfl) (by
  intro args rg K hC
  split at hC
  next x =>
    split at hC
    next q L hx =>
      rw [oblige_iff, obl_append] at hC
      obtain ⟨⟨hq, hlen, _⟩, hK⟩ := hC
      simp only [Duty.of_p] at hlen
      obtain ⟨is, hp, hr⟩ := pas_lks hx hq
      refine ⟨is, [.a (.sl 0 [] 0 L.length)], [.arr 44 kL L false false], ⟨⟨hp, trivial⟩, hr⟩, resW K, ?_, fun x st h => h⟩
      clear hx hq hp hr
      repeat' ((conv => whnf); (first | apply And.intro | intro _))
      all_goals try (conv => whnf)
      · have h0 : L = [] := by
          rcases Nat.eq_zero_or_pos L.length with h | h
          · exact List.eq_nil_of_length_eq_zero h
          · rename_i h1 h2; rw [h1 h] at h2; cases h2
        subst h0
        exact resW.void 44 kL (by simp [kL]) (.base ⟨_, [1], hK, ⟨rfl, rfl, by simp, trivial⟩, rfl, rfl, rfl, rfl, rfl⟩)
      · exact ⟨Nat.le_of_eq (Nat.zero_add _)⟩
      · exact ⟨show L.length * 3 ≤ 1099511627776 by omega⟩
      · rename_i ys hys
        obtain rfl : L = ys := by rw [← hys]; exact List.take_length.symm
        exact .base ⟨_, [1], hK, ⟨rfl, rfl, by simp, trivial⟩, rfl, rfl, rfl, rfl, rfl⟩
    next => exact hC.elim
  next => exact hC.elim)
end Go.Proofs.Ytlmhkeoblgodiaa
end

section
/-
  Chapter 2: With.
-/
namespace Go.Proofs.Ytlmhkeoblgodiaa
open Go Go.Sy Go.Chn
set_option maxRecDepth 100000
set_option maxHeartbeats 4000000
set_option linter.unusedVariables false
variable {Γ : Glob}
def withF (N : Int) (L M : List Lk) : (Int × List Lk) × Int :=
  if (checkF N L).1 ≠ 0 then ((0, []), (checkF N L).1) else if (checkF N (L ++ M)).1 ≠ 0 then ((0, []), (checkF N (L ++ M)).1) else ((N, L ++ M), 0)
def t45 : OT := (.take 0 (.take 2 (.take 5 (.alt 1 (.alt 3 (.alt 4 (.alt 6 (.alt 7 (.alt 8 (.alt 9 .fin .fin) .fin) (.alt 8 (.alt 7 (.alt 9 .fin .fin) .fin) .fin)) (.alt 8 (.alt 6 (.alt 7 (.alt 9 .fin .fin) .fin) .fin) .fin)) (.alt 8 (.alt 4 (.alt 6 (.alt 7 (.alt 9 .fin .fin) .fin) .fin) .fin) .fin)) (.alt 8 (.alt 3 (.alt 4 (.alt 6 (.alt 7 (.alt 9 .fin .fin) .fin) .fin) .fin) .fin) .fin)) (.alt 3 (.alt 1 (.alt 4 (.alt 6 (.alt 7 (.alt 8 (.alt 9 .fin .fin) .fin) (.alt 8 (.alt 7 (.alt 9 .fin .fin) .fin) .fin)) (.alt 8 (.alt 6 (.alt 7 (.alt 9 .fin .fin) .fin) .fin) .fin)) (.alt 8 (.alt 4 (.alt 6 (.alt 7 (.alt 9 .fin .fin) .fin) .fin) .fin) .fin)) (.alt 4 (.alt 1 (.alt 6 (.alt 7 (.alt 8 (.alt 9 .fin .fin) .fin) (.alt 8 (.alt 7 (.alt 9 .fin .fin) .fin) .fin)) (.alt 8 (.alt 6 (.alt 7 (.alt 9 .fin .fin) .fin) .fin) .fin)) (.alt 6 (.alt 1 (.alt 7 (.alt 8 (.alt 9 .fin .fin) .fin) (.alt 8 (.alt 7 (.alt 9 .fin .fin) .fin) .fin)) (.alt 8 (.alt 1 (.alt 7 (.alt 9 .fin .fin) .fin) .fin) .fin)) (.alt 8 (.alt 1 (.alt 6 (.alt 7 (.alt 9 .fin .fin) .fin) .fin) (.alt 6 (.alt 1 (.alt 7 (.alt 9 .fin .fin) .fin) .fin) .fin)) .fin))) (.alt 8 (.alt 1 (.alt 4 (.alt 6 (.alt 7 (.alt 9 .fin .fin) .fin) .fin) .fin) (.alt 4 (.alt 1 (.alt 6 (.alt 7 (.alt 9 .fin .fin) .fin) .fin) (.alt 6 (.alt 1 (.alt 7 (.alt 9 .fin .fin) .fin) .fin) .fin)) .fin)) .fin))) (.alt 8 (.alt 1 (.alt 3 (.alt 4 (.alt 6 (.alt 7 (.alt 9 .fin .fin) .fin) .fin) .fin) .fin) (.alt 3 (.alt 1 (.alt 4 (.alt 6 (.alt 7 (.alt 9 .fin .fin) .fin) .fin) .fin) (.alt 4 (.alt 1 (.alt 6 (.alt 7 (.alt 9 .fin .fin) .fin) .fin) (.alt 6 (.alt 1 (.alt 7 (.alt 9 .fin .fin) .fin) .fin) .fin)) .fin)) .fin)) .fin))))))
def L45 : List (Nat × Ctr) := [(22, c22), (79, c79 false)]
theorem L45_ok : CsOk Try.prog Γ L45 := (CsOk.nil.cons (body_of Try.func79 rfl rfl).fn (c79_ok _)).cons (body_of Try.func22 rfl rfl).fn c22_ok
noncomputable def e45 : Env := { tabs.env L45 [] false 0 with tree := fun id => match Nat.beq id 4 with | true => some t45 | false => none }
theorem e45_ok : ProgOk Try.prog Γ e45 := (prog_ok L45_ok BsOk.nil false 0).trees _
def sysR (N : Int) (L : List Lk) (r : List C1) : Res := ⟨[.arr 44 kL L true true], .tup (.agg [vI N, .sl 0 [] 0 L.length] :: r)⟩
def c45 (cc : Bool) : Ctr := .new fun args rg K => match args with
  | [.agg [.v (.int .i64 N), x], .a y] => (match arrOf 44 kL rg x, arrOf 44 kL rg y with
     | some (q, L), some (q', M) => oblige cc (q ++ (q' ++ [(Duty.of (L.length ≤ 1000000)), (Duty.of (M.length ≤ 1000000))])) (K (sysR (withF N L M).1.1 (withF N L M).1.2 [.a (vI (withF N L M).2)]))
     | _, _ => False)
  | _ => False
theorem w45a {N : Int} {L : List Lk} (M : List Lk) (h : ((checkF N L).1 != 0) = true) : withF N L M = ((0, []), (checkF N L).1) := by
  unfold withF; rw [if_pos (by simpa using h)]
theorem w45b {N : Int} {L M : List Lk} (h : ((checkF N L).1 != 0) = false) (h2 : ((checkF N (L ++ M)).1 != 0) = true) : withF N L M = ((0, []), (checkF N (L ++ M)).1) := by
  unfold withF; rw [if_neg (by simpa using h), if_pos (by simpa using h2)]
theorem w45c {N : Int} {L M : List Lk} (h : ((checkF N L).1 != 0) = false) (h2 : ((checkF N (L ++ M)).1 != 0) = false) : withF N L M = ((N, L ++ M), 0) := by
  unfold withF; rw [if_neg (by simpa using h), if_neg (by simpa using h2)]
theorem y45 {L M ys : List Lk} (h : List.drop 0 L ++ List.take M.length (List.drop 0 M) = ys) : ys = L ++ M := by
  rw [← h, List.drop_zero, List.drop_zero, List.take_length]
theorem k45e {K : Res → Prop} {m : Int} {N : Int} {L M : List Lk} {x : Tm} {st : St} (h : withF N L M = ((0, []), m)) (hK : K (sysR (withF N L M).1.1 (withF N L M).1.2 [.a (vI (withF N L M).2)]))
    (hx : x.mapA (At.vd st.rg.length) = .tup [.agg [vI 0, .sl st.rg.length [] 0 0], .a (vI m)]) : resW K x st := by
  rw [h] at hK
  refine .void 44 kL (by simp [kL]) ?_
  rw [hx]
  refine .base ⟨_, [st.rg.length], hK, ⟨?_, rfl, by simp, trivial⟩, rfl, ?_⟩
  · simp [St.push, List.getD]; rfl
  · exact ⟨⟨⟨rfl, rfl⟩, ⟨rfl, rfl, rfl, rfl⟩, trivial⟩, ⟨rfl, rfl⟩, trivial⟩
theorem k45c {K : Res → Prop} {N : Int} {L M : List Lk} {x : Tm} {st : St} {i : Nat} (h : withF N L M = ((N, L ++ M), 0)) (hK : K (sysR (withF N L M).1.1 (withF N L M).1.2 [.a (vI (withF N L M).2)]))
    (hx : x = .tup [.agg [vI N, .sl i [] 0 (L.length + M.length)], .a (vI 0)]) (hi : st.rg.getD i .dead = .arr 44 kL (L ++ M) true true) : resW K x st := by
  rw [h] at hK
  rw [← List.length_append] at hx
  subst hx
  refine .base ⟨_, [i], hK, ⟨hi, rfl, by simp, trivial⟩, rfl, ?_⟩
  exact ⟨⟨⟨rfl, rfl⟩, ⟨rfl, rfl, rfl, rfl⟩, trivial⟩, ⟨rfl, rfl⟩, trivial⟩
theorem c45_ok (cc : Bool) : Ctr.Ok Try.prog Γ 45 (c45 cc) := Ctr.new_okW (d := 0) e45_ok (body_of Try.func45 rfl rfl) (by
  intro args rg K hC
  split at hC
  next N x y =>
    split at hC
    next q L q' M hx hy =>
      rw [oblige_iff, obl_append, obl_append] at hC
      obtain ⟨⟨hq, hq', hl1, hl2, _⟩, hK⟩ := hC
      simp only [Duty.of_p] at hl1 hl2
      obtain ⟨e, he⟩ := pas_arr (by simp [kL]) hx hq
      obtain ⟨e', he'⟩ := pas_arr (by simp [kL]) hy hq'
      obtain ⟨p1, p2⟩ := he [e, e'] 0 2 rfl (by omega)
      obtain ⟨p3, p4⟩ := he' [e, e'] 1 2 rfl (by omega)
      refine ⟨[e, e'], [.agg [vI N, .sl 0 [] 0 L.length], .a (.sl 1 [] 0 M.length)], [.arr 44 kL L false false, .arr 44 kL M false false], ⟨⟨⟨rfl, p1, trivial⟩, p3, trivial⟩, fun r g hg => ?_⟩, resW K, ?_, fun x st h => h⟩
      · match r, hg with
        | 0, hg => obtain rfl := Option.some.inj hg; exact p2
        | 1, hg => obtain rfl := Option.some.inj hg; exact p4
      · clear hx hy hq hq' p1 p2 p3 p4 he he' e e' q q'
        repeat' ((conv => whnf); (first | apply And.intro | intro _))
        all_goals try (conv => whnf)
        all_goals try exact LexT.mk (by kernel_rfl)
        all_goals try first
          | trivial
          | exact ⟨rfl⟩
          | exact ⟨show L.length ≤ 1000000 from hl1⟩
          | exact ⟨show L.length ≤ 1099511627776 by omega⟩
          | exact ⟨Nat.le_of_eq (Nat.zero_add _)⟩
          | exact ⟨Nat.zero_add _⟩
          | exact ⟨show (L.length + M.length) * 3 ≤ 1099511627776 by omega⟩
        all_goals try (obtain rfl := y45 ‹List.drop 0 L ++ List.take M.length (List.drop 0 M) = _›)
        all_goals try first
          | exact ⟨show (L ++ M).length ≤ 1099511627776 by rw [List.length_append]; omega⟩
          | exact ⟨show L.length + M.length = (L ++ M).length by rw [List.length_append]⟩
        all_goals subst_vars
        all_goals first
          | exact k45e (w45a M (by assumption)) hK rfl
          | exact k45e (w45b (by assumption) (by assumption)) hK rfl
          | exact k45c (i := 4) (w45c (by assumption) (by assumption)) hK rfl rfl
          | exact k45c (i := 5) (w45c (by assumption) (by assumption)) hK rfl rfl
          | exact k45c (i := 4) (w45c (by assumption) (by assumption)) hK rfl rfl
    next => exact hC.elim
  next => exact hC.elim)
end Go.Proofs.Ytlmhkeoblgodiaa
end

section
/-
  Chapter 2: runs at the example's numbers, by the kernel: what sanity asks.
-/
namespace Go.Proofs.Ytlmhkeoblgodiaa
open Go Go.Sy Go.Chn
set_option maxRecDepth 100000
set_option maxHeartbeats 4000000
set_option linter.unusedVariables false
variable {Γ : Glob}
theorem csA_ok : CsOk Try.prog Γ csA := ((((((CsOk.nil.cons (body_of Try.func75 rfl rfl).fn c75p_ok).cons (body_of Try.func78 rfl rfl).fn c78_ok).cons (body_of Try.func67 rfl rfl).fn c67_ok).cons (body_of Try.func74 rfl rfl).fn c74_ok).cons (body_of Try.func72 rfl rfl).fn c72c_ok).cons (body_of Try.func65 rfl rfl).fn c65c_ok).cons (body_of Try.func22 rfl rfl).fn c22_ok
theorem bsA_ok : BsOk Try.prog bsA := (((((((((((((((((((((((((((BsOk.nil).cons (body_bo Try.func92 rfl rfl)).cons (body_bo Try.func91 rfl rfl)).cons (body_bo Try.func90 rfl rfl)).cons (body_bo Try.func88 rfl rfl)).cons (body_bo Try.func86 rfl rfl)).cons (body_bo Try.func85 rfl rfl)).cons (body_bo Try.func84 rfl rfl)).cons (body_bo Try.func83 rfl rfl)).cons (body_bo Try.func81 rfl rfl)).cons (body_bo Try.func79 rfl rfl)).cons (body_bo Try.func77 rfl rfl)).cons (body_bo Try.func76 rfl rfl)).cons (body_bo Try.func73 rfl rfl)).cons (body_bo Try.func66 rfl rfl)).cons (body_bo Try.func64 rfl rfl)).cons (body_bo Try.func63 rfl rfl)).cons (body_bo Try.func62 rfl rfl)).cons (body_bo Try.func52 rfl rfl)).cons (body_bo Try.func45 rfl rfl)).cons (body_bo Try.func39 rfl rfl)).cons (body_bo Try.func38 rfl rfl)).cons (body_bo Try.func33 rfl rfl)).cons (body_bo Try.func32 rfl rfl)).cons (body_bo Try.func31 rfl rfl)).cons (body_bo Try.func30 rfl rfl)).cons (body_bo Try.func25 rfl rfl)).cons (body_bo Try.func24 rfl rfl)
noncomputable def eA : Env := tabs.env csA bsA true 100
theorem eA_ok : ProgOk Try.prog Γ eA := prog_ok csA_ok bsA_ok true 100
def ord30 (id : Nat) : Option (List Nat) := match Nat.beq id 10 with | true => some [0, 1, 2, 4, 5, 3, 6, 7, 8] | false => none
noncomputable def e30 : Env := { eA with ord := ord30 }
theorem e30_ok : ProgOk Try.prog Γ e30 := eA_ok.ords ord30
noncomputable def q38 : Prop := evTop eA 6 (bo Try.f38) [.agg [vI 4, .sl 0 [] 0 5], .a (vI 0), .a (vI 2)] [.arr 44 kL exL false false] (fun x _ => isT (tmB x (.tup [.a (vI 8), .a (vI 0)])))
noncomputable def q382 : Prop := evTop eA 6 (bo Try.f38) [.agg [vI 4, .sl 0 [] 0 5], .a (vI 0), .a (vI 3)] [.arr 44 kL exL false false] (fun x _ => isT (tmB x (.tup [.a (vI 0), .a (vI 5)])))
noncomputable def q30 : Prop := evTop e30 6 (bo Try.f30) [.agg [vI 4, .sl 0 [] 0 5], .a (vI 3)] [.arr 44 kL exL false false] (fun x _ => isT (tmB x (.tup [.a (vI 2), .a (vI 0)])))
def kS : List CK := [.int .i64, .int .i64]
def exS : List (Tup kS) := [((0 : Int), (0 : Int)), ((3 : Int), (5 : Int)), ((6 : Int), (8 : Int)), ((-1152921504606846976 : Int), (1152921504606846976 : Int))]
noncomputable def qS (E : Env) (fn : Func) (L : List Lk) (te : TypeId) (tg : List CK) (xs : List (Tup tg)) : Prop := evTop E 6 (bo fn) [.agg [vI 4, .sl 0 [] 0 L.length]] [.arr 44 kL L false false] (fun x st => isT (slB te tg xs [.a (vI 0)] x st))
noncomputable def q52 (l : List Int) (e : Int) : Prop := evTop eA 6 (bo Try.f52) [.agg [vI 4, .sl 0 [] 0 6], .a (.sl 1 [] 0 2)] [.arr 44 kL exL2 false false, .arr 3 kI l false false] (fun x st => isT (tmB x (.a (vI e))))
theorem run38 : q38 := of_eq_true (by kernel_rfl)
theorem run382 : q382 := of_eq_true (by kernel_rfl)
theorem run30 : q30 := of_eq_true (by kernel_rfl)
theorem run62 : qS eA Try.f62 exL 78 kS exS := of_eq_true (by kernel_rfl)
theorem run32 : qS eA Try.f32 exL 3 kI [(2 : Int)] := of_eq_true (by kernel_rfl)
theorem run33 : qS eA Try.f33 exL 3 kI [(0 : Int), (1 : Int), (3 : Int), (4 : Int)] := of_eq_true (by kernel_rfl)
theorem run31 : qS eA Try.f31 exL2 3 kI [(0 : Int), (5 : Int)] := of_eq_true (by kernel_rfl)
theorem run52 : q52 [(5 : Int), (0 : Int)] 0 := of_eq_true (by kernel_rfl)
theorem run522 : q52 [(0 : Int), (1 : Int)] 8 := of_eq_true (by kernel_rfl)
end Go.Proofs.Ytlmhkeoblgodiaa
end

section
/-
  Chapter 2: contracts at the example's numbers.
-/
namespace Go.Proofs.Ytlmhkeoblgodiaa
open Go Go.Sy Go.Chn
set_option maxRecDepth 100000
set_option linter.unusedVariables false
variable {Γ : Glob}
def eqLk (L M : List Lk) : Duty := (Duty.of (L = M))
def eqI2 (I A B : List Int) : Duty := (Duty.of (I = A ∨ I = B))
def r52 (I : List Int) : Int := if I = [5, 0] then 0 else 8
/-- A function asked at one system alone, that hands back a slice and OK. -/
def ptS (L : List Lk) (te : TypeId) (tg : List CK) (xs : List (Tup tg)) : Ctr := .new fun args rg K => match args with
  | [.agg [.v (.int .i64 N), x]] => (match arrOf 44 kL rg x with
     | some (q, M) => oblige true (q ++ [(Duty.of (N = 4)), eqLk M L]) (K ⟨[.arr te tg xs true true], .tup [.a (.sl 0 [] 0 xs.length), .a (vI 0)]⟩)
     | none => False)
  | _ => False
theorem ptS_ok {f : FuncId} {fn : Func} {E : Env} (hP : ProgOk Try.prog Γ E) (hb : BodyOk Try.prog f (bo fn)) {L : List Lk} {te : TypeId} {tg : List CK} {xs : List (Tup tg)} (hn : noStr tg = true) (run : qS E fn L te tg xs) : Ctr.Ok Try.prog Γ f (ptS L te tg xs) :=
  Ctr.new_okX (d := 6) hP hb (by
  intro args rg K hC
  split at hC
  next N x =>
    split at hC
    next q M hx =>
      rw [oblige_iff, obl_append] at hC
      obtain ⟨⟨hq, h1, h2, _⟩, hK⟩ := hC
      simp only [Duty.of_p] at h1
      replace h2 : M = L := h2
      subst h1 h2
      obtain ⟨e, he⟩ := pas_arr (by simp [kL]) hx hq
      obtain ⟨p1, p2⟩ := he [e] 0 1 rfl (by omega)
      refine ⟨[e], [.agg [vI 4, .sl 0 [] 0 M.length]], [.arr 44 kL M false false], ⟨⟨⟨rfl, p1, trivial⟩, trivial⟩, fun r g hg => ?_⟩,
        _, run, fun x st h => slB_sound hn rfl hK (isT_iff.1 h)⟩
      match r, hg with
      | 0, hg => obtain rfl := Option.some.inj hg; exact p2
    next => exact hC.elim
  next => exact hC.elim)
theorem c62p_ok : Ctr.Ok Try.prog Γ 62 (ptS exL 78 kS exS) := ptS_ok eA_ok (body_bo Try.func62 rfl rfl) (by decide) run62
theorem c32p_ok : Ctr.Ok Try.prog Γ 32 (ptS exL 3 kI [(2 : Int)]) := ptS_ok eA_ok (body_bo Try.func32 rfl rfl) (by decide) run32
theorem c33p_ok : Ctr.Ok Try.prog Γ 33 (ptS exL 3 kI [(0 : Int), (1 : Int), (3 : Int), (4 : Int)]) := ptS_ok eA_ok (body_bo Try.func33 rfl rfl) (by decide) run33
theorem c31p_ok : Ctr.Ok Try.prog Γ 31 (ptS exL2 3 kI [(0 : Int), (5 : Int)]) := ptS_ok eA_ok (body_bo Try.func31 rfl rfl) (by decide) run31
def c38p : Ctr := .fn fun args rg => match args with
  | [.agg [.v (.int .i64 N), x], .a (.v (.int .i64 f)), .a (.v (.int .i64 t))] => (match arrOf 44 kL rg x with
     | some (q, M) => some (q ++ [(Duty.of (N = 4)), eqLk M exL, (Duty.of (f = 0)), (Duty.of (t = 2 ∨ t = 3))], .tup [.a (vI (if t = 2 then 8 else 0)), .a (vI (if t = 2 then 0 else 5))])
     | none => none)
  | _ => none
theorem c38p_ok : Ctr.Ok Try.prog Γ 38 c38p := Ctr.fn_okX (d := 6) eA_ok (b := bo Try.f38) (body_bo Try.func38 rfl rfl) (by
  intro args rg q t hF hq
  split at hF
  next N x f t' =>
    split at hF
    next q0 M hx =>
      obtain ⟨rfl, rfl⟩ := Prod.mk.inj (Option.some.inj hF); clear hF
      obtain ⟨hq0, h1, h2, h3, h4, _⟩ := (obl_append _ _).1 hq
      simp only [Duty.of_p] at h1 h3 h4
      replace h2 : M = exL := h2
      subst h1 h2 h3
      obtain ⟨e, he⟩ := pas_arr (by simp [kL]) hx hq0
      obtain ⟨p1, p2⟩ := he [e] 0 1 rfl (by omega)
      refine ⟨rfl, [e], [.agg [vI 4, .sl 0 [] 0 5], .a (vI 0), .a (vI t')], [.arr 44 kL exL false false], ⟨⟨⟨rfl, p1, trivial⟩, rfl, rfl, trivial⟩, fun r g hg => ?_⟩, ?_⟩
      · match r, hg with
        | 0, hg => obtain rfl := Option.some.inj hg; exact p2
      · rcases h4 with rfl | rfl
        · exact ⟨_, run38, fun x st h => tmB_sound (isT_iff.1 h)⟩
        · exact ⟨_, run382, fun x st h => tmB_sound (isT_iff.1 h)⟩
    next => cases hF
  next => cases hF)
def c30p : Ctr := .fn fun args rg => match args with
  | [.agg [.v (.int .i64 N), x], .a (.v (.int .i64 f))] => (match arrOf 44 kL rg x with
     | some (q, M) => some (q ++ [(Duty.of (N = 4)), eqLk M exL, (Duty.of (f = 3))], .tup [.a (vI 2), .a (vI 0)])
     | none => none)
  | _ => none
theorem c30p_ok : Ctr.Ok Try.prog Γ 30 c30p := Ctr.fn_okX (d := 6) e30_ok (b := bo Try.f30) (body_bo Try.func30 rfl rfl) (by
  intro args rg q t hF hq
  split at hF
  next N x f =>
    split at hF
    next q0 M hx =>
      obtain ⟨rfl, rfl⟩ := Prod.mk.inj (Option.some.inj hF); clear hF
      obtain ⟨hq0, h1, h2, h3, _⟩ := (obl_append _ _).1 hq
      simp only [Duty.of_p] at h1 h3
      replace h2 : M = exL := h2
      subst h1 h2 h3
      obtain ⟨e, he⟩ := pas_arr (by simp [kL]) hx hq0
      obtain ⟨p1, p2⟩ := he [e] 0 1 rfl (by omega)
      refine ⟨rfl, [e], [.agg [vI 4, .sl 0 [] 0 5], .a (vI 3)], [.arr 44 kL exL false false], ⟨⟨⟨rfl, p1, trivial⟩, rfl, trivial⟩, fun r g hg => ?_⟩, ?_⟩
      · match r, hg with
        | 0, hg => obtain rfl := Option.some.inj hg; exact p2
      · exact ⟨_, run30, fun x st h => tmB_sound (isT_iff.1 h)⟩
    next => cases hF
  next => cases hF)
def c52p : Ctr := .fn fun args rg => match args with
  | [.agg [.v (.int .i64 N), x], .a y] => (match arrOf 44 kL rg x, arrOf 3 kI rg y with
     | some (q, M), some (q', I) => some (q ++ (q' ++ [(Duty.of (N = 4)), eqLk M exL2, eqI2 I [5, 0] [0, 1]]), .a (vI (r52 I)))
     | _, _ => none)
  | _ => none
theorem c52p_ok : Ctr.Ok Try.prog Γ 52 c52p := Ctr.fn_okX (d := 6) eA_ok (b := bo Try.f52) (body_bo Try.func52 rfl rfl) (by
  intro args rg q t hF hq
  split at hF
  next N x y =>
    split at hF
    next q0 M q1 I hx hy =>
      obtain ⟨rfl, rfl⟩ := Prod.mk.inj (Option.some.inj hF); clear hF
      rw [obl_append, obl_append] at hq
      obtain ⟨hq0, hq1, h1, h2, h3, _⟩ := hq
      simp only [Duty.of_p] at h1
      replace h2 : M = exL2 := h2
      replace h3 : I = [(5 : Int), (0 : Int)] ∨ I = [(0 : Int), (1 : Int)] := h3
      subst h1 h2
      obtain ⟨e, he⟩ := pas_arr (by simp [kL]) hx hq0
      obtain ⟨e', he'⟩ := pas_arr (by simp [kI]) hy hq1
      obtain ⟨p1, p2⟩ := he [e, e'] 0 2 rfl (by omega)
      obtain ⟨p3, p4⟩ := he' [e, e'] 1 2 rfl (by omega)
      refine ⟨rfl, [e, e'], [.agg [vI 4, .sl 0 [] 0 6], .a (.sl 1 [] 0 I.length)], [.arr 44 kL exL2 false false, .arr 3 kI I false false], ⟨⟨⟨rfl, p1, trivial⟩, p3, trivial⟩, fun r g hg => ?_⟩, ?_⟩
      · match r, hg with
        | 0, hg => obtain rfl := Option.some.inj hg; exact p2
        | 1, hg => obtain rfl := Option.some.inj hg; exact p4
      · rcases h3 with rfl | rfl
        · exact ⟨_, run52, fun x st h => tmB_sound (isT_iff.1 h)⟩
        · exact ⟨_, run522, fun x st h => tmB_sound (isT_iff.1 h)⟩
    next => cases hF
  next => cases hF)
end Go.Proofs.Ytlmhkeoblgodiaa
end

section
/-
  Chapter 2: exact, follow, Chain and Clash at the example's numbers.
-/
namespace Go.Proofs.Ytlmhkeoblgodiaa
open Go Go.Sy Go.Chn
set_option maxRecDepth 100000
set_option maxHeartbeats 4000000
set_option linter.unusedVariables false
variable {Γ : Glob}
def tbA : List (List Int) := [[1152921504606846976, 1152921504606846976, 0, 1152921504606846976], [9, 3, 1152921504606846976, 1152921504606846976], [8, 1152921504606846976, 1, 1152921504606846976], [10, 4, 2, 1152921504606846976], [9, 5, 2, 1152921504606846976]]
def tb0 : List (List Int) := [[0, 1152921504606846976, 1152921504606846976, 1152921504606846976], [1152921504606846976, -6, -6, 1152921504606846976], [-1, -3, -8, 1152921504606846976], [1, -7, -7, 1152921504606846976], [-2, -5, -9, 1152921504606846976]]
def tb1 : List (List Int) := [[1152921504606846976, 0, 1152921504606846976, 1152921504606846976], [5, 1152921504606846976, -2, 1152921504606846976], [7, -1, -1, 1152921504606846976], [4, 1, -3, 1152921504606846976], [6, -2, -2, 1152921504606846976]]
def tb2 : List (List Int) := [[1152921504606846976, 1152921504606846976, 0, 1152921504606846976], [9, 3, 1152921504606846976, 1152921504606846976], [8, 3, 1, 1152921504606846976], [8, 2, 1, 1152921504606846976], [7, 2, 0, 1152921504606846976]]
def tb3 : List (List Int) := [[1152921504606846976, 1152921504606846976, 1152921504606846976, 0], [1152921504606846976, 1152921504606846976, 1152921504606846976, 1152921504606846976], [1152921504606846976, 1152921504606846976, 1152921504606846976, 1152921504606846976], [1152921504606846976, 1152921504606846976, 1152921504606846976, 1152921504606846976], [1152921504606846976, 1152921504606846976, 1152921504606846976, 1152921504606846976]]
/-- A run that the kernel has looked at. -/
structure Run (p : Prop) : Prop where
  h : p
theorem Run.of {p : Prop} (e : p = True) : Run p := ⟨e ▸ trivial⟩
noncomputable def bs66 : List (Nat × Body) := [(88, bo Try.f88)]
theorem bs66_ok : BsOk Try.prog bs66 := BsOk.nil.cons (body_bo Try.func88 rfl rfl)
noncomputable def e66 : Env := tabs.env [] bs66 true 100
theorem e66_ok : ProgOk Try.prog Γ e66 := prog_ok CsOk.nil bs66_ok true 100
def eqTB (A B : List (List Int)) : Bool := decide (A = B)
theorem eqTB_eq {A B : List (List Int)} (h : eqTB A B = true) : A = B := of_decide_eq_true h
def tabB (T : List (List Int)) (g : Reg) : Bool :=
  match g with
  | .arr te' tg' ys true true => (match natEq te' 32, tagEq tg' kT with | some _, some h => eqTB (castL h.down ys) T | _, _ => false)
  | _ => false
def slBT (T : List (List Int)) (x : Tm) (st : St) : Bool :=
  match x with
  | .a (.sl i [] 0 n) => Nat.beq n T.length && tabB T (st.rg.getD i .dead)
  | _ => false
theorem slBT_sound {T : List (List Int)} {x : Tm} {st : St} {K : Res → Prop} (hK : K ⟨[.arr 32 kT T true true], .a (.sl 0 [] 0 T.length)⟩) (h : slBT T x st = true) : resK K x st := by
  unfold slBT at h
  split at h
  · rename_i i n
    simp only [Bool.and_eq_true] at h
    obtain rfl := Nat.eq_of_beq_eq_true h.1
    have h2 : st.rg.getD i .dead = .arr 32 kT T true true := by
      have h := h.2
      unfold tabB at h
      split at h
      · split at h
        · rename_i h1 h2 _ _
          obtain rfl := h1.down
          obtain rfl := h2.down
          have h := eqTB_eq h
          rw [← h]; assumption
        · cases h
      · cases h
    exact ⟨_, [i], hK, ⟨h2, rfl, (by simp), trivial⟩, rfl, rfl, rfl, rfl, rfl⟩
  · cases h
noncomputable def q66 (L : List Lk) (to : Int) (T : List (List Int)) : Prop := evTop e66 3 (bo Try.f66) [.agg [vI 4, .sl 0 [] 0 L.length], .a (vI to), .a (vI 4)] [.arr 44 kL L false false] (fun x st => isT (slBT T x st))
theorem run66A : Run (q66 exL 2 tbA) := .of (by kernel_rfl)
theorem run660 : Run (q66 exL2 0 tb0) := .of (by kernel_rfl)
theorem run661 : Run (q66 exL2 1 tb1) := .of (by kernel_rfl)
theorem run662 : Run (q66 exL2 2 tb2) := .of (by kernel_rfl)
theorem run663 : Run (q66 exL2 3 tb3) := .of (by kernel_rfl)
end Go.Proofs.Ytlmhkeoblgodiaa
end

section
/-
  Chapter 2: exact at the example's numbers, its contract.
-/
namespace Go.Proofs.Ytlmhkeoblgodiaa
open Go Go.Sy Go.Chn
set_option maxRecDepth 100000
set_option maxHeartbeats 4000000
set_option linter.unusedVariables false
variable {Γ : Glob}
def eqLB (M L : List Lk) : Bool := decide (M = L)
def pick66 (M : List Lk) (t : Int) (k : List (List Int) → Prop) : Prop :=
  match eqLB M exL, eqLB M exL2 with
  | true, _ => (match decide (t = 2) with | true => k tbA | false => False)
  | _, true => (match decide (t = 0), decide (t = 1), decide (t = 2), decide (t = 3) with
    | true, _, _, _ => k tb0
    | _, true, _, _ => k tb1
    | _, _, true, _ => k tb2
    | _, _, _, true => k tb3
    | _, _, _, _ => False)
  | _, _ => False
theorem pick66_sound {M : List Lk} {t : Int} {k : List (List Int) → Prop} (h : pick66 M t k) : ∃ T, T.length = 5 ∧ Run (q66 M t T) ∧ k T := by
  unfold pick66 at h
  split at h
  · obtain rfl := of_decide_eq_true ‹eqLB M exL = true›
    split at h
    · obtain rfl := of_decide_eq_true ‹decide (t = 2) = true›; exact ⟨_, rfl, run66A, h⟩
    · exact h.elim
  · obtain rfl := of_decide_eq_true ‹eqLB M exL2 = true›
    split at h
    · obtain rfl := of_decide_eq_true ‹decide (t = 0) = true›; exact ⟨_, rfl, run660, h⟩
    · obtain rfl := of_decide_eq_true ‹decide (t = 1) = true›; exact ⟨_, rfl, run661, h⟩
    · obtain rfl := of_decide_eq_true ‹decide (t = 2) = true›; exact ⟨_, rfl, run662, h⟩
    · obtain rfl := of_decide_eq_true ‹decide (t = 3) = true›; exact ⟨_, rfl, run663, h⟩
    · exact h.elim
  · exact h.elim
def c66p : Ctr := .new fun args rg K => match args with
  | [.agg [.v (.int .i64 N), x], .a (.v (.int .i64 t)), .a (.v (.int .i64 m))] => (match arrOf 44 kL rg x with
     | some (q, M) => oblige true (q ++ [(Duty.of (N = 4)), (Duty.of (m = 4))]) (pick66 M t (fun T => K ⟨[.arr 32 kT T true true], .a (.sl 0 [] 0 5)⟩))
     | none => False)
  | _ => False
theorem c66p_ok : Ctr.Ok Try.prog Γ 66 c66p := Ctr.new_okX (d := 3) e66_ok (b := bo Try.f66) (body_bo Try.func66 rfl rfl) (by
  intro args rg K hC
  split at hC
  next N x t m =>
    split at hC
    next q M hx =>
      rw [oblige_iff, obl_append] at hC
      obtain ⟨⟨hq, h1, h2, _⟩, hK⟩ := hC
      simp only [Duty.of_p] at h1 h2
      subst h1 h2
      obtain ⟨T, hT, hrun, hK⟩ := pick66_sound hK
      rw [← hT] at hK
      obtain ⟨e, he⟩ := pas_arr (by simp [kL]) hx hq
      obtain ⟨p1, p2⟩ := he [e] 0 1 rfl (by omega)
      refine ⟨[e], [.agg [vI 4, .sl 0 [] 0 M.length], .a (vI t), .a (vI 4)], [.arr 44 kL M false false], ⟨⟨⟨rfl, p1, trivial⟩, rfl, rfl, trivial⟩, fun r g hg => ?_⟩,
        _, hrun.h, fun x st h => slBT_sound hK (isT_iff.1 h)⟩
      match r, hg with
      | 0, hg => obtain rfl := Option.some.inj hg; exact p2
    next => exact hC.elim
  next => exact hC.elim)
end Go.Proofs.Ytlmhkeoblgodiaa
end

section
/-
  Chapter 2: follow, Chain and Clash at the example's numbers.
-/
namespace Go.Proofs.Ytlmhkeoblgodiaa
open Go Go.Sy Go.Chn
set_option maxRecDepth 100000
set_option maxHeartbeats 4000000
set_option linter.unusedVariables false
variable {Γ : Glob}
noncomputable def q68q : Prop := evTop e68 2 (bo Try.f68) [.agg [vI 4, .sl 0 [] 0 5], .a (vI 0), .a (vI 2), .a (.sl 1 [] 0 5), .a (.fn 78 [2])] [.arr 44 kL exL false false, .arr 32 kT tbA false false, .box false [vI 8]] (fun x st => isT (slB1 3 kI [(0 : Int), (1 : Int)] x st))
theorem run68q : Run q68q := .of (by kernel_rfl)
/-- follow, at the example's two points. -/
def c68r : Ctr := .new fun args rg K => match args with
  | [.agg [.v (.int .i64 N), xs], .a (.v (.int .i64 f)), .a (.v (.int .i64 k)), .a t, .a (.fn 78 [r])] => (match lksOf rg xs, arrOf 32 kT rg t, boxI rg r with
     | some (q, L), some (q', T), some m => oblige true (q ++ (q' ++ [(Duty.of (N = 4)), eqLk L exL, (Duty.of (f = 0)), (Duty.of (k = 2)), eqT2 T tbA, (Duty.of (m = 8))])) (K ⟨[.arr 3 kI [(0 : Int), (1 : Int)] true true], .a (.sl 0 [] 0 2)⟩)
     | _, _, _ => False)
  | _ => False
theorem c68r_ok : Ctr.Ok Try.prog Γ 68 c68r := Ctr.new_okX (d := 2) (prog_ok csB_ok BsOk.nil true 100) (b := bo Try.f68) (body_bo Try.func68 rfl rfl) (by
  intro args rg K hC
  split at hC
  next N xs f k t r =>
    split at hC
    next q L q' T m hx ht hm =>
      rw [oblige_iff, obl_append, obl_append] at hC
      obtain ⟨⟨hq, hq', h1, h2, h3, h4, h5, h6, _⟩, hK⟩ := hC
      simp only [Duty.of_p] at h1 h3 h4 h6
      replace h2 : L = exL := h2
      replace h5 : T = tbA := h5
      subst h1 h2 h3 h4 h5 h6
      obtain ⟨e, he, _⟩ := pas_lks' hx hq
      obtain ⟨e', he'⟩ := pas_arr (by simp [kT]) ht hq'
      obtain ⟨p1, p2⟩ := he [e, e', some (r, [])] 3 rfl (by omega)
      obtain ⟨p3, p4⟩ := he' [e, e', some (r, [])] 1 3 rfl (by omega)
      refine ⟨[e, e', some (r, [])], [.agg [vI 4, .sl 0 [] 0 5], .a (vI 0), .a (vI 2), .a (.sl 1 [] 0 5), .a (.fn 78 [2])], [.arr 44 kL exL false false, .arr 32 kT tbA false false, .box false [vI 8]], ⟨⟨⟨rfl, p1, trivial⟩, rfl, rfl, p3, ⟨[r], rfl, ?_⟩, trivial⟩, fun r g hg => ?_⟩,
        _, run68q.h, fun x st h => slB1_sound (by decide) hK (isT_iff.1 h)⟩
      · exact ⟨⟨Nat.lt_succ_self 2, rfl⟩, trivial⟩
      · match r, hg with
        | 0, hg => obtain rfl := Option.some.inj hg; exact p2
        | 1, hg => obtain rfl := Option.some.inj hg; exact p4
        | 2, hg =>
          obtain rfl := Option.some.inj hg
          unfold boxI at hm
          split at hm
          · rename_i o n' hb
            obtain rfl := Option.some.inj hm
            exact ⟨rfl, _, o, _, rfl, getD_reg (st := ⟨⟨0, .nil⟩, [], rg⟩) hb (by simp), rfl, trivial⟩
          · cases hm
    next => exact hC.elim
  next => exact hC.elim)
def cs39 : List (Nat × Ctr) := (38, c38p) :: (66, c66p) :: (68, c68r) :: csA
theorem cs39_ok : CsOk Try.prog Γ cs39 := ((csA_ok.cons (body_of Try.func68 rfl rfl).fn c68r_ok).cons (body_of Try.func66 rfl rfl).fn c66p_ok).cons (body_of Try.func38 rfl rfl).fn c38p_ok
noncomputable def e39 : Env := tabs.env cs39 bsA true 100
theorem e39_ok : ProgOk Try.prog Γ e39 := prog_ok cs39_ok bsA_ok true 100
def cs25 : List (Nat × Ctr) := (66, c66p) :: (68, c68p) :: csA
theorem cs25_ok : CsOk Try.prog Γ cs25 := (csA_ok.cons (body_of Try.func68 rfl rfl).fn c68p_ok).cons (body_of Try.func66 rfl rfl).fn c66p_ok
def ord25 (id : Nat) : Option (List Nat) := match Nat.beq id 22 with | true => some [0, 1, 2, 3, 4, 5, 6, 7, 8, 9, 10, 11, 12] | false => none
noncomputable def e25 : Env := { tabs.env cs25 bsA true 100 with ord := ord25 }
theorem e25_ok : ProgOk Try.prog Γ e25 := (prog_ok cs25_ok bsA_ok true 100).ords ord25
noncomputable def q39 : Prop := evTop e39 6 (bo Try.f39) [.agg [vI 4, .sl 0 [] 0 5], .a (vI 0), .a (vI 2)] [.arr 44 kL exL false false] (fun x st => isT (slB 3 kI [(0 : Int), (1 : Int)] [.a (vI 0)] x st))
theorem run39 : Run q39 := .of (by kernel_rfl)

theorem run25 : Run (qS e25 Try.f25 exL2 3 kI [(0 : Int), (5 : Int)]) := .of (by kernel_rfl)
theorem c25p_ok : Ctr.Ok Try.prog Γ 25 (ptS exL2 3 kI [(0 : Int), (5 : Int)]) := ptS_ok e25_ok (body_bo Try.func25 rfl rfl) (by decide) run25.h
def c39p : Ctr := .new fun args rg K => match args with
  | [.agg [.v (.int .i64 N), x], .a (.v (.int .i64 f)), .a (.v (.int .i64 t))] => (match arrOf 44 kL rg x with
     | some (q, M) => oblige true (q ++ [(Duty.of (N = 4)), eqLk M exL, (Duty.of (f = 0)), (Duty.of (t = 2))]) (K ⟨[.arr 3 kI [(0 : Int), (1 : Int)] true true], .tup [.a (.sl 0 [] 0 2), .a (vI 0)]⟩)
     | none => False)
  | _ => False
theorem c39p_ok : Ctr.Ok Try.prog Γ 39 c39p := Ctr.new_okX (d := 6) e39_ok (b := bo Try.f39) (body_bo Try.func39 rfl rfl) (by
  intro args rg K hC
  split at hC
  next N x f t =>
    split at hC
    next q M hx =>
      rw [oblige_iff, obl_append] at hC
      obtain ⟨⟨hq, h1, h2, h3, h4, _⟩, hK⟩ := hC
      simp only [Duty.of_p] at h1 h3 h4
      replace h2 : M = exL := h2
      subst h1 h2 h3 h4
      obtain ⟨e, he⟩ := pas_arr (by simp [kL]) hx hq
      obtain ⟨p1, p2⟩ := he [e] 0 1 rfl (by omega)
      refine ⟨[e], [.agg [vI 4, .sl 0 [] 0 5], .a (vI 0), .a (vI 2)], [.arr 44 kL exL false false], ⟨⟨⟨rfl, p1, trivial⟩, rfl, rfl, trivial⟩, fun r g hg => ?_⟩,
        _, run39.h, fun x st h => slB_sound (by decide) rfl hK (isT_iff.1 h)⟩
      match r, hg with
      | 0, hg => obtain rfl := Option.some.inj hg; exact p2
    next => exact hC.elim
  next => exact hC.elim)
end Go.Proofs.Ytlmhkeoblgodiaa
end
