/-
  Chapter 1: sums, differences, products, quotients, mediants; Cmp and Neg; in the program.
-/
import Derived.Test.YtoggkjobihlohaaDoorF19
namespace Go.Proofs.YtoggkjobihlohaaDoor
open Go Go.Sx
set_option maxRecDepth 100000
variable {Γ : Glob}

def addT (n d m e : Int) : Int × Int × Int := lowT (n * e + m * d) (d * e)
def subT (n d m e : Int) : Int × Int × Int := lowT (n * e - m * d) (d * e)
def mulT (n d m e : Int) : Int × Int × Int := lowT (n * m) (d * e)
def medT (n d m e : Int) : Int × Int × Int := lowT (n + m) (d + e)
def divT (n d m e : Int) : Int × Int × Int := if m = 0 then (0, 0, 5) else lowT (n * e) (d * m)
theorem divT_zero {n d m e : Int} (h : m = 0) : divT n d m e = (0, 0, 5) := if_pos h
theorem divT_ne {n d m e : Int} (h : m ≠ 0) : divT n d m e = lowT (n * e) (d * m) := if_neg h
def two (T : Int → Int → Int → Int → Int × Int × Int) (n d m e : Int) : Int × Int × Int := if (valid n d && valid m e) = true then T n d m e else (0, 0, 1)
theorem two_bad {T : Int → Int → Int → Int → Int × Int × Int} {n d m e : Int} (h : (valid n d && valid m e) = false) : two T n d m e = (0, 0, 1) := by simp only [two, h, Bool.false_eq_true, if_false]
theorem two_good {T : Int → Int → Int → Int → Int × Int × Int} {n d m e : Int} (h : (valid n d && valid m e) = true) : two T n d m e = T n d m e := if_pos h

/-- What a product of valid numbers comes to. -/
structure TwoFit (n d m e : Int) : Prop where
  ne : -4611686014132420609 ≤ n * e ∧ n * e ≤ 4611686014132420609
  md : -4611686014132420609 ≤ m * d ∧ m * d ≤ 4611686014132420609
  nm : -4611686014132420609 ≤ n * m ∧ n * m ≤ 4611686014132420609
  dm : -4611686014132420609 ≤ d * m ∧ d * m ≤ 4611686014132420609
  de : 0 < d * e ∧ d * e ≤ 4611686014132420609
  a : -2147483647 ≤ n ∧ n ≤ 2147483647
  b : 1 ≤ d ∧ d ≤ 2147483647
  c : -2147483647 ≤ m ∧ m ≤ 2147483647
  f : 1 ≤ e ∧ e ≤ 2147483647
theorem twoFit {n d m e : Int} (h1 : valid n d = true) (h2 : valid m e = true) : TwoFit n d m e := by
  have v1 := valid_iff.1 h1
  have v2 := valid_iff.1 h2
  exact ⟨mul_small (by omega) (by omega), mul_small (by omega) (by omega), mul_small (by omega) (by omega), mul_small (by omega) (by omega), ⟨Int.mul_pos (by omega) (by omega), (mul_small (a := d) (b := e) (by omega) (by omega)).2⟩, by omega, by omega, by omega, by omega⟩

def c92 : Ctr := .fn fun args rg => match args with
  | [.a (.p r 0 0), .a (.p s 0 0)] => (match rg.getD r .dead, rg.getD s .dead with
    | .box _ [.v (.int .i64 n), .v (.int .i64 d)], .box _ [.v (.int .i64 m), .v (.int .i64 e)] => some ([valid n d = true, valid m e = true], .tup [.agg [vI (addT n d m e).1, vI (addT n d m e).2.1], .a (vI (addT n d m e).2.2)])
    | _, _ => none)
  | _ => none
theorem c92_ok : Ctr.Ok Tryd.prog Γ 92 c92 := Ctr.fn_ok1 (prog_ok L10_ok true) Tryd.func92 rfl rfl rfl (by
  intro args rg q t hF hq
  split at hF
  next r s =>
    split at hF
    next o1 n d o2 m e hr hs =>
      obtain ⟨rfl, rfl⟩ := Prod.mk.inj (Option.some.inj hF); clear hF
      obtain ⟨h1, h2, -⟩ := hq
      have hr' := getD_arr hr (by simp)
      have hs' := getD_arr hs (by simp)
      refine ⟨rfl, [r, s], [.a (.p 0 0 0), .a (.p 1 0 0)], [.box o1 [.v (.int .i64 n), .v (.int .i64 d)], .box o2 [.v (.int .i64 m), .v (.int .i64 e)]], ⟨rfl, rfl, fun i g hg => ?_, rfl⟩, ?_⟩
      · match i with
        | 0 => simp at hg; subst hg; exact ⟨rfl, .inr hr'⟩
        | 1 => simp at hg; subst hg; exact ⟨rfl, .inr hs'⟩
        | i + 2 => simp at hg
      repeat' ((conv => whnf); (first | apply And.intro | intro _))
      all_goals try (conv => whnf)
      all_goals try (first | rfl | trivial | exact LexB.mk (by kernel_rfl) | exact LexG.mk (by kernel_rfl) | exact Forced.mk (by kernel_rfl))
      all_goals try subst_vars
      all_goals (have F := twoFit h1 h2; have f1 := F.ne; have f2 := F.md; have f3 := F.nm; have f4 := F.dm; have f5 := F.de; have f6 := F.a; have f7 := F.b; have f8 := F.c; have f9 := F.f)
      all_goals try simp only [beq_iff_eq, beq_eq_false_iff_ne] at *
      all_goals first
        | exact ⟨by simp only [inR]; omega⟩
        | exact ⟨by omega⟩
        | rfl
    next => cases hF
  next => cases hF)

def c91_92 : Ctr := .fn fun args rg => match args with
  | [.agg [.v (.int .i64 n), .v (.int .i64 d)], .agg [.v (.int .i64 m), .v (.int .i64 e)], .a (.fn f [r, s])] => (match Nat.beq f 92, rg.getD r .dead, rg.getD s .dead with
    | true, .box _ [.v (.int .i64 n1), .v (.int .i64 d1)], .box _ [.v (.int .i64 m1), .v (.int .i64 e1)] => some ([n1 = n, d1 = d, m1 = m, e1 = e, inR .i64 n, inR .i64 d, inR .i64 m, inR .i64 e], .tup [.agg [vI (two addT n d m e).1, vI (two addT n d m e).2.1], .a (vI (two addT n d m e).2.2)])
    | _, _, _ => none)
  | _ => none
def L91_92 : List (Nat × Ctr) := (92, c92) :: L10
theorem L91_92_ok : LOk Tryd.prog Γ L91_92 := L10_ok.cons (FnOk.of Tryd.func92 rfl rfl) c92_ok
theorem c91_92_ok : Ctr.Ok Tryd.prog Γ 91 c91_92 := Ctr.fn_ok1 (prog_ok L91_92_ok true) Tryd.func91 rfl rfl rfl (by
  intro args rg q t hF hq
  split at hF
  next n d m e f r s =>
    split at hF
    next o1 n1 d1 o2 m1 e1 hf hr hs =>
      obtain ⟨rfl, rfl⟩ := Prod.mk.inj (Option.some.inj hF); clear hF
      obtain ⟨rfl, rfl, rfl, rfl, h1, h2, h3, h4, -⟩ := hq
      obtain rfl := Nat.eq_of_beq_eq_true hf
      have hr' := getD_arr hr (by simp)
      have hs' := getD_arr hs (by simp)
      refine ⟨rfl, [r, s], [.agg [.v (.int .i64 n1), .v (.int .i64 d1)], .agg [.v (.int .i64 m1), .v (.int .i64 e1)], .a (.fn 92 [0, 1])], [.box o1 [.v (.int .i64 n1), .v (.int .i64 d1)], .box o2 [.v (.int .i64 m1), .v (.int .i64 e1)]], ⟨rfl, rfl, fun i g hg => ?_, rfl⟩, ?_⟩
      · match i with
        | 0 => simp at hg; subst hg; exact ⟨rfl, .inr hr'⟩
        | 1 => simp at hg; subst hg; exact ⟨rfl, .inr hs'⟩
        | i + 2 => simp at hg
      repeat' ((conv => whnf); (first | apply And.intro | intro _))
      all_goals try (conv => whnf)
      all_goals try (first | rfl | trivial | exact LexB.mk (by kernel_rfl) | exact LexG.mk (by kernel_rfl) | exact Forced.mk (by kernel_rfl))
      all_goals try subst_vars
      all_goals try dsimp only [CK.ty, Tup, kII] at *
      all_goals try simp only [allValid, List.all_cons, List.all_nil, Bool.and_true, bne_iff_ne, bne_eq_false_iff_eq, ne_eq, ite_ok] at *
      all_goals try simp only [Bool.not_eq_true] at *
      all_goals try (refine ⟨?_⟩; first | assumption | decide | (simp; done))
      all_goals try exact ⟨⟨⟨h1, h2⟩, ⟨h3, h4⟩, trivial⟩⟩
      all_goals try (rw [two_bad ‹_›]; first | done | (rw [if_neg (by simp only [*]; decide)]))
      all_goals try (rw [two_good ‹_›]; done)
      all_goals first | exact ⟨(Bool.and_eq_true_iff.1 ‹(valid n1 d1 && valid m1 e1) = true›).1⟩ | exact ⟨(Bool.and_eq_true_iff.1 ‹(valid n1 d1 && valid m1 e1) = true›).2⟩
    next => cases hF
  next => cases hF)

def c38 : Ctr := .fn fun args _ => match args with
  | [.agg [.v (.int .i64 n), .v (.int .i64 d)], .agg [.v (.int .i64 m), .v (.int .i64 e)]] => some ([inR .i64 n, inR .i64 d, inR .i64 m, inR .i64 e], .tup [.agg [vI (two addT n d m e).1, vI (two addT n d m e).2.1], .a (vI (two addT n d m e).2.2)])
  | _ => none
theorem c38_ok : Ctr.Ok Tryd.prog Γ 38 c38 := Ctr.fn_ok0 (prog_ok (L10_ok.cons (FnOk.of Tryd.func91 rfl rfl) c91_92_ok) true) Tryd.func38 rfl rfl rfl (by
  intro args q t hF hq
  split at hF
  next n d m e =>
    obtain ⟨rfl, rfl⟩ := Prod.mk.inj (Option.some.inj hF); clear hF
    obtain ⟨h1, h2, h3, h4, -⟩ := hq
    refine ⟨rfl, rfl, ?_⟩
    repeat' ((conv => whnf); (first | apply And.intro | intro _))
    all_goals try (conv => whnf)
    all_goals try (first | rfl | trivial | exact LexB.mk (by kernel_rfl) | exact LexG.mk (by kernel_rfl) | exact Forced.mk (by kernel_rfl))
    all_goals try subst_vars
    all_goals first | rfl | exact ⟨by assumption⟩ | exact ⟨rfl⟩
  next => cases hF)

def c93 : Ctr := .fn fun args rg => match args with
  | [.a (.p r 0 0), .a (.p s 0 0)] => (match rg.getD r .dead, rg.getD s .dead with
    | .box _ [.v (.int .i64 n), .v (.int .i64 d)], .box _ [.v (.int .i64 m), .v (.int .i64 e)] => some ([valid n d = true, valid m e = true], .tup [.agg [vI (mulT n d m e).1, vI (mulT n d m e).2.1], .a (vI (mulT n d m e).2.2)])
    | _, _ => none)
  | _ => none
theorem c93_ok : Ctr.Ok Tryd.prog Γ 93 c93 := Ctr.fn_ok1 (prog_ok L10_ok true) Tryd.func93 rfl rfl rfl (by
  intro args rg q t hF hq
  split at hF
  next r s =>
    split at hF
    next o1 n d o2 m e hr hs =>
      obtain ⟨rfl, rfl⟩ := Prod.mk.inj (Option.some.inj hF); clear hF
      obtain ⟨h1, h2, -⟩ := hq
      have hr' := getD_arr hr (by simp)
      have hs' := getD_arr hs (by simp)
      refine ⟨rfl, [r, s], [.a (.p 0 0 0), .a (.p 1 0 0)], [.box o1 [.v (.int .i64 n), .v (.int .i64 d)], .box o2 [.v (.int .i64 m), .v (.int .i64 e)]], ⟨rfl, rfl, fun i g hg => ?_, rfl⟩, ?_⟩
      · match i with
        | 0 => simp at hg; subst hg; exact ⟨rfl, .inr hr'⟩
        | 1 => simp at hg; subst hg; exact ⟨rfl, .inr hs'⟩
        | i + 2 => simp at hg
      repeat' ((conv => whnf); (first | apply And.intro | intro _))
      all_goals try (conv => whnf)
      all_goals try (first | rfl | trivial | exact LexB.mk (by kernel_rfl) | exact LexG.mk (by kernel_rfl) | exact Forced.mk (by kernel_rfl))
      all_goals try subst_vars
      all_goals (have F := twoFit h1 h2; have f1 := F.ne; have f2 := F.md; have f3 := F.nm; have f4 := F.dm; have f5 := F.de; have f6 := F.a; have f7 := F.b; have f8 := F.c; have f9 := F.f)
      all_goals try simp only [beq_iff_eq, beq_eq_false_iff_ne] at *
      all_goals first
        | exact ⟨by simp only [inR]; omega⟩
        | exact ⟨by omega⟩
        | rfl
    next => cases hF
  next => cases hF)

def c91_93 : Ctr := .fn fun args rg => match args with
  | [.agg [.v (.int .i64 n), .v (.int .i64 d)], .agg [.v (.int .i64 m), .v (.int .i64 e)], .a (.fn f [r, s])] => (match Nat.beq f 93, rg.getD r .dead, rg.getD s .dead with
    | true, .box _ [.v (.int .i64 n1), .v (.int .i64 d1)], .box _ [.v (.int .i64 m1), .v (.int .i64 e1)] => some ([n1 = n, d1 = d, m1 = m, e1 = e, inR .i64 n, inR .i64 d, inR .i64 m, inR .i64 e], .tup [.agg [vI (two mulT n d m e).1, vI (two mulT n d m e).2.1], .a (vI (two mulT n d m e).2.2)])
    | _, _, _ => none)
  | _ => none
def L91_93 : List (Nat × Ctr) := (93, c93) :: L10
theorem L91_93_ok : LOk Tryd.prog Γ L91_93 := L10_ok.cons (FnOk.of Tryd.func93 rfl rfl) c93_ok
theorem c91_93_ok : Ctr.Ok Tryd.prog Γ 91 c91_93 := Ctr.fn_ok1 (prog_ok L91_93_ok true) Tryd.func91 rfl rfl rfl (by
  intro args rg q t hF hq
  split at hF
  next n d m e f r s =>
    split at hF
    next o1 n1 d1 o2 m1 e1 hf hr hs =>
      obtain ⟨rfl, rfl⟩ := Prod.mk.inj (Option.some.inj hF); clear hF
      obtain ⟨rfl, rfl, rfl, rfl, h1, h2, h3, h4, -⟩ := hq
      obtain rfl := Nat.eq_of_beq_eq_true hf
      have hr' := getD_arr hr (by simp)
      have hs' := getD_arr hs (by simp)
      refine ⟨rfl, [r, s], [.agg [.v (.int .i64 n1), .v (.int .i64 d1)], .agg [.v (.int .i64 m1), .v (.int .i64 e1)], .a (.fn 93 [0, 1])], [.box o1 [.v (.int .i64 n1), .v (.int .i64 d1)], .box o2 [.v (.int .i64 m1), .v (.int .i64 e1)]], ⟨rfl, rfl, fun i g hg => ?_, rfl⟩, ?_⟩
      · match i with
        | 0 => simp at hg; subst hg; exact ⟨rfl, .inr hr'⟩
        | 1 => simp at hg; subst hg; exact ⟨rfl, .inr hs'⟩
        | i + 2 => simp at hg
      repeat' ((conv => whnf); (first | apply And.intro | intro _))
      all_goals try (conv => whnf)
      all_goals try (first | rfl | trivial | exact LexB.mk (by kernel_rfl) | exact LexG.mk (by kernel_rfl) | exact Forced.mk (by kernel_rfl))
      all_goals try subst_vars
      all_goals try dsimp only [CK.ty, Tup, kII] at *
      all_goals try simp only [allValid, List.all_cons, List.all_nil, Bool.and_true, bne_iff_ne, bne_eq_false_iff_eq, ne_eq, ite_ok] at *
      all_goals try simp only [Bool.not_eq_true] at *
      all_goals try (refine ⟨?_⟩; first | assumption | decide | (simp; done))
      all_goals try exact ⟨⟨⟨h1, h2⟩, ⟨h3, h4⟩, trivial⟩⟩
      all_goals try (rw [two_bad ‹_›]; first | done | (rw [if_neg (by simp only [*]; decide)]))
      all_goals try (rw [two_good ‹_›]; done)
      all_goals first | exact ⟨(Bool.and_eq_true_iff.1 ‹(valid n1 d1 && valid m1 e1) = true›).1⟩ | exact ⟨(Bool.and_eq_true_iff.1 ‹(valid n1 d1 && valid m1 e1) = true›).2⟩
    next => cases hF
  next => cases hF)

def c39 : Ctr := .fn fun args _ => match args with
  | [.agg [.v (.int .i64 n), .v (.int .i64 d)], .agg [.v (.int .i64 m), .v (.int .i64 e)]] => some ([inR .i64 n, inR .i64 d, inR .i64 m, inR .i64 e], .tup [.agg [vI (two mulT n d m e).1, vI (two mulT n d m e).2.1], .a (vI (two mulT n d m e).2.2)])
  | _ => none
theorem c39_ok : Ctr.Ok Tryd.prog Γ 39 c39 := Ctr.fn_ok0 (prog_ok (L10_ok.cons (FnOk.of Tryd.func91 rfl rfl) c91_93_ok) true) Tryd.func39 rfl rfl rfl (by
  intro args q t hF hq
  split at hF
  next n d m e =>
    obtain ⟨rfl, rfl⟩ := Prod.mk.inj (Option.some.inj hF); clear hF
    obtain ⟨h1, h2, h3, h4, -⟩ := hq
    refine ⟨rfl, rfl, ?_⟩
    repeat' ((conv => whnf); (first | apply And.intro | intro _))
    all_goals try (conv => whnf)
    all_goals try (first | rfl | trivial | exact LexB.mk (by kernel_rfl) | exact LexG.mk (by kernel_rfl) | exact Forced.mk (by kernel_rfl))
    all_goals try subst_vars
    all_goals first | rfl | exact ⟨by assumption⟩ | exact ⟨rfl⟩
  next => cases hF)

def c94 : Ctr := .fn fun args rg => match args with
  | [.a (.p r 0 0), .a (.p s 0 0)] => (match rg.getD r .dead, rg.getD s .dead with
    | .box _ [.v (.int .i64 n), .v (.int .i64 d)], .box _ [.v (.int .i64 m), .v (.int .i64 e)] => some ([valid n d = true, valid m e = true], .tup [.agg [vI (medT n d m e).1, vI (medT n d m e).2.1], .a (vI (medT n d m e).2.2)])
    | _, _ => none)
  | _ => none
theorem c94_ok : Ctr.Ok Tryd.prog Γ 94 c94 := Ctr.fn_ok1 (prog_ok L10_ok true) Tryd.func94 rfl rfl rfl (by
  intro args rg q t hF hq
  split at hF
  next r s =>
    split at hF
    next o1 n d o2 m e hr hs =>
      obtain ⟨rfl, rfl⟩ := Prod.mk.inj (Option.some.inj hF); clear hF
      obtain ⟨h1, h2, -⟩ := hq
      have hr' := getD_arr hr (by simp)
      have hs' := getD_arr hs (by simp)
      refine ⟨rfl, [r, s], [.a (.p 0 0 0), .a (.p 1 0 0)], [.box o1 [.v (.int .i64 n), .v (.int .i64 d)], .box o2 [.v (.int .i64 m), .v (.int .i64 e)]], ⟨rfl, rfl, fun i g hg => ?_, rfl⟩, ?_⟩
      · match i with
        | 0 => simp at hg; subst hg; exact ⟨rfl, .inr hr'⟩
        | 1 => simp at hg; subst hg; exact ⟨rfl, .inr hs'⟩
        | i + 2 => simp at hg
      repeat' ((conv => whnf); (first | apply And.intro | intro _))
      all_goals try (conv => whnf)
      all_goals try (first | rfl | trivial | exact LexB.mk (by kernel_rfl) | exact LexG.mk (by kernel_rfl) | exact Forced.mk (by kernel_rfl))
      all_goals try subst_vars
      all_goals (have F := twoFit h1 h2; have f1 := F.ne; have f2 := F.md; have f3 := F.nm; have f4 := F.dm; have f5 := F.de; have f6 := F.a; have f7 := F.b; have f8 := F.c; have f9 := F.f)
      all_goals try simp only [beq_iff_eq, beq_eq_false_iff_ne] at *
      all_goals first
        | exact ⟨by simp only [inR]; omega⟩
        | exact ⟨by omega⟩
        | rfl
    next => cases hF
  next => cases hF)

def c91_94 : Ctr := .fn fun args rg => match args with
  | [.agg [.v (.int .i64 n), .v (.int .i64 d)], .agg [.v (.int .i64 m), .v (.int .i64 e)], .a (.fn f [r, s])] => (match Nat.beq f 94, rg.getD r .dead, rg.getD s .dead with
    | true, .box _ [.v (.int .i64 n1), .v (.int .i64 d1)], .box _ [.v (.int .i64 m1), .v (.int .i64 e1)] => some ([n1 = n, d1 = d, m1 = m, e1 = e, inR .i64 n, inR .i64 d, inR .i64 m, inR .i64 e], .tup [.agg [vI (two medT n d m e).1, vI (two medT n d m e).2.1], .a (vI (two medT n d m e).2.2)])
    | _, _, _ => none)
  | _ => none
def L91_94 : List (Nat × Ctr) := (94, c94) :: L10
theorem L91_94_ok : LOk Tryd.prog Γ L91_94 := L10_ok.cons (FnOk.of Tryd.func94 rfl rfl) c94_ok
theorem c91_94_ok : Ctr.Ok Tryd.prog Γ 91 c91_94 := Ctr.fn_ok1 (prog_ok L91_94_ok true) Tryd.func91 rfl rfl rfl (by
  intro args rg q t hF hq
  split at hF
  next n d m e f r s =>
    split at hF
    next o1 n1 d1 o2 m1 e1 hf hr hs =>
      obtain ⟨rfl, rfl⟩ := Prod.mk.inj (Option.some.inj hF); clear hF
      obtain ⟨rfl, rfl, rfl, rfl, h1, h2, h3, h4, -⟩ := hq
      obtain rfl := Nat.eq_of_beq_eq_true hf
      have hr' := getD_arr hr (by simp)
      have hs' := getD_arr hs (by simp)
      refine ⟨rfl, [r, s], [.agg [.v (.int .i64 n1), .v (.int .i64 d1)], .agg [.v (.int .i64 m1), .v (.int .i64 e1)], .a (.fn 94 [0, 1])], [.box o1 [.v (.int .i64 n1), .v (.int .i64 d1)], .box o2 [.v (.int .i64 m1), .v (.int .i64 e1)]], ⟨rfl, rfl, fun i g hg => ?_, rfl⟩, ?_⟩
      · match i with
        | 0 => simp at hg; subst hg; exact ⟨rfl, .inr hr'⟩
        | 1 => simp at hg; subst hg; exact ⟨rfl, .inr hs'⟩
        | i + 2 => simp at hg
      repeat' ((conv => whnf); (first | apply And.intro | intro _))
      all_goals try (conv => whnf)
      all_goals try (first | rfl | trivial | exact LexB.mk (by kernel_rfl) | exact LexG.mk (by kernel_rfl) | exact Forced.mk (by kernel_rfl))
      all_goals try subst_vars
      all_goals try dsimp only [CK.ty, Tup, kII] at *
      all_goals try simp only [allValid, List.all_cons, List.all_nil, Bool.and_true, bne_iff_ne, bne_eq_false_iff_eq, ne_eq, ite_ok] at *
      all_goals try simp only [Bool.not_eq_true] at *
      all_goals try (refine ⟨?_⟩; first | assumption | decide | (simp; done))
      all_goals try exact ⟨⟨⟨h1, h2⟩, ⟨h3, h4⟩, trivial⟩⟩
      all_goals try (rw [two_bad ‹_›]; first | done | (rw [if_neg (by simp only [*]; decide)]))
      all_goals try (rw [two_good ‹_›]; done)
      all_goals first | exact ⟨(Bool.and_eq_true_iff.1 ‹(valid n1 d1 && valid m1 e1) = true›).1⟩ | exact ⟨(Bool.and_eq_true_iff.1 ‹(valid n1 d1 && valid m1 e1) = true›).2⟩
    next => cases hF
  next => cases hF)

def c40 : Ctr := .fn fun args _ => match args with
  | [.agg [.v (.int .i64 n), .v (.int .i64 d)], .agg [.v (.int .i64 m), .v (.int .i64 e)]] => some ([inR .i64 n, inR .i64 d, inR .i64 m, inR .i64 e], .tup [.agg [vI (two medT n d m e).1, vI (two medT n d m e).2.1], .a (vI (two medT n d m e).2.2)])
  | _ => none
theorem c40_ok : Ctr.Ok Tryd.prog Γ 40 c40 := Ctr.fn_ok0 (prog_ok (L10_ok.cons (FnOk.of Tryd.func91 rfl rfl) c91_94_ok) true) Tryd.func40 rfl rfl rfl (by
  intro args q t hF hq
  split at hF
  next n d m e =>
    obtain ⟨rfl, rfl⟩ := Prod.mk.inj (Option.some.inj hF); clear hF
    obtain ⟨h1, h2, h3, h4, -⟩ := hq
    refine ⟨rfl, rfl, ?_⟩
    repeat' ((conv => whnf); (first | apply And.intro | intro _))
    all_goals try (conv => whnf)
    all_goals try (first | rfl | trivial | exact LexB.mk (by kernel_rfl) | exact LexG.mk (by kernel_rfl) | exact Forced.mk (by kernel_rfl))
    all_goals try subst_vars
    all_goals first | rfl | exact ⟨by assumption⟩ | exact ⟨rfl⟩
  next => cases hF)

def c95 : Ctr := .fn fun args rg => match args with
  | [.a (.p r 0 0), .a (.p s 0 0)] => (match rg.getD r .dead, rg.getD s .dead with
    | .box _ [.v (.int .i64 n), .v (.int .i64 d)], .box _ [.v (.int .i64 m), .v (.int .i64 e)] => some ([valid n d = true, valid m e = true], .tup [.agg [vI (subT n d m e).1, vI (subT n d m e).2.1], .a (vI (subT n d m e).2.2)])
    | _, _ => none)
  | _ => none
theorem c95_ok : Ctr.Ok Tryd.prog Γ 95 c95 := Ctr.fn_ok1 (prog_ok L10_ok true) Tryd.func95 rfl rfl rfl (by
  intro args rg q t hF hq
  split at hF
  next r s =>
    split at hF
    next o1 n d o2 m e hr hs =>
      obtain ⟨rfl, rfl⟩ := Prod.mk.inj (Option.some.inj hF); clear hF
      obtain ⟨h1, h2, -⟩ := hq
      have hr' := getD_arr hr (by simp)
      have hs' := getD_arr hs (by simp)
      refine ⟨rfl, [r, s], [.a (.p 0 0 0), .a (.p 1 0 0)], [.box o1 [.v (.int .i64 n), .v (.int .i64 d)], .box o2 [.v (.int .i64 m), .v (.int .i64 e)]], ⟨rfl, rfl, fun i g hg => ?_, rfl⟩, ?_⟩
      · match i with
        | 0 => simp at hg; subst hg; exact ⟨rfl, .inr hr'⟩
        | 1 => simp at hg; subst hg; exact ⟨rfl, .inr hs'⟩
        | i + 2 => simp at hg
      repeat' ((conv => whnf); (first | apply And.intro | intro _))
      all_goals try (conv => whnf)
      all_goals try (first | rfl | trivial | exact LexB.mk (by kernel_rfl) | exact LexG.mk (by kernel_rfl) | exact Forced.mk (by kernel_rfl))
      all_goals try subst_vars
      all_goals (have F := twoFit h1 h2; have f1 := F.ne; have f2 := F.md; have f3 := F.nm; have f4 := F.dm; have f5 := F.de; have f6 := F.a; have f7 := F.b; have f8 := F.c; have f9 := F.f)
      all_goals try simp only [beq_iff_eq, beq_eq_false_iff_ne] at *
      all_goals first
        | exact ⟨by simp only [inR]; omega⟩
        | exact ⟨by omega⟩
        | rfl
    next => cases hF
  next => cases hF)

def c91_95 : Ctr := .fn fun args rg => match args with
  | [.agg [.v (.int .i64 n), .v (.int .i64 d)], .agg [.v (.int .i64 m), .v (.int .i64 e)], .a (.fn f [r, s])] => (match Nat.beq f 95, rg.getD r .dead, rg.getD s .dead with
    | true, .box _ [.v (.int .i64 n1), .v (.int .i64 d1)], .box _ [.v (.int .i64 m1), .v (.int .i64 e1)] => some ([n1 = n, d1 = d, m1 = m, e1 = e, inR .i64 n, inR .i64 d, inR .i64 m, inR .i64 e], .tup [.agg [vI (two subT n d m e).1, vI (two subT n d m e).2.1], .a (vI (two subT n d m e).2.2)])
    | _, _, _ => none)
  | _ => none
def L91_95 : List (Nat × Ctr) := (95, c95) :: L10
theorem L91_95_ok : LOk Tryd.prog Γ L91_95 := L10_ok.cons (FnOk.of Tryd.func95 rfl rfl) c95_ok
theorem c91_95_ok : Ctr.Ok Tryd.prog Γ 91 c91_95 := Ctr.fn_ok1 (prog_ok L91_95_ok true) Tryd.func91 rfl rfl rfl (by
  intro args rg q t hF hq
  split at hF
  next n d m e f r s =>
    split at hF
    next o1 n1 d1 o2 m1 e1 hf hr hs =>
      obtain ⟨rfl, rfl⟩ := Prod.mk.inj (Option.some.inj hF); clear hF
      obtain ⟨rfl, rfl, rfl, rfl, h1, h2, h3, h4, -⟩ := hq
      obtain rfl := Nat.eq_of_beq_eq_true hf
      have hr' := getD_arr hr (by simp)
      have hs' := getD_arr hs (by simp)
      refine ⟨rfl, [r, s], [.agg [.v (.int .i64 n1), .v (.int .i64 d1)], .agg [.v (.int .i64 m1), .v (.int .i64 e1)], .a (.fn 95 [0, 1])], [.box o1 [.v (.int .i64 n1), .v (.int .i64 d1)], .box o2 [.v (.int .i64 m1), .v (.int .i64 e1)]], ⟨rfl, rfl, fun i g hg => ?_, rfl⟩, ?_⟩
      · match i with
        | 0 => simp at hg; subst hg; exact ⟨rfl, .inr hr'⟩
        | 1 => simp at hg; subst hg; exact ⟨rfl, .inr hs'⟩
        | i + 2 => simp at hg
      repeat' ((conv => whnf); (first | apply And.intro | intro _))
      all_goals try (conv => whnf)
      all_goals try (first | rfl | trivial | exact LexB.mk (by kernel_rfl) | exact LexG.mk (by kernel_rfl) | exact Forced.mk (by kernel_rfl))
      all_goals try subst_vars
      all_goals try dsimp only [CK.ty, Tup, kII] at *
      all_goals try simp only [allValid, List.all_cons, List.all_nil, Bool.and_true, bne_iff_ne, bne_eq_false_iff_eq, ne_eq, ite_ok] at *
      all_goals try simp only [Bool.not_eq_true] at *
      all_goals try (refine ⟨?_⟩; first | assumption | decide | (simp; done))
      all_goals try exact ⟨⟨⟨h1, h2⟩, ⟨h3, h4⟩, trivial⟩⟩
      all_goals try (rw [two_bad ‹_›]; first | done | (rw [if_neg (by simp only [*]; decide)]))
      all_goals try (rw [two_good ‹_›]; done)
      all_goals first | exact ⟨(Bool.and_eq_true_iff.1 ‹(valid n1 d1 && valid m1 e1) = true›).1⟩ | exact ⟨(Bool.and_eq_true_iff.1 ‹(valid n1 d1 && valid m1 e1) = true›).2⟩
    next => cases hF
  next => cases hF)

def c41 : Ctr := .fn fun args _ => match args with
  | [.agg [.v (.int .i64 n), .v (.int .i64 d)], .agg [.v (.int .i64 m), .v (.int .i64 e)]] => some ([inR .i64 n, inR .i64 d, inR .i64 m, inR .i64 e], .tup [.agg [vI (two subT n d m e).1, vI (two subT n d m e).2.1], .a (vI (two subT n d m e).2.2)])
  | _ => none
theorem c41_ok : Ctr.Ok Tryd.prog Γ 41 c41 := Ctr.fn_ok0 (prog_ok (L10_ok.cons (FnOk.of Tryd.func91 rfl rfl) c91_95_ok) true) Tryd.func41 rfl rfl rfl (by
  intro args q t hF hq
  split at hF
  next n d m e =>
    obtain ⟨rfl, rfl⟩ := Prod.mk.inj (Option.some.inj hF); clear hF
    obtain ⟨h1, h2, h3, h4, -⟩ := hq
    refine ⟨rfl, rfl, ?_⟩
    repeat' ((conv => whnf); (first | apply And.intro | intro _))
    all_goals try (conv => whnf)
    all_goals try (first | rfl | trivial | exact LexB.mk (by kernel_rfl) | exact LexG.mk (by kernel_rfl) | exact Forced.mk (by kernel_rfl))
    all_goals try subst_vars
    all_goals first | rfl | exact ⟨by assumption⟩ | exact ⟨rfl⟩
  next => cases hF)

def c96 : Ctr := .fn fun args rg => match args with
  | [.a (.p s 0 0), .a (.p r 0 0)] => (match rg.getD r .dead, rg.getD s .dead with
    | .box _ [.v (.int .i64 n), .v (.int .i64 d)], .box _ [.v (.int .i64 m), .v (.int .i64 e)] => some ([valid n d = true, valid m e = true], .tup [.agg [vI (divT n d m e).1, vI (divT n d m e).2.1], .a (vI (divT n d m e).2.2)])
    | _, _ => none)
  | _ => none
theorem c96_ok : Ctr.Ok Tryd.prog Γ 96 c96 := Ctr.fn_ok1 (prog_ok L10_ok true) Tryd.func96 rfl rfl rfl (by
  intro args rg q t hF hq
  split at hF
  next s r =>
    split at hF
    next o1 n d o2 m e hr hs =>
      obtain ⟨rfl, rfl⟩ := Prod.mk.inj (Option.some.inj hF); clear hF
      obtain ⟨h1, h2, -⟩ := hq
      have hr' := getD_arr hr (by simp)
      have hs' := getD_arr hs (by simp)
      refine ⟨rfl, [s, r], [.a (.p 0 0 0), .a (.p 1 0 0)], [.box o2 [.v (.int .i64 m), .v (.int .i64 e)], .box o1 [.v (.int .i64 n), .v (.int .i64 d)]], ⟨rfl, rfl, fun i g hg => ?_, rfl⟩, ?_⟩
      · match i with
        | 0 => simp at hg; subst hg; exact ⟨rfl, .inr hs'⟩
        | 1 => simp at hg; subst hg; exact ⟨rfl, .inr hr'⟩
        | i + 2 => simp at hg
      repeat' ((conv => whnf); (first | apply And.intro | intro _))
      all_goals try (conv => whnf)
      all_goals try (first | rfl | trivial | exact LexB.mk (by kernel_rfl) | exact LexG.mk (by kernel_rfl) | exact Forced.mk (by kernel_rfl))
      all_goals try subst_vars
      all_goals try simp only [beq_iff_eq, beq_eq_false_iff_ne] at *
      all_goals try (rw [divT_zero ‹m = 0›]; done)
      all_goals (have F := twoFit h1 h2; have f1 := F.ne; have f2 := F.md; have f3 := F.nm; have f4 := F.dm; have f5 := F.de; have f6 := F.a; have f7 := F.b; have f8 := F.c; have f9 := F.f)
      all_goals try (rw [divT_ne ‹m ≠ 0›]; rfl)
      all_goals try exact ⟨by simp only [inR]; omega⟩
      all_goals (refine ⟨fun h0 => ?_⟩; rcases Int.mul_eq_zero.1 h0 with h0 | h0 <;> omega)
    next => cases hF
  next => cases hF)

def c91_96 : Ctr := .fn fun args rg => match args with
  | [.agg [.v (.int .i64 n), .v (.int .i64 d)], .agg [.v (.int .i64 m), .v (.int .i64 e)], .a (.fn f [s, r])] => (match Nat.beq f 96, rg.getD r .dead, rg.getD s .dead with
    | true, .box _ [.v (.int .i64 n1), .v (.int .i64 d1)], .box _ [.v (.int .i64 m1), .v (.int .i64 e1)] => some ([n1 = n, d1 = d, m1 = m, e1 = e, inR .i64 n, inR .i64 d, inR .i64 m, inR .i64 e], .tup [.agg [vI (two divT n d m e).1, vI (two divT n d m e).2.1], .a (vI (two divT n d m e).2.2)])
    | _, _, _ => none)
  | _ => none
def L91_96 : List (Nat × Ctr) := (96, c96) :: L10
theorem L91_96_ok : LOk Tryd.prog Γ L91_96 := L10_ok.cons (FnOk.of Tryd.func96 rfl rfl) c96_ok
theorem c91_96_ok : Ctr.Ok Tryd.prog Γ 91 c91_96 := Ctr.fn_ok1 (prog_ok L91_96_ok true) Tryd.func91 rfl rfl rfl (by
  intro args rg q t hF hq
  split at hF
  next n d m e f s r =>
    split at hF
    next o1 n1 d1 o2 m1 e1 hf hr hs =>
      obtain ⟨rfl, rfl⟩ := Prod.mk.inj (Option.some.inj hF); clear hF
      obtain ⟨rfl, rfl, rfl, rfl, h1, h2, h3, h4, -⟩ := hq
      obtain rfl := Nat.eq_of_beq_eq_true hf
      have hr' := getD_arr hr (by simp)
      have hs' := getD_arr hs (by simp)
      refine ⟨rfl, [s, r], [.agg [.v (.int .i64 n1), .v (.int .i64 d1)], .agg [.v (.int .i64 m1), .v (.int .i64 e1)], .a (.fn 96 [0, 1])], [.box o2 [.v (.int .i64 m1), .v (.int .i64 e1)], .box o1 [.v (.int .i64 n1), .v (.int .i64 d1)]], ⟨rfl, rfl, fun i g hg => ?_, rfl⟩, ?_⟩
      · match i with
        | 0 => simp at hg; subst hg; exact ⟨rfl, .inr hs'⟩
        | 1 => simp at hg; subst hg; exact ⟨rfl, .inr hr'⟩
        | i + 2 => simp at hg
      repeat' ((conv => whnf); (first | apply And.intro | intro _))
      all_goals try (conv => whnf)
      all_goals try (first | rfl | trivial | exact LexB.mk (by kernel_rfl) | exact LexG.mk (by kernel_rfl) | exact Forced.mk (by kernel_rfl))
      all_goals try subst_vars
      all_goals try dsimp only [CK.ty, Tup, kII] at *
      all_goals try simp only [allValid, List.all_cons, List.all_nil, Bool.and_true, bne_iff_ne, bne_eq_false_iff_eq, ne_eq, ite_ok] at *
      all_goals try simp only [Bool.not_eq_true] at *
      all_goals try (refine ⟨?_⟩; first | assumption | decide | (simp; done))
      all_goals try exact ⟨⟨⟨h1, h2⟩, ⟨h3, h4⟩, trivial⟩⟩
      all_goals try (rw [two_bad ‹_›]; first | done | (rw [if_neg (by simp only [*]; decide)]))
      all_goals try (rw [two_good ‹_›]; done)
      all_goals first | exact ⟨(Bool.and_eq_true_iff.1 ‹(valid n1 d1 && valid m1 e1) = true›).1⟩ | exact ⟨(Bool.and_eq_true_iff.1 ‹(valid n1 d1 && valid m1 e1) = true›).2⟩
    next => cases hF
  next => cases hF)

def c42 : Ctr := .fn fun args _ => match args with
  | [.agg [.v (.int .i64 n), .v (.int .i64 d)], .agg [.v (.int .i64 m), .v (.int .i64 e)]] => some ([inR .i64 n, inR .i64 d, inR .i64 m, inR .i64 e], .tup [.agg [vI (two divT n d m e).1, vI (two divT n d m e).2.1], .a (vI (two divT n d m e).2.2)])
  | _ => none
theorem c42_ok : Ctr.Ok Tryd.prog Γ 42 c42 := Ctr.fn_ok0 (prog_ok (L10_ok.cons (FnOk.of Tryd.func91 rfl rfl) c91_96_ok) true) Tryd.func42 rfl rfl rfl (by
  intro args q t hF hq
  split at hF
  next n d m e =>
    obtain ⟨rfl, rfl⟩ := Prod.mk.inj (Option.some.inj hF); clear hF
    obtain ⟨h1, h2, h3, h4, -⟩ := hq
    refine ⟨rfl, rfl, ?_⟩
    repeat' ((conv => whnf); (first | apply And.intro | intro _))
    all_goals try (conv => whnf)
    all_goals try (first | rfl | trivial | exact LexB.mk (by kernel_rfl) | exact LexG.mk (by kernel_rfl) | exact Forced.mk (by kernel_rfl))
    all_goals try subst_vars
    all_goals first | rfl | exact ⟨by assumption⟩ | exact ⟨rfl⟩
  next => cases hF)

def cmpX (n d m e : Int) : Int × Int := if (valid n d && valid m e) = true then (cmpI n d m e, 0) else (0, 1)
theorem cmpX_bad {n d m e : Int} (h : (valid n d && valid m e) = false) : cmpX n d m e = (0, 1) := by simp only [cmpX, h, Bool.false_eq_true, if_false]
theorem cmpX_good {n d m e : Int} (h : (valid n d && valid m e) = true) : cmpX n d m e = (cmpI n d m e, 0) := if_pos h
def c37 : Ctr := .fn fun args _ => match args with
  | [.agg [.v (.int .i64 n), .v (.int .i64 d)], .agg [.v (.int .i64 m), .v (.int .i64 e)]] => some ([inR .i64 n, inR .i64 d, inR .i64 m, inR .i64 e], .tup [.a (vI (cmpX n d m e).1), .a (vI (cmpX n d m e).2)])
  | _ => none
theorem c37_ok : Ctr.Ok Tryd.prog Γ 37 c37 := Ctr.fn_ok0 (prog_ok L10_ok true) Tryd.func37 rfl rfl rfl (by
  intro args q t hF hq
  split at hF
  next n d m e =>
    obtain ⟨rfl, rfl⟩ := Prod.mk.inj (Option.some.inj hF); clear hF
    obtain ⟨h1, h2, h3, h4, -⟩ := hq
    refine ⟨rfl, rfl, ?_⟩
    repeat' ((conv => whnf); (first | apply And.intro | intro _))
    all_goals try (conv => whnf)
    all_goals try (first | rfl | trivial | exact LexB.mk (by kernel_rfl) | exact LexG.mk (by kernel_rfl) | exact Forced.mk (by kernel_rfl))
    all_goals try subst_vars
    all_goals try dsimp only [CK.ty, Tup, kII] at *
    all_goals try simp only [allValid, List.all_cons, List.all_nil, Bool.and_true, bne_iff_ne, bne_eq_false_iff_eq, ne_eq, ite_ok] at *
    all_goals try simp only [Bool.not_eq_true] at *
    all_goals try (refine ⟨?_⟩; first | assumption | decide | (simp; done))
    all_goals try exact ⟨⟨⟨h1, h2⟩, ⟨h3, h4⟩, trivial⟩⟩
    all_goals try (rw [cmpX_bad ‹_›]; first | done | (rw [if_neg (by simp only [*]; decide)]))
    all_goals try (rw [cmpX_good ‹_›]; done)
    all_goals (have hv := Bool.and_eq_true_iff.1 ‹(valid n d && valid m e) = true›
               have F := twoFit hv.1 hv.2; have f1 := F.ne; have f2 := F.md
               exact ⟨by simp only [inR]; omega⟩)
  next => cases hF)

def negX (n d : Int) : Int × Int × Int := if valid n d = true then (0 - n, d, 0) else (0, 0, 1)
theorem negX_bad {n d : Int} (h : valid n d = false) : negX n d = (0, 0, 1) := by simp only [negX, h, Bool.false_eq_true, if_false]
theorem negX_good {n d : Int} (h : valid n d = true) : negX n d = (0 - n, d, 0) := if_pos h
def c48 : Ctr := .fn fun args _ => match args with
  | [.agg [.v (.int .i64 n), .v (.int .i64 d)]] => some ([inR .i64 n, inR .i64 d], .tup [.agg [vI (negX n d).1, vI (negX n d).2.1], .a (vI (negX n d).2.2)])
  | _ => none
theorem c48_ok : Ctr.Ok Tryd.prog Γ 48 c48 := Ctr.fn_ok0 (prog_ok L10_ok true) Tryd.func48 rfl rfl rfl (by
  intro args q t hF hq
  split at hF
  next n d =>
    obtain ⟨rfl, rfl⟩ := Prod.mk.inj (Option.some.inj hF); clear hF
    obtain ⟨h1, h2, -⟩ := hq
    refine ⟨rfl, rfl, ?_⟩
    repeat' ((conv => whnf); (first | apply And.intro | intro _))
    all_goals try (conv => whnf)
    all_goals try (first | rfl | trivial | exact LexB.mk (by kernel_rfl) | exact LexG.mk (by kernel_rfl) | exact Forced.mk (by kernel_rfl))
    all_goals try subst_vars
    all_goals try dsimp only [CK.ty, Tup, kII] at *
    all_goals try simp only [allValid, List.all_cons, List.all_nil, Bool.and_true, bne_iff_ne, bne_eq_false_iff_eq, ne_eq, ite_ok] at *
    all_goals try simp only [Bool.not_eq_true] at *
    all_goals try (refine ⟨?_⟩; first | assumption | decide | (simp; done))
    all_goals try exact ⟨⟨h1, h2⟩, trivial⟩
    all_goals try (rw [negX_bad ‹_›]; first | done | (rw [if_neg (by simp only [*]; decide)]))
    all_goals try (rw [negX_good ‹_›]; done)
    all_goals (have v := valid_iff.1 ‹valid n d = true›; exact ⟨by simp only [inR]; omega⟩)
  next => cases hF)

end Go.Proofs.YtoggkjobihlohaaDoor
