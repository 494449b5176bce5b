/-
  Chapter 1: Fold, in the specification.
-/
import Derived.Test.YtoggkjobihlohaaDoorF32
namespace Go.Proofs.YtoggkjobihlohaaDoor
open Go Go.Sx
set_option maxRecDepth 100000
variable {Γ : Glob}

theorem rpos_lt {l : List Int} {k : Nat} (h : decide ((k : Int) + 1 < (l.length : Int)) = true) : 0 + ((k : Int) + 1).toNat < l.length := by
  have h1 := of_decide_eq_true h
  omega
theorem rpos_in {l : List Int} {k : Nat} (h : decide ((k : Int) + 1 < (l.length : Int)) = true) : 0 ≤ (k : Int) + 1 ∧ (k : Int) + 1 < (l.length : Int) := by
  have h1 := of_decide_eq_true h
  omega
theorem rpos_bad {l : List Int} {k : Nat} {d : Int} (h : decide ((k : Int) + 1 < (l.length : Int)) = true) (hx : decide (l.getD (0 + ((k : Int) + 1).toNat) d < 1) = true) : allPos (l.drop 1) = false := by
  have h1 := of_decide_eq_true h
  have h2 := of_decide_eq_true hx
  rw [show 0 + ((k : Int) + 1).toNat = 1 + k by omega, getD_eq (by omega)] at h2
  exact posTo_bad (by omega) h2
theorem rpos_le {l : List Int} {k : Nat} (h : decide ((k : Int) + 1 < (l.length : Int)) = true) : k + 1 ≤ l.length - 1 := by
  have h1 := of_decide_eq_true h
  omega
theorem rpos_succ {l : List Int} {k : Nat} {d : Int} (hp : posTo l k) (h : decide ((k : Int) + 1 < (l.length : Int)) = true) (hx : decide (l.getD (0 + ((k : Int) + 1).toNat) d < 1) = false) : posTo l (k + 1) := by
  have h1 := of_decide_eq_true h
  have h2 := of_decide_eq_false hx
  rw [show 0 + ((k : Int) + 1).toNat = 1 + k by omega, getD_eq (by omega)] at h2
  intro t ht hl
  by_cases e : t = k
  · subst e; omega
  · exact hp t (by omega) hl
theorem rpos_end {l : List Int} {k : Nat} (hk : k ≤ l.length - 1) (hp : posTo l k) (hpos : 0 < l.length) (h : decide ((k : Int) + 1 < (l.length : Int)) = false) : allPos (l.drop 1) = true := by
  have h1 := of_decide_eq_false h
  have : k = l.length - 1 := by omega
  subst this
  exact posTo_all hp

def c45 : Ctr := .fn fun args rg => match args with
  | [.a (.sl r lo n)] => (match rg.getD r .dead with
    | .arr _ [.int .i64] xs _ => some ([lo = 0, n = xs.length, xs.length ≤ 1099511627776, inAllI xs], .agg [vI (foldT xs).1, vI (foldT xs).2.1, vI (foldT xs).2.2])
    | _ => none)
  | _ => none
theorem c45_ok : Ctr.Ok Tryd.prog Γ 45 c45 := Ctr.fn_ok1 (prog_ok L0_ok true) Tryd.func45 rfl rfl rfl (by
  intro args rg q t hF hq
  split at hF
  next r lo n =>
    split at hF
    next te xs o hr =>
      obtain ⟨rfl, rfl⟩ := Prod.mk.inj (Option.some.inj hF); clear hF
      obtain ⟨rfl, rfl, h3, h4, -⟩ := hq
      have hr' := getD_arr hr (by simp)
      refine ⟨rfl, [r], [.a (.sl 0 0 xs.length)], [.arr te kI xs o], ⟨rfl, rfl, fun r' g hg => ?_, rfl⟩, ?_⟩
      · cases r' with
        | zero => simp at hg; subst hg; exact ⟨rfl, .inr hr'⟩
        | succ r' => simp at hg
      have l1 : @List.length (Tup kI) xs = @List.length Int xs := rfl
      have l2 : @List.length (Tup [CK.int IntKind.i64]) xs = @List.length Int xs := rfl
      repeat' ((conv => whnf); (first | apply And.intro | intro _))
      all_goals try (conv => whnf)
      all_goals try (first | rfl | trivial | exact LexB.mk (by kernel_rfl) | exact LexG.mk (by kernel_rfl) | exact Forced.mk (by kernel_rfl))
      all_goals try subst_vars
      all_goals try (rw [fold_long (l := xs) (by assumption)]; done)
      all_goals (have hlen := not_long (l := xs) (by assumption))
      all_goals try (rw [fold_empty (l := xs) (by assumption)]; done)
      all_goals (have hpos := not_empty (l := xs) (by assumption))
      refine ⟨Nat, fun k => k ≤ xs.length - 1 ∧ posTo xs k, fun k => ⟨slots 80 [(0, .a (.sl 0 0 xs.length)), (2, .a (.p 1 0 0)), (3, .a (vI ((k : Int) + 1)))], [.arr te kI xs false, .box true [vI 0, vI 0, vI 0]]⟩, fun k => xs.length - k, 0, ⟨Nat.zero_le _, fun t ht => absurd ht (Nat.not_lt_zero _)⟩, ?_, ?_⟩
      · repeat' ((conv => whnf); (first | apply And.intro | intro _))
        all_goals (first | rfl | trivial | exact Nat.zero_lt_succ _ | exact Nat.lt_succ_self _ | decide)
      · rintro k ⟨hk, hp⟩
        repeat' ((conv => whnf); (first | apply And.intro | intro _))
        all_goals try (conv => whnf)
        all_goals try (first | rfl | trivial | exact LexB.mk (by kernel_rfl) | exact LexG.mk (by kernel_rfl) | exact Forced.mk (by kernel_rfl))
        all_goals try subst_vars
        all_goals try (have hbad := rpos_bad (l := xs) (k := k) (by assumption) (by assumption); rw [foldT_bad hlen hbad]; done)
        · exact ⟨rpos_in (l := xs) (by assumption)⟩
        · exact ⟨rpos_lt (l := xs) (by assumption)⟩
        · exact ⟨by have := rpos_lt (l := xs) (k := k) (by assumption); simp only [inR]; omega⟩
        · refine ⟨k + 1, ⟨rpos_le (l := xs) (by assumption), rpos_succ (l := xs) hp (by assumption) (by assumption)⟩, ?_, by have h1 : k + 1 ≤ @List.length Int xs - 1 := rpos_le (l := xs) (k := k) (by assumption); show @List.length Int xs - (k + 1) < @List.length Int xs - k; omega⟩
          repeat' ((conv => whnf); (first | apply And.intro | intro _))
          all_goals (first | rfl | trivial | exact Nat.zero_lt_succ _ | exact Nat.lt_succ_self _ | decide)
        · exact ⟨by simp only [inR]; omega⟩
        have ha := rpos_end (l := xs) hk hp hpos (by assumption)
        refine ⟨Fo, fun x => x.j ≤ xs.length ∧ x.Inv xs 1 0, fun x => ⟨slots 80 [(0, .a (.sl 0 0 xs.length)), (2, .a (.p 1 0 0)), (4, .a (vI x.p)), (5, .a (vI x.q)), (6, .a (vI ((x.j : Int) - 1)))], [.arr te kI xs false, .box true [vI 0, vI 0, vI 0]]⟩, fun x => x.j, ⟨xs.length, 1, 0⟩, ⟨Nat.le_refl _, .inl ⟨rfl, rfl, rfl⟩⟩, ?_, ?_⟩
        · repeat' ((conv => whnf); (first | apply And.intro | intro _))
          all_goals (first | rfl | trivial | exact Nat.zero_lt_succ _ | exact Nat.lt_succ_self _ | decide)
        · rintro ⟨j, p, q⟩ ⟨hx, hi⟩
          cases j with
          | zero =>
            obtain ⟨hT, hL, hq1, hqM, hpb⟩ := fo_end hlen hpos ha hi rfl
            repeat' ((conv => whnf); (first | apply And.intro | intro _))
            all_goals try (conv => whnf)
            all_goals try (first | rfl | trivial | exact LexB.mk (by kernel_rfl) | exact LexG.mk (by kernel_rfl) | exact Forced.mk (by kernel_rfl))
            all_goals try subst_vars
            all_goals try exact absurd (of_decide_eq_true ‹decide (((0 : Nat) : Int) - 1 ≥ 0) = true›) (by omega)
            all_goals (simp only at hT hq1 hqM hpb; simp only [decide_eq_true_eq, decide_eq_false_iff_not] at *)
            all_goals try (rw [hT, if_pos (by omega)]; done)
            all_goals try (rw [hT, if_neg (by omega)]; done)
          | succ j =>
            have hj : j < @List.length Int xs := hx
            obtain ⟨p', q', ht, hp1, hp2⟩ := fo_tl hi (Nat.succ_pos j)
            simp only at hp1 hp2
            obtain ⟨rfl, rfl⟩ : p = p' ∧ q = q' := by
              by_cases hw : j + 1 < @List.length Int xs
              · exact hp1 hw
              · obtain ⟨rfl, rfl, rfl, rfl⟩ := hp2 (by omega)
                exact ⟨rfl, rfl⟩
            have hs := fo_step ha hj ht
            have hbig := fo_big hlen ha hj hs
            have hnone := fo_none hlen ha hj hs
            have hfit := fold_fits (x := xs.getD j (0 : Int)) hs.ok
            have hv := inAllI_get h4 hj 0
            have k1 := hs.ok.p1; have k2 := hs.ok.pM; have k3 := hs.ok.q0; have k4 := hs.ok.qp
            have e : ∀ d : Int, @List.getD Int xs (0 + (((j + 1 : Nat) : Int) - 1).toNat) d = @List.getD Int xs j 0 := fun d => by
              rw [show 0 + (((j + 1 : Nat) : Int) - 1).toNat = j by omega]; exact getD_eq hj d
            repeat' ((conv => whnf); (first | apply And.intro | intro _))
            all_goals try (conv => whnf)
            all_goals try (first | rfl | trivial | exact LexB.mk (by kernel_rfl) | exact LexG.mk (by kernel_rfl) | exact Forced.mk (by kernel_rfl))
            all_goals try subst_vars
            all_goals try dsimp only [CK.ty, Tup, kI] at *
            all_goals try simp only [e, decide_eq_true_eq, decide_eq_false_iff_not] at *
            all_goals try exact ⟨by omega⟩
            all_goals try exact ⟨by simp only [inR] at *; omega⟩
            all_goals try (rw [hbig (by omega)]; done)
            all_goals try (rw [hnone (by omega) (by omega)]; done)
            all_goals try (exfalso; omega)
            all_goals (refine ⟨Fo.mk j (@List.getD Int xs j 0 * p + q) p, ⟨Nat.le_of_lt hj, fo_next hj hs (fun _ => by omega) ⟨by omega, by omega⟩ 1 0⟩, ?_, Nat.lt_succ_self j⟩
                       repeat' ((conv => whnf); (first | apply And.intro | intro _))
                       all_goals (first | rfl | trivial | exact Nat.zero_lt_succ _ | exact Nat.lt_succ_self _ | exact congrArg (Value.int .i64) (fo_index j) | exact (e _) | exact congrArg (fun v : Int => Value.int .i64 (v * p + q)) (e _)))
    next => cases hF
  next => cases hF)
end Go.Proofs.YtoggkjobihlohaaDoor
