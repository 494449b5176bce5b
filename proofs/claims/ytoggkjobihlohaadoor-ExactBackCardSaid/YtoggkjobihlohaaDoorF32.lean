/-
  Chapter 1: Fold, in the program.
-/
import Derived.Test.YtoggkjobihlohaaDoorF31
import Derived.Test.YtoggkjobihlohaaDoorF19
namespace Go.Proofs.YtoggkjobihlohaaDoor
open Go Go.Sx
set_option maxRecDepth 100000
variable {Γ : Glob}

theorem fold_long {l : List Int} (h : decide ((l.length : Int) > 50) = true) : foldT l = (0, 0, 2) := foldT_long (by have := of_decide_eq_true h; omega)
theorem not_long {l : List Int} (h : decide ((l.length : Int) > 50) = false) : ¬ 50 < l.length := by have := of_decide_eq_false h; omega
theorem fold_empty {l : List Int} (h : ((l.length : Int) == 0) = true) : foldT l = (0, 0, 1) := foldT_nil (by have := eq_of_beq h; omega)
theorem not_empty {l : List Int} (h : ((l.length : Int) == 0) = false) : 0 < l.length := by have := ne_of_beq_false h; omega

theorem pos_bad {l : List Int} {k : Nat} {d : Int} (h : decide ((k : Int) < ((l.length - 1 : Nat) : Int)) = true) (hx : decide (l.getD (1 + (k : Int).toNat) d < 1) = true) : allPos (l.drop 1) = false := by
  have h1 := of_decide_eq_true h
  have h2 := of_decide_eq_true hx
  rw [Int.toNat_natCast, getD_eq (by omega)] at h2
  exact posTo_bad (by omega) h2
theorem pos_lt {l : List Int} {k : Nat} (h : decide ((k : Int) < ((l.length - 1 : Nat) : Int)) = true) : 1 + (k : Int).toNat < l.length := by
  have h1 := of_decide_eq_true h
  omega
theorem pos_le {l : List Int} {k : Nat} (h : decide ((k : Int) < ((l.length - 1 : Nat) : Int)) = true) : k + 1 ≤ l.length - 1 := by
  have h1 := of_decide_eq_true h
  omega
theorem pos_succ {l : List Int} {k : Nat} {d : Int} (hp : posTo l k) (h : decide ((k : Int) < ((l.length - 1 : Nat) : Int)) = true) (hx : decide (l.getD (1 + (k : Int).toNat) d < 1) = false) : posTo l (k + 1) := by
  have h1 := of_decide_eq_true h
  have h2 := of_decide_eq_false hx
  rw [Int.toNat_natCast, getD_eq (by omega)] at h2
  intro t ht hl
  by_cases e : t = k
  · subst e; omega
  · exact hp t (by omega) hl
theorem pos_end {l : List Int} {k : Nat} (hk : k ≤ l.length - 1) (hp : posTo l k) (h : decide ((k : Int) < ((l.length - 1 : Nat) : Int)) = false) : allPos (l.drop 1) = true := by
  have h1 := of_decide_eq_false h
  have : k = l.length - 1 := by omega
  subst this
  exact posTo_all hp

theorem fo_index (j : Nat) : ((j + 1 : Nat) : Int) - 1 - 1 = (j : Int) - 1 := by omega

def c44 : Ctr := .fn fun args rg => match args with
  | [.a (.sl r lo n)] => (match rg.getD r .dead with
    | .arr _ [.int .i64] xs _ => some ([lo = 0, n = xs.length, xs.length ≤ 1099511627776, inAllI xs], .tup [.agg [vI (foldT xs).1, vI (foldT xs).2.1], .a (vI (foldT xs).2.2)])
    | _ => none)
  | _ => none
theorem c44_ok : Ctr.Ok Tryd.prog Γ 44 c44 := Ctr.fn_ok1 (prog_ok L10_ok true) Tryd.func44 rfl rfl rfl (by
  intro args rg q t hF hq
  split at hF
  next r lo n =>
    split at hF
    next te xs o hr =>
      obtain ⟨rfl, rfl⟩ := Prod.mk.inj (Option.some.inj hF); clear hF
      obtain ⟨rfl, rfl, h3, h4, -⟩ := hq
      have hr' := getD_arr hr (by simp)
      refine ⟨rfl, [r], [.a (.sl 0 0 xs.length)], [.arr te kI xs o], ⟨rfl, rfl, fun r' g hg => ?_, rfl⟩, ?_⟩
      · cases r' with
        | zero => simp at hg; subst hg; exact ⟨rfl, .inr hr'⟩
        | succ r' => simp at hg
      have l1 : @List.length (Tup kI) xs = @List.length Int xs := rfl
      have l2 : @List.length (Tup [CK.int IntKind.i64]) xs = @List.length Int xs := rfl
      repeat' ((conv => whnf); (first | apply And.intro | intro _))
      all_goals try (conv => whnf)
      all_goals try (first | rfl | trivial | exact LexB.mk (by kernel_rfl) | exact LexG.mk (by kernel_rfl) | exact Forced.mk (by kernel_rfl))
      all_goals try subst_vars
      all_goals try (rw [fold_long (l := xs) (by assumption)]; done)
      all_goals (have hlen := not_long (l := xs) (by assumption))
      all_goals try (rw [fold_empty (l := xs) (by assumption)]; done)
      all_goals (have hpos := not_empty (l := xs) (by assumption))
      · exact ⟨by omega⟩
      refine ⟨Nat, fun k => k ≤ xs.length - 1 ∧ posTo xs k, fun k => ⟨slots 81 [(0, .a (.sl 0 0 xs.length)), (2, .a (.p 1 0 0)), (3, .a (vI 0)), (19, .a (.sl 0 1 (xs.length - 1))), (20, .a (vI ((xs.length - 1 : Nat) : Int))), (21, .a (vI k))], [.arr te kI xs false, .box true [vI 0, vI 0]]⟩, fun k => xs.length - k, 0, ⟨Nat.zero_le _, fun t ht => absurd ht (Nat.not_lt_zero _)⟩, ?_, ?_⟩
      · repeat' ((conv => whnf); (first | apply And.intro | intro _))
        all_goals (first | rfl | trivial | exact Nat.zero_lt_succ _ | exact Nat.lt_succ_self _ | decide)
      · rintro k ⟨hk, hp⟩
        repeat' ((conv => whnf); (first | apply And.intro | intro _))
        all_goals try (conv => whnf)
        all_goals try (first | rfl | trivial | exact LexB.mk (by kernel_rfl) | exact LexG.mk (by kernel_rfl) | exact Forced.mk (by kernel_rfl))
        all_goals try subst_vars
        all_goals try (have hbad := pos_bad (l := xs) (k := k) (by assumption) (by assumption); rw [foldT_bad hlen hbad]; done)
        · exact ⟨⟨Int.natCast_nonneg _, of_decide_eq_true (by assumption)⟩⟩
        · exact ⟨pos_lt (l := xs) (by assumption)⟩
        · exact ⟨by have := of_decide_eq_true (p := (k : Int) < ((@List.length Int xs - 1 : Nat) : Int)) (by assumption); simp only [inR]; omega⟩
        · refine ⟨k + 1, ⟨pos_le (l := xs) (by assumption), pos_succ (l := xs) hp (by assumption) (by assumption)⟩, ?_, by have h1 : k + 1 ≤ @List.length Int xs - 1 := pos_le (l := xs) (k := k) (by assumption); show @List.length Int xs - (k + 1) < @List.length Int xs - k; omega⟩
          repeat' ((conv => whnf); (first | apply And.intro | intro _))
          all_goals (first | rfl | trivial | exact Nat.zero_lt_succ _ | exact Nat.lt_succ_self _ | decide)
        · exact ⟨by simp only [inR]; omega⟩
        have ha := pos_end (l := xs) hk hp (by assumption)
        refine ⟨Fo, fun x => x.j ≤ xs.length ∧ x.Inv xs 0 0, fun x => ⟨slots 81 [(0, .a (.sl 0 0 xs.length)), (2, .a (.p 1 0 0)), (3, .a (vI 0)), (6, .a (.p 2 0 0)), (7, .a (vI ((x.j : Int) - 1)))], [.arr te kI xs false, .box true [vI 0, vI 0], .box true [vI x.p, vI x.q]]⟩, fun x => x.j, ⟨xs.length, 0, 0⟩, ⟨Nat.le_refl _, .inl ⟨rfl, rfl, rfl⟩⟩, ?_, ?_⟩
        · repeat' ((conv => whnf); (first | apply And.intro | intro _))
          all_goals (first | rfl | trivial | exact Nat.zero_lt_succ _ | exact Nat.lt_succ_self _ | decide)
        · rintro ⟨j, p, q⟩ ⟨hx, hi⟩
          cases j with
          | zero =>
            obtain ⟨hT, hL, hq1, hqM, hpb⟩ := fo_end hlen hpos ha hi rfl
            repeat' ((conv => whnf); (first | apply And.intro | intro _))
            all_goals try (conv => whnf)
            all_goals try (first | rfl | trivial | exact LexB.mk (by kernel_rfl) | exact LexG.mk (by kernel_rfl) | exact Forced.mk (by kernel_rfl))
            all_goals try subst_vars
            all_goals try exact absurd (of_decide_eq_true ‹decide (((0 : Nat) : Int) - 1 ≥ 0) = true›) (by omega)
            all_goals try exact ⟨hpb⟩
            all_goals try exact ⟨by simp only at hq1 hqM; simp only [inR]; omega⟩
            all_goals try exact ⟨by simp only at hq1 hqM; omega⟩
            all_goals try exact congrArg Prod.fst hL
            all_goals try exact congrArg (fun x => x.2.1) hL
            all_goals try exact congrArg (fun x => x.2.2) hL
          | succ j =>
            have hj : j < @List.length Int xs := hx
            obtain ⟨p', q', ht, hp1, hp2⟩ := fo_tl hi (Nat.succ_pos j)
            simp only at hp1 hp2
            have hs := fo_step ha hj ht
            have hbig := fo_big hlen ha hj hs
            have hnone := fo_none hlen ha hj hs
            have hfit := fold_fits (x := xs.getD j (0 : Int)) hs.ok
            have hv := inAllI_get h4 hj 0
            have k1 := hs.ok.p1; have k2 := hs.ok.pM; have k3 := hs.ok.q0; have k4 := hs.ok.qp
            have e : ∀ d : Int, @List.getD Int xs (0 + (((j + 1 : Nat) : Int) - 1).toNat) d = @List.getD Int xs j 0 := fun d => by
              rw [show 0 + (((j + 1 : Nat) : Int) - 1).toNat = j by omega]; exact getD_eq hj d
            repeat' ((conv => whnf); (first | apply And.intro | intro _))
            all_goals try (conv => whnf)
            all_goals try (first | rfl | trivial | exact LexB.mk (by kernel_rfl) | exact LexG.mk (by kernel_rfl) | exact Forced.mk (by kernel_rfl))
            all_goals try subst_vars
            all_goals try dsimp only [CK.ty, Tup, kI] at *
            all_goals try simp only [e, decide_eq_true_eq, decide_eq_false_iff_not] at *
            all_goals try (have hw := of_decide_eq_true (p := ((j + 1 : Nat) : Int) - 1 < (@List.length Int xs : Int) - 1) (by assumption); obtain ⟨rfl, rfl⟩ := hp1 (by omega))
            all_goals try (have hw := of_decide_eq_false (p := ((j + 1 : Nat) : Int) - 1 < (@List.length Int xs : Int) - 1) (by assumption); obtain ⟨rfl, rfl, rfl, rfl⟩ := hp2 (by omega))
            all_goals try exact ⟨by omega⟩
            all_goals try exact ⟨by simp only [inR] at *; omega⟩
            all_goals try (rw [hbig (by omega)]; done)
            all_goals try (rw [hnone (by omega) (by omega)]; done)
            all_goals try (exfalso; omega)
            · refine ⟨Fo.mk j (@List.getD Int xs j 0 * p + q) p, ⟨Nat.le_of_lt hj, fo_next hj hs (fun _ => by omega) ⟨by omega, by omega⟩ 0 0⟩, ?_, Nat.lt_succ_self j⟩
              repeat' ((conv => whnf); (first | apply And.intro | intro _))
              all_goals (first | rfl | trivial | exact Nat.zero_lt_succ _ | exact Nat.lt_succ_self _ | exact congrArg (Value.int .i64) (fo_index j) | decide)
            · refine ⟨Fo.mk j (@List.getD Int xs j 0 * p + q) p, ⟨Nat.le_of_lt hj, fo_next hj hs (fun _ => by omega) ⟨by omega, by omega⟩ 0 0⟩, ?_, Nat.lt_succ_self j⟩
              repeat' ((conv => whnf); (first | apply And.intro | intro _))
              all_goals (first | rfl | trivial | exact Nat.zero_lt_succ _ | exact Nat.lt_succ_self _ | exact congrArg (Value.int .i64) (fo_index j) | decide)
            · refine ⟨Fo.mk j (@List.getD Int xs j 0) 1, ⟨Nat.le_of_lt hj, by have := fo_next hj hs (fun _ => by omega) ⟨by omega, by omega⟩ 0 0; rwa [Int.mul_one, Int.add_zero] at this⟩, ?_, Nat.lt_succ_self j⟩
              repeat' ((conv => whnf); (first | apply And.intro | intro _))
              all_goals (first | rfl | trivial | exact Nat.zero_lt_succ _ | exact Nat.lt_succ_self _ | exact congrArg (Value.int .i64) (fo_index j) | exact (e _) | decide)
            · refine ⟨Fo.mk j (@List.getD Int xs j 0) 1, ⟨Nat.le_of_lt hj, by have := fo_next hj hs (fun _ => by omega) ⟨by omega, by omega⟩ 0 0; rwa [Int.mul_one, Int.add_zero] at this⟩, ?_, Nat.lt_succ_self j⟩
              repeat' ((conv => whnf); (first | apply And.intro | intro _))
              all_goals (first | rfl | trivial | exact Nat.zero_lt_succ _ | exact Nat.lt_succ_self _ | exact congrArg (Value.int .i64) (fo_index j) | exact (e _) | decide)
    next => cases hF
  next => cases hF)
end Go.Proofs.YtoggkjobihlohaaDoor
