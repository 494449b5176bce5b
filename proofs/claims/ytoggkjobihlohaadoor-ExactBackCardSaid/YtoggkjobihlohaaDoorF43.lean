/-
  Chapter 1: the statement ExactBack, walked.
-/
import Derived.Test.YtoggkjobihlohaaDoorF31
import Derived.Test.YtoggkjobihlohaaDoorF15
import Derived.Test.YtoggkjobihlohaaDoorF42
import Derived.Test.YtoggkjobihlohaaDoorF32
namespace Go.Proofs.YtoggkjobihlohaaDoor
open Go Go.Sx

theorem gcd_em (n d : Int) : Int.gcd d (n % d) = Int.gcd n d := by
  have h := gcd_fold (n / d) d (n % d)
  rw [show n / d * d + n % d = n from Int.mul_comm _ _ ▸ Int.mul_ediv_add_emod n d] at h
  exact h.symm
/-- Behind the first term. -/
theorem tl_expand : ∀ (k : Nat) (d e : Int), e.toNat < k → 1 ≤ d → d ≤ 2147483647 → 0 ≤ e → e < d → Int.gcd d e = 1 → tl (expand d e) = some (d, e) ∧ allPos (expand d e) = true
  | 0, d, e, h, _, _, _, _, _ => by omega
  | k + 1, d, e, hk, h1, h2, h3, h4, hg => by
    by_cases he : e = 0
    · subst he
      have hd : d = 1 := by
        rw [Int.gcd_zero_right] at hg
        omega
      subst hd
      exact ⟨rfl, rfl⟩
    · have a := Int.emod_nonneg d he
      have b := Int.emod_lt_of_pos d (show 0 < e by omega)
      have hg' : Int.gcd e (d % e) = 1 := by rw [gcd_em]; exact hg
      obtain ⟨i1, i2⟩ := tl_expand k e (d % e) (by omega) (by omega) (by omega) a b hg'
      have hd : d / e * e + d % e = d := Int.mul_comm _ _ ▸ Int.mul_ediv_add_emod d e
      have hq : 1 ≤ d / e := (Int.le_ediv_iff_mul_le (by omega)).2 (by omega)
      rw [expand_pos (by omega)]
      refine ⟨?_, allPos_cons.2 ⟨hq, i2⟩⟩
      unfold tl
      rw [i1]
      simp only [hd]
      rw [if_neg (by omega)]
theorem fold_expand {n d : Int} (h : valid n d = true) : foldT (expand n d) = (n, d, 0) := by
  have v := valid_iff.1 h
  have hl := expand_len (n := n) (d := d) ⟨by omega, by omega⟩
  have a := Int.emod_nonneg n (show d ≠ 0 by omega)
  have b := Int.emod_lt_of_pos n (show 0 < d by omega)
  have hg : Int.gcd d (n % d) = 1 := by rw [gcd_em]; exact v.2.2.2.2
  obtain ⟨i1, i2⟩ := tl_expand ((n % d).toNat + 1) d (n % d) (by omega) (by omega) (by omega) a b hg
  have hd : n / d * d + n % d = n := Int.mul_comm _ _ ▸ Int.mul_ediv_add_emod n d
  rw [expand_pos (by omega)] at hl ⊢
  unfold foldT
  rw [if_neg (by omega)]
  simp only [i2, if_true, i1, foldHead, hd]
  rw [if_neg (by omega)]

/-- The last term, if there is one, is not 1. -/
def lastOk (l : List Int) : Prop := ∀ y, l.getLast? = some y → 2 ≤ y
theorem expand_tl : ∀ (l : List Int) (p q : Int), allPos l = true → lastOk l → tl l = some (p, q) → expand p q = l ∧ q < p
  | [], p, q, _, _, h => by
    obtain ⟨rfl, rfl⟩ := Prod.mk.inj (Option.some.inj h)
    exact ⟨rfl, by omega⟩
  | y :: r, p, q, ha, hl, h => by
    rw [allPos_cons] at ha
    unfold tl at h
    split at h
    · cases h
    · rename_i p' q' hr
      split at h
      · cases h
      · obtain ⟨rfl, rfl⟩ := Prod.mk.inj (Option.some.inj h)
        have ok := tl_ok ha.2 hr
        have hl' : lastOk r := by
          intro z hz
          cases r with
          | nil => simp at hz
          | cons w r' => exact hl z (by rw [List.getLast?_cons_cons]; exact hz)
        obtain ⟨i1, i2⟩ := expand_tl r p' q' ha.2 hl' hr
        have h1 := ok.p1; have h2 := ok.q0
        have e1 : (y * p' + q') / p' = y := by
          rw [Int.add_comm, Int.add_mul_ediv_right _ _ (by omega), Int.ediv_eq_zero_of_lt h2 i2, Int.zero_add]
        have e2 : (y * p' + q') % p' = q' := by
          rw [Int.add_comm, Int.add_mul_emod_self_right, Int.emod_eq_of_lt h2 i2]
        refine ⟨by rw [expand_pos (by omega), e1, e2, i1], ?_⟩
        have hy := ha.1
        rcases Int.lt_or_le 1 y with hy2 | hy2
        · have : 2 * p' ≤ y * p' := Int.mul_le_mul_of_nonneg_right (by omega) (by omega)
          omega
        · have hy1 : y = 1 := by omega
          subst hy1
          have hq : 0 < q' := by
            cases r with
            | nil => exact absurd (hl 1 rfl) (by omega)
            | cons w r' =>
              unfold tl at hr
              split at hr
              · cases hr
              · rename_i p'' q'' hr'
                split at hr
                · cases hr
                · obtain ⟨_, rfl⟩ := Prod.mk.inj (Option.some.inj hr)
                  rw [allPos_cons] at ha
                  have := (tl_ok ha.2.2 hr').p1
                  omega
          omega
/-- What a fold that ends well is. -/
theorem fold_ok_inv {l : List Int} (h : (foldT l).2.2 = 0) : ∃ x r p q, l = x :: r ∧ allPos r = true ∧ tl r = some (p, q) ∧ foldT l = (x * p + q, p, 0) ∧ valid (x * p + q) p = true := by
  cases l with
  | nil => cases h
  | cons x r =>
    unfold foldT at h ⊢
    split at h
    · cases h
    · rename_i hlen
      rw [if_neg hlen]
      simp only at h ⊢
      split at h
      · rename_i ha
        rw [if_pos ha]
        cases ht : tl r with
        | none => rw [ht] at h; cases h
        | some pq =>
          obtain ⟨p, q⟩ := pq
          rw [ht] at h
          simp only [foldHead] at h ⊢
          split at h
          · cases h
          · rename_i hb
            rw [if_neg hb]
            have ok := tl_ok ha ht
            have h1 := ok.p1; have h2 := ok.pM
            refine ⟨x, r, p, q, rfl, ha, ht, rfl, valid_iff.2 ⟨by omega, by omega, by omega, by omega, ?_⟩⟩
            rw [gcd_fold]; exact ok.co
      · cases h
theorem expand_fold {l : List Int} (h : (foldT l).2.2 = 0) (hl : l.length = 1 ∨ ∀ y, l.getLast? = some y → 2 ≤ y) : expand (foldT l).1 (foldT l).2.1 = l := by
  obtain ⟨x, r, p, q, rfl, ha, ht, hf, hv⟩ := fold_ok_inv h
  have hl' : lastOk r := by
    intro z hz
    rcases hl with hl | hl
    · cases r with
      | nil => simp at hz
      | cons => simp at hl
    · cases r with
      | nil => simp at hz
      | cons w r' => exact hl z (by rw [List.getLast?_cons_cons]; exact hz)
  obtain ⟨i1, i2⟩ := expand_tl r p q ha hl' ht
  have ok := tl_ok ha ht
  have h1 := ok.p1; have h2 := ok.q0
  have e1 : (x * p + q) / p = x := by
    rw [Int.add_comm, Int.add_mul_ediv_right _ _ (by omega), Int.ediv_eq_zero_of_lt h2 i2, Int.zero_add]
  have e2 : (x * p + q) % p = q := by
    rw [Int.add_comm, Int.add_mul_emod_self_right, Int.emod_eq_of_lt h2 i2]
  rw [hf]
  simp only
  rw [expand_pos (by omega), e1, e2, i1]
theorem fold_valid {l : List Int} (h : (foldT l).2.2 = 0) : valid (foldT l).1 (foldT l).2.1 = true := by
  obtain ⟨x, r, p, q, rfl, ha, ht, hf, hv⟩ := fold_ok_inv h
  rw [hf]; exact hv
theorem fold_pos {l : List Int} (h : (foldT l).2.2 = 0) : 0 < l.length := by
  obtain ⟨x, r, p, q, rfl, _⟩ := fold_ok_inv h
  simp
theorem expand_in : ∀ (k : Nat) (n d : Int), d.toNat < k → -2147483647 ≤ n → n ≤ 2147483647 → 0 ≤ d → d ≤ 2147483647 → inAllI (expand n d)
  | 0, n, d, h, _, _, _, _ => by omega
  | k + 1, n, d, hk, h1, h2, h3, h4 => by
    by_cases hd : d = 0
    · subst hd; rw [expand_zero]; intro x hx; cases hx
    · have a := Int.emod_nonneg n hd
      have b := Int.emod_lt_of_pos n (show 0 < d by omega)
      rw [expand_pos (by omega)]
      intro x hx
      rcases List.mem_cons.1 hx with rfl | hx
      · have e := Int.mul_ediv_add_emod n d
        have c1 : -2147483648 ≤ n / d := (Int.le_ediv_iff_mul_le (by omega)).2 (by omega)
        have c2 : n / d ≤ 2147483647 := Int.ediv_le_of_le_mul (by omega) (by omega)
        simp only [inR]; omega
      · exact expand_in k d (n % d) (by omega) (by omega) (by omega) a (by omega) x hx
end Go.Proofs.YtoggkjobihlohaaDoor

namespace Go.Proofs.YtoggkjobihlohaaDoor
open Go Go.Sx
set_option maxRecDepth 100000

def LB : List (Nat × Ctr) := (44, c44) :: (70, c70) :: (22, c22) :: LR
theorem LB_ok : LOk Tryd.prog ΓE LB := (((LOk.toE LR_ok).cons (FnOk.of Tryd.func22 rfl rfl) c22_ok).cons (FnOk.of Tryd.func70 rfl rfl) c70_ok).cons (FnOk.of Tryd.func44 rfl rfl) c44_ok
theorem back_long {l : List Int} (h : decide ((l.length : Int) > 60) = false) : l.length ≤ 1099511627776 := by have := of_decide_eq_false h; omega
theorem back_len {a b : Int} (h : valid a b = true) : (expand a b).length ≤ 46 := by
  have vb := valid_iff.1 h
  exact expand_len (n := a) (d := b) ⟨by omega, by omega⟩
theorem back_small {a b : Int} (h : valid a b = true) : (expand a b).length ≤ 1099511627776 := Nat.le_trans (back_len h) (Nat.le_of_ble_eq_true rfl)
theorem back_in {a b : Int} (h : valid a b = true) : inAllI (expand a b) := by
  have vb := valid_iff.1 h
  exact expand_in (b.toNat + 1) a b (by omega) (by omega) (by omega) (by omega) (by omega)
theorem back_print {a b : Int} (h : valid a b = true) : ((printX a b).data.toList.length : Int) ≤ 1000000 := by
  have vb := valid_iff.1 h
  have s1 := itoa_len (n := a) (by simp only [inR]; omega)
  have s2 := itoa_len (n := b) (by simp only [inR]; omega)
  have s3 : (ByteArray.mk #[47]).size = 1 := rfl
  have e : (printX a b).data.toList.length = (printX a b).size := Array.length_toList
  rw [e, printX_good h]
  unfold printT
  split
  · omega
  · simp only [ByteArray.size_append]; omega
theorem back_valid {l : List Int} (h : ((foldT l).2.2 == 0) = true) : valid (foldT l).1 (foldT l).2.1 = true := fold_valid (eq_of_beq h)
theorem back_f1 {l : List Int} (h : ((foldT l).2.2 == 0) = true) : inR .i64 (foldT l).1 := by
  have v := valid_iff.1 (back_valid h)
  simp only [inR]; omega
theorem back_f2 {l : List Int} (h : ((foldT l).2.2 == 0) = true) : inR .i64 (foldT l).2.1 := by
  have v := valid_iff.1 (back_valid h)
  simp only [inR]; omega
theorem back_last {l : List Int} (h : ((foldT l).2.2 == 0) = true) : 0 ≤ (l.length : Int) - 1 ∧ (l.length : Int) - 1 < (l.length : Int) := by
  have := fold_pos (eq_of_beq h)
  omega
theorem back_last2 {l : List Int} (h : ((foldT l).2.2 == 0) = true) : 0 + ((l.length : Int) - 1).toNat < l.length := by
  have := fold_pos (eq_of_beq h)
  omega
theorem back_same1 {l : List Int} (h : ((foldT l).2.2 == 0) = true) (hl : ((l.length : Int) == 1) = true) : sameL (expand (foldT l).1 (foldT l).2.1) l = true := by
  have e := eq_of_beq hl
  rw [expand_fold (eq_of_beq h) (.inl (by omega))]
  exact decide_eq_true rfl
theorem back_same2 {l : List Int} {d : Int} (h : ((foldT l).2.2 == 0) = true) (hl : decide (l.getD (0 + ((l.length : Int) - 1).toNat) d ≥ 2) = true) : sameL (expand (foldT l).1 (foldT l).2.1) l = true := by
  have e := of_decide_eq_true hl
  have hp := fold_pos (eq_of_beq h)
  rw [expand_fold (eq_of_beq h) (.inr fun y hy => ?_)]
  · exact decide_eq_true rfl
  · rw [show 0 + ((l.length : Int) - 1).toNat = l.length - 1 by omega] at e
    rw [List.getLast?_eq_getElem?] at hy
    have : l.getD (l.length - 1) d = y := by simp only [List.getD, hy, Option.getD_some]
    omega
theorem back_parse {a b : Int} (h : valid a b = true) : parseO (printX a b) = (a, b, 0) := by rw [printX_good h]; exact parseO_reads.fwd a b h
theorem back_p (s : ByteArray) : inR .i64 (parseO s).1 ∧ inR .i64 (parseO s).2.1 := by
  rcases parseO_reads.back s with h | ⟨n, d, h, hv, _⟩
  · rw [h]; simp only [inR]; omega
  · have v := valid_iff.1 hv
    rw [h]; simp only [inR]; omega
theorem back_bad {s : ByteArray} (h : ((parseO s).2.2 != 0) = true) : ((parseO s).1 == 0 && ((parseO s).2.1 == 0 && true)) = true ∧ ((parseO s).2.2 == 7) = true := by
  rcases parseO_reads.back s with h' | ⟨n, d, h', hv, _⟩
  · rw [h']; exact ⟨rfl, rfl⟩
  · rw [h'] at h; cases h
theorem back_ok {s : ByteArray} (h : ((parseO s).2.2 != 0) = false) : valid (parseO s).1 (parseO s).2.1 = true ∧ printT (parseO s).1 (parseO s).2.1 = s := by
  rcases parseO_reads.back s with h' | ⟨n, d, h', hv, hp⟩
  · rw [h'] at h; cases h
  · rw [h']; exact ⟨hv, hp⟩
theorem back_good {s : ByteArray} (h : ((parseO s).2.2 != 0) = false) : ((printX (parseO s).1 (parseO s).2.1).toList == s.toList) = true := by
  obtain ⟨hv, hp⟩ := back_ok h
  rw [printX_good hv, hp]; exact beq_self_eq_true _

def c16 : Ctr := .fn fun args rg => match args with
  | [.agg [.v (.int .i64 a), .v (.int .i64 b)], .a (.sl r lo n), .a (.v (.string _))] => (match rg.getD r .dead with
    | .arr _ [.int .i64] xs _ => some ([inR .i64 a, inR .i64 b, lo = 0, n = xs.length, inAllI xs], bl true)
    | _ => none)
  | _ => none
set_option maxHeartbeats 4000000 in
theorem c16_ok : Ctr.Ok Tryd.prog ΓE 16 c16 := Ctr.fn_ok1 (prog_okC LB_ok true [33, 103]) Tryd.func16 rfl rfl rfl (by
  intro args rg q t hF hq
  split at hF
  next a b r lo n s =>
    split at hF
    next te xs o hr =>
      obtain ⟨rfl, rfl⟩ := Prod.mk.inj (Option.some.inj hF); clear hF
      obtain ⟨h1, h2, rfl, rfl, h5, -⟩ := hq
      have hr' := getD_arr hr (by simp)
      refine ⟨rfl, [r], [.agg [.v (.int .i64 a), .v (.int .i64 b)], .a (.sl 0 0 xs.length), .a (.v (.string s))], [.arr te kI xs o], ⟨rfl, rfl, fun r' g hg => ?_, rfl⟩, ?_⟩
      · cases r' with
        | zero => simp at hg; subst hg; exact ⟨rfl, .inr hr'⟩
        | succ r' => simp at hg
      have l1 : @List.length (Tup kI) xs = @List.length Int xs := rfl
      have l2 : @List.length (Tup [CK.int IntKind.i64]) xs = @List.length Int xs := rfl
      repeat' ((conv => whnf); (first | apply And.intro | intro _))
      all_goals try (conv => whnf)
      all_goals try (first | rfl | trivial | exact LexB.mk (by kernel_rfl) | exact LexG.mk (by kernel_rfl) | exact Forced.mk (by kernel_rfl))
      all_goals try subst_vars
      all_goals try exact ⟨by assumption⟩
      all_goals try exact Nat.le_of_ble_eq_true rfl
      all_goals try (show (true = true); rfl)
      all_goals try (first | exact h1.1 | exact h1.2 | exact h2.1 | exact h2.2 | exact ⟨rfl⟩)
      all_goals try exact ⟨back_long (l := xs) (by assumption)⟩
      all_goals try exact ⟨short_of (by assumption)⟩
      all_goals try exact ⟨back_small ‹valid a b = true›⟩
      all_goals try exact ⟨back_in ‹valid a b = true›⟩
      all_goals try exact ⟨back_print ‹valid a b = true›⟩
      all_goals try (first | exact (back_f1 (l := xs) (by assumption)).1 | exact (back_f1 (l := xs) (by assumption)).2 | exact (back_f2 (l := xs) (by assumption)).1 | exact (back_f2 (l := xs) (by assumption)).2)
      all_goals try exact ⟨back_small (back_valid (l := xs) (by assumption))⟩
      all_goals try exact ⟨back_last (l := xs) (by assumption)⟩
      all_goals try exact ⟨back_last2 (l := xs) (by assumption)⟩
      all_goals try exact ⟨(back_p s).1⟩
      all_goals try exact ⟨(back_p s).2⟩
      all_goals try exact (back_bad (by assumption)).1
      all_goals try exact back_good (by assumption)
      all_goals try exact absurd (back_same1 (l := xs) (by assumption) (by assumption)) (by simpa using ‹(!sameL (expand (foldT xs).1 (foldT xs).2.1) xs) = true›)
      all_goals try exact absurd (back_same2 (l := xs) (by assumption) (by assumption)) (by simpa using ‹(!sameL (expand (foldT xs).1 (foldT xs).2.1) xs) = true›)
      all_goals try exact absurd (back_valid (l := xs) (by assumption)) (by simpa using ‹valid (foldT xs).1 (foldT xs).2.1 = false›)
      all_goals try (have hv := ‹valid a b = true›; have e1 := fold_expand hv; have e2 := back_parse hv; have e3 := errX_good hv; have e4 := back_len hv; simp only [e1, e2, e3] at *; simp_all; done)
      all_goals try (have hv := ‹valid a b = true›; have e4 := back_len hv; have e5 := of_decide_eq_true ‹decide (((expand a b).length : Int) > 50) = true›; exfalso; omega)
      all_goals try exact ⟨by have := back_long (l := xs) (by assumption); simp only [inR]; omega⟩
      all_goals try assumption
      all_goals try exact absurd (back_bad (s := s) (by assumption)).2 (by simpa using ‹((parseO s).2.2 == 7) = false›)
      all_goals exact absurd (errX_good (back_ok (s := s) (by assumption)).1) (by simpa using ‹(errX (parseO s).1 (parseO s).2.1 == 0) = false›)
    next => cases hF
  next => cases hF)
end Go.Proofs.YtoggkjobihlohaaDoor
