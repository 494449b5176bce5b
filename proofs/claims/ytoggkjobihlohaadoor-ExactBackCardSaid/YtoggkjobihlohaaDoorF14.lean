/-
  Chapter 1: the terms of a continued fraction, by a loop over an iterator.
-/
import Derived.Test.YtoggkjobihlohaaDoorF13
import Derived.RangeFuncBox
import Derived.RangeFuncBound
import Derived.RangeFuncLeaves
import Derived.OwnWalkIn
import Derived.TacticsInMore
import Derived.LoopNIn
import Derived.LoopIn
import Derived.Maps.AppendAt
import Derived.BigQuiet
import Derived.Deep.QuietTactic
import Derived.Lib.Hide
namespace Go.Proofs.YtoggkjobihlohaaDoor
open Go Go.Sx Go.RowKit

attribute [local go_sem] Oper.semAt_some

/-- The terms of the continued fraction of n/d. -/
def expK : Nat → Int → Int → List Int
  | 0, _, _ => []
  | k + 1, n, d => if d = 0 then [] else n / d :: expK k d (n % d)
def expand (n d : Int) : List Int := expK (d.toNat + 1) n d
theorem expK_fuel : ∀ (k k' : Nat) (n d : Int), 0 ≤ d → d.toNat < k → d.toNat < k' → expK k n d = expK k' n d
  | 0, _, n, d, h, h1, _ => by omega
  | _, 0, n, d, h, _, h1 => by omega
  | k + 1, k' + 1, n, d, h, h1, h2 => by
    unfold expK
    split
    · rfl
    · have a := Int.emod_nonneg n (show d ≠ 0 by omega)
      have b := Int.emod_lt_of_pos n (show 0 < d by omega)
      rw [expK_fuel k k' d (n % d) a (by omega) (by omega)]
theorem expand_zero (n : Int) : expand n 0 = [] := rfl
theorem expand_pos {n d : Int} (h : 0 < d) : expand n d = n / d :: expand d (n % d) := by
  have a := Int.emod_nonneg n (show d ≠ 0 by omega)
  have b := Int.emod_lt_of_pos n h
  conv => lhs; unfold expand expK
  rw [if_neg (by omega)]
  unfold expand
  rw [expK_fuel d.toNat ((n % d).toNat + 1) d (n % d) a (by omega) (by omega)]

theorem grown_of_below {w w' : World} (h : Below w.heap.size w w') : w.grownBy w' none := ⟨h.os, h.tape, h.output, h.size, fun k hk _ => h.block k hk⟩

theorem floor_calls (n d : Int) (w : World) (h1 : inR .i64 n) (h2 : 0 < d) : Calls Tryd.prog 83 #[.int .i64 n, .int .i64 d] w fun e w' => e = .returned (.int .i64 (n / d)) ∧ w.grownBy w' none :=
  (c83_ok (Γ := ⟨0, fun _ => True, fun _ _ _ _ => trivial⟩) [.a (.v (.int .i64 n)), .a (.v (.int .i64 d))] [] _ _ rfl ⟨h1, h2, trivial⟩ 0 (fun _ => ⟨0, 0, 0, true, 0⟩) w [.int .i64 n, .int .i64 d]
    (Nat.zero_le _) (Nat.zero_le _) trivial ⟨⟨rfl, rfl⟩, ⟨rfl, rfl⟩, trivial⟩ (fun r g h => by simp at h) (fun r r' g g' h => by simp at h)).mono fun e w' ⟨v, he, hv, hb⟩ => by
      obtain ⟨rfl, _⟩ := hv
      exact ⟨he, grown_of_below hb⟩

set_option maxRecDepth 100000 in
set_option maxHeartbeats 1000000 in
theorem terms1_in (m : Nat) (hn : 1 ≤ m) (l Bn : Nat) (n d : Int) (hn1 : -2147483647 ≤ n) (hn2 : n ≤ 2147483647) (hd1 : 0 ≤ d) (hd2 : d ≤ 2147483647) (J Jx : List Int → World → Prop)
    (hJg : ∀ pre W W', J pre W → W.grownBy W' none → J pre W')
    (hY : ∀ pre x W, J pre W → pre.length < (expand n d).length → YieldAt Fence.wide (m - 1) Tryd.prog l #[.int .i64 x] W fun e W' =>
      (e = .returned (.bool true) ∧ J (pre ++ [x]) W') ∨ (e = .returned (.bool false) ∧ Jx (pre ++ [x]) W'))
    (W : World) (hB0 : W.cell? ⟨Bn, 0, none⟩ = some (.int .i64 n)) (hB1 : W.cell? ⟨Bn, 1, none⟩ = some (.int .i64 d)) (h0 : J [] W) :
    CallsIn Fence.wide m Tryd.prog 111 #[.func (.yield l) #[] #[], .pointer (some ⟨Bn, 0, none⟩)] W fun e W' => (∃ v, e = .returned v) ∧
      ((∃ ys, ys = expand n d ∧ J ys W') ∨ (∃ pre, pre <+: expand n d ∧ Jx pre W')) := by
  refine callsIn_of_wp Tryd.func111 rfl trivial ?_ rfl
  simp only [Tryd.ntmps111, List.size_toArray, List.length_cons, List.length_nil, Nat.reduceAdd, Nat.reduceSub, Array.replicate_succ, Array.replicate_zero, List.push_toArray, List.append_toArray, List.nil_append, List.cons_append]
  refine wpIn_wide.2 ?_
  go_wp2
  go_quiet (fail)
  go_wp2_with fail
  refine (wpIn_wide (n := m)).1 ?_
  gi_loopw [3, 4] (fun u v wr => ∃ (pre : List Int) (a b : Int), u = .int .i64 a ∧ v = .int .i64 b ∧ expand n d = pre ++ expand a b ∧ -2147483647 ≤ a ∧ a ≤ 2147483647 ∧ 0 ≤ b ∧ b ≤ 2147483647 ∧ J pre wr)
    (fun _ v _ => (intOf v).toNat)
  case atStart => exact ⟨[], n, d, rfl, rfl, rfl, hn1, hn2, hd1, hd2, hJg _ _ _ h0 ⟨rfl, rfl, rfl, Nat.le_refl _, fun _ _ _ => rfl⟩⟩
  case round =>
    obtain ⟨pre, a, b, rfl, rfl, hx, ha1, ha2, hb1, hb2, hJs⟩ := hrel
    have HX := Lib.hid hx; clear hx
    by_cases hb : b = 0
    · subst hb
      gi_wp2
      go_end0
      exact ⟨⟨_, rfl⟩, .inl ⟨pre, by rw [HX.out, expand_zero, List.append_nil], hJs⟩⟩
    · have hb3 : 0 < b := by omega
      have hne : ((b : Int) != 0) = true := by simpa using hb
      have E := Int.ediv_mul_add_emod a b
      have E1 := Int.emod_nonneg a hb
      have E2 := Int.emod_lt_of_pos a hb3
      have hp := expand_pos (n := a) hb3
      have hm : a - a / b * b = a % b := by omega
      have HM := Lib.hid hm; clear hm
      have HP := Lib.hid hp; clear hp
      have r1 : -4294967294 ≤ a / b * b := by omega
      have r2 : a / b * b ≤ 4294967294 := by omega
      have r3 : 0 ≤ a - a / b * b := by omega
      have r4 : a - a / b * b ≤ 2147483647 := by omega
      have r5 : a - a / b * b < b := by omega
      clear E E1 E2
      gi_wp2_with fail
      refine ⟨trivial, ?_⟩
      refine ((callsIn_wide.2 (floor_calls a b _ (by simp only [inR]; omega) hb3)).mono ?_)
      rintro e w' ⟨rfl, hg⟩
      obtain ⟨fn, tmps, assign, body, hy, hR⟩ := hY pre (a / b) w' (hJg _ _ _ hJs hg) (by rw [HX.out, HP.out]; simp)
      gi_wp2_with fail
      refine hR.mono ?_
      rintro e W3 (⟨rfl, hJ3⟩ | ⟨rfl, hJx3⟩)
      · gi_wp2
        go_roundw
        case rel => exact ⟨pre ++ [a / b], b, a - a / b * b, rfl, rfl, by rw [HX.out, HP.out, HM.out]; simp, by omega, by omega, by omega, by omega, hJ3⟩
        case measure => simp [intOf]; omega
      · gi_wp2
        refine bodyPost_ret (results_none rfl _ _ _) rfl ?_
        exact ⟨⟨_, rfl⟩, .inr ⟨pre ++ [a / b], ⟨expand b (a % b), by rw [HX.out, HP.out]; simp⟩, hJx3⟩⟩

set_option maxHeartbeats 1000000 in
theorem terms_in (m : Nat) (n d : Int) (w : World) :
    CallsIn Fence.wide m Tryd.prog 97 #[.agg #[.int .i64 n, .int .i64 d]] w fun e w' => e = .returned (.func (.func 111) #[] #[.pointer (some ⟨w.heap.size, 0, none⟩)]) ∧ w' = w.alloc (.cells #[.int .i64 n, .int .i64 d] 23) := by
  refine callsIn_of_wp Tryd.func97 rfl trivial ?_ rfl
  simp only [Tryd.ntmps97, List.size_toArray, List.length_cons, List.length_nil, Nat.reduceAdd, Nat.reduceSub, Array.replicate_succ, Array.replicate_zero, List.push_toArray, List.append_toArray, List.nil_append, List.cons_append]
  gi_wp2
  go_ret
  exact ⟨rfl, rfl⟩

theorem terms_stops (m : Nat) (hn : 1 ≤ m) (Bn : Nat) (n d : Int) (hn1 : -2147483647 ≤ n) (hn2 : n ≤ 2147483647) (hd1 : 0 ≤ d) (hd2 : d ≤ 2147483647) (w : World) (hBn : Bn < w.heap.size)
    (h0 : w.cell? ⟨Bn, 0, none⟩ = some (.int .i64 n)) (h1 : w.cell? ⟨Bn, 1, none⟩ = some (.int .i64 d)) :
    SeqStopsK Fence.wide m Tryd.prog 111 #[.pointer (some ⟨Bn, 0, none⟩)] (fun x : Int => #[Value.int .i64 x]) (fun _ _ => True) (fun ys => ys = expand n d) (fun pre => pre <+: expand n d) (expand n d).length w := fun l J Jx W hW hJ _ hY hj =>
  terms1_in m hn l Bn n d hn1 hn2 hd1 hd2 J Jx (fun pre A B hA hg => hJ pre A B none hA hg (fun r e => by cases e))
    (fun pre x A hA hlt => (hY pre x A hA hlt).mono fun e w' h => h.imp (fun h => ⟨h.1, h.2.1⟩) id) W ((hW.cell (p := ⟨Bn, 0, none⟩) hBn).trans h0) ((hW.cell (p := ⟨Bn, 1, none⟩) hBn).trans h1) hj
end Go.Proofs.YtoggkjobihlohaaDoor
