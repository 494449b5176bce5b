/-
  Plain laws: sums and products of valid numbers as a field, as far as no error comes.
-/
import Derived.Test.YtoggkjobihlohaaDoorF21
namespace Go.Proofs.YtoggkjobihlohaaDoor

structure LowOk (n d : Int) (r : Int × Int × Int) : Prop where
  v : valid r.1 r.2.1 = true
  e : r.2.2 = 0
  q : n * r.2.1 = r.1 * d
theorem low_spec {n d : Int} (hd : 0 < d) : LowOk n d (lowT n d) ∨ lowT n d = (0, 0, 3) := by
  have h := low_cases n d hd
  generalize lowT n d = r at h
  cases h with
  | ok p q h he => exact .inl ⟨h, rfl, he⟩
  | bad => exact .inr rfl
theorem low_ok {n d : Int} (hd : 0 < d) (h : (lowT n d).2.2 = 0) : LowOk n d (lowT n d) := by
  rcases low_spec (n := n) hd with g | g
  · exact g
  · rw [g] at h; cases h
theorem low_err {n d : Int} (hd : 0 < d) : (lowT n d).2.2 = 0 ∨ (lowT n d).2.2 = 3 := by
  rcases low_spec (n := n) hd with g | g
  · exact .inl g.e
  · rw [g]; exact .inr rfl
theorem vpos {n d : Int} (h : valid n d = true) : 0 < d := by have := valid_iff.1 h; omega
/-- Whatever the divisor's sign. -/
theorem low_eq' {n d p q : Int} (hd : d ≠ 0) (h : valid p q = true) (he : n * q = p * d) : lowT n d = (p, q, 0) := by
  rcases Int.lt_or_lt_of_ne hd with g | g
  · rw [← low_flip n d hd]
    refine low_eq (by omega) h ?_
    rw [Int.sub_mul, Int.mul_sub]; omega
  · exact low_eq g h he

section
variable {n d m e k l : Int}
theorem add_comm' (n d m e : Int) : addT n d m e = addT m e n d := by
  unfold addT; rw [Int.add_comm, Int.mul_comm d e]
theorem mul_comm' (n d m e : Int) : mulT n d m e = mulT m e n d := by
  unfold mulT; rw [Int.mul_comm n m, Int.mul_comm d e]
theorem add_ok (ha : valid n d = true) (hb : valid m e = true) (h : (addT n d m e).2.2 = 0) : LowOk (n * e + m * d) (d * e) (addT n d m e) := low_ok (Int.mul_pos (vpos ha) (vpos hb)) h
theorem sub_ok (ha : valid n d = true) (hb : valid m e = true) (h : (subT n d m e).2.2 = 0) : LowOk (n * e - m * d) (d * e) (subT n d m e) := low_ok (Int.mul_pos (vpos ha) (vpos hb)) h
theorem mul_ok (ha : valid n d = true) (hb : valid m e = true) (h : (mulT n d m e).2.2 = 0) : LowOk (n * m) (d * e) (mulT n d m e) := low_ok (Int.mul_pos (vpos ha) (vpos hb)) h
theorem med_ok (ha : valid n d = true) (hb : valid m e = true) (h : (medT n d m e).2.2 = 0) : LowOk (n + m) (d + e) (medT n d m e) := low_ok (by have := vpos ha; have := vpos hb; omega) h
theorem add_err (ha : valid n d = true) (hb : valid m e = true) : (addT n d m e).2.2 = 0 ∨ (addT n d m e).2.2 = 3 := low_err (Int.mul_pos (vpos ha) (vpos hb))
theorem mul_err (ha : valid n d = true) (hb : valid m e = true) : (mulT n d m e).2.2 = 0 ∨ (mulT n d m e).2.2 = 3 := low_err (Int.mul_pos (vpos ha) (vpos hb))

theorem add_sub (ha : valid n d = true) (hb : valid m e = true) (h : (addT n d m e).2.2 = 0) : subT (addT n d m e).1 (addT n d m e).2.1 m e = (n, d, 0) := by
  have g := add_ok ha hb h
  have q := g.q
  have pv := vpos g.v
  have pe := vpos hb
  generalize (addT n d m e).1 = p at *
  generalize (addT n d m e).2.1 = u at *
  refine low_eq (Int.mul_pos pv pe) ha ?_
  grind
theorem mul_div' (ha : valid n d = true) (hb : valid m e = true) (h : (mulT n d m e).2.2 = 0) (hm : m ≠ 0) : divT (mulT n d m e).1 (mulT n d m e).2.1 m e = (n, d, 0) := by
  have g := mul_ok ha hb h
  have q := g.q
  have pv := vpos g.v
  generalize (mulT n d m e).1 = p at *
  generalize (mulT n d m e).2.1 = u at *
  rw [divT_ne hm]
  refine low_eq' (fun h0 => by rcases Int.mul_eq_zero.1 h0 with h0 | h0 <;> omega) ha ?_
  grind
theorem add_assoc' (ha : valid n d = true) (hb : valid m e = true) (hc : valid k l = true) (h : (addT n d m e).2.2 = 0) (h' : (addT m e k l).2.2 = 0) :
    addT (addT n d m e).1 (addT n d m e).2.1 k l = addT n d (addT m e k l).1 (addT m e k l).2.1 := by
  have g := add_ok ha hb h
  have g' := add_ok hb hc h'
  have q := g.q; have q' := g'.q
  have pv := vpos g.v; have pv' := vpos g'.v
  have pd := vpos ha; have pe := vpos hb; have pl := vpos hc
  generalize (addT n d m e).1 = p at *
  generalize (addT n d m e).2.1 = u at *
  generalize (addT m e k l).1 = r at *
  generalize (addT m e k l).2.1 = s at *
  refine low_congr (Int.mul_pos pv pl) (Int.mul_pos pd pv') ?_
  refine Int.eq_of_mul_eq_mul_right (a := e) (by omega) ?_
  grind
theorem mul_assoc' (ha : valid n d = true) (hb : valid m e = true) (hc : valid k l = true) (h : (mulT n d m e).2.2 = 0) (h' : (mulT m e k l).2.2 = 0) :
    mulT (mulT n d m e).1 (mulT n d m e).2.1 k l = mulT n d (mulT m e k l).1 (mulT m e k l).2.1 := by
  have g := mul_ok ha hb h
  have g' := mul_ok hb hc h'
  have q := g.q; have q' := g'.q
  have pv := vpos g.v; have pv' := vpos g'.v
  have pd := vpos ha; have pe := vpos hb; have pl := vpos hc
  generalize (mulT n d m e).1 = p at *
  generalize (mulT n d m e).2.1 = u at *
  generalize (mulT m e k l).1 = r at *
  generalize (mulT m e k l).2.1 = s at *
  refine low_congr (Int.mul_pos pv pl) (Int.mul_pos pd pv') ?_
  refine Int.eq_of_mul_eq_mul_right (a := e) (by omega) ?_
  grind
theorem mul_dist (ha : valid n d = true) (hb : valid m e = true) (hc : valid k l = true) (h : (addT m e k l).2.2 = 0) (h1 : (mulT n d m e).2.2 = 0) (h2 : (mulT n d k l).2.2 = 0) :
    mulT n d (addT m e k l).1 (addT m e k l).2.1 = addT (mulT n d m e).1 (mulT n d m e).2.1 (mulT n d k l).1 (mulT n d k l).2.1 := by
  have g := add_ok hb hc h
  have g1 := mul_ok ha hb h1
  have g2 := mul_ok ha hc h2
  have q := g.q; have q1 := g1.q; have q2 := g2.q
  have pv := vpos g.v; have pv1 := vpos g1.v; have pv2 := vpos g2.v
  have pd := vpos ha; have pe := vpos hb; have pl := vpos hc
  generalize (addT m e k l).1 = r at *
  generalize (addT m e k l).2.1 = s at *
  generalize (mulT n d m e).1 = p at *
  generalize (mulT n d m e).2.1 = u at *
  generalize (mulT n d k l).1 = w at *
  generalize (mulT n d k l).2.1 = z at *
  refine low_congr (Int.mul_pos pd pv) (Int.mul_pos pv1 pv2) ?_
  refine Int.eq_of_mul_eq_mul_right (a := e * l) (fun h0 => by rcases Int.mul_eq_zero.1 h0 with h0 | h0 <;> omega) ?_
  grind
end
end Go.Proofs.YtoggkjobihlohaaDoor
