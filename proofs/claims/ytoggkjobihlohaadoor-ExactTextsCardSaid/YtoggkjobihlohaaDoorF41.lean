/-
  Chapter 1: Parse, in the program.
-/
import Derived.Test.YtoggkjobihlohaaDoorF40
namespace Go.Proofs.YtoggkjobihlohaaDoor
open Go Go.Sx
set_option maxRecDepth 100000

theorem sep_data : (ByteArray.mk #[47]).data.toList = [47] := rfl
theorem cut_len (l sep : List UInt8) : (Lib.cut l sep).1.length ≤ l.length ∧ (Lib.cut l sep).2.1.length ≤ l.length := by
  unfold Lib.cut
  split
  · simp only [List.length_take, List.length_drop]; omega
  · simp
theorem cut_len1 {s sep : ByteArray} (h : (s.data.toList.length : Int) ≤ 1000000) : ((bs (Lib.cut s.data.toList sep.data.toList).1).data.toList.length : Int) ≤ 1000000 := by
  have := (cut_len s.data.toList sep.data.toList).1
  rw [bs_data]; omega
theorem cut_len2 {s sep : ByteArray} (h : (s.data.toList.length : Int) ≤ 1000000) : ((bs (Lib.cut s.data.toList sep.data.toList).2.1).data.toList.length : Int) ≤ 1000000 := by
  have := (cut_len s.data.toList sep.data.toList).2
  rw [bs_data]; omega
theorem po_bad1 {s : ByteArray} (h : ∀ n, ¬ Lib.atoiAll (Lib.cut s.data.toList [47]).1 = Lib.NumEnd.ok n) : parseO s = (0, 0, 7) := by
  unfold parseO
  split
  · rename_i n hn; exact absurd hn (h n)
  · rfl
theorem po_bad2 {s : ByteArray} (h : ∀ n, ¬ Lib.atoiAll (Lib.cut s.data.toList [47]).2.1 = Lib.NumEnd.ok n) (hh : (Lib.cut s.data.toList [47]).2.2 = true) : parseO s = (0, 0, 7) := by
  unfold parseO
  cases ha : Lib.atoiAll (Lib.cut s.data.toList [47]).1 with
  | ok n =>
    simp only [hh]
  | _ => rfl
theorem po_fin2 {s : ByteArray} {n d : Int} (h1 : Lib.atoiAll (Lib.cut s.data.toList [47]).1 = Lib.NumEnd.ok n) (hh : (Lib.cut s.data.toList [47]).2.2 = true) (h2 : Lib.atoiAll (Lib.cut s.data.toList [47]).2.1 = Lib.NumEnd.ok d) : parseO s = finT n d s := by
  unfold parseO; simp only [h1, hh, h2]
theorem po_fin1 {s : ByteArray} {n : Int} (h1 : Lib.atoiAll (Lib.cut s.data.toList [47]).1 = Lib.NumEnd.ok n) (hh : (Lib.cut s.data.toList [47]).2.2 = false) : parseO s = finT n 1 s := by
  unfold parseO; simp only [h1, hh]
theorem err_valid {n d : Int} : errX n d = 0 ↔ valid n d = true := by
  unfold errX; split <;> simp_all
theorem fin_bad1 {n d : Int} {s : ByteArray} (h : ¬ errX n d = 0) : finT n d s = (0, 0, 7) := by
  unfold finT; rw [if_neg fun hh => h (err_valid.2 hh.1)]
theorem fin_bad2 {n d : Int} {s : ByteArray} (h : ¬ printX n d = s) : finT n d s = (0, 0, 7) := by
  unfold finT; rw [if_neg fun hh => h (by rw [printX_good hh.1]; exact hh.2)]
theorem fin_ok {n d : Int} {s : ByteArray} (h : errX n d = 0) (hp : printX n d = s) : finT n d s = (n, d, 0) := by
  have hv := err_valid.1 h
  unfold finT; rw [if_pos ⟨hv, by rw [← hp, printX_good hv]⟩]

def L41 : List (Nat × Ctr) := [(108, c108), (107, c107), (69, c69)]
theorem L41_ok : LOk Tryd.prog ΓE L41 := ((LOk.nil.cons (FnOk.of Tryd.func69 rfl rfl) (toE c69_ok)).cons (FnOk.of Tryd.func107 rfl rfl) c107_ok).cons (FnOk.of Tryd.func108 rfl rfl) c108_ok
def c70 : Ctr := .fn fun args _ => match args with
  | [.a (.v (.string s))] => some ([(s.data.toList.length : Int) ≤ 1000000], .tup [.agg [vI (parseO s).1, vI (parseO s).2.1], .a (vI (parseO s).2.2)])
  | _ => none
set_option maxHeartbeats 4000000 in
theorem c70_ok : Ctr.Ok Tryd.prog ΓE 70 c70 := Ctr.fn_ok0 (prog_ok L41_ok true) Tryd.func70 rfl rfl rfl (by
  intro args q t hF hq
  split at hF
  next s =>
    obtain ⟨rfl, rfl⟩ := Prod.mk.inj (Option.some.inj hF); clear hF
    obtain ⟨h1, -⟩ := hq
    have hsz : s.data.toList.length = s.size := Array.length_toList
    refine ⟨rfl, rfl, ?_⟩
    repeat' ((conv => whnf); (first | apply And.intro | intro _))
    all_goals try (conv => whnf)
    all_goals try (first | rfl | trivial | exact LexB.mk (by kernel_rfl) | exact LexG.mk (by kernel_rfl) | exact Forced.mk (by kernel_rfl))
    all_goals try subst_vars
    all_goals try exact ⟨h1⟩
    all_goals try exact cut_len1 h1
    all_goals try exact cut_len2 h1
    all_goals try exact ⟨by assumption⟩
    all_goals try exact ⟨by simp only [inR]; omega⟩
    all_goals simp only [bs_data, bne_iff_ne, bne_eq_false_iff_eq, Bool.not_eq_true', Bool.not_eq_false', beq_iff_eq, beq_eq_false_iff_ne, ne_eq, toList_inj] at *
    all_goals first
      | (rw [po_bad1 ‹∀ n, ¬ Lib.atoiAll (Lib.cut s.data.toList [47]).1 = Lib.NumEnd.ok n›]; done)
      | (rw [po_bad2 ‹∀ n, ¬ Lib.atoiAll (Lib.cut s.data.toList [47]).2.1 = Lib.NumEnd.ok n› (by assumption)]; done)
      | (rw [po_fin2 ‹Lib.atoiAll (Lib.cut s.data.toList [47]).1 = Lib.NumEnd.ok _› ‹(Lib.cut s.data.toList [47]).2.2 = true› ‹Lib.atoiAll (Lib.cut s.data.toList [47]).2.1 = Lib.NumEnd.ok _›]
         first | (rw [fin_bad1 (by assumption)]; done) | (rw [fin_bad2 (by assumption)]; done) | (rw [fin_ok (by assumption) (by assumption)]; done))
      | (rw [po_fin1 ‹Lib.atoiAll (Lib.cut s.data.toList [47]).1 = Lib.NumEnd.ok _› ‹(Lib.cut s.data.toList [47]).2.2 = false›]
         first | (rw [fin_bad1 (by assumption)]; done) | (rw [fin_bad2 (by assumption)]; done) | (rw [fin_ok (by assumption) (by assumption)]; done))
  next => cases hF)
end Go.Proofs.YtoggkjobihlohaaDoor
