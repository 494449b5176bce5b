/-
  Chapter 1: the library's Cut and Atoi, and Parse, in the program.
-/
import Derived.Test.YtoggkjobihlohaaDoorF39
import Derived.Test.YtoggkjobihlohaaDoorF18
import Derived.Test.YtoggkjobihlohaaDoorShelf2
import Derived.Lib.ConvBytes
namespace Go.Proofs.YtoggkjobihlohaaDoor
open Go Go.Sx Go.RowKit
set_option maxRecDepth 100000

/-- What is known of the library's variables, errors among them. -/
structure LaidE (w : World) : Prop where
  old : Laid w
  e1 : ∃ ev, w.cell? ⟨1, 0, none⟩ = some ev ∧ (ev = .nilIface ∨ ∃ te pe, ev = .iface te pe)
  e2 : ∃ ev, w.cell? ⟨2, 0, none⟩ = some ev ∧ (ev = .nilIface ∨ ∃ te pe, ev = .iface te pe)
theorem laidE_step (w w' : World) (h : LaidE w) (hb : ∀ b, b < 6 → w'.heap[b]? = w.heap[b]?) : LaidE w' := by
  obtain ⟨h1, ⟨v1, h2, h3⟩, v2, h4, h5⟩ := h
  exact ⟨laid_step w w' h1 hb, ⟨v1, by rw [World.cell?_of_block (hb 1 (by omega))]; exact h2, h3⟩, v2, by rw [World.cell?_of_block (hb 2 (by omega))]; exact h4, h5⟩
def ΓE : Glob := ⟨6, LaidE, laidE_step⟩
theorem toE {f : FuncId} {c : Ctr} (h : Ctr.Ok Tryd.prog ΓL f c) : Ctr.Ok Tryd.prog ΓE f c := by
  cases c with
  | fn F => exact fun args rg q t hF hq N0 ρ w vs hl hgn hgl => h args rg q t hF hq N0 ρ w vs hl hgn (LaidE.old hgl)
  | rel C => exact fun args rg K hC N0 ρ w vs hl hgn hgl => h args rg K hC N0 ρ w vs hl hgn (LaidE.old hgl)
theorem LOk.toE {l : List (Nat × Ctr)} (h : LOk Tryd.prog ΓL l) : LOk Tryd.prog ΓE l := ⟨fun f c hc => ⟨(h.h f c hc).1, YtoggkjobihlohaaDoor.toE (h.h f c hc).2⟩⟩

def c107 : Ctr := .fn fun args _ => match args with
  | [.a (.v (.string s)), .a (.v (.string p))] => some ([(s.data.toList.length : Int) ≤ 1000000], .tup [.a (.v (.string (bs (Lib.cut s.data.toList p.data.toList).1))), .a (.v (.string (bs (Lib.cut s.data.toList p.data.toList).2.1))), .a (.v (.bool (Lib.cut s.data.toList p.data.toList).2.2))])
  | _ => none
theorem c107_ok : Ctr.Ok Tryd.prog ΓE 107 c107 := by
  intro args rg q t hF hq N0 ρ w vs hl hgn hgl hargs hrg hdj
  simp only at hF
  split at hF
  next s p =>
    obtain ⟨rfl, rfl⟩ := Prod.mk.inj (Option.some.inj hF); clear hF
    obtain ⟨h1, -⟩ := hq
    match vs, hargs with
    | [y, z], ⟨⟨hy, _⟩, ⟨hz, _⟩, _⟩ =>
      subst hy hz
      have hL : LaidE w := hgl
      obtain ⟨m, hm⟩ := hL.old.max
      have hsz : s.data.toList.length = s.size := Array.length_toList
      refine (Tryd.strings_Cut s p m w (by omega) hm).mono fun e w' ⟨he, k, hw⟩ => ?_
      subst hw
      exact ⟨_, he, ⟨_, rfl, ⟨rfl, rfl⟩, ⟨rfl, rfl⟩, ⟨rfl, rfl⟩, trivial⟩, ⟨rfl, rfl, rfl, Nat.le_refl _, fun _ _ => rfl⟩⟩
  next => cases hF

/-- Atoi: the number, or some error. -/
def c108 : Ctr := .rel fun args _ K => match args with
  | [.a (.v (.string s))] => (s.data.toList.length : Int) ≤ 1000000 ∧ (∀ n, Lib.atoiAll s.data.toList = .ok n → inR .i64 n → K ⟨[], .tup [.a (vI n), .a (.v .nilIface)]⟩) ∧
    (∀ n t p, (∀ n, Lib.atoiAll s.data.toList ≠ .ok n) → inR .i64 n → K ⟨[], .tup [.a (vI n), .a (.v (.iface t p))]⟩)
  | _ => False
/-- How a numeral ends: a number, out of range, or as the empty text does. -/
theorem atoi_three (x : Lib.NumEnd Int) : (∃ n, x = .ok n) ∨ x = .range ∨ x = Lib.atoiAll [] := by
  cases x with
  | ok n => exact .inl ⟨n, rfl⟩
  | range => exact .inr (.inl rfl)
  | _ => exact .inr (.inr rfl)
theorem atoi_nil_ne (n : Int) : ¬ Lib.atoiAll [] = .ok n := fun h => by cases h
theorem c108_ok : Ctr.Ok Tryd.prog ΓE 108 c108 := by
  intro args rg K hC N0 ρ w vs hl hgn hgl hargs hrg hdj
  split at hC
  next s =>
    obtain ⟨h1, hok, herr⟩ := hC
    match vs, hargs with
    | [y], ⟨⟨hy, _⟩, _⟩ =>
      subst hy
      have hL : LaidE w := hgl
      have hsz : s.data.toList.length = s.size := Array.length_toList
      rcases atoi_three (Lib.atoiAll s.data.toList) with ⟨n, ha⟩ | ha | ha
      · have hb := Lib.atoiAll_bounds ha
        refine (Tryd.strconv_Atoi_ok s (by omega) n ha w).mono fun e w' ⟨he, hw⟩ => ?_
        have hbl : Below w.heap.size w w' := by
          rcases hw with rfl | ⟨t, rfl⟩
          · exact Below.refl _ _
          · exact Lib.bytesWorld_below _ _ _
        exact ⟨_, ⟨[], .tup [.a (vI n), .a (.v .nilIface)]⟩, ρ, he, hok n ha ⟨by omega, by omega⟩, hbl, fun _ _ => rfl, ⟨_, rfl, ⟨rfl, rfl⟩, ⟨rfl, rfl⟩, trivial⟩, (fun g hg => by cases hg), (fun r g hg => by cases hg), (fun r r' g g' hg => by cases hg)⟩
      · obtain ⟨ev, h2, h3⟩ := hL.e2
        have hb := Lib.atoiSat_bounds s.data.toList
        refine (Tryd.strconv_Atoi_range s (by omega) ha ev w h2 h3).mono fun e w' ⟨N, he, _, _, hbl⟩ => ?_
        exact ⟨_, ⟨[], .tup [.a (vI (Lib.atoiSat s.data.toList)), .a (.v (.iface 130 (.pointer (some ⟨N, 0, none⟩))))]⟩, ρ, he, herr _ _ _ (fun n hn => by rw [ha] at hn; cases hn) ⟨by omega, by omega⟩, hbl, fun _ _ => rfl, ⟨_, rfl, ⟨rfl, rfl⟩, ⟨rfl, rfl⟩, trivial⟩, (fun g hg => by cases hg), (fun r g hg => by cases hg), (fun r r' g g' hg => by cases hg)⟩
      · obtain ⟨ev, h2, h3⟩ := hL.e1
        refine (Tryd.strconv_Atoi_syntax s (by omega) ha ev w h2 h3).mono fun e w' ⟨N, he, _, _, hbl⟩ => ?_
        exact ⟨_, ⟨[], .tup [.a (vI 0), .a (.v (.iface 130 (.pointer (some ⟨N, 0, none⟩))))]⟩, ρ, he, herr 0 _ _ (fun n hn => by rw [ha] at hn; exact atoi_nil_ne n hn) (by simp only [inR]; omega), hbl, fun _ _ => rfl, ⟨_, rfl, ⟨rfl, rfl⟩, ⟨rfl, rfl⟩, trivial⟩, (fun g hg => by cases hg), (fun r g hg => by cases hg), (fun r r' g g' hg => by cases hg)⟩
  next => exact hC.elim
end Go.Proofs.YtoggkjobihlohaaDoor
