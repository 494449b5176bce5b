/-
  Texts of the claims on chapter 3: Yk14. No condition: lemmas and contracts.
-/
import Derived.Test.YthejmgnkenokpaaDoorYk10
import Derived.Test.YthejmgnkenokpaaDoorYk1
import Derived.Test.YthejmgnkenokpaaDoorYk9
import Derived.Test.YthejmgnkenokpaaDoorQ20
import Derived.Test.YthejmgnkenokpaaDoorYk8
import Derived.Test.YthejmgnkenokpaaDoorPl1
set_option linter.all false
set_option maxRecDepth 100000
set_option maxHeartbeats 4000000
section
namespace Go.Proofs.YthejmgnkenokpaaDoor
open Go Go.Sy Go.bK
variable {Γ : bn}
attribute [local irreducible] aQ aX
end Go.Proofs.YthejmgnkenokpaaDoor
end
section
namespace Go.Proofs.YthejmgnkenokpaaDoor
open Go Go.Sy Go.bK
variable {Γ : bn}
attribute [local irreducible] aQ
end Go.Proofs.YthejmgnkenokpaaDoor
end
section
namespace Go.Proofs.YthejmgnkenokpaaDoor
open Go Go.Sy Go.bK
variable {Γ : bn}
def hX (X : List (List Int)) (q x : Int) : Int:=gi (bh X q) x
end Go.Proofs.YthejmgnkenokpaaDoor
end
section
namespace Go.Proofs.YthejmgnkenokpaaDoor
open Go Go.Sy Go.bK
variable {Γ : bn}
theorem Wc {n P : Int} {L : List Wk} {p : Int} {F : Int -> Int} : (eI n P L p F).length = P.toNat:=by simp [eI]
theorem YJ {es : List (Int × Int)} {M : Int} (hM : 0 <= M) (h : ∀ e ∈ es,-M <= e.2 /\ e.2 <= M) (v : Int) : -M <= aO es v 0 /\ aO es v 0 <= M:=by
 induction es with
 | nil => unfold aO;omega
 | cons e es ih =>
   obtain ⟨k,x⟩:=e
   unfold aO
   split
   ·exact h _ (List.mem_cons_self ..)
   ·exact ih (fun e he => h e (List.mem_cons_of_mem _ he))
theorem Yf {es : List (Int × Int)} {n v : Int} {e : Int × Int} : e ∈ dF es n v -> e.2 = v \/ e ∈ es:=by
 induction es with
 | nil => intro h;rw [dF,List.mem_singleton] at h;rw [h];exact .inl rfl
 | cons d es ih =>
   obtain ⟨k,x⟩:=d
   intro h
   unfold dF at h
   split at h
   ·rcases List.mem_cons.1 h with rfl | h
    ·exact .inl rfl
    ·exact .inr (List.mem_cons_of_mem _ h)
   ·rcases List.mem_cons.1 h with rfl | h
    ·exact .inr (List.mem_cons_self ..)
    ·rcases ih h with h | h
     ·exact .inl h
     ·exact .inr (List.mem_cons_of_mem _ h)
theorem Yu {F H : List Int} {M : Int} (hM : 0 <= M) (h : ∀ i,-M <= gi H i /\ gi H i <= M) (v : Int) : -M <= hF F H v /\ hF F H v <= M:=by
 unfold hF
 refine YJ hM ?_ v
 have : ∀ k,∀ e ∈ bG F H k,-M <= e.2 /\ e.2 <= M:=fun k => by
  induction k with
  | zero => intro e he;unfold bG at he;cases he
  | succ k ih =>
    intro e he
    unfold bG at he
    rcases Yf he with h1 | h1
    ·rw [h1];exact h _
    ·exact ih e h1
 exact this _
theorem XN {H : List Int} (h : H.all hB = true) (i : Int) : -1099511627776 <= gi H i /\ gi H i <= 1099511627776:=by
 unfold gi
 rcases Nat.lt_or_ge i.toNat H.length with h1 | h1
 ·have:=List.all_eq_true.1 h _ (List.getElem_mem h1)
  rw [List.getD_eq_getElem?_getD,List.getElem?_eq_getElem h1]
  exact bA.1 this
 ·rw [List.getD_eq_getElem?_getD,List.getElem?_eq_none h1]
  show _ <= (0 : Int) /\ (0 : Int) <= _;omega
end Go.Proofs.YthejmgnkenokpaaDoor
end
