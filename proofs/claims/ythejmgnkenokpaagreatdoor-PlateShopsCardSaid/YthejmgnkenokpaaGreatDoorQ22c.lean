/-
  Texts of the claims on chapter 3: Q22c. No condition: lemmas and contracts.
-/
import Derived.Test.YthejmgnkenokpaaGreatDoorQ20c
set_option linter.all false
set_option maxRecDepth 100000
set_option maxHeartbeats 4000000
section
namespace Go.bK
section
variable {a b l : Int}
theorem UH : dG 7 (fun n => (decide (n < 2)) || dG 8 fun t => (decide (t < 4)) || !(dG (n * n) fun x => td n t x == x)) = true:=by decide +kernel
theorem U4 {n t : Int} (hn : bz n) (h2 : 2 <= n) (ht : cT t) (h4 : 4 <= t) : ∃ x,aM n x /\ aX n t x ≠ x:=by
 obtain ⟨k,hk,rfl⟩:=ir ht
 obtain ⟨m,rfl⟩ : ∃ m : Nat,n = (m : Int):=⟨n.toNat,by omega⟩
 have h:=bV.1 UH m (by unfold bz at hn;omega)
 simp only [Bool.or_eq_true,decide_eq_true_eq] at h
 have h:=h.resolve_left (by omega)
 have h:=bV.1 h k hk
 simp only [Bool.or_eq_true,decide_eq_true_eq] at h
 have h:=h.resolve_left (by omega)
 rw [Bool.not_eq_true'] at h
 refine Classical.byContradiction fun hno => ?_
 rw [Bool.eq_false_iff] at h
 refine h (bV.2 fun i hi => ?_)
 rw [beq_iff_eq]
 refine Classical.byContradiction fun hi2 => hno ⟨(i : Int),⟨by omega,by rw [<- Int.natCast_mul];omega⟩,fun e => hi2 ?_⟩
 unfold aX at e;simp only [Int.toNat_natCast] at e
 omega
end
end Go.bK
end
