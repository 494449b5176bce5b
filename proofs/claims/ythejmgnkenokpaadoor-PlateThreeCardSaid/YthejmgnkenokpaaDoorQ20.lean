/-
  Texts of the claims on chapter 3: Q20. No condition: lemmas and contracts.
-/
import Derived.Test.YthejmgnkenokpaaDoorQ19
set_option linter.all false
set_option maxRecDepth 100000
set_option maxHeartbeats 4000000
section
namespace Go.bK
theorem Ts {P : Int} {L : List Wk} (hw : cx P L) {w : Wk} (h : w ∈ L) : qa L w.1 w.2.1 (w.2.2,true):=by
 obtain ⟨i,hi,e⟩:=List.mem_iff_getElem.1 h
 have ew : wk L i = w:=by simp [wk,hi,e]
 have ht : cT w.2.2:=by have:=(hw.at hi).2.2.2;rw [ew] at this;exact this
 refine ⟨[(i : Int)],fun s hs => ?_,?_⟩
 ·rw [List.mem_singleton] at hs;subst hs;unfold bS;omega
 ·have e2 : dy L (i : Int) = w:=by
   unfold dy;rw [if_neg (by omega),Int.toNat_natCast,ew]
  have e3 : bM L (w.1,0,false) (i : Int) = true:=by unfold bM;rw [e2];exact beq_self_eq_true _
  have e4 : bw L (w.1,0,false) (i : Int) = (w.2.1,w.2.2,true):=by
   unfold bw;rw [e2];dsimp only;rw [(xC ht).2];rfl
  rw [bj,e3];dsimp only;rw [e4];rfl
end Go.bK
end
