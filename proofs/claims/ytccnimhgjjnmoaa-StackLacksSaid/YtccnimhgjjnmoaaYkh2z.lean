/-
  Texts of the claims: Ykh2z. No condition: lemmas and contracts.
-/
import Derived.Test.YtccnimhgjjnmoaaSya1z
import Derived.Test.YtccnimhgjjnmoaaSya2z
import Derived.Test.YtccnimhgjjnmoaaSya3z
import Derived.Test.YtccnimhgjjnmoaaSya4z
import Derived.Test.YtccnimhgjjnmoaaSya5z
import Derived.Test.YtccnimhgjjnmoaaPla6z
import Derived.Test.YtccnimhgjjnmoaaYka7z
import Derived.Test.YtccnimhgjjnmoaaYka8z
import Derived.Test.YtccnimhgjjnmoaaYka9z
import Derived.Test.YtccnimhgjjnmoaaYka10z
import Derived.Test.YtccnimhgjjnmoaaYka11z
import Derived.Test.YtccnimhgjjnmoaaYka12z
import Derived.Test.YtccnimhgjjnmoaaYka13z
import Derived.Test.YtccnimhgjjnmoaaYka14z
import Derived.Test.YtccnimhgjjnmoaaYka15z
import Derived.Test.YtccnimhgjjnmoaaYka16z
import Derived.Test.YtccnimhgjjnmoaaYka17z
import Derived.Test.YtccnimhgjjnmoaaYka18z
import Derived.Test.YtccnimhgjjnmoaaPlb1z
import Derived.Test.YtccnimhgjjnmoaaPlc1z
import Derived.Test.YtccnimhgjjnmoaaYkc2z
import Derived.Test.YtccnimhgjjnmoaaPld1z
import Derived.Test.YtccnimhgjjnmoaaYke1z
import Derived.Test.YtccnimhgjjnmoaaPlf1z
import Derived.Test.YtccnimhgjjnmoaaPlh1z
import Derived.Test.YtccnimhgjjnmoaaRows
import Derived.ProofKit
import Derived.Deep.DeepHandedRow
import Derived.Deep.Slices
import Derived.Lib.LaidTab
import Derived.Lib.SmallJoins
import Derived.Stop.LaidErr
import Derived.Carry
set_option linter.all false
set_option maxRecDepth 100000
set_option maxHeartbeats 40000000
section
namespace Go.Proofs.Ytccnimhgjjnmoaa
open Go Go.Sy Go.ChangeShapes Go.WideShapes Go.RowKit
/-! ### Arguments opened -/
section
variable {H:Type} {enc:TypeId×Value->H} {w:World} {base:Nat} {spare:Nat->Bool} {held:Bool}
theorem NN (fuel:Nat) (cs:List Value) (y:DataW H×List MemPlace) (hl:cs.length=kI.length) (h:DataW.trod enc Try.prog w base spare held fuel 3 cs=some y):∃ x:ai kI,∀ η i,ai.aA η [] i 0 kI x cs:=by
 match cs,hl with
 |[c],_=>
  obtain⟨n,rfl⟩:=kf h;exact⟨n,fun η i=>⟨_,rfl,rfl⟩⟩
theorem ID {r:Reach} {b0:Nat} {v:Value} {d:DataW H} {p:List MemPlace} (hv:Value.okWide Try.prog w r b0 27 v) (h:DataW.Trod enc Try.prog w base spare held 27 v d p):
 ∃ (I:RI) (xs:List Int),I.head 0 xs.length v/\Er w 3 kI xs I:=by
 obtain⟨a0,Sd,R7,rfl⟩:=okWide_slice Try.underlying27 hv;obtain⟨fuel,hf⟩:=h;exact KF (by simp[kI]) Try.underlying27 (by kernel_rfl) NN (BS Try.underlying27 (CR Try.underlying27 hv)) (by simpa[Value.cells]using hf)
end
/-! ### A statement's walk -/
end Go.Proofs.Ytccnimhgjjnmoaa
end
section
namespace Go.Proofs.Ytccnimhgjjnmoaa
open Go Go.Sy Go.dg
variable {Γ:bn}
attribute [local irreducible] ck bf lu pos aD2 lenOf aO wO dF aQ aD1
def aD5 (L:List Bk) (I:List Int):Int×Int:=if I=[]then(0,1)else(((aD2 L none I).2.2:Nat),(aD2 L none I).1)
end Go.Proofs.Ytccnimhgjjnmoaa
end
section
namespace Go.Proofs.Ytccnimhgjjnmoaa
open Go Go.Sy Go.dg
variable {Γ:bn}
theorem aFb {L:List Bk} {l t f:Int} {I:List Int} (h:bf L l t f=0):(aD1 L l t f I).2=(aD5 L I).2:=by
 unfold aD1 aD5;rw[if_pos h];by_cases h1:I=[]
 ·rw[if_pos h1,if_pos h1]
 ·rw[if_neg h1,if_neg h1];by_cases h2:(aD2 L none I).1=0
  ·rw[if_pos h2,h2]
  ·rw[if_neg h2]
theorem aF9 (L:List Bk):eg L 0=[]:=List.eq_nil_of_length_eq_zero (by rw[ew,akJ])
theorem aEy {L:List Bk} {I:List Int} (hB:gb L) (h:(aD5 L I).2=0):∃ u:Nat,(aD5 L I).1=(u:Int)/\u<2^L.length/\u≠0/\eg L u=I/\∀ l t f:Int,bf L l t f=0->(aD1 L l t f I).1=wN f L u-f:=by
 unfold aD5 at h ⊢;by_cases h1:I=[]
 ·rw[if_pos h1]at h;cases h
 rw[if_neg h1]at h ⊢;have h2:(aD2 L none I).1=0:=h;have anY:=aGA hB.aos h2;refine⟨(aD2 L none I).2.2,rfl,(aEe 0 hB.aos I none h2).2.1,fun e=>?_,anY,fun l t f ha=>?_⟩
 ·rw[e,aF9]at anY;exact h1 anY.symm
 ·have:=(aEe f hB.aos I none h2).1;unfold aD1;rw[if_pos ha,if_neg h1,if_pos h2];dsimp only;rw[<-this,Int.sub_mul,Int.one_mul];omega
attribute [local irreducible] ck bf aD1 aD5 akv wN
end Go.Proofs.Ytccnimhgjjnmoaa
end
