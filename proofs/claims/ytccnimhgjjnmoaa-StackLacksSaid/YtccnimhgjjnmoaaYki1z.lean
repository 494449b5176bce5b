/-
  Texts of the claims: Yki1z. No condition: lemmas and contracts.
-/
import Derived.Test.YtccnimhgjjnmoaaSya1z
import Derived.Test.YtccnimhgjjnmoaaSya2z
import Derived.Test.YtccnimhgjjnmoaaSya3z
import Derived.Test.YtccnimhgjjnmoaaSya4z
import Derived.Test.YtccnimhgjjnmoaaSya5z
import Derived.Test.YtccnimhgjjnmoaaPla6z
import Derived.Test.YtccnimhgjjnmoaaYka7z
import Derived.Test.YtccnimhgjjnmoaaYka8z
import Derived.Test.YtccnimhgjjnmoaaYka9z
import Derived.Test.YtccnimhgjjnmoaaYka10z
import Derived.Test.YtccnimhgjjnmoaaYka11z
import Derived.Test.YtccnimhgjjnmoaaYka12z
import Derived.Test.YtccnimhgjjnmoaaYka13z
import Derived.Test.YtccnimhgjjnmoaaYka14z
import Derived.Test.YtccnimhgjjnmoaaYka15z
import Derived.Test.YtccnimhgjjnmoaaYka16z
import Derived.Test.YtccnimhgjjnmoaaYka17z
import Derived.Test.YtccnimhgjjnmoaaYka18z
import Derived.Test.YtccnimhgjjnmoaaPlb1z
import Derived.Test.YtccnimhgjjnmoaaPlc1z
import Derived.Test.YtccnimhgjjnmoaaYkc2z
import Derived.Test.YtccnimhgjjnmoaaYke1z
set_option linter.all false
set_option maxRecDepth 100000
set_option maxHeartbeats 40000000
section
namespace Go.Proofs.Ytccnimhgjjnmoaa
open Go Go.Sy Go.dg
variable {Γ:bn}
attribute [local irreducible] ck bf lu pos aD2 lenOf aO wO dF aQ aD1
def aD3 (L:List Bk) (l t f:Int) (I:List Int):Bool:=decide ((aD1 L l t f I).2=0)&&aQ (aD1 L l t f I).1 (l-t) (l+t)
def aEn:au:=aFB (fun L _ _ _ I=>[(aa.of (L.length<=1000000)),(aa.of (I.length<=1000))]) (fun L l t f I=> .bF [.a (.v (.bool (aD3 L l t f I))),.a (vI (aD1 L l t f I).2)])
noncomputable def aHp:List (Nat×au):=[(46,aEf),(85,apE)]
theorem aGk:aR Try.prog Γ aHp:=((aR.nil.cons (aj Try.func85 rfl rfl).fn aoL).cons (aj Try.func46 rfl rfl).fn aEc)
theorem aEh:au.Ok Try.prog Γ 48 aEn:=aEL (d:=0) (aP aGk bq.nil false 0) (aj Try.func48 rfl rfl) (fun _ _ _ _ _=>rfl) (by
 intro L l t f I ⟨hL,hI,_⟩;simp only[aa.ae]at hL hI;cases h0:(aD1 L l t f I).2==0
 ·rw[show aD3 L l t f I=false by unfold aD3;rw[decide_eq_false (by simpa using h0)];rfl]
  repeat'((conv=>whnf);first|apply And.intro|exact bA (by subst_vars;assumption)|intro h9)
  all_goals(try(conv=>whnf))<;>(subst_vars;try first|(apply Tk.mk;kernel_rfl)|exact⟨ah rfl⟩|exact⟨rfl⟩|exact⟨trivial⟩|rfl|contradiction|(apply Ob.mk;(try simp only[ag,ak,aa.ae])<;>(try dsimp only)<;>omega))
  all_goals first|trivial|exact⟨hL⟩|exact⟨hI⟩
 have h1:=eq_of_beq h0;obtain⟨hB,hw⟩:=gg (aEb h1);obtain⟨hl,ht,hf⟩:=wE hw;have jJ:-1152921504606846976<=l/\l<=1152921504606846976:=by omega
 have UW:-1152921504606846976<=t/\t<=1152921504606846976:=by omega
 rw[show aD3 L l t f I=aQ (aD1 L l t f I).1 (l-t) (l+t) by unfold aD3;rw[decide_eq_true h1];rfl]
 repeat'((conv=>whnf);first|apply And.intro|exact bA (by subst_vars;assumption)|intro h9)
 all_goals(try(conv=>whnf))<;>(subst_vars;try first|(apply Tk.mk;kernel_rfl)|exact⟨ah rfl⟩|exact⟨rfl⟩|exact⟨trivial⟩|rfl|contradiction|(apply Ob.mk;(try simp only[ag,ak,aa.ae])<;>(try dsimp only)<;>omega))
 all_goals first|trivial|exact⟨hL⟩|exact⟨hI⟩)
end Go.Proofs.Ytccnimhgjjnmoaa
end
section
namespace Go.Proofs.Ytccnimhgjjnmoaa
open Go Go.Sy Go.dg
variable {Γ:bn}
theorem aEM {L:List Bk} {l t f:Int} {I:List Int} {u:Nat} (h:(aD1 L l t f I).2=0) (hu:u≠0) (hw:(aD1 L l t f I).1=wN f L u-f):aD3 L l t f I=akv l t f L u:=by
 unfold aD3;rw[apQ,decide_eq_true h,hw,decide_eq_true hu]
attribute [local irreducible] ck bf aD1 aD3 akv wN
end Go.Proofs.Ytccnimhgjjnmoaa
end
