/-
  Texts of the claims: Yka18z. No condition: lemmas and contracts.
-/
import Derived.Test.YtccnimhgjjnmoaaSya1z
import Derived.Test.YtccnimhgjjnmoaaSya2z
import Derived.Test.YtccnimhgjjnmoaaSya3z
import Derived.Test.YtccnimhgjjnmoaaSya4z
import Derived.Test.YtccnimhgjjnmoaaSya5z
import Derived.Test.YtccnimhgjjnmoaaPla6z
import Derived.Test.YtccnimhgjjnmoaaYka7z
import Derived.Test.YtccnimhgjjnmoaaYka8z
import Derived.Test.YtccnimhgjjnmoaaYka9z
import Derived.Test.YtccnimhgjjnmoaaYka10z
import Derived.Test.YtccnimhgjjnmoaaYka11z
import Derived.Test.YtccnimhgjjnmoaaYka12z
import Derived.Test.YtccnimhgjjnmoaaYka13z
import Derived.Test.YtccnimhgjjnmoaaYka14z
import Derived.Test.YtccnimhgjjnmoaaYka15z
import Derived.Test.YtccnimhgjjnmoaaYka16z
import Derived.Test.YtccnimhgjjnmoaaYka17z
set_option linter.all false
set_option maxRecDepth 100000
set_option maxHeartbeats 40000000
section
namespace Go.Proofs.Ytccnimhgjjnmoaa
open Go Go.Sy Go.dg
variable {Γ:bn}
def aIb:au:=.fn fun args _=>match args with
 |[]=>some ([],bl true)
 |_=>none
noncomputable def Qi:List (Nat×au):=[(53,aoK),(22,ap3),(23,alU),(24,amG),(32,av3),(35,apA),(36,aoX),(45,arf),(39,asQ),(25,aoi),(40,amZ),(28,uA)]
theorem KT:aR Try.prog Γ Qi:=((((((((((((aR.nil.cons (aj Try.func28 rfl rfl).fn yG).cons (aj Try.func40 rfl rfl).fn aof).cons (aj Try.func25 rfl rfl).fn anG).cons (aj Try.func39 rfl rfl).fn asR).cons (aj Try.func45 rfl rfl).fn ash).cons (aj Try.func36 rfl rfl).fn ap2).cons (aj Try.func35 rfl rfl).fn aqx).cons (aj Try.func32 rfl rfl).fn ave).cons (aj Try.func24 rfl rfl).fn amH).cons (aj Try.func23 rfl rfl).fn an2).cons (aj Try.func22 rfl rfl).fn aoY).cons (aj Try.func53 rfl rfl).fn apD)
theorem arv {F:List Int} (h:Lk (WA 0 eS) F):F.length<=1000000:=by
 rw[h.len];decide+kernel
theorem axj {F:List Int} (h:Lk (WB 0 eS) F):F.length<=1000000:=by
 rw[h.len];decide+kernel
attribute [local irreducible] bf akW ck gf aku x9 eg wN ars pw y7 akS tx Cn aky am1 akK akT e7 cw eS
theorem sW:au.Ok Try.prog Γ 21 aIb:=au.aBp (d:=3) (aP KT bq.nil false 0) (aj Try.func21 rfl rfl) (by
 intro args rg q t hF hq;split at hF;next=>
  obtain⟨rfl,rfl⟩:=Prod.mk.inj (Option.some.inj hF);clear hF;refine⟨rfl,[],[],[],⟨trivial,fun r g hg=>by cases hg⟩,?_⟩
  have ayh:eS.length=5:=by unfold eS;rfl
  have z0:((0:Int)!=0)=false:=rfl;have z1:((0:Int)==0)=true:=rfl;obtain⟨a1,a2,a3,a4,a5⟩:=vZ;have b1:((gN 3020 0 0 eS:Int)==0)=false:=Bool.eq_false_iff.2 fun h=>arx (amQ.1 h)
  have b2:((if bf eS 3030 10 0=0 then(gN 3030 10 0 eS:Int)else 0)!=2)=false:=by
   rw[if_pos (eq_of_beq a2)];unfold gN;rw[ayU];rfl
  have b3:(bf eS 3030 10 0!=0)=false:=by unfold bne;rw[a2];rfl
  have b4:((eS.length:Int)==0)=false:=by rw[ayh];rfl
  have b5:(wN 0 eS (x9 3021 0 eS)-0-3021!=-1)=false:=by rw[aoF.2];rfl
  have b6:decide ((eS.length:Int)>10)=false:=by rw[ayh];rfl
  obtain⟨c1,c2,c3⟩:=ayW;have c4:((aky eS 1000 0 0 10 5).2!=0)=false:=by rw[auc];rfl
  have c5:((aky eS 1000 0 0 10 5).1!=3)=false:=by rw[auc];rfl
  have c6:(aQ 0 0 1000000&&aQ 2 1 20)=true:=rfl;obtain⟨l1,l2⟩:=OB;have c7:decide ((y7 0 eS (Int.toNat 2)).length<=1000)=true:=decide_eq_true (by show(y7 0 eS 2).length<=1000;omega)
  have c8:(((y7 0 eS (Int.toNat 2)).length:Int)!=10)=false:=by show(((y7 0 eS 2).length:Int)!=10)=false;rw[l1];rfl
  have c9:(ca (y7 0 eS (Int.toNat 2)) 9!=7000)=false:=by show(ca (y7 0 eS 2) 9!=7000)=false;rw[l2];rfl
  have d0:0+Int.toNat 9<(y7 0 eS (Int.toNat 2)).length:=by show 9<(y7 0 eS 2).length;omega
  have d1:(!decide ((eg eS (aku 3020 0 0 eS))=[3,4]))=false:=by rw[decide_eq_true (eq_of_beq awd.2)];rfl
  have d2:(!decide ((eg eS (x9 3021 0 eS))=[3,4]))=false:=by rw[decide_eq_true (eq_of_beq aoF.1)];rfl
  have d3:(!decide ((pw eS (amK eS 2010 0 0 7000 0 0).1)=[1,2]))=false:=by rw[decide_eq_true (eq_of_beq c2)];rfl
  have d4:(!decide ((pw eS (amK eS 2010 0 0 7000 0 0).2)=[4,5]))=false:=by rw[decide_eq_true (eq_of_beq c3)];rfl
  have d5:decide ((akS (tx eS 3020 0 0) eS eS.length)=[1,2,5])=true:=decide_eq_true (eq_of_beq aqo);have e1:((Cn eS 3021 0 0).2==0)=true:=by rw[aqp];rfl
  have e2:((Cn eS 3021 0 0).1==1)=true:=by rw[aqp];rfl
  have e3:((gN 3021 0 0 eS:Int)==0)=true:=amQ.2 arw;have m1:(eg eS (aku 3020 0 0 eS)).length<=1000000:=by rw[eq_of_beq awd.2];decide
  have m2:(eg eS (x9 3021 0 eS)).length<=1000000:=by rw[eq_of_beq aoF.1];decide
  have m3:(pw eS (amK eS 2010 0 0 7000 0 0).1).length<=1000000:=by rw[eq_of_beq c2];decide
  have m4:(pw eS (amK eS 2010 0 0 7000 0 0).2).length<=1000000:=by rw[eq_of_beq c3];decide
  have m5:(akS (tx eS 3020 0 0) eS eS.length).length<=1000000:=by rw[eq_of_beq aqo];decide
  have m6:eS.length<=1000000:=by omega
  repeat'((conv=>whnf);first|apply And.intro|exact bA (by subst_vars;assumption)|intro h9)
  all_goals(try(conv=>whnf))<;>(subst_vars;try first|(apply Tk.mk;kernel_rfl)|exact⟨ah rfl⟩|exact⟨rfl⟩|exact⟨trivial⟩|rfl|contradiction|(apply Ob.mk;(try simp only[ag,ak,aa.ae])<;>(try dsimp only)<;>omega))
  all_goals try first|exact⟨m6⟩|exact⟨m1⟩|exact⟨m2⟩|exact⟨m3⟩|exact⟨m4⟩|exact⟨m5⟩|exact⟨ayh.symm⟩|exact⟨d0⟩|exact⟨(amS _ _ _ _ _ _ _).symm⟩|exact⟨arv (by assumption)⟩|exact⟨axj (by assumption)⟩|exact⟨by show(akT _ _ _ _ _ _ _).length<=_;rw[amS];exact arv (by assumption)⟩|exact ayT _ _ _|exact⟨⟨by decide,by show(9:Int)<((y7 0 eS 2).length:Int);omega⟩⟩|exact(aub (by assumption) (by assumption)).symm.trans h9
  all_goals
   rename_i F1 R1 apU aAg _ _ _ _ _ _ _ _ _ _ _ _ _ _ _;have hx:=aub apU aAg;exact hx.symm.trans h9
 next=>cases hF)
end Go.Proofs.Ytccnimhgjjnmoaa
end
section
namespace Go.Proofs.Ytccnimhgjjnmoaa
open Go Go.Sy Go.dg
variable {Γ:bn}
attribute [local irreducible] ck wN eA akM alK
instance (n:Nat) (l:List Int):Decidable (amI n l):=by unfold amI;infer_instance
end Go.Proofs.Ytccnimhgjjnmoaa
end
