/-
  Texts of the claims: Yks2z. No condition: lemmas and contracts.
-/
import Derived.Test.YtccnimhgjjnmoaaSya1z
import Derived.Test.YtccnimhgjjnmoaaSya2z
import Derived.Test.YtccnimhgjjnmoaaSya3z
import Derived.Test.YtccnimhgjjnmoaaSya4z
import Derived.Test.YtccnimhgjjnmoaaSya5z
import Derived.Test.YtccnimhgjjnmoaaPla6z
import Derived.Test.YtccnimhgjjnmoaaYka7z
import Derived.Test.YtccnimhgjjnmoaaPld1z
import Derived.Test.YtccnimhgjjnmoaaPlp1z
import Derived.Test.YtccnimhgjjnmoaaYkp2z
import Derived.Test.YtccnimhgjjnmoaaPls1z
set_option linter.all false
set_option maxRecDepth 100000
set_option maxHeartbeats 40000000
section
namespace Go.Proofs.Ytccnimhgjjnmoaa
open Go Go.Sy Go.dg
variable {Γ:bn}
def avN (D:List Bk->Int->Int->Int->List aa) (R:List Bk->Int->Int->Int->cM):au:=.new fun args rg K=>match args with
 |[.a x0,.agg [.v (.int .i64 n0),.v (.int .i64 n1),.v (.int .i64 n2)]]=>(match ac1 67 kK rg x0 with|some (q0,L0)=>aBP false (q0++(D L0 n0 n1 n2)) (K (R L0 n0 n1 n2))|_=>False)
 |_=>False
theorem auS {f:FuncId} {b:Body} {E:Env} {d:Nat} (hP:aL Try.prog Γ E) (hb:bQ Try.prog f b) {D:List Bk->Int->Int->Int->List aa} {R:List Bk->Int->Int->Int->cM}
 (H:∀ (L0:List Bk) (n0:Int) (n1:Int) (n2:Int) (K:cM->Prop),bW (D L0 n0 n1 n2)->K (R L0 n0 n1 n2)->cQ E d b [.a (.sl 0 [] 0 L0.length),.agg [vI n0,vI n1,vI n2]] [.arr 67 kK L0 false false] (bu K)):au.Ok Try.prog Γ f (avN D R):=au.fM (d:=d) hP hb (by
 intro args rg K hF;split at hF;next x0 n0 n1 n2=>
  split at hF;next q0 L0 hx0=>
   rw[aV,aH]at hF;obtain⟨⟨aIh,hD⟩,hK⟩:=hF;obtain⟨e0,Vn⟩:=bP (by simp[kK]) hx0 aIh
   obtain⟨p0,r0⟩:=Vn [e0] 0 1 rfl (by omega)
   refine⟨[e0],[.a (.sl 0 [] 0 L0.length),.agg [vI n0,vI n1,vI n2]],[.arr 67 kK L0 false false],⟨⟨p0,⟨rfl,rfl,rfl,trivial⟩,trivial⟩,fun r g hg=>?_⟩,bu K,H _ _ _ _ K hD hK,fun x st h=>h⟩
   match r,hg with
   |0,hg=>obtain rfl:=Option.some.inj hg;exact r0
  next=>exact hF.elim
 next=>exact hF.elim)
attribute [local irreducible] ck gi wN sub blk akv eg
end Go.Proofs.Ytccnimhgjjnmoaa
end
section
namespace Go.Proofs.Ytccnimhgjjnmoaa
open Go Go.Sy Go.dg
variable {Γ:bn}
attribute [local irreducible] ck gi wN sub blk akv eg RK eA l7 kB akM
def axY (L:List Bk) (l t f:Int):cM:=⟨[.arr 3 kI (gf l t f L) true true],.a (.sl 0 [] 0 (gf l t f L).length)⟩
def aqK:au:=avN (fun L l t f=>[aoI L,(aa.of (0<=f/\f<=1000000)),(aa.of (-1152921504606846976<=l/\l<=1152921504606846976)),(aa.of (-1152921504606846976<=t/\t<=1152921504606846976))]) axY
noncomputable def axm:List (Nat×au):=[(51,aoM)]
theorem asv:aR Try.prog Γ axm:=(aR.nil.cons (aj Try.func51 rfl rfl).fn apF)
theorem arO:au.Ok Try.prog Γ 27 aqK:=auS (d:=0) (aP asv bq.nil false 0) (aj Try.func27 rfl rfl) (by
 intro L l t f K ⟨hB,hf,hl,ht,_⟩ hK;simp only[aa.ae]at hf hl ht;replace hB:gb L:=hB;have hn:=hB.Kg;have hp:=akO hn;have hsh:=atY L.length;have ayk:=Nat.two_pow_pos L.length;have xX:ak .i64 (1*2^Int.toNat (L.length:Int)):=by rw[Int.toNat_natCast,hsh];simp only[ak];omega
 have az8:(RK l t f L 1).length=0:=by rw[apS];rfl
 unfold axY at hK;repeat'((conv=>whnf);first|apply And.intro|exact bA (by subst_vars;assumption)|intro h9)
 all_goals(try(conv=>whnf))<;>(subst_vars;try first|(apply Tk.mk;kernel_rfl)|exact⟨ah rfl⟩|exact⟨rfl⟩|exact⟨trivial⟩|rfl|contradiction|(apply Ob.mk;(try simp only[ag,ak,aa.ae])<;>(try dsimp only)<;>omega))
 refine⟨Nat,fun i=>1<=i/\i<=2^L.length,fun i=>⟨aI 23 [0,3,5,6] [.a (.sl 0 [] 0 L.length),.a (.p 1 [] 0 0),.a (.sl 2 [] 0 (RK l t f L i).length),.a (vI i)],[],[.arr 67 kK L false false,.box true [vI l,vI t,vI f],.arr 3 kI (RK l t f L i) true true]⟩,fun i=>2^L.length-i,1,[0,1,1000],⟨Nat.le_refl _,ayk⟩,?_,?_⟩
 ·repeat'((conv=>whnf)<;>first|apply And.intro|intro _|rfl|trivial|exact ah rfl|exact aS ‹_› rfl|exact aT ‹_› rfl|((repeat' first|rfl|constructor);done)|exact apS|exact az8)
 rintro i ⟨hi0,hi⟩;have DG:=apR (l:=l) (t:=t) (f:=f) (L:=L) i;by_cases hi1:i<2^L.length
 ·have p0:decide ((i:Int)<1*2^Int.toNat (L.length:Int))=true:=decide_eq_true (by rw[Int.toNat_natCast,hsh];omega)
  have hst:=atp (l:=l) (t:=t) (f:=f) (L:=L) i;cases hb:akv l t f L (Int.toNat (i:Int))
  ·have hb':akv l t f L i=false:=by simpa using hb
   rw[hb']at hst;simp only[Bool.false_eq_true,if_false]at hst;repeat'((conv=>whnf);first|apply And.intro|exact bA (by subst_vars;assumption)|intro h9)
   all_goals(try(conv=>whnf))<;>(subst_vars;try first|(apply Tk.mk;kernel_rfl)|exact⟨ah rfl⟩|exact⟨rfl⟩|exact⟨trivial⟩|rfl|contradiction|(apply Ob.mk;(try simp only[ag,ak,aa.ae])<;>(try dsimp only)<;>omega))
   all_goals try first|exact⟨hB⟩|exact⟨xX⟩|exact⟨show(L.length:Int)<=64 by omega⟩
   all_goals
    refine⟨i+1,[0,1,2],⟨by omega,hi1⟩,?_,by show 2^L.length-(i+1)<2^L.length-i;omega⟩
    dsimp only;rw[hst];repeat'((conv=>whnf)<;>first|apply And.intro|intro _|rfl|trivial|exact ah rfl|exact aS ‹_› rfl|exact aT ‹_› rfl|((repeat' first|rfl|constructor);done))
  have hb':akv l t f L i=true:=by simpa using hb
  rw[hb']at hst;simp only[if_true]at hst;have amC:=congrArg List.length hst;rw[List.length_append,List.length_singleton]at amC;repeat'((conv=>whnf);first|apply And.intro|exact bA (by subst_vars;assumption)|intro h9)
  all_goals(try(conv=>whnf))<;>(subst_vars;try first|(apply Tk.mk;kernel_rfl)|exact⟨ah rfl⟩|exact⟨rfl⟩|exact⟨trivial⟩|rfl|contradiction|(apply Ob.mk;(try simp only[ag,ak,aa.ae])<;>(try dsimp only)<;>omega))
  all_goals try first|exact⟨hB⟩|exact⟨xX⟩|exact⟨show(L.length:Int)<=64 by omega⟩|exact⟨Nat.zero_add _⟩|exact⟨show((RK l t f L i).length+1)*1<=1099511627776 by omega⟩
  all_goals
   refine⟨i+1,[0,1,2],⟨by omega,hi1⟩,?_,by show 2^L.length-(i+1)<2^L.length-i;omega⟩
   repeat'((conv=>whnf)<;>first|apply And.intro|intro _|rfl|trivial|exact ah rfl|exact aS ‹_› rfl|exact aT ‹_› rfl|((repeat' first|rfl|constructor);done)|exact amC.symm|exact⟨rfl,rfl,hst.symm⟩)
 have p0:decide ((i:Int)<1*2^Int.toNat (L.length:Int))=false:=decide_eq_false (by rw[Int.toNat_natCast,hsh];omega)
 have hg:gf l t f L=RK l t f L i:=by unfold gf;rw[show 2^L.length=i by omega]
 rw[hg]at hK;repeat'((conv=>whnf);first|apply And.intro|exact bA (by subst_vars;assumption)|intro h9)
 all_goals(try(conv=>whnf))<;>(subst_vars;try first|(apply Tk.mk;kernel_rfl)|exact⟨ah rfl⟩|exact⟨rfl⟩|exact⟨trivial⟩|rfl|contradiction|(apply Ob.mk;(try simp only[ag,ak,aa.ae])<;>(try dsimp only)<;>omega))
 all_goals try first|exact⟨xX⟩|exact⟨show(L.length:Int)<=64 by omega⟩
 refine bu.base ⟨_,[2],hK,⟨rfl,rfl,by simp,trivial⟩,rfl,?_⟩
 repeat'((conv=>whnf)<;>first|apply And.intro|intro _|rfl|trivial))
end Go.Proofs.Ytccnimhgjjnmoaa
end
