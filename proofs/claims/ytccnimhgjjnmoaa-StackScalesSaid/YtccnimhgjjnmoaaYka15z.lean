/-
  Texts of the claims: Yka15z. No condition: lemmas and contracts.
-/
import Derived.Test.YtccnimhgjjnmoaaSya1z
import Derived.Test.YtccnimhgjjnmoaaSya2z
import Derived.Test.YtccnimhgjjnmoaaSya3z
import Derived.Test.YtccnimhgjjnmoaaSya4z
import Derived.Test.YtccnimhgjjnmoaaSya5z
import Derived.Test.YtccnimhgjjnmoaaPla6z
import Derived.Test.YtccnimhgjjnmoaaYka7z
import Derived.Test.YtccnimhgjjnmoaaYka8z
import Derived.Test.YtccnimhgjjnmoaaYka9z
import Derived.Test.YtccnimhgjjnmoaaYka10z
import Derived.Test.YtccnimhgjjnmoaaYka11z
import Derived.Test.YtccnimhgjjnmoaaYka12z
import Derived.Test.YtccnimhgjjnmoaaYka13z
import Derived.Test.YtccnimhgjjnmoaaYka14z
set_option linter.all false
set_option maxRecDepth 100000
set_option maxHeartbeats 40000000
section
namespace Go.Proofs.Ytccnimhgjjnmoaa
open Go Go.Sy Go.dg
variable {Γ:bn}
def ayK (D:Nat->Nat->List Bk->Int->List aa) (R:Nat->Nat->List Bk->Int->(cM->Prop)->Prop):au:=.new fun args rg K=>match args with
 |[.a x0,.a (.v (.int .i64 n0))]=>(match amp 67 kK rg x0 with|some (q0,a0,b0,L0)=>aBP false (q0++(D a0 b0 L0 n0)) (R a0 b0 L0 n0 K)|_=>False)
 |_=>False
theorem aw5 {f:FuncId} {b:Body} {E:Env} {d:Nat} (hP:aL Try.prog Γ E) (hb:bQ Try.prog f b) {D:Nat->Nat->List Bk->Int->List aa} {R:Nat->Nat->List Bk->Int->(cM->Prop)->Prop}
 (H:∀ (a0:Nat) (b0:Nat) (L0:List Bk) (n0:Int) (K:cM->Prop),bW (D a0 b0 L0 n0)->R a0 b0 L0 n0 K->cQ E d b [.a (.sl 0 [] a0 b0),.a (vI n0)] [.arr 67 kK L0 false false] (bu K)):au.Ok Try.prog Γ f (ayK D R):=au.fM (d:=d) hP hb (by
 intro args rg K hF;split at hF;next x0 n0=>
  split at hF;next q0 a0 b0 L0 hx0=>
   rw[aV,aH]at hF;obtain⟨⟨aIh,hD⟩,hK⟩:=hF;obtain⟨e0,Vn⟩:=aov (by simp[kK]) hx0 aIh
   obtain⟨p0,r0⟩:=Vn [e0] 0 1 rfl (by omega)
   refine⟨[e0],[.a (.sl 0 [] a0 b0),.a (vI n0)],[.arr 67 kK L0 false false],⟨⟨p0,rfl,trivial⟩,fun r g hg=>?_⟩,bu K,H _ _ _ _ K hD hK,fun x st h=>h⟩
   match r,hg with
   |0,hg=>obtain rfl:=Option.some.inj hg;exact r0
  next=>exact hF.elim
 next=>exact hF.elim)
structure Lk (W S:List Int):Prop where
 perm:S.Perm ((List.range W.length).map Int.ofNat)
 up:kM (cw W) 0 W.length S
theorem Lk.len {W S:List Int} (h:Lk W S):S.length=W.length:=by rw[h.perm.length_eq];simp
def ale (n i:Nat):List Int:=(List.range i).map Int.ofNat++List.replicate (n-i) 0
theorem awP {n i:Nat} (h:i<=n):(ale n i).length=n:=by simp[ale];omega
theorem auX (n:Nat):ale n 0=List.replicate n 0:=by simp[ale]
theorem aqX (n:Nat):ale n n=(List.range n).map Int.ofNat:=by simp[ale]
theorem auW {n i:Nat} (h:i<n):(ale n i).set (0+Int.toNat (i:Int)) (i:Int)=ale n (i+1):=by
 rw[Nat.zero_add,Int.toNat_natCast];unfold ale;rw[List.set_append_right _ _ (by simp),List.range_succ,List.map_append,List.append_assoc,List.length_map,List.length_range,Nat.sub_self,show n-i=(n-(i+1))+1 by omega,List.replicate_succ]
 rfl
theorem ali {L:List Bk} (hB:gb L) {a b:Nat} (hab:a+b<=L.length) {f:Int} (hf:0<=f/\f<=1000000) (i:Int):0<=cw (e7 f (sub L a b)) i/\cw (e7 f (sub L a b)) i<=1152921504606846976:=by
 unfold cw;have hl:=x7 f (sub L a b);rcases Nat.lt_or_ge i.toNat (2^(sub L a b).length)with h|h
 ·rw[aoE f _ h];have:=hB.sub_le hab hf.1 hf.2 (sub L a b).length i.toNat;rw[List.take_length]at this;omega
 ·rw[List.getD_eq_getElem?_getD,List.getElem?_eq_none (by omega)]
  exact⟨by decide,by decide⟩
attribute [local irreducible] ck wN e7 cw swp x8 ale sub
def av4 (a b:Nat) (L:List Bk) (f:Int) (K:cM->Prop):Prop:=∀ S:List Int,Lk (e7 f (sub L a b)) S->K ⟨[.arr 3 kI S true true],.a (.sl 0 [] 0 S.length)⟩
def asZ:au:=ayK (fun a b L f=>[(aa.of (a+b<=L.length)),apv L,(aa.of (0<=f/\f<=1000000)),(aa.of (b<=10))]) av4
theorem as0:au.Ok Try.prog Γ 74 asZ:=aw5 (d:=40+1) auN (aj Try.func74 rfl rfl) (by
 intro a b L f K ⟨hab,hB,hf,hb,_⟩ hK;simp only[aa.ae]at hab hf hb;replace hB:gb L:=hB;unfold av4 at hK;have hN:=hB.Kg;refine aoo (n:=40) ?_;intro K' anV;have DA:(e7 f (sub L a b)).length=2^b:=by rw[x7,wk hab]
 have avY:2^b<=1024:=by have:=Nat.pow_le_pow_right (n:=2) (by omega) hb;omega
 have atz:=ali hB hab hf;obtain⟨W,hW⟩:∃ W,e7 f (sub L a b)=W:=⟨_,rfl⟩;rw[hW]at hK DA atz;have hU:apc L W W.length (alC 40):=ayP 15;have hU:apc L W W.length (GG od (MC od 40 none)):=hU;generalize GG od (MC od 40 none)=cl at*;generalize wF (MC od 40)=rd;have aAG:W.length<=1024:=by omega
 replace hW:=And.intro hW trivial;have avU:(e7 f (sub L a b)).length=W.length:=by rw[hW.1]
 have hz:List.replicate (Int.toNat (W.length:Int)) (0:Int)=ale W.length 0:=by rw[Int.toNat_natCast,auX]
 have To:List.replicate (Int.toNat ((e7 f (sub L a b)).length:Int)) (0:Int)=ale W.length 0:=by rw[avU];exact hz
 clear DA avY;repeat'((conv=>whnf);first|apply And.intro|exact bA (by subst_vars;assumption)|intro h9)
 all_goals(try(conv=>whnf))<;>(subst_vars;try first|(apply Tk.mk;kernel_rfl)|exact⟨ah rfl⟩|exact⟨rfl⟩|exact⟨trivial⟩|rfl|contradiction|(apply Ob.mk;(try simp only[ag,ak,aa.ae])<;>(try dsimp only)<;>omega))
 all_goals try first|exact⟨show((e7 f (sub L a b)).length:Int)*1<=16777216 by rw[avU];omega⟩|exact⟨hab⟩|exact⟨hB⟩
 refine⟨Nat,fun i=>i<=W.length,fun i=>⟨aI 28 [5,6,14,15,16] [.a (.p 2 [] 0 0),.a (.sl 3 [] 0 W.length),.a (.sl 3 [] 0 W.length),.a (vI W.length),.a (vI i)],[],[.arr 67 kK L false false,.arr 3 kI W true true,.box true [.sl 1 [] 0 W.length],.arr 3 kI (ale W.length i) true true]⟩,fun i=>W.length-i,0,[0,1,2,3],Nat.zero_le _,?_,?_⟩
 ·repeat'((conv=>whnf);(first|apply And.intro|intro _))
  all_goals first|rfl|trivial|exact ah rfl|exact⟨rfl,rfl,rfl⟩|exact⟨rfl,rfl⟩|(rename_i r9 bx;revert r9;decide)|exact avU|exact⟨rfl,rfl,hW.1⟩|exact congrArg (fun n:Nat=>(n:Int)) avU|exact To|exact⟨rfl,rfl,To⟩
 clear hz To;intro i hi;have hfl:=And.intro (awP hi) trivial;by_cases hi1:i<W.length
 ·have p0:decide ((i:Int)<(W.length:Int))=true:=decide_eq_true (by omega)
  have hst:=auW hi1;repeat'((conv=>whnf);first|apply And.intro|exact bA (by subst_vars;assumption)|intro h9)
  all_goals(try(conv=>whnf))<;>(subst_vars;try first|(apply Tk.mk;kernel_rfl)|exact⟨ah rfl⟩|exact⟨rfl⟩|exact⟨trivial⟩|rfl|contradiction|(apply Ob.mk;(try simp only[ag,ak,aa.ae])<;>(try dsimp only)<;>omega))
  all_goals try first|exact⟨show 0+Int.toNat (i:Int)<(ale W.length i).length by omega⟩
  all_goals
   refine⟨i+1,[0,1,2,3],hi1,?_,by show W.length-(i+1)<W.length-i;omega⟩
   repeat'((conv=>whnf);(first|apply And.intro|intro _))
   all_goals first|rfl|trivial|exact ah rfl|exact⟨rfl,rfl,rfl⟩|exact⟨rfl,rfl⟩|(rename_i r9 bx;revert r9;decide)|exact hst|exact⟨rfl,rfl,hst⟩
 have p0:decide ((i:Int)<(W.length:Int))=false:=decide_eq_false (by omega)
 obtain rfl:i=W.length:=by omega
 have hV:amY W (ale W.length W.length):=⟨fun x hx=>by
  rw[aqX]at hx;obtain⟨j,hj,rfl⟩:=List.mem_map.1 hx;have:=List.mem_range.1 hj;exact⟨Int.natCast_nonneg j,by show(j:Int)<_;omega⟩,atz⟩
 repeat'((conv=>whnf);first|apply And.intro|exact bA (by subst_vars;assumption)|intro h9)
 all_goals(try(conv=>whnf))<;>(subst_vars;try first|(apply Tk.mk;kernel_rfl)|exact⟨ah rfl⟩|exact⟨rfl⟩|exact⟨trivial⟩|rfl|contradiction|(apply Ob.mk;(try simp only[ag,ak,aa.ae])<;>(try dsimp only)<;>omega))
 refine hU (ale W.length W.length) _ _ _ hfl.1 (by omega) hV ⟨?_,?_⟩ ?_
 ·intro is m' n' h1 h2 h3;repeat'((conv=>whnf);(first|apply And.intro|intro _))
  all_goals first|rfl|trivial|omega|(rw[h1 _ (by omega)];done)|(rw[h1 _ (by omega)];omega)|(simp only[List.map_cons,List.map_nil];rw[h1 2 (by decide)];done)|(have h7:=(show ∀ r∈[2],r<4 by decide) _ ‹_›;first|omega|(rw[h1 _ h7];omega))
 ·intro is m' n' h1 h2 h3;repeat'((conv=>whnf);(first|apply And.intro|intro _))
  all_goals first|rfl|trivial|omega|(rw[h1 _ (by omega)];done)|(rw[h1 _ (by omega)];omega)|(simp only[List.map_cons,List.map_nil];rw[h1 2 (by decide)];done)|(have h7:=(show ∀ r∈[2],r<4 by decide) _ ‹_›;first|omega|(rw[h1 _ h7];omega))
 intro B akE AP;have hT:Lk W B:=⟨by rw[<-aqX];exact akE.perm,AP⟩
 have afI:=hK B hT;have akA:=And.intro (hT.len) trivial;rw[akA.1]at afI;repeat'((conv=>whnf);first|apply And.intro|exact bA (by subst_vars;assumption)|intro h9)
 all_goals(try(conv=>whnf))<;>(subst_vars;try first|(apply Tk.mk;kernel_rfl)|exact⟨ah rfl⟩|exact⟨rfl⟩|exact⟨trivial⟩|rfl|contradiction|(apply Ob.mk;(try simp only[ag,ak,aa.ae])<;>(try dsimp only)<;>omega))
 refine anV _ _ ?_;repeat'((conv=>whnf);first|apply And.intro|exact bA (by subst_vars;assumption)|intro h9)
 all_goals(try(conv=>whnf))<;>(subst_vars;try first|(apply Tk.mk;kernel_rfl)|exact⟨ah rfl⟩|exact⟨rfl⟩|exact⟨trivial⟩|rfl|contradiction|(apply Ob.mk;(try simp only[ag,ak,aa.ae])<;>(try dsimp only)<;>omega))
 refine bu.base ⟨_,[3],afI,⟨rfl,rfl,by simp,trivial⟩,rfl,?_⟩
 repeat'((conv=>whnf)<;>first|apply And.intro|intro _|rfl|trivial))
end Go.Proofs.Ytccnimhgjjnmoaa
end
section
namespace Go.Proofs.Ytccnimhgjjnmoaa
open Go Go.Sy Go.dg
variable {Γ:bn}
attribute [local irreducible] ck wN e7 cw swp x8 ale sub
def qD (X Y:List Int) (a l t f b:Int):Bool:=decide (cw X a+cw Y b<l-t+f)
structure apu (X Y R:List Int) (a l t f:Int):Prop where
 a:0<=a/\a<(X.length:Int)
 r:∀ b∈R,0<=b/\b<(Y.length:Int)
 wx:∀ i,0<=cw X i/\cw X i<=1152921504606846976
 wy:∀ i,0<=cw Y i/\cw Y i<=1152921504606846976
 up:kM (cw Y) 0 R.length R
 Kg:R.length<=1000000
 l:0<=l/\l<=1152921504606846976
 t:0<=t/\t<=1152921504606846976
 f:0<=f/\f<=1000000
open Classical in
noncomputable def aAu (X Y R:List Int) (a l t f:Int):aa:=⟨apu X Y R a l t f,decide (apu X Y R a l t f),decide_eq_true_iff⟩
noncomputable def aqO:au:=.fn fun args rg=>match args with
 |[.a xl,.a (.fn 77 [r1,r2,r3,r4])]=>(match ac1 3 kI rg xl,rg.getD r1 .dead,rg.getD r2 .dead,rg.getD r3 .dead,rg.getD r4 .dead with
  |some (q0,R),.box _ [x1],.box _ [.v (.int .i64 a)],.box _ [x3],.box _ [.v (.int .i64 l),.v (.int .i64 t),.v (.int .i64 f)]=>
   (match ac1 3 kI rg x1,ac1 3 kI rg x3 with
    |some (q1,X),some (q3,Y)=>some (q0++(q1++(q3++[aAu X Y R a l t f])),.a (vI (R.countP (qD X Y a l t f):Nat)))
    |_,_=>none)
  |_,_,_,_,_=>none)
 |_=>none
theorem al6 {rg:List az} {r:Nat} {o:Bool} {x:List At} (h:rg.getD r .dead= .box o x):rg[r]?=some (.box o x):=by
 rw[List.getD_eq_getElem?_getD]at h;cases h':rg[r]? with
 |none=>rw[h']at h;cases h
 |some g=>rw[h']at h;simpa using h
theorem arm {X Y R:List Int} {a l t f:Int} (h:kM (cw Y) 0 R.length R):∀ i j,i<=j->j<R.length->qD X Y a l t f (R.getD j 0)=true->qD X Y a l t f (R.getD i 0)=true:=fun i j hij hj hq=>by
 have:=h.le (Nat.zero_le i) hij hj;unfold qD at hq ⊢;unfold gA at this;simp only[decide_eq_true_eq]at hq ⊢;omega
noncomputable def axz:List (Nat×Body):=[(77,bo Try.f77)]
theorem awp:bq Try.prog axz:=(bq.nil.cons (cg Try.func77 rfl rfl))
noncomputable def axI:Env:=jV.env [] axz false 0
theorem awE:aL Try.prog Γ axI:=aP aR.nil awp false 0
theorem atS {X Y R:List Int} {a l t f:Int} (hP:apu X Y R a l t f):cQ axI 3 (bo Try.f76) [.a (.sl 0 [] 0 R.length),.a (.fn 77 [1,2,3,4])]
 [.arr 3 kI R false false,.box false [.sl 5 [] 0 X.length],.box false [vI a],.box false [.sl 6 [] 0 Y.length],.box false [vI l,vI t,vI f],.arr 3 kI X false false,.arr 3 kI Y false false] (fun x _=>iL x (.a (vI (R.countP (qD X Y a l t f):Nat)))):=by
 obtain⟨ha,hr,aq6,PU,ND,Sa,hl,ht,hf⟩:=hP;have anZ:=arm (X:=X) (a:=a) (l:=l) (t:=t) (f:=f) ND;have ix:0+Int.toNat a<X.length:=by omega
 have wx:=aq6 a;have ex:ca X a=cw X a:=ak3;rw[<-ex]at wx;repeat'((conv=>whnf);first|apply And.intro|exact bA (by subst_vars;assumption)|intro h9)
 all_goals(try(conv=>whnf))<;>(subst_vars;try first|(apply Tk.mk;kernel_rfl)|exact⟨ah rfl⟩|exact⟨rfl⟩|exact⟨trivial⟩|rfl|contradiction|(apply Ob.mk;(try simp only[ag,ak,aa.ae])<;>(try dsimp only)<;>omega))
 refine⟨Nat×Nat,fun x=>Kz (qD X Y a l t f) R x.1 x.2,fun|(u,v)=>⟨aI 27 [0,1,5,6] [.a (.sl 0 [] 0 R.length),.a (.fn 77 [1,2,3,4]),.a (vI u),.a (vI v)],[],[.arr 3 kI R false false,.box false [.sl 5 [] 0 X.length],.box false [vI a],.box false [.sl 6 [] 0 Y.length],.box false [vI l,vI t,vI f],.arr 3 kI X false false,.arr 3 kI Y false false]⟩,fun x=>x.2-x.1,(0,R.length),[0,1,2,3,4,5,6],Kz.init _ _,?_,?_⟩
 ·repeat'((conv=>whnf);(first|apply And.intro|intro _))
  all_goals first|rfl|trivial|exact ah rfl|exact⟨rfl,rfl,rfl⟩|exact⟨rfl,rfl⟩|(rename_i r9 bx;revert r9;decide)
 rintro⟨u,v⟩ hM;dsimp only at hM;have aq2:=hM.le;have aq3:=hM.top;by_cases akF:u<v
 ·have p0:decide ((u:Int)<(v:Int))=true:=decide_eq_true (by omega)
  have hm:=amb akF;obtain⟨m,hme⟩:∃ m,m=(u+v) / 2:=⟨_,rfl⟩;have Nr:u<=m/\m<v:=by omega
  rw[<-hme]at hm;clear hme;have im:0+Int.toNat (((u:Int)+(v:Int)).tdiv 2)<R.length:=by rw[hm];omega
  have s7:0<=((u:Int)+(v:Int)).tdiv 2/\((u:Int)+(v:Int)).tdiv 2<=1000000:=by rw[hm];omega
  have er:ca R (((u:Int)+(v:Int)).tdiv 2)=R.getD m 0:=by rw[hm];exact kX R m
  have hb:=hr (R.getD m 0) (by rw[List.getD_eq_getElem?_getD,List.getElem?_eq_getElem (by omega)];exact List.getElem_mem (by omega))
  rw[<-er]at hb;have iy:0+Int.toNat (ca R (((u:Int)+(v:Int)).tdiv 2))<Y.length:=by omega
  have wy:=PU (ca R (((u:Int)+(v:Int)).tdiv 2));have ey:ca Y (ca R (((u:Int)+(v:Int)).tdiv 2))=cw Y (ca R (((u:Int)+(v:Int)).tdiv 2)):=ak3;rw[<-ey]at wy;have qe:decide (ca X a+ca Y (ca R (((u:Int)+(v:Int)).tdiv 2))<l-t+f)=qD X Y a l t f (R.getD m 0):=by rw[ex,ey,er];rfl
  have ZI:((u:Int)+(v:Int)).tdiv 2+1=((m+1:Nat):Int):=by rw[hm];omega
  cases azx:decide (ca X a+ca Y (ca R (((u:Int)+(v:Int)).tdiv 2))<l-t+f)
  ·have alv:=hM.ay4 anZ Nr.1 Nr.2 (qe.symm.trans azx);clear qe ex ey er;repeat'((conv=>whnf);first|apply And.intro|exact bA (by subst_vars;assumption)|intro h9)
   all_goals(try(conv=>whnf))<;>(subst_vars;try first|(apply Tk.mk;kernel_rfl)|exact⟨ah rfl⟩|exact⟨rfl⟩|exact⟨trivial⟩|rfl|contradiction|(apply Ob.mk;(try simp only[ag,ak,aa.ae])<;>(try dsimp only)<;>omega))
   all_goals try first|(refine Ob.mk ?_;show(ag .i64 (ca X a+ca Y (ca R (((u:Int)+(v:Int)).tdiv 2)))).p;simp only[ag,ak,aa.ae];omega)|exact⟨ix⟩|exact⟨im⟩|exact⟨iy⟩
   refine⟨(u,m),[0,1,2,3,4,5,6],alv,?_,by show m-u<v-u;omega⟩
   repeat'((conv=>whnf);(first|apply And.intro|intro _))
   all_goals first|rfl|trivial|exact ah rfl|exact⟨rfl,rfl,rfl⟩|exact⟨rfl,rfl⟩|(rename_i r9 bx;revert r9;decide)|exact hm
  have alv:=hM.aAw anZ Nr.1 Nr.2 (qe.symm.trans azx);clear qe ex ey er;repeat'((conv=>whnf);first|apply And.intro|exact bA (by subst_vars;assumption)|intro h9)
  all_goals(try(conv=>whnf))<;>(subst_vars;try first|(apply Tk.mk;kernel_rfl)|exact⟨ah rfl⟩|exact⟨rfl⟩|exact⟨trivial⟩|rfl|contradiction|(apply Ob.mk;(try simp only[ag,ak,aa.ae])<;>(try dsimp only)<;>omega))
  all_goals try first|(refine Ob.mk ?_;show(ag .i64 (ca X a+ca Y (ca R (((u:Int)+(v:Int)).tdiv 2)))).p;simp only[ag,ak,aa.ae];omega)|exact⟨ix⟩|exact⟨im⟩|exact⟨iy⟩
  refine⟨(m+1,v),[0,1,2,3,4,5,6],alv,?_,by show v-(m+1)<v-u;omega⟩
  repeat'((conv=>whnf);(first|apply And.intro|intro _))
  all_goals first|rfl|trivial|exact ah rfl|exact⟨rfl,rfl,rfl⟩|exact⟨rfl,rfl⟩|(rename_i r9 bx;revert r9;decide)|exact ZI
 have p0:decide ((u:Int)<(v:Int))=false:=decide_eq_false (by omega)
 obtain rfl:u=v:=by omega
 rw[hM.axJ];clear ex;repeat'((conv=>whnf);first|apply And.intro|exact bA (by subst_vars;assumption)|intro h9)
 all_goals(try(conv=>whnf))<;>(subst_vars;try first|(apply Tk.mk;kernel_rfl)|exact⟨ah rfl⟩|exact⟨rfl⟩|exact⟨trivial⟩|rfl|contradiction|(apply Ob.mk;(try simp only[ag,ak,aa.ae])<;>(try dsimp only)<;>omega))
theorem arV:au.Ok Try.prog Γ 76 aqO:=au.aBp (d:=3) awE (aj Try.func76 rfl rfl) (by
 intro args rg q t' hF hq;split at hF;next xl r1 r2 r3 r4=>
  split at hF;next q0 R o1 x1 o2 a o3 x3 o4 l t f aaj g1 g2 g3 g4=>
   split at hF;next q1 X q3 Y cO Sq=>
    obtain⟨rfl,rfl⟩:=Prod.mk.inj (Option.some.inj hF);clear hF;rw[aH,aH,aH]at hq;obtain⟨aIh,gk,RG,hP,_⟩:=hq;replace hP:apu X Y R a l t f:=hP;obtain⟨e0,Vn⟩:=bP (by simp[kI]) aaj aIh
    obtain⟨e1,iO⟩:=bP (by simp[kI]) cO gk
    obtain⟨e3,ayb⟩:=bP (by simp[kI]) Sq RG
    obtain⟨p0,s0⟩:=Vn [e0,some (r1,[]),some (r2,[]),some (r3,[]),some (r4,[]),e1,e3] 0 7 rfl (by omega)
    obtain⟨p1,s1⟩:=iO [e0,some (r1,[]),some (r2,[]),some (r3,[]),some (r4,[]),e1,e3] 5 7 rfl (by omega)
    obtain⟨p3,s3⟩:=ayb [e0,some (r1,[]),some (r2,[]),some (r3,[]),some (r4,[]),e1,e3] 6 7 rfl (by omega)
    refine⟨rfl,[e0,some (r1,[]),some (r2,[]),some (r3,[]),some (r4,[]),e1,e3],[.a (.sl 0 [] 0 R.length),.a (.fn 77 [1,2,3,4])],
     [.arr 3 kI R false false,.box false [.sl 5 [] 0 X.length],.box false [vI a],.box false [.sl 6 [] 0 Y.length],.box false [vI l,vI t,vI f],.arr 3 kI X false false,.arr 3 kI Y false false],
     ⟨⟨p0,⟨_,rfl,⟨ah rfl,rfl⟩,⟨ah rfl,rfl⟩,⟨ah rfl,rfl⟩,⟨ah rfl,rfl⟩,trivial⟩,trivial⟩,fun r g lh=>?_⟩,?_⟩
    ·match r,lh with
     |0,lh=>obtain rfl:=Option.some.inj lh;exact s0
     |1,lh=>obtain rfl:=Option.some.inj lh;exact⟨rfl,r1,o1,[x1],rfl,al6 g1,p1,trivial⟩
     |2,lh=>obtain rfl:=Option.some.inj lh;exact⟨rfl,r2,o2,[vI a],rfl,al6 g2,rfl,trivial⟩
     |3,lh=>obtain rfl:=Option.some.inj lh;exact⟨rfl,r3,o3,[x3],rfl,al6 g3,p3,trivial⟩
     |4,lh=>obtain rfl:=Option.some.inj lh;exact⟨rfl,r4,o4,[vI l,vI t,vI f],rfl,al6 g4,rfl,rfl,rfl,trivial⟩
     |5,lh=>obtain rfl:=Option.some.inj lh;exact s1
     |6,lh=>obtain rfl:=Option.some.inj lh;exact s3
    ·exact atS hP
   next=>cases hF
  next=>cases hF
 next=>cases hF)
end Go.Proofs.Ytccnimhgjjnmoaa
end
section
namespace Go.Proofs.Ytccnimhgjjnmoaa
open Go Go.Sy Go.dg
variable {Γ:bn}
attribute [local irreducible] ck wN sub e7 ta kG adp wL alc alb Mn px
def awV (id:Nat):Option (Nat×OT):=match Nat.beq id 14 with|true=>some (6,.take 0 (.take 1 (.take 2 (.take 3 (.take 4 (.take 5 .fin))))))|false=>none
def aok:au:=anQ (fun L l t f=>[apv L,(aa.of (0<=f/\f<=1000000)),(aa.of (1<=l/\l<=1152921504606846976))]) (fun L l t f=> .a (vI (wL f (l+f) L)))
noncomputable def asI:List (Nat×au):=[(75,akQ),(69,aey)]
theorem asJ:aR Try.prog Γ asI:=((aR.nil.cons (aj Try.func69 rfl rfl).fn aez).cons (aj Try.func75 rfl rfl).fn Wk)
noncomputable def aqJ:List (Nat×Body):=[(73,bo Try.f73),(76,bo Try.f76),(91,bo Try.f91),(92,bo Try.f92)]
theorem arM:bq Try.prog aqJ:=((((bq.nil.cons (cg Try.func92 rfl rfl)).cons (cg Try.func91 rfl rfl)).cons (cg Try.func76 rfl rfl)).cons (cg Try.func73 rfl rfl))
noncomputable def awF:Env:={jV.env asI aqJ false 0 with htr:=awV}
theorem ar8:aL Try.prog Γ awF:=(aP asJ arM false 0).NA _
theorem anL:au.Ok Try.prog Γ 58 aok:=alq (d:=4) ar8 (aj Try.func58 rfl rfl) (fun _ _ _ _=>rfl) (by
 intro L l t f ⟨hB,hf,hl,_⟩;simp only[aa.ae]at hf hl;replace hB:gb L:=hB;have hn:=hB.Kg;have hc:=anC L.length;have akB:0+gv L.length<=L.length:=by show 0+gv L.length<=L.length;have:=hc.1;show 0+Int.toNat _<=_;omega
 have akC:(0+gv L.length)+(L.length-gv L.length)<=L.length:=by have:=hc.1;show 0+Int.toNat _+(_-Int.toNat _)<=_;omega
 have apT:pA L++pB L=L:=by show sub L 0 (gv L.length)++sub L (0+gv L.length) (L.length-gv L.length)=L;rw[Nat.zero_add];exact alG L _
 have ama:(WB f L).length=2^(L.length-gv L.length):=by show(e7 f (sub L (0+gv L.length) (L.length-gv L.length))).length=_;rw[x7,wk akC]
 have al9:(WA f L).length=2^gv L.length:=by show(e7 f (sub L 0 (gv L.length))).length=_;rw[x7,wk akB]
 have asd:(WB f L).length<=1024:=by rw[ama];exact Nat.le_trans (Nat.pow_le_pow_right (by omega) (hc.2.2 hn)) (by decide)
 have au1:(WA f L).length<=1024:=by rw[al9];exact Nat.le_trans (Nat.pow_le_pow_right (by omega) hc.2.1) (by decide)
 have am4:(RB f L).length=(WB f L).length:=adO _;have atu:∀ k,k<(RB f L).length->0<=(RB f L).getD k 0/\(RB f L).getD k 0<=1125899926842620:=fun k hk=>by
  rw[List.getD_eq_getElem?_getD,List.getElem?_eq_getElem hk];have hm:=afx.1 (List.getElem_mem hk);refine hB.alW (k:=L.length) akC hf.1 hf.2 ?_;rw[List.take_of_length_le (by rw[wk akC];omega)];exact hm
 have axZ:∀ k,k<(WA f L).length->0<=iA (WA f L) k/\iA (WA f L) k<=1125899926842620:=fun k hk=>by
  rw[ala hk];refine hB.alW (k:=L.length) akB hf.1 hf.2 ?_;rw[List.take_of_length_le (by rw[wk akB];omega)];exact List.getElem_mem hk
 repeat'((conv=>whnf);first|apply And.intro|exact bA (by subst_vars;assumption)|intro h9)
 all_goals(try(conv=>whnf))<;>(subst_vars;try first|(apply Tk.mk;kernel_rfl)|exact⟨ah rfl⟩|exact⟨rfl⟩|exact⟨trivial⟩|rfl|contradiction|(apply Ob.mk;(try simp only[ag,ak,aa.ae])<;>(try dsimp only)<;>omega))
 all_goals try first|exact⟨⟨rfl,show(WB f L).length<=1500000 by omega⟩⟩|exact⟨hB⟩|exact⟨akB⟩|exact⟨akC⟩
 refine⟨Nat×Int,fun x=>x.1<=(WA f L).length/\Mn (l+f) x.2 (alc (WA f L) (RB f L) x.1),fun|(i,b0)=>⟨aI 65 [7,8,9,10,35,36,37] [.a (.sl 2 [] 0 (RB f L).length),.a (.p 3 [] 0 0),.a (.p 4 [] 0 0),.a (.fn 91 [3,4]),.a (.sl 5 [] 0 (WA f L).length),.a (vI (WA f L).length),.a (vI i)],[],[.arr 67 kK L false false,.box true [vI l,vI t,vI f],.arr 3 kI (RB f L) true true,.box true [vI (l+f)],.box true [vI b0],.arr 3 kI (WA f L) true true]⟩,fun x=>(WA f L).length-x.1,(0,-1),[0,1,2,3,4,5],⟨Nat.zero_le _,by dsimp only;rw[asq];exact Mn.nil _⟩,?_,?_⟩
 ·repeat'((conv=>whnf);(first|apply And.intro|intro _))
  all_goals first|rfl|trivial|exact ah rfl|exact aS ‹_› rfl|exact aT ‹_› rfl|((repeat' first|rfl|constructor);done)|(rename_i bx;rcases List.mem_cons.1 bx with h7|h7;(subst h7;exact ah rfl);(obtain rfl:=List.mem_singleton.1 h7;exact ah rfl))|exact am4.symm
 rintro⟨i,b0⟩ ⟨hi,aoS⟩;dsimp only at hi aoS;by_cases hi1:i<(WA f L).length
 ·have p0:decide ((i:Int)<((WA f L).length:Int))=true:=decide_eq_true (by omega)
  have aAq:=axZ i hi1;have ase:0+Int.toNat (i:Int)<(WA f L).length:=by omega
  repeat'((conv=>whnf);first|apply And.intro|exact bA (by subst_vars;assumption)|intro h9)
  all_goals(try(conv=>whnf))<;>(subst_vars;try first|(apply Tk.mk;kernel_rfl)|exact⟨ah rfl⟩|exact⟨rfl⟩|exact⟨trivial⟩|rfl|contradiction|(apply Ob.mk;(try simp only[ag,ak,aa.ae])<;>(try dsimp only)<;>omega))
  all_goals try first|exact⟨ase⟩
  refine⟨Nat×Nat,fun x=>Kz (fun y=>decide (iA (WA f L) i+y<l+f)) (RB f L) x.1 x.2,fun|(a,b)=>⟨aI 27 [0,1,5,6] [.a (.sl 2 [] 0 (RB f L).length),.a (.fn 92 [6,3]),.a (vI a),.a (vI b)],[aI 65 [7,8,9,10,12,35,36,37] [.a (.sl 2 [] 0 (RB f L).length),.a (.p 3 [] 0 0),.a (.p 4 [] 0 0),.a (.fn 91 [3,4]),.a (.p 6 [] 0 0),.a (.sl 5 [] 0 (WA f L).length),.a (vI (WA f L).length),.a (vI i)]],[.arr 67 kK L false false,.box true [vI l,vI t,vI f],.arr 3 kI (RB f L) true true,.box true [vI (l+f)],.box true [vI b0],.arr 3 kI (WA f L) true true,.box true [vI (iA (WA f L) i)]]⟩,fun x=>x.2-x.1,(0,(RB f L).length),[0,1,2,3,4,5,6],Kz.init _ _,?_,?_⟩
  ·repeat'((conv=>whnf);(first|apply And.intro|intro _))
   all_goals first|rfl|trivial|exact ah rfl|exact aS ‹_› rfl|exact aT ‹_› rfl|((repeat' first|rfl|constructor);done)|(rename_i bx;rcases List.mem_cons.1 bx with h7|h7;(subst h7;exact ah rfl);(obtain rfl:=List.mem_singleton.1 h7;exact ah rfl))
  rintro⟨a,b⟩ hM;have aq2:=hM.le;have aq3:=hM.top;dsimp only at aq2 aq3;by_cases apW:a<b
  ·have atT:decide ((a:Int)<(b:Int))=true:=decide_eq_true (by omega)
   have hm:=amb apW;have Nq:(a+b) / 2<b:=by omega
   have Nr:a<=(a+b) / 2:=by omega
   have hidx:0+Int.toNat (((a:Int)+(b:Int)).tdiv 2)=(a+b) / 2:=by rw[hm];omega
   have eN:iA (RB f L) (((a:Int)+(b:Int)).tdiv 2)=(RB f L).getD ((a+b) / 2) 0:=by unfold iA;rw[hidx];rfl
   have ap0:=atu _ (show(a+b) / 2<(RB f L).length by omega)
   rw[<-eN]at ap0;have lR:0+Int.toNat (((a:Int)+(b:Int)).tdiv 2)<(RB f L).length:=by omega
   have htr:0<=((a:Int)+(b:Int)).tdiv 2/\((a:Int)+(b:Int)).tdiv 2<((RB f L).length:Int):=by rw[hm];omega
   have aoV:ak .i64 (iA (WA f L) i+iA (RB f L) (((a:Int)+(b:Int)).tdiv 2)):=by simp only[ak];omega
   cases hq:decide (iA (WA f L) i+iA (RB f L) (((a:Int)+(b:Int)).tdiv 2)<l+f)
   ·have alv:=hM.down (apm _ _) Nr Nq (by rw[<-eN];exact hq)
    repeat'((conv=>whnf);first|apply And.intro|exact bA (by subst_vars;assumption)|intro h9)
    all_goals(try(conv=>whnf))<;>(subst_vars;try first|(apply Tk.mk;kernel_rfl)|exact⟨ah rfl⟩|exact⟨rfl⟩|exact⟨trivial⟩|rfl|contradiction|(apply Ob.mk;(try simp only[ag,ak,aa.ae])<;>(try dsimp only)<;>omega))
    all_goals try first|exact⟨aoV⟩|exact⟨lR⟩
    refine⟨(a,(a+b) / 2),[0,1,2,3,4,5,6],alv,?_,by show(a+b) / 2-a<b-a;omega⟩
    repeat'((conv=>whnf);(first|apply And.intro|intro _))
    all_goals first|rfl|trivial|exact ah rfl|exact aS ‹_› rfl|exact aT ‹_› rfl|((repeat' first|rfl|constructor);done)|(rename_i bx;rcases List.mem_cons.1 bx with h7|h7;(subst h7;exact ah rfl);(obtain rfl:=List.mem_singleton.1 h7;exact ah rfl))|exact hm
   have alv:=hM.up (apm _ _) Nr Nq (by rw[<-eN];exact hq)
   have ZI:((a:Int)+(b:Int)).tdiv 2+1=(((a+b) / 2+1:Nat):Int):=by rw[hm];omega
   repeat'((conv=>whnf);first|apply And.intro|exact bA (by subst_vars;assumption)|intro h9)
   all_goals(try(conv=>whnf))<;>(subst_vars;try first|(apply Tk.mk;kernel_rfl)|exact⟨ah rfl⟩|exact⟨rfl⟩|exact⟨trivial⟩|rfl|contradiction|(apply Ob.mk;(try simp only[ag,ak,aa.ae])<;>(try dsimp only)<;>omega))
   all_goals try first|exact⟨aoV⟩|exact⟨lR⟩
   refine⟨((a+b) / 2+1,b),[0,1,2,3,4,5,6],alv,?_,by show b-((a+b) / 2+1)<b-a;omega⟩
   repeat'((conv=>whnf);(first|apply And.intro|intro _))
   all_goals first|rfl|trivial|exact ah rfl|exact aS ‹_› rfl|exact aT ‹_› rfl|((repeat' first|rfl|constructor);done)|(rename_i bx;rcases List.mem_cons.1 bx with h7|h7;(subst h7;exact ah rfl);(obtain rfl:=List.mem_singleton.1 h7;exact ah rfl))|exact ZI
  have atT:decide ((a:Int)<(b:Int))=false:=decide_eq_false (by omega)
  have hba:b=a:=by omega
  have amA:=hM;dsimp only at amA;rw[hba]at amA;have azO:=And.intro amA trivial;have aoT:a<=(RB f L).length:=by omega
  clear hba;obtain⟨jt,aAJ⟩:∃ jt,jt<=min (a+2) (RB f L).length/\min (a+2) (RB f L).length<=jt:=⟨_,Nat.le_refl _,Nat.le_refl _⟩;have ayf:(if((RB f L).length:Int)<(a:Int)+2 then((RB f L).length:Int)else(a:Int)+2)=(jt:Int):=by split<;>omega
  have azV:(if(a:Int)-1>0 then(a:Int)-1 else 0)=((a-1:Nat):Int):=by split<;>omega
  have azX:a-1<=jt:=by omega
  have azP:Mn (l+f) b0 (alc (WA f L) (RB f L) i++alb (iA (WA f L) i) (RB f L) (a-1) 0):=by unfold alb;rw[List.range_zero,List.map_nil,List.append_nil];exact aoS
  repeat'((conv=>whnf);first|apply And.intro|exact bA (by subst_vars;assumption)|intro h9)
  all_goals(try(conv=>whnf))<;>(subst_vars;try first|(apply Tk.mk;kernel_rfl)|exact⟨ah rfl⟩|exact⟨rfl⟩|exact⟨trivial⟩|rfl|contradiction|(apply Ob.mk;(try simp only[ag,ak,aa.ae])<;>(try dsimp only)<;>omega))
  refine⟨Nat×Int,fun x=>(a-1<=x.1/\x.1<=jt)/\Mn (l+f) x.2 (alc (WA f L) (RB f L) i++alb (iA (WA f L) i) (RB f L) (a-1) (x.1-(a-1))),fun|(j,b0)=>⟨aI 65 [7,8,9,10,12,13,14,35,36,37] [.a (.sl 2 [] 0 (RB f L).length),.a (.p 3 [] 0 0),.a (.p 4 [] 0 0),.a (.fn 91 [3,4]),.a (.p 6 [] 0 0),.a (vI a),.a (vI j),.a (.sl 5 [] 0 (WA f L).length),.a (vI (WA f L).length),.a (vI i)],[],[.arr 67 kK L false false,.box true [vI l,vI t,vI f],.arr 3 kI (RB f L) true true,.box true [vI (l+f)],.box true [vI b0],.arr 3 kI (WA f L) true true,.box true [vI (iA (WA f L) i)]]⟩,fun x=>jt-x.1,(a-1,b0),[0,1,2,3,4,5,6],⟨⟨Nat.le_refl _,azX⟩,by dsimp only;rw[Nat.sub_self];exact azP⟩,?_,?_⟩
  ·repeat'((conv=>whnf);(first|apply And.intro|intro _))
   all_goals first|rfl|trivial|exact ah rfl|exact aS ‹_› rfl|exact aT ‹_› rfl|((repeat' first|rfl|constructor);done)|(rename_i bx;rcases List.mem_cons.1 bx with h7|h7;(subst h7;exact ah rfl);(obtain rfl:=List.mem_singleton.1 h7;exact ah rfl))|exact azV
  rintro⟨j,b⟩ ⟨⟨aye,hjb⟩,aoS⟩;dsimp only at aye hjb aoS;by_cases Ho:j<jt
  ·have pj:decide ((j:Int)<(if((RB f L).length:Int)<(a:Int)+2 then((RB f L).length:Int)else(a:Int)+2))=true:=decide_eq_true (by rw[ayf];omega)
   have akD:j<(RB f L).length:=by omega
   have ap0:=atu j akD;have eN:(RB f L).getD j 0=iA (RB f L) j:=by unfold iA;rw[Nat.zero_add,Int.toNat_natCast];rfl
   rw[eN]at ap0;have al8:=aoS.try (iA (WA f L) i+iA (RB f L) j);have av0:=aso (iA (WA f L) i) (RB f L) (a-1) (j-(a-1));rw[show a-1+(j-(a-1))=j by omega,eN,show j-(a-1)+1=j+1-(a-1) by omega]at av0
   rw[List.append_assoc,<-av0]at al8;have r1:ak .i64 (iA (WA f L) i+iA (RB f L) j):=by simp only[ak];omega
   have r2:ak .i64 (iA (WA f L) i+iA (RB f L) j-(l+f)):=by simp only[ak];omega
   have hidx:0+Int.toNat (j:Int)<(RB f L).length:=by omega
   by_cases hd:(iA (WA f L) i+iA (RB f L) j)-(l+f)<0
   ·have pd:decide ((iA (WA f L) i+iA (RB f L) j)-(l+f)<0)=true:=decide_eq_true hd;have ae0:dst ((iA (WA f L) i+iA (RB f L) j)-(l+f))=0-((iA (WA f L) i+iA (RB f L) j)-(l+f)):=by unfold dst;rw[if_pos hd]
    have rd:ak .i64 (0-((iA (WA f L) i+iA (RB f L) j)-(l+f))):=by simp only[ak];omega
    by_cases hz:(iA (WA f L) i+iA (RB f L) j)>0
    ·have pz:decide ((iA (WA f L) i+iA (RB f L) j)>0)=true:=decide_eq_true hz;by_cases hb:b<0
     ·have pb:decide (b<0)=true:=decide_eq_true hb;have Y8:px (l+f) b (iA (WA f L) i+iA (RB f L) j)=0-((iA (WA f L) i+iA (RB f L) j)-(l+f)):=by unfold px;rw[if_pos ⟨hz,.inl hb⟩,ae0]
      repeat'((conv=>whnf);first|apply And.intro|exact bA (by subst_vars;assumption)|intro h9)
      all_goals(try(conv=>whnf))<;>(subst_vars;try first|(apply Tk.mk;kernel_rfl)|exact⟨ah rfl⟩|exact⟨rfl⟩|exact⟨trivial⟩|rfl|contradiction|(apply Ob.mk;(try simp only[ag,ak,aa.ae])<;>(try dsimp only)<;>omega))
      all_goals try first|exact⟨hidx⟩|exact⟨r1⟩|exact⟨r2⟩|exact⟨rd⟩
      refine⟨(j+1,px (l+f) b (iA (WA f L) i+iA (RB f L) j)),[0,1,2,3,4,5,6],⟨⟨by dsimp only;omega,Ho⟩,al8⟩,?_,by show jt-(j+1)<jt-j;omega⟩
      repeat'((conv=>whnf);(first|apply And.intro|intro _))
      all_goals first|rfl|trivial|exact ah rfl|exact aS ‹_› rfl|exact aT ‹_› rfl|((repeat' first|rfl|constructor);done)|(rename_i bx;rcases List.mem_cons.1 bx with h7|h7;(subst h7;exact ah rfl);(obtain rfl:=List.mem_singleton.1 h7;exact ah rfl))|exact Y8.symm|exact Y8
     have pb:decide (b<0)=false:=decide_eq_false hb;by_cases hc:0-((iA (WA f L) i+iA (RB f L) j)-(l+f))<b
     ·have pc:decide (0-((iA (WA f L) i+iA (RB f L) j)-(l+f))<b)=true:=decide_eq_true hc;have Y8:px (l+f) b (iA (WA f L) i+iA (RB f L) j)=0-((iA (WA f L) i+iA (RB f L) j)-(l+f)):=by unfold px;rw[if_pos ⟨hz,.inr (by rw[ae0];exact hc)⟩,ae0]
      repeat'((conv=>whnf);first|apply And.intro|exact bA (by subst_vars;assumption)|intro h9)
      all_goals(try(conv=>whnf))<;>(subst_vars;try first|(apply Tk.mk;kernel_rfl)|exact⟨ah rfl⟩|exact⟨rfl⟩|exact⟨trivial⟩|rfl|contradiction|(apply Ob.mk;(try simp only[ag,ak,aa.ae])<;>(try dsimp only)<;>omega))
      all_goals try first|exact⟨hidx⟩|exact⟨r1⟩|exact⟨r2⟩|exact⟨rd⟩
      refine⟨(j+1,px (l+f) b (iA (WA f L) i+iA (RB f L) j)),[0,1,2,3,4,5,6],⟨⟨by dsimp only;omega,Ho⟩,al8⟩,?_,by show jt-(j+1)<jt-j;omega⟩
      repeat'((conv=>whnf);(first|apply And.intro|intro _))
      all_goals first|rfl|trivial|exact ah rfl|exact aS ‹_› rfl|exact aT ‹_› rfl|((repeat' first|rfl|constructor);done)|(rename_i bx;rcases List.mem_cons.1 bx with h7|h7;(subst h7;exact ah rfl);(obtain rfl:=List.mem_singleton.1 h7;exact ah rfl))|exact Y8.symm|exact Y8
     have pc:decide (0-((iA (WA f L) i+iA (RB f L) j)-(l+f))<b)=false:=decide_eq_false hc;have Y8:px (l+f) b (iA (WA f L) i+iA (RB f L) j)=b:=by unfold px;rw[if_neg (fun h=>by rcases h.2 with h|h;exact hb h;rw[ae0]at h;exact hc h)]
     repeat'((conv=>whnf);first|apply And.intro|exact bA (by subst_vars;assumption)|intro h9)
     all_goals(try(conv=>whnf))<;>(subst_vars;try first|(apply Tk.mk;kernel_rfl)|exact⟨ah rfl⟩|exact⟨rfl⟩|exact⟨trivial⟩|rfl|contradiction|(apply Ob.mk;(try simp only[ag,ak,aa.ae])<;>(try dsimp only)<;>omega))
     all_goals try first|exact⟨hidx⟩|exact⟨r1⟩|exact⟨r2⟩|exact⟨rd⟩
     refine⟨(j+1,px (l+f) b (iA (WA f L) i+iA (RB f L) j)),[0,1,2,3,4,5,6],⟨⟨by dsimp only;omega,Ho⟩,al8⟩,?_,by show jt-(j+1)<jt-j;omega⟩
     repeat'((conv=>whnf);(first|apply And.intro|intro _))
     all_goals first|rfl|trivial|exact ah rfl|exact aS ‹_› rfl|exact aT ‹_› rfl|((repeat' first|rfl|constructor);done)|(rename_i bx;rcases List.mem_cons.1 bx with h7|h7;(subst h7;exact ah rfl);(obtain rfl:=List.mem_singleton.1 h7;exact ah rfl))|exact Y8.symm|exact Y8
    have pz:decide ((iA (WA f L) i+iA (RB f L) j)>0)=false:=decide_eq_false hz;have Y8:px (l+f) b (iA (WA f L) i+iA (RB f L) j)=b:=by unfold px;rw[if_neg (fun h=>hz h.1)]
    repeat'((conv=>whnf);first|apply And.intro|exact bA (by subst_vars;assumption)|intro h9)
    all_goals(try(conv=>whnf))<;>(subst_vars;try first|(apply Tk.mk;kernel_rfl)|exact⟨ah rfl⟩|exact⟨rfl⟩|exact⟨trivial⟩|rfl|contradiction|(apply Ob.mk;(try simp only[ag,ak,aa.ae])<;>(try dsimp only)<;>omega))
    all_goals try first|exact⟨hidx⟩|exact⟨r1⟩|exact⟨r2⟩|exact⟨rd⟩
    refine⟨(j+1,px (l+f) b (iA (WA f L) i+iA (RB f L) j)),[0,1,2,3,4,5,6],⟨⟨by dsimp only;omega,Ho⟩,al8⟩,?_,by show jt-(j+1)<jt-j;omega⟩
    repeat'((conv=>whnf);(first|apply And.intro|intro _))
    all_goals first|rfl|trivial|exact ah rfl|exact aS ‹_› rfl|exact aT ‹_› rfl|((repeat' first|rfl|constructor);done)|(rename_i bx;rcases List.mem_cons.1 bx with h7|h7;(subst h7;exact ah rfl);(obtain rfl:=List.mem_singleton.1 h7;exact ah rfl))|exact Y8.symm|exact Y8
   have pd:decide ((iA (WA f L) i+iA (RB f L) j)-(l+f)<0)=false:=decide_eq_false hd;have ae0:dst ((iA (WA f L) i+iA (RB f L) j)-(l+f))=(iA (WA f L) i+iA (RB f L) j)-(l+f):=by unfold dst;rw[if_neg hd]
   have rd:ak .i64 ((iA (WA f L) i+iA (RB f L) j)-(l+f)):=by simp only[ak];omega
   by_cases hz:(iA (WA f L) i+iA (RB f L) j)>0
   ·have pz:decide ((iA (WA f L) i+iA (RB f L) j)>0)=true:=decide_eq_true hz;by_cases hb:b<0
    ·have pb:decide (b<0)=true:=decide_eq_true hb;have Y8:px (l+f) b (iA (WA f L) i+iA (RB f L) j)=(iA (WA f L) i+iA (RB f L) j)-(l+f):=by unfold px;rw[if_pos ⟨hz,.inl hb⟩,ae0]
     repeat'((conv=>whnf);first|apply And.intro|exact bA (by subst_vars;assumption)|intro h9)
     all_goals(try(conv=>whnf))<;>(subst_vars;try first|(apply Tk.mk;kernel_rfl)|exact⟨ah rfl⟩|exact⟨rfl⟩|exact⟨trivial⟩|rfl|contradiction|(apply Ob.mk;(try simp only[ag,ak,aa.ae])<;>(try dsimp only)<;>omega))
     all_goals try first|exact⟨hidx⟩|exact⟨r1⟩|exact⟨r2⟩
     refine⟨(j+1,px (l+f) b (iA (WA f L) i+iA (RB f L) j)),[0,1,2,3,4,5,6],⟨⟨by dsimp only;omega,Ho⟩,al8⟩,?_,by show jt-(j+1)<jt-j;omega⟩
     repeat'((conv=>whnf);(first|apply And.intro|intro _))
     all_goals first|rfl|trivial|exact ah rfl|exact aS ‹_› rfl|exact aT ‹_› rfl|((repeat' first|rfl|constructor);done)|(rename_i bx;rcases List.mem_cons.1 bx with h7|h7;(subst h7;exact ah rfl);(obtain rfl:=List.mem_singleton.1 h7;exact ah rfl))|exact Y8.symm|exact Y8
    have pb:decide (b<0)=false:=decide_eq_false hb;by_cases hc:(iA (WA f L) i+iA (RB f L) j)-(l+f)<b
    ·have pc:decide ((iA (WA f L) i+iA (RB f L) j)-(l+f)<b)=true:=decide_eq_true hc;have Y8:px (l+f) b (iA (WA f L) i+iA (RB f L) j)=(iA (WA f L) i+iA (RB f L) j)-(l+f):=by unfold px;rw[if_pos ⟨hz,.inr (by rw[ae0];exact hc)⟩,ae0]
     repeat'((conv=>whnf);first|apply And.intro|exact bA (by subst_vars;assumption)|intro h9)
     all_goals(try(conv=>whnf))<;>(subst_vars;try first|(apply Tk.mk;kernel_rfl)|exact⟨ah rfl⟩|exact⟨rfl⟩|exact⟨trivial⟩|rfl|contradiction|(apply Ob.mk;(try simp only[ag,ak,aa.ae])<;>(try dsimp only)<;>omega))
     all_goals try first|exact⟨hidx⟩|exact⟨r1⟩|exact⟨r2⟩
     refine⟨(j+1,px (l+f) b (iA (WA f L) i+iA (RB f L) j)),[0,1,2,3,4,5,6],⟨⟨by dsimp only;omega,Ho⟩,al8⟩,?_,by show jt-(j+1)<jt-j;omega⟩
     repeat'((conv=>whnf);(first|apply And.intro|intro _))
     all_goals first|rfl|trivial|exact ah rfl|exact aS ‹_› rfl|exact aT ‹_› rfl|((repeat' first|rfl|constructor);done)|(rename_i bx;rcases List.mem_cons.1 bx with h7|h7;(subst h7;exact ah rfl);(obtain rfl:=List.mem_singleton.1 h7;exact ah rfl))|exact Y8.symm|exact Y8
    have pc:decide ((iA (WA f L) i+iA (RB f L) j)-(l+f)<b)=false:=decide_eq_false hc;have Y8:px (l+f) b (iA (WA f L) i+iA (RB f L) j)=b:=by unfold px;rw[if_neg (fun h=>by rcases h.2 with h|h;exact hb h;rw[ae0]at h;exact hc h)]
    repeat'((conv=>whnf);first|apply And.intro|exact bA (by subst_vars;assumption)|intro h9)
    all_goals(try(conv=>whnf))<;>(subst_vars;try first|(apply Tk.mk;kernel_rfl)|exact⟨ah rfl⟩|exact⟨rfl⟩|exact⟨trivial⟩|rfl|contradiction|(apply Ob.mk;(try simp only[ag,ak,aa.ae])<;>(try dsimp only)<;>omega))
    all_goals try first|exact⟨hidx⟩|exact⟨r1⟩|exact⟨r2⟩
    refine⟨(j+1,px (l+f) b (iA (WA f L) i+iA (RB f L) j)),[0,1,2,3,4,5,6],⟨⟨by dsimp only;omega,Ho⟩,al8⟩,?_,by show jt-(j+1)<jt-j;omega⟩
    repeat'((conv=>whnf);(first|apply And.intro|intro _))
    all_goals first|rfl|trivial|exact ah rfl|exact aS ‹_› rfl|exact aT ‹_› rfl|((repeat' first|rfl|constructor);done)|(rename_i bx;rcases List.mem_cons.1 bx with h7|h7;(subst h7;exact ah rfl);(obtain rfl:=List.mem_singleton.1 h7;exact ah rfl))|exact Y8.symm|exact Y8
   have pz:decide ((iA (WA f L) i+iA (RB f L) j)>0)=false:=decide_eq_false hz;have Y8:px (l+f) b (iA (WA f L) i+iA (RB f L) j)=b:=by unfold px;rw[if_neg (fun h=>hz h.1)]
   repeat'((conv=>whnf);first|apply And.intro|exact bA (by subst_vars;assumption)|intro h9)
   all_goals(try(conv=>whnf))<;>(subst_vars;try first|(apply Tk.mk;kernel_rfl)|exact⟨ah rfl⟩|exact⟨rfl⟩|exact⟨trivial⟩|rfl|contradiction|(apply Ob.mk;(try simp only[ag,ak,aa.ae])<;>(try dsimp only)<;>omega))
   refine⟨(j+1,px (l+f) b (iA (WA f L) i+iA (RB f L) j)),[0,1,2,3,4,5,6],⟨⟨by dsimp only;omega,Ho⟩,al8⟩,?_,by show jt-(j+1)<jt-j;omega⟩
   repeat'((conv=>whnf);(first|apply And.intro|intro _))
   all_goals first|rfl|trivial|exact ah rfl|exact aS ‹_› rfl|exact aT ‹_› rfl|((repeat' first|rfl|constructor);done)|(rename_i bx;rcases List.mem_cons.1 bx with h7|h7;(subst h7;exact ah rfl);(obtain rfl:=List.mem_singleton.1 h7;exact ah rfl))|exact Y8.symm|exact Y8
  have pj:decide ((j:Int)<(if((RB f L).length:Int)<(a:Int)+2 then((RB f L).length:Int)else(a:Int)+2))=false:=decide_eq_false (by rw[ayf];omega)
  have azq:=Mn.round (show 0<l+f by omega) (by rw[show j-(a-1)=min (a+2) (RB f L).length-(a-1) by omega]at aoS;exact aoS) azO.1
  rw[ala hi1,<-asp hi1]at azq;repeat'((conv=>whnf);first|apply And.intro|exact bA (by subst_vars;assumption)|intro h9)
  all_goals(try(conv=>whnf))<;>(subst_vars;try first|(apply Tk.mk;kernel_rfl)|exact⟨ah rfl⟩|exact⟨rfl⟩|exact⟨trivial⟩|rfl|contradiction|(apply Ob.mk;(try simp only[ag,ak,aa.ae])<;>(try dsimp only)<;>omega))
  refine⟨(i+1,b),[0,1,2,3,4,5],⟨hi1,azq⟩,?_,by show(WA f L).length-(i+1)<(WA f L).length-i;omega⟩
  repeat'((conv=>whnf);(first|apply And.intro|intro _))
  all_goals first|rfl|trivial|exact ah rfl|exact aS ‹_› rfl|exact aT ‹_› rfl|((repeat' first|rfl|constructor);done)|(rename_i bx;rcases List.mem_cons.1 bx with h7|h7;(subst h7;exact ah rfl);(obtain rfl:=List.mem_singleton.1 h7;exact ah rfl))
 have p0:decide ((i:Int)<((WA f L).length:Int))=false:=decide_eq_false (by omega)
 have ajV:b0=wL f (l+f) L:=by
  refine Mn.aql aoS (at7 f (l+f) L) fun z=>?_
  rw[show i=(WA f L).length by omega]
  exact avw.trans (by rw[apT])
 replace ajV:=And.intro ajV trivial;repeat'((conv=>whnf);first|apply And.intro|exact bA (by subst_vars;assumption)|intro h9)
 all_goals(try(conv=>whnf))<;>(subst_vars;try first|(apply Tk.mk;kernel_rfl)|exact⟨ah rfl⟩|exact⟨rfl⟩|exact⟨trivial⟩|rfl|contradiction|(apply Ob.mk;(try simp only[ag,ak,aa.ae])<;>(try dsimp only)<;>omega))
 all_goals first|exact ajV.1)
end Go.Proofs.Ytccnimhgjjnmoaa
end
section
namespace Go.Proofs.Ytccnimhgjjnmoaa
open Go Go.Sy Go.dg
variable {Γ:bn}
attribute [local irreducible] ck wN sub e7 ta kG adp wL x6 pw
theorem Sd {L:List Bk} (h:((L.length:Int)==0)=true):L=[]:=List.eq_nil_of_length_eq_zero (by have:=eq_of_beq h;omega)
theorem asj {L:List Bk} (h:((L.length:Int)==0)=false):L≠[]:=fun e=>by subst e;simp at h
def Cn (L:List Bk) (l t f:Int):Int×Int:=if bf L l t f=0 then(if L=[]then(0,5)else(wL f (l+f) L,0))else(0,bf L l t f)
def aoi:au:=anQ (fun L _ _ _=>[(aa.of (L.length<=1000000))]) (fun L l t f=> .bF [.a (vI (Cn L l t f).1),.a (vI (Cn L l t f).2)])
noncomputable def axq:List (Nat×au):=[(54,aBa),(58,aok)]
theorem asy:aR Try.prog Γ axq:=((aR.nil.cons (aj Try.func58 rfl rfl).fn anL).cons (aj Try.func54 rfl rfl).fn fQ)
theorem anG:au.Ok Try.prog Γ 25 aoi:=alq (d:=0) (aP asy bq.nil false 0) (aj Try.func25 rfl rfl) (fun _ _ _ _=>rfl) (by
 intro L l t f ⟨hL,_⟩;simp only[aa.ae]at hL;have hone:=akP L l t f;cases h0:bf L l t f==0
 ·have e0:(lu L [(l,t,f)]!=0)=true:=by rw[hone];unfold bne;rw[h0];rfl
  rw[show Cn L l t f=(0,bf L l t f) by unfold Cn;rw[if_neg (by simpa using h0)]]
  repeat'((conv=>whnf);first|apply And.intro|exact bA (by subst_vars;assumption)|intro h9)
  all_goals(try(conv=>whnf))<;>(subst_vars;try first|(apply Tk.mk;kernel_rfl)|exact⟨ah rfl⟩|exact⟨rfl⟩|exact⟨trivial⟩|rfl|contradiction|(apply Ob.mk;(try simp only[ag,ak,aa.ae])<;>(try dsimp only)<;>omega))
  all_goals first|trivial|exact⟨hL⟩
 have e0:(lu L [(l,t,f)]!=0)=false:=by rw[hone];unfold bne;rw[h0];rfl
 have h1:=eq_of_beq h0;obtain⟨hB,hw⟩:=gg h1;obtain⟨hl,ht,hf⟩:=wE hw;have jJ:1<=l/\l<=1152921504606846976:=by omega
 cases h2:((L.length:Int)==0)
 ·rw[show Cn L l t f=(wL f (l+f) L,0) by unfold Cn;rw[if_pos h1,if_neg (asj h2)]]
  repeat'((conv=>whnf);first|apply And.intro|exact bA (by subst_vars;assumption)|intro h9)
  all_goals(try(conv=>whnf))<;>(subst_vars;try first|(apply Tk.mk;kernel_rfl)|exact⟨ah rfl⟩|exact⟨rfl⟩|exact⟨trivial⟩|rfl|contradiction|(apply Ob.mk;(try simp only[ag,ak,aa.ae])<;>(try dsimp only)<;>omega))
  all_goals first|trivial|exact⟨hL⟩|exact⟨hB⟩
 rw[show Cn L l t f=(0,5) by unfold Cn;rw[if_pos h1,if_pos (Sd h2)]]
 repeat'((conv=>whnf);first|apply And.intro|exact bA (by subst_vars;assumption)|intro h9)
 all_goals(try(conv=>whnf))<;>(subst_vars;try first|(apply Tk.mk;kernel_rfl)|exact⟨ah rfl⟩|exact⟨rfl⟩|exact⟨trivial⟩|rfl|contradiction|(apply Ob.mk;(try simp only[ag,ak,aa.ae])<;>(try dsimp only)<;>omega))
 all_goals first|trivial|exact⟨hL⟩)
def al3 (e:Int):cM:=⟨[],.bF [.a (.v (.slice none 0 0)),.a (vI 0),.a (vI e)]⟩
def asl (L:List Bk) (l t f:Int):cM:=match bf L l t f==0,((L.length:Int)==0)with
 |false,_=>al3 (bf L l t f)
 |true,true=>al3 5
 |true,false=>match x6 f (l-wL f (l+f) L) (l+wL f (l+f) L) L with
  |none=>al3 0
  |some (C,n)=>⟨[.arr 3 kI (pw L C) true true],.bF [.a (.sl 0 [] 0 (pw L C).length),.a (vI (n-l)),.a (vI 0)]⟩
def asU:au:=al5 (fun L _ _ _=>[(aa.of (L.length<=1000000))]) asl
def ayF (id:Nat):Option (List Nat):=match Nat.beq id 8 with|true=>some [0,1,2,4,5,6,7,8,3,9,10,11]|false=>none
noncomputable def apq:List (Nat×au):=[(54,aBa),(58,aok),(55,aot),(56,apd)]
theorem aqr:aR Try.prog Γ apq:=((((aR.nil.cons (aj Try.func56 rfl rfl).fn anb).cons (aj Try.func55 rfl rfl).fn an3).cons (aj Try.func58 rfl rfl).fn anL).cons (aj Try.func54 rfl rfl).fn fQ)
noncomputable def axH:Env:={jV.env apq [] false 0 with ord:=ayF}
theorem ata:aL Try.prog Γ axH:=(aP aqr bq.nil false 0).Ju _
theorem apz:au.Ok Try.prog Γ 24 asU:=amN (d:=0) ata (aj Try.func24 rfl rfl) (by
 intro L l t f K ⟨hL,_⟩ hK;simp only[aa.ae]at hL;have hone:=akP L l t f;unfold asl at hK;cases h0:bf L l t f==0
 ·rw[h0]at hK;dsimp only[al3]at hK;have e0:(lu L [(l,t,f)]!=0)=true:=by rw[hone];unfold bne;rw[h0];rfl
  rw[<-hone]at hK;repeat'((conv=>whnf);first|apply And.intro|exact bA (by subst_vars;assumption)|intro h9)
  all_goals(try(conv=>whnf))<;>(subst_vars;try first|(apply Tk.mk;kernel_rfl)|exact⟨ah rfl⟩|exact⟨rfl⟩|exact⟨trivial⟩|rfl|contradiction|(apply Ob.mk;(try simp only[ag,ak,aa.ae])<;>(try dsimp only)<;>omega))
  all_goals first
   |(refine bu.base ⟨_,[],hK,trivial,rfl,?_⟩;(repeat'((conv=>whnf);(first|apply And.intro|intro _)));all_goals first|rfl|trivial)
   |exact⟨hL⟩
 rw[h0]at hK;have e0:(lu L [(l,t,f)]!=0)=false:=by rw[hone];unfold bne;rw[h0];rfl
 obtain⟨hB,hw⟩:=gg (eq_of_beq h0);obtain⟨hl,ht,hf⟩:=wE hw;have agM:1<=l/\l<=1152921504606846976:=by omega
 have jJ:0<=l/\l<=1152921504606846976:=by omega
 cases h2:((L.length:Int)==0)
 ·rw[h2]at hK;dsimp only at hK;obtain⟨s,xX,pT,hF,-,Vh⟩:=aqb (l:=l) hf.1 hB.lens (asj h2);obtain⟨C,hC⟩:∃ C,C=idx L.length 0 s:=⟨_,rfl⟩;obtain⟨n,hn⟩:∃ n,n=wN f L s-f:=⟨_,rfl⟩;have hwn:=hB.sub_le (a:=0) (b:=L.length) (by omega) hf.1 hf.2 L.length s
  rw[alV,List.take_length]at hwn;have hnb:-1000000<=n/\n<=1125899926842620:=by omega
  have hwp:=axh (l:=l) hf.1 hB.lens (asj h2);have aby:wL f (l+f) L<=1152921504606846976:=by rw[Vh];unfold dst;split<;>omega
  rw[<-hC,<-hn]at hF;clear hC hn Vh hwn;have UW:0<=wL f (l+f) L/\wL f (l+f) L<=1152921504606846976:=⟨hwp,aby⟩;rw[hF]at hK;dsimp only at hK;obtain⟨hin,aAa⟩:=atn hF;have ax1:C.length<=1000000:=by have:=hB.Kg;omega
  have hs:(x6 f (l-wL f (l+f) L) (l+wL f (l+f) L) L).isSome=true:=by rw[hF];rfl
  repeat'((conv=>whnf);first|apply And.intro|exact bA (by subst_vars;assumption)|intro h9)
  all_goals(try(conv=>whnf))<;>(subst_vars;try first|(apply Tk.mk;kernel_rfl)|exact⟨ah rfl⟩|exact⟨rfl⟩|exact⟨trivial⟩|rfl|contradiction|(apply Ob.mk;(try simp only[ag,ak,aa.ae])<;>(try dsimp only)<;>omega))
  all_goals try first|exact⟨hL⟩|exact⟨hB⟩|exact⟨UW⟩
  all_goals obtain⟨rfl,rfl⟩:=Prod.mk.inj (Option.some.inj (hF.symm.trans ‹x6 f (l-wL f (l+f) L) (l+wL f (l+f) L) L=some _›))
  repeat'((conv=>whnf);first|apply And.intro|exact bA (by subst_vars;assumption)|intro h9)
  all_goals(try(conv=>whnf))<;>(subst_vars;try first|(apply Tk.mk;kernel_rfl)|exact⟨ah rfl⟩|exact⟨rfl⟩|exact⟨trivial⟩|rfl|contradiction|(apply Ob.mk;(try simp only[ag,ak,aa.ae])<;>(try dsimp only)<;>omega))
  all_goals try first
   |exact⟨hin⟩
   |exact⟨ax1⟩
   |(refine bu.base ⟨_,[5],hK,⟨rfl,rfl,by simp,trivial⟩,rfl,?_⟩;(repeat'((conv=>whnf);(first|apply And.intro|intro _)));all_goals first|rfl|trivial)
 rw[h2]at hK;dsimp only[al3]at hK;repeat'((conv=>whnf);first|apply And.intro|exact bA (by subst_vars;assumption)|intro h9)
 all_goals(try(conv=>whnf))<;>(subst_vars;try first|(apply Tk.mk;kernel_rfl)|exact⟨ah rfl⟩|exact⟨rfl⟩|exact⟨trivial⟩|rfl|contradiction|(apply Ob.mk;(try simp only[ag,ak,aa.ae])<;>(try dsimp only)<;>omega))
 all_goals first
  |(refine bu.base ⟨_,[],hK,trivial,rfl,?_⟩;(repeat'((conv=>whnf);(first|apply And.intro|intro _)));all_goals first|rfl|trivial)
  |exact⟨hL⟩)
end Go.Proofs.Ytccnimhgjjnmoaa
end
section
namespace Go.Proofs.Ytccnimhgjjnmoaa
open Go Go.Sy Go.dg
variable {Γ:bn}
abbrev kH:List CK:=[.sl 67 kK]
def Pw (D:List (List Bk)->List aa) (R:List (List Bk)->cM):au:=.new fun args rg K=>match args with
 |[.a x0]=>(match ac1 22 kH rg x0 with|some (q0,L0)=>aBP false (q0++(D L0)) (K (R L0))|_=>False)
 |_=>False
theorem ME {f:FuncId} {b:Body} {E:Env} {d:Nat} (hP:aL Try.prog Γ E) (hb:bQ Try.prog f b) {D:List (List Bk)->List aa} {R:List (List Bk)->cM}
 (H:∀ (L0:List (List Bk)) (K:cM->Prop),bW (D L0)->K (R L0)->cQ E d b [.a (.sl 0 [] 0 L0.length)] [.arr 22 kH L0 false false] (bu K)):au.Ok Try.prog Γ f (Pw D R):=au.fM (d:=d) hP hb (by
 intro args rg K hF;split at hF;next x0=>
  split at hF;next q0 L0 hx0=>
   rw[aV,aH]at hF;obtain⟨⟨aIh,hD⟩,hK⟩:=hF;obtain⟨e0,Vn⟩:=bP (by simp[kH]) hx0 aIh
   obtain⟨p0,r0⟩:=Vn [e0] 0 1 rfl (by omega)
   refine⟨[e0],[.a (.sl 0 [] 0 L0.length)],[.arr 22 kH L0 false false],⟨⟨p0,trivial⟩,fun r g hg=>?_⟩,bu K,H _ K hD hK,fun x st h=>h⟩
   match r,hg with
   |0,hg=>obtain rfl:=Option.some.inj hg;exact r0
  next=>exact hF.elim
 next=>exact hF.elim)
def De:au:=.new fun args rg K=>match args with
 |[.a (.v (.slice none 0 0)),.a (.v (.int .i64 n))]=>aBP false [(aa.of (0<=n)),(aa.of (n<=1000000))] (K ⟨[.arr 67 kK [] true true],.a (.sl 0 [] 0 0)⟩)
 |_=>False
theorem EI:au.Ok Try.prog Γ 118 De:=au.fM (d:=0) (aP aR.nil bq.nil false 0) (aj Try.func118 rfl rfl) (by
 intro args rg K hC;split at hC;next n=>
  rw[aV]at hC;obtain⟨⟨h0,h1,_⟩,hK⟩:=hC;simp only[aa.ae]at h0 h1;refine⟨[],[.a (.v (.slice none 0 0)),.a (vI n)],[],⟨⟨rfl,rfl,trivial⟩,fun r g hg=>by cases hg⟩,bu K,?_,fun x st h=>h⟩
  have p0:decide (n<0)=false:=decide_eq_false (by omega)
  have e0:n-(((0:Nat):Int)-((0:Nat):Int))=n:=by omega
  by_cases hn:n=0
  ·subst hn;have p1:decide ((0:Int)>0)=false:=rfl;repeat'((conv=>whnf);first|apply And.intro|exact bA (by subst_vars;assumption)|intro h9)
   all_goals(try(conv=>whnf))<;>(subst_vars;try first|(apply Tk.mk;kernel_rfl)|exact⟨ah rfl⟩|exact⟨rfl⟩|exact⟨trivial⟩|rfl|contradiction|(apply Ob.mk;(try simp only[ag,ak,aa.ae])<;>(try dsimp only)<;>omega))
   exact bu.aC 67 kK (by simp) (.base ⟨_,[0],hK,⟨rfl,rfl,by simp,trivial⟩,rfl,rfl,rfl,rfl,rfl⟩)
  have p1:decide (n>0)=true:=decide_eq_true (by omega)
  have p2:decide (n-(((0:Nat):Int)-((0:Nat):Int))>0)=true:=by rw[e0];exact p1
  repeat'((conv=>whnf);first|apply And.intro|exact bA (by subst_vars;assumption)|intro h9)
  all_goals(try(conv=>whnf))<;>(subst_vars;try first|(apply Tk.mk;kernel_rfl)|exact⟨ah rfl⟩|exact⟨rfl⟩|exact⟨trivial⟩|rfl|contradiction|(apply Ob.mk;(try simp only[ag,ak,aa.ae])<;>(try dsimp only)<;>omega))
  all_goals try first|exact⟨show(n-(((0:Nat):Int)-((0:Nat):Int)))*((2:Nat):Int)<=16777216 by rw[e0];omega⟩
  apply bu.base;exact⟨_,[0],hK,⟨rfl,rfl,by simp,trivial⟩,rfl,rfl,rfl,rfl,rfl⟩
 next=>exact hC.elim)
def cL (W:List (List Bk)) (i:Nat):List Bk:=(W.take i).flatten
abbrev agZ (W:List (List Bk)) (i:Int):List Bk:=@Ar.get ⟨22,kH,W⟩ (0+Int.toNat i)
theorem LL (W:List (List Bk)) (i:Nat):agZ W i=W.getD i []:=by unfold agZ;rw[Nat.zero_add,Int.toNat_natCast];rfl
theorem Ap {W:List (List Bk)} {i:Nat} (h:i<W.length):cL W (i+1)=cL W i++agZ W i:=by
 rw[LL];unfold cL;rw[List.take_succ_eq_append_getElem h,List.flatten_append,List.flatten_singleton];simp[h]
theorem GV {W:List (List Bk)} {i j:Nat} (h:i<=j):(cL W i).length<=(cL W j).length:=by
 unfold cL;have e:W.take i=(W.take j).take i:=by rw[List.take_take,Nat.min_eq_left h]
 rw[e];conv=>rhs;rw[<-List.take_append_drop i (W.take j),List.flatten_append,List.length_append]
 omega
def xz:au:=Pw (fun W=>[(aa.of (W.length<=1000000)),(aa.of ((cL W W.length).length<=1000000))]) (fun W=>⟨[.arr 67 kK (cL W W.length) true true],.a (.sl 0 [] 0 (cL W W.length).length)⟩)
noncomputable def Il:List (Nat×au):=[(118,De)]
theorem Cq:aR Try.prog Γ Il:=(aR.nil.cons (aj Try.func118 rfl rfl).fn EI)
attribute [local irreducible] cL
theorem zQ:au.Ok Try.prog Γ 103 xz:=ME (d:=0) (aP Cq bq.nil false 0) (aj Try.func103 rfl rfl) (by
 intro W K ⟨hW,hF,_⟩ hK;simp only[aa.ae]at hW hF;have f0:cL W 0=[]:=by unfold cL;rfl
 repeat'((conv=>whnf);first|apply And.intro|exact bA (by subst_vars;assumption)|intro h9)
 all_goals(try(conv=>whnf))<;>(subst_vars;try first|(apply Tk.mk;kernel_rfl)|exact⟨ah rfl⟩|exact⟨rfl⟩|exact⟨trivial⟩|rfl|contradiction|(apply Ob.mk;(try simp only[ag,ak,aa.ae])<;>(try dsimp only)<;>omega))
 refine⟨Nat,fun i=>i<=W.length,fun i=>⟨aI 36 [0,3,9,10,11] [.a (.sl 0 [] 0 W.length),.a (vI (cL W i).length),.a (.sl 0 [] 0 W.length),.a (vI W.length),.a (vI i)],[],[.arr 22 kH W false false]⟩,fun i=>W.length-i,0,[],Nat.zero_le _,?_,?_⟩
 ·repeat'((conv=>whnf);(first|apply And.intro|intro _))
  all_goals first|rfl|trivial|exact ah rfl|exact aS ‹_› rfl|exact aT ‹_› rfl|((repeat' first|rfl|constructor);done)|(rw[f0];rfl)
 rintro i hi;by_cases hi1:i<W.length
 ·have p0:decide ((i:Int)<(W.length:Int))=true:=decide_eq_true (by omega)
  have hs:=congrArg List.length (Ap hi1);rw[List.length_append]at hs;have hle:=GV (W:=W) (show i+1<=W.length from hi1);have p1:decide (((cL W i).length:Int)+((agZ W i).length:Int)<0)=false:=decide_eq_false (by omega)
  repeat'((conv=>whnf);first|apply And.intro|exact bA (by subst_vars;assumption)|intro h9)
  all_goals(try(conv=>whnf))<;>(subst_vars;try first|(apply Tk.mk;kernel_rfl)|exact⟨ah rfl⟩|exact⟨rfl⟩|exact⟨trivial⟩|rfl|contradiction|(apply Ob.mk;(try simp only[ag,ak,aa.ae])<;>(try dsimp only)<;>omega))
  all_goals try first|exact⟨show -9223372036854775808<=((cL W i).length:Int)+((agZ W i).length:Int)/\((cL W i).length:Int)+((agZ W i).length:Int)<=9223372036854775807 by omega⟩|exact⟨show 0+Int.toNat (i:Int)<W.length by omega⟩
  refine⟨i+1,[],hi1,?_,by show W.length-(i+1)<W.length-i;omega⟩
  repeat'((conv=>whnf);(first|apply And.intro|intro _))
  all_goals first|rfl|trivial|exact ah rfl|exact aS ‹_› rfl|exact aT ‹_› rfl|((repeat' first|rfl|constructor);done)|(rw[hs];exact(Int.natCast_add ..).symm)|(rw[hs];exact Int.natCast_add ..)
 have p0:decide ((i:Int)<(W.length:Int))=false:=decide_eq_false (by omega)
 obtain rfl:i=W.length:=by omega
 clear hi hi1;repeat'((conv=>whnf);first|apply And.intro|exact bA (by subst_vars;assumption)|intro h9)
 all_goals(try(conv=>whnf))<;>(subst_vars;try first|(apply Tk.mk;kernel_rfl)|exact⟨ah rfl⟩|exact⟨rfl⟩|exact⟨trivial⟩|rfl|contradiction|(apply Ob.mk;(try simp only[ag,ak,aa.ae])<;>(try dsimp only)<;>omega))
 refine⟨Nat,fun i=>i<=W.length,fun i=>⟨aI 36 [6,25,26,27] [.a (.sl 1 [] 0 (cL W i).length),.a (.sl 0 [] 0 W.length),.a (vI W.length),.a (vI i)],[],[.arr 22 kH W false false,.arr 67 kK (cL W i) true true]⟩,fun i=>W.length-i,0,[],Nat.zero_le _,?_,?_⟩
 ·repeat'((conv=>whnf);(first|apply And.intro|intro _))
  all_goals first|rfl|trivial|exact ah rfl|exact aS ‹_› rfl|exact aT ‹_› rfl|((repeat' first|rfl|constructor);done)|(rw[f0];rfl)|exact⟨rfl,rfl,f0.symm⟩
 clear p0;rintro i hi;by_cases hi1:i<W.length
 ·have p0:decide ((i:Int)<(W.length:Int))=true:=decide_eq_true (by omega)
  have xT:=Ap hi1;have hs:=congrArg List.length xT;rw[List.length_append]at hs;have hle:=GV (W:=W) (show i+1<=W.length from hi1);have pU:List.drop 0 (cL W i)++List.take (agZ W i).length (List.drop 0 (agZ W i))=cL W i++agZ W i:=by rw[List.drop_zero,List.drop_zero,List.take_length]
  repeat'((conv=>whnf);first|apply And.intro|exact bA (by subst_vars;assumption)|intro h9)
  all_goals(try(conv=>whnf))<;>(subst_vars;try first|(apply Tk.mk;kernel_rfl)|exact⟨ah rfl⟩|exact⟨rfl⟩|exact⟨trivial⟩|rfl|contradiction|(apply Ob.mk;(try simp only[ag,ak,aa.ae])<;>(try dsimp only)<;>omega))
  all_goals try first|exact⟨show 0+Int.toNat (i:Int)<W.length by omega⟩|exact⟨Nat.zero_add _⟩|exact⟨show((cL W i).length+(agZ W i).length)*2<=1099511627776 by omega⟩
  refine⟨i+1,[],hi1,?_,by show W.length-(i+1)<W.length-i;omega⟩
  repeat'((conv=>whnf)<;>first|apply And.intro|intro _|rfl|trivial|exact ah rfl|exact aS ‹_› rfl|exact aT ‹_› rfl|((repeat' first|rfl|constructor);done)|exact hs.symm|exact⟨rfl,rfl,pU.trans xT.symm⟩)
 have p0:decide ((i:Int)<(W.length:Int))=false:=decide_eq_false (by omega)
 obtain rfl:i=W.length:=by omega
 repeat'((conv=>whnf);first|apply And.intro|exact bA (by subst_vars;assumption)|intro h9)
 all_goals(try(conv=>whnf))<;>(subst_vars;try first|(apply Tk.mk;kernel_rfl)|exact⟨ah rfl⟩|exact⟨rfl⟩|exact⟨trivial⟩|rfl|contradiction|(apply Ob.mk;(try simp only[ag,ak,aa.ae])<;>(try dsimp only)<;>omega))
 refine bu.base ⟨_,[1],hK,⟨rfl,rfl,by simp,trivial⟩,rfl,?_⟩
 repeat'((conv=>whnf)<;>first|apply And.intro|intro _|rfl|trivial))
end Go.Proofs.Ytccnimhgjjnmoaa
end
