/-
  Texts of the claims: Yka17z. No condition: lemmas and contracts.
-/
import Derived.Test.YtccnimhgjjnmoaaSya1z
import Derived.Test.YtccnimhgjjnmoaaSya2z
import Derived.Test.YtccnimhgjjnmoaaSya3z
import Derived.Test.YtccnimhgjjnmoaaSya4z
import Derived.Test.YtccnimhgjjnmoaaSya5z
import Derived.Test.YtccnimhgjjnmoaaPla6z
import Derived.Test.YtccnimhgjjnmoaaYka7z
import Derived.Test.YtccnimhgjjnmoaaYka8z
import Derived.Test.YtccnimhgjjnmoaaYka9z
import Derived.Test.YtccnimhgjjnmoaaYka10z
import Derived.Test.YtccnimhgjjnmoaaYka11z
import Derived.Test.YtccnimhgjjnmoaaYka12z
import Derived.Test.YtccnimhgjjnmoaaYka13z
import Derived.Test.YtccnimhgjjnmoaaYka14z
import Derived.Test.YtccnimhgjjnmoaaYka15z
import Derived.Test.YtccnimhgjjnmoaaYka16z
set_option linter.all false
set_option maxRecDepth 100000
set_option maxHeartbeats 40000000
section
namespace Go.Proofs.Ytccnimhgjjnmoaa
open Go Go.Sy Go.dg
variable {Γ:bn}
def axM (D:List Bk->Int->Int->Int->List Int->List Int->List Int->List aa) (F:List Bk->Int->Int->Int->List Int->List Int->List Int->Tm):au:=.fn fun args rg=>match args with
 |[.a x0,.agg [.v (.int .i64 n0),.v (.int .i64 n1),.v (.int .i64 n2)],.agg [x1,x2,x3]]=>(match ac1 67 kK rg x0,ac1 3 kI rg x1,ac1 3 kI rg x2,ac1 3 kI rg x3 with|some (q0,L0),some (q1,L1),some (q2,L2),some (q3,L3)=>some (q0++(q1++(q2++(q3++(D L0 n0 n1 n2 L1 L2 L3)))),F L0 n0 n1 n2 L1 L2 L3)|_,_,_,_=>none)
 |_=>none
theorem awH {f:FuncId} {b:Body} {E:Env} {d:Nat} (hP:aL Try.prog Γ E) (hb:bQ Try.prog f b) {D:List Bk->Int->Int->Int->List Int->List Int->List Int->List aa} {F:List Bk->Int->Int->Int->List Int->List Int->List Int->Tm} (hp:∀ (L0:List Bk) (n0:Int) (n1:Int) (n2:Int) (L1:List Int) (L2:List Int) (L3:List Int),(F L0 n0 n1 n2 L1 L2 L3).plain=true)
 (H:∀ (L0:List Bk) (n0:Int) (n1:Int) (n2:Int) (L1:List Int) (L2:List Int) (L3:List Int),bW (D L0 n0 n1 n2 L1 L2 L3)->cQ E d b [.a (.sl 0 [] 0 L0.length),.agg [vI n0,vI n1,vI n2],.agg [.sl 1 [] 0 L1.length,.sl 2 [] 0 L2.length,.sl 3 [] 0 L3.length]] [.arr 67 kK L0 false false,.arr 3 kI L1 false false,.arr 3 kI L2 false false,.arr 3 kI L3 false false] (fun x _=>iL x (F L0 n0 n1 n2 L1 L2 L3))):au.Ok Try.prog Γ f (axM D F):=au.aBp (d:=d) hP hb (by
 intro args rg q t hF hq;split at hF;next x0 n0 n1 n2 x1 x2 x3=>
  split at hF;next q0 L0 q1 L1 q2 L2 q3 L3 hx0 cO cq Sq=>
   obtain⟨rfl,rfl⟩:=Prod.mk.inj (Option.some.inj hF);clear hF;rw[aH,aH,aH,aH]at hq;obtain⟨aIh,gk,AM,RG,hD⟩:=hq;obtain⟨e0,Vn⟩:=bP (by simp[kK]) hx0 aIh
   obtain⟨e1,iO⟩:=bP (by simp[kI]) cO gk
   obtain⟨e2,AH⟩:=bP (by simp[kI]) cq AM
   obtain⟨e3,ayb⟩:=bP (by simp[kI]) Sq RG
   obtain⟨p0,r0⟩:=Vn [e0,e1,e2,e3] 0 4 rfl (by omega)
   obtain⟨p1,r1⟩:=iO [e0,e1,e2,e3] 1 4 rfl (by omega)
   obtain⟨p2,r2⟩:=AH [e0,e1,e2,e3] 2 4 rfl (by omega)
   obtain⟨p3,r3⟩:=ayb [e0,e1,e2,e3] 3 4 rfl (by omega)
   refine⟨hp _ _ _ _ _ _ _,[e0,e1,e2,e3],[.a (.sl 0 [] 0 L0.length),.agg [vI n0,vI n1,vI n2],.agg [.sl 1 [] 0 L1.length,.sl 2 [] 0 L2.length,.sl 3 [] 0 L3.length]],[.arr 67 kK L0 false false,.arr 3 kI L1 false false,.arr 3 kI L2 false false,.arr 3 kI L3 false false],⟨⟨p0,⟨rfl,rfl,rfl,trivial⟩,⟨p1,p2,p3,trivial⟩,trivial⟩,fun r g hg=>?_⟩,H _ _ _ _ _ _ _ hD⟩
   match r,hg with
   |0,hg=>obtain rfl:=Option.some.inj hg;exact r0
   |1,hg=>obtain rfl:=Option.some.inj hg;exact r1
   |2,hg=>obtain rfl:=Option.some.inj hg;exact r2
   |3,hg=>obtain rfl:=Option.some.inj hg;exact r3
  next=>cases hF
 next=>cases hF)
attribute [local irreducible] ck wN e7 cw aQ Bf sub
def kD (F R S:List Int) (lo:Int) (i:Nat):Int:=if gA S i<(R.length:Int)/\gA F i=0/\cw R (gA S i)=0/\lo<=0 then gA S i+1 else gA S i
def alF (X Y F R S:List Int) (lo hi:Int) (i:Nat):Bool:=
 aQ (gA S i) 0 R.length&&(!(decide (gA S i>0)&&decide (cw X (gA F i)+cw Y (cw R (gA S i-1))>=lo))&&!(decide (kD F R S lo i<(R.length:Int))&&decide (cw X (gA F i)+cw Y (cw R (kD F R S lo i))<=hi)))
def akK (X Y F R S:List Int) (lo hi:Int):Bool:=Bf F X&&(Bf R Y&&(decide (S.length=F.length)&&(List.range S.length).all (alF X Y F R S lo hi)))
theorem axE {X Y F R S:List Int} {lo hi:Int} {i:Nat} (hi1:i<S.length) (h:alF X Y F R S lo hi i=false):akK X Y F R S lo hi=false:=by
 unfold akK;have:(List.range S.length).all (alF X Y F R S lo hi)=false:=by
  rw[Bool.eq_false_iff];intro h';rw[List.all_eq_true]at h';rw[h' i (List.mem_range.2 hi1)]at h;cases h
 rw[this];simp
theorem aqS {X Y F R S:List Int} {lo hi:Int} (h1:Bf F X=true) (h2:Bf R Y=true) (h3:S.length=F.length) (h:∀ j,j<S.length->alF X Y F R S lo hi j=true):akK X Y F R S lo hi=true:=by
 unfold akK;rw[h1,h2,decide_eq_true h3,Bool.true_and,Bool.true_and,Bool.true_and,List.all_eq_true];exact fun j hj=>h j (List.mem_range.1 hj)
theorem awz {X Y F R S:List Int} {lo hi:Int}:akK X Y F R S lo hi=true<->Bf F X=true/\Bf R Y=true/\S.length=F.length/\∀ j,j<S.length->alF X Y F R S lo hi j=true:=by
 unfold akK;rw[Bool.and_eq_true,Bool.and_eq_true,Bool.and_eq_true,decide_eq_true_eq,List.all_eq_true];exact⟨fun⟨a,b,c,d⟩=>⟨a,b,c,fun j hj=>d j (List.mem_range.2 hj)⟩,fun⟨a,b,c,d⟩=>⟨a,b,c,fun j hj=>d j (List.mem_range.1 hj)⟩⟩
def am1 (L:List Bk) (l t f:Int) (F R S:List Int):Int:=if bf L l t f=0 then(if akK (WA f L) (WB f L) F R S (l-t+f) (l+t+f)=true then 0 else 8)else bf L l t f
attribute [local irreducible] alF akK kD
def az3 (id:Nat):Option (List Nat):=match Nat.beq id 5 with|true=>some [0,1,2,4,5,6,3,7]|false=>none
noncomputable def azj:List (Nat×au):=[(54,aBa),(75,akQ),(78,aqR),(67,gK)]
theorem axr:aR Try.prog Γ azj:=((((aR.nil.cons (aj Try.func67 rfl rfl).fn fw).cons (aj Try.func78 rfl rfl).fn arY).cons (aj Try.func75 rfl rfl).fn Wk).cons (aj Try.func54 rfl rfl).fn fQ)
noncomputable def axA:List (Nat×Body):=[(73,bo Try.f73)]
theorem awq:bq Try.prog axA:=(bq.nil.cons (cg Try.func73 rfl rfl))
noncomputable def avL:Env:={jV.env azj axA false 0 with ord:=az3}
theorem auL:aL Try.prog Γ avL:=(aP axr awq false 0).Ju _
noncomputable def azN:Env:={avL with cut:=fun t=>Nat.beq t 139}
theorem awC:aL Try.prog Γ azN:=auL.aBf _
def amZ:au:=axM (fun L _ _ _ F R S=>[(aa.of (L.length<=1000000)),(aa.of (F.length<=1000000)),(aa.of (R.length<=1000000)),(aa.of (S.length<=1000000))]) (fun L l t f F R S=> .a (vI (am1 L l t f F R S)))
theorem aof:au.Ok Try.prog Γ 40 amZ:=awH (d:=3) awC (aj Try.func40 rfl rfl) (fun _ _ _ _ _ _ _=>rfl) (by
 intro L l t f F R S ⟨hL,hF,hR,hS,_⟩;simp only[aa.ae]at hL hF hR hS;have hone:=akP L l t f;cases h0:bf L l t f==0
 ·have e0:(lu L [(l,t,f)]!=0)=true:=by rw[hone];unfold bne;rw[h0];rfl
  rw[show am1 L l t f F R S=bf L l t f by unfold am1;rw[if_neg (by simpa using h0)]]
  repeat'((conv=>whnf);first|apply And.intro|exact bA (by subst_vars;assumption)|intro h9)
  all_goals(try(conv=>whnf))<;>(subst_vars;try first|(apply Tk.mk;kernel_rfl)|exact⟨ah rfl⟩|exact⟨rfl⟩|exact⟨trivial⟩|rfl|contradiction|(apply Ob.mk;(try simp only[ag,ak,aa.ae])<;>(try dsimp only)<;>omega))
  all_goals first|trivial|exact⟨hL⟩
 have e0:(lu L [(l,t,f)]!=0)=false:=by rw[hone];unfold bne;rw[h0];rfl
 have au3:=eq_of_beq h0;obtain⟨hB,hw⟩:=gg au3;obtain⟨hl,ht,hf⟩:=wE hw;have hn:=hB.Kg;have hc:=anC L.length;have akB:0+gv L.length<=L.length:=by show 0+gv L.length<=L.length;have:=hc.1;show 0+Int.toNat _<=_;omega
 have akC:(0+gv L.length)+(L.length-gv L.length)<=L.length:=by have:=hc.1;show 0+Int.toNat _+(_-Int.toNat _)<=_;omega
 have au4:gv L.length<=10:=hc.2.1;have au5:L.length-gv L.length<=10:=hc.2.2 hn;have ama:(WB f L).length=2^(L.length-gv L.length):=by show(e7 f (sub L (0+gv L.length) (L.length-gv L.length))).length=_;rw[x7,wk akC]
 have al9:(WA f L).length=2^gv L.length:=by show(e7 f (sub L 0 (gv L.length))).length=_;rw[x7,wk akB]
 have asd:(WB f L).length<=1024:=by rw[ama];exact Nat.le_trans (Nat.pow_le_pow_right (by omega) au5) (by decide)
 have au1:(WA f L).length<=1024:=by rw[al9];exact Nat.le_trans (Nat.pow_le_pow_right (by omega) au4) (by decide)
 have aq6:=ali hB akB hf;have PU:=ali hB akC hf;have hcd:∀ b,akK (WA f L) (WB f L) F R S (l-t+f) (l+t+f)=b->am1 L l t f F R S=if b=true then 0 else 8:=fun b hb=>by unfold am1;rw[if_pos au3,hb]
 clear ama al9 hone au3;cases amj:Bf F (WA f L)
 ·have z1:(!Bf F (WA f L))=true:=by rw[amj];rfl
  rw[hcd false (by unfold akK;rw[amj];rfl),if_neg (by decide)]
  clear hcd;repeat'((conv=>whnf);first|apply And.intro|exact bA (by subst_vars;assumption)|intro h9)
  all_goals(try(conv=>whnf))<;>(subst_vars;try first|(apply Tk.mk;kernel_rfl)|exact⟨ah rfl⟩|exact⟨rfl⟩|exact⟨trivial⟩|rfl|contradiction|(apply Ob.mk;(try simp only[ag,ak,aa.ae])<;>(try dsimp only)<;>omega))
  all_goals first|exact⟨hL⟩|exact⟨hB⟩|exact⟨hF⟩|exact⟨akB⟩|exact⟨akC⟩|exact⟨show(WA f L).length<=1000000 by omega⟩
 have z1:(!Bf F (WA f L))=false:=by rw[amj];rfl
 cases amk:Bf R (WB f L)
 ·have z2:(!Bf R (WB f L))=true:=by rw[amk];rfl
  rw[hcd false (by unfold akK;rw[amj,amk];rfl),if_neg (by decide)]
  clear hcd;repeat'((conv=>whnf);first|apply And.intro|exact bA (by subst_vars;assumption)|intro h9)
  all_goals(try(conv=>whnf))<;>(subst_vars;try first|(apply Tk.mk;kernel_rfl)|exact⟨ah rfl⟩|exact⟨rfl⟩|exact⟨trivial⟩|rfl|contradiction|(apply Ob.mk;(try simp only[ag,ak,aa.ae])<;>(try dsimp only)<;>omega))
  all_goals first|exact⟨hL⟩|exact⟨hB⟩|exact⟨hF⟩|exact⟨hR⟩|exact⟨akB⟩|exact⟨akC⟩|exact⟨show(WA f L).length<=1000000 by omega⟩|exact⟨show(WB f L).length<=1000000 by omega⟩
 have z2:(!Bf R (WB f L))=false:=by rw[amk];rfl
 by_cases avT:S.length=F.length
 rotate_left
 ·have z3:((S.length:Int)!=(F.length:Int))=true:=by rw[bne_iff_ne];omega
  rw[hcd false (by unfold akK;rw[decide_eq_false avT];simp),if_neg (by decide)]
  clear hcd;repeat'((conv=>whnf);first|apply And.intro|exact bA (by subst_vars;assumption)|intro h9)
  all_goals(try(conv=>whnf))<;>(subst_vars;try first|(apply Tk.mk;kernel_rfl)|exact⟨ah rfl⟩|exact⟨rfl⟩|exact⟨trivial⟩|rfl|contradiction|(apply Ob.mk;(try simp only[ag,ak,aa.ae])<;>(try dsimp only)<;>omega))
  all_goals first|exact⟨hL⟩|exact⟨hB⟩|exact⟨hF⟩|exact⟨hR⟩|exact⟨akB⟩|exact⟨akC⟩|exact⟨show(WA f L).length<=1000000 by omega⟩|exact⟨show(WB f L).length<=1000000 by omega⟩
 have z3:((S.length:Int)!=(F.length:Int))=false:=by rw[avT];simp
 obtain⟨Si,azo⟩:=amW.1 amj;obtain⟨am4,azr⟩:=amW.1 amk;have iB:=aqS (lo:=l-t+f) (hi:=l+t+f) amj amk avT;replace avT:S.length<=F.length/\F.length<=S.length:=by omega
 replace Si:F.length<=(WA f L).length:=by omega
 replace am4:R.length<=(WB f L).length/\(WB f L).length<=R.length:=by omega
 have aAc:∀ i,i<F.length->0<=ca F i/\ca F i<((WA f L).length:Int):=fun i hi=>by rw[kX];exact an7 (azo i hi)
 have ax3:∀ z:Int,0<=z->z<(R.length:Int)->0<=ca R z/\ca R z<((WB f L).length:Int):=fun z h1 h2=>by
  obtain⟨k,rfl⟩:∃ k:Nat,z=k:=⟨z.toNat,by omega⟩
  rw[kX];exact an7 (azr k (by omega))
 have aAh:∀ z,0<=ca (WA f L) z/\ca (WA f L) z<=1152921504606846976:=fun z=>by rw[show ca (WA f L) z=cw (WA f L) z from ak3];exact aq6 z
 have ax6:∀ z,0<=ca (WB f L) z/\ca (WB f L) z<=1152921504606846976:=fun z=>by rw[show ca (WB f L) z=cw (WB f L) z from ak3];exact PU z
 have hno:=@axE (WA f L) (WB f L) F R S (l-t+f) (l+t+f);clear azo azr aq6 PU amj amk;repeat'((conv=>whnf);first|apply And.intro|exact bA (by subst_vars;assumption)|intro h9)
 all_goals(try(conv=>whnf))<;>(subst_vars;try first|(apply Tk.mk;kernel_rfl)|exact⟨ah rfl⟩|exact⟨rfl⟩|exact⟨trivial⟩|rfl|contradiction|(apply Ob.mk;(try simp only[ag,ak,aa.ae])<;>(try dsimp only)<;>omega))
 all_goals try first|exact⟨hL⟩|exact⟨hB⟩|exact⟨hF⟩|exact⟨hR⟩|exact⟨akB⟩|exact⟨akC⟩|exact⟨show(WA f L).length<=1000000 by omega⟩|exact⟨show(WB f L).length<=1000000 by omega⟩
 refine⟨Nat,fun i=>i<=S.length/\∀ j,j<i->alF (WA f L) (WB f L) F R S (l-t+f) (l+t+f) j=true,fun i=>⟨aI 162 [4,5,10,11,12,13,75,76,77] [.a (.p 4 [] 0 0),.a (.p 5 [] 0 0),.a (.sl 6 [] 0 (WA f L).length),.a (.sl 7 [] 0 (WB f L).length),.a (vI (l-t+f)),.a (vI (l+t+f)),.a (.sl 3 [] 0 S.length),.a (vI S.length),.a (vI i)],[],[.arr 67 kK L false false,.arr 3 kI F false false,.arr 3 kI R false false,.arr 3 kI S false false,.box true [vI l,vI t,vI f],.box true [.sl 1 [] 0 F.length,.sl 2 [] 0 R.length,.sl 3 [] 0 S.length],.arr 3 kI (WA f L) true true,.arr 3 kI (WB f L) true true]⟩,fun i=>S.length-i,0,[0,1,2,3,4,5,7,8],⟨Nat.zero_le _,fun j h=>absurd h (Nat.not_lt_zero j)⟩,?_,?_⟩
 ·repeat'((conv=>whnf);(first|apply And.intro|intro _))
  all_goals first|rfl|trivial|exact ah rfl|exact⟨rfl,rfl,rfl⟩|exact⟨rfl,rfl⟩|(rename_i r9 bx;revert r9;decide)
 rintro i ⟨hi,hj⟩;by_cases hi1:i<S.length
 ·have p0:decide ((i:Int)<(S.length:Int))=true:=decide_eq_true (by omega)
  have ayc:=aAc i (by omega)
  have gF:=kX F i;have gS:=kX S i;have eX:ca (WA f L) (ca F i)=cw (WA f L) (gA F i):=by rw[<-gF];exact ak3
  have vX:=aAh (ca F i);have av2:0+Int.toNat (ca F i)<(WA f L).length:=by omega
  have eR:∀ z,ca R z=cw R z:=fun z=>ak3
  have eY:∀ z,ca (WB f L) z=cw (WB f L) z:=fun z=>ak3
  cases h1:aQ (ca S i) 0 (R.length:Int)
  ·have q1:(!aQ (ca S i) 0 (R.length:Int))=true:=by rw[h1];rfl
   rw[hcd false (hno hi1 (by unfold alF;rw[<-gS,h1];rfl)),if_neg (by decide)]
   clear hcd hno gF gS eX eR eY iB;repeat'((conv=>whnf);first|apply And.intro|exact bA (by subst_vars;assumption)|intro h9)
   all_goals(try(conv=>whnf))<;>(subst_vars;try first|(apply Tk.mk;kernel_rfl)|exact⟨ah rfl⟩|exact⟨rfl⟩|exact⟨trivial⟩|rfl|contradiction|(apply Ob.mk;(try simp only[ag,ak,aa.ae])<;>(try dsimp only)<;>omega))
   all_goals first|exact⟨show 0+Int.toNat (i:Int)<S.length by omega⟩|exact⟨show 0+Int.toNat (i:Int)<F.length by omega⟩|exact⟨av2⟩
  have q1:(!aQ (ca S i) 0 (R.length:Int))=false:=by rw[h1];rfl
  have aAC:=akk.1 h1;have apj:ca S i>0->ca (WA f L) (ca F i)+ca (WB f L) (ca R (ca S i-1))>=l-t+f->alF (WA f L) (WB f L) F R S (l-t+f) (l+t+f) i=false:=fun a1 a2=>by
   unfold alF;rw[eX,eY,eR,gS]at a2;rw[gS]at a1 h1;rw[h1,decide_eq_true a1,decide_eq_true a2];rfl
  have hpre:(ca S i>0->¬ca (WA f L) (ca F i)+ca (WB f L) (ca R (ca S i-1))>=l-t+f)->(decide (gA S i>0)&&decide (cw (WA f L) (gA F i)+cw (WB f L) (cw R (gA S i-1))>=l-t+f))=false:=fun a1=>by
   rw[Bool.and_eq_false_iff];by_cases g:ca S i>0
   ·right
    have:=a1 g;rw[eX,eY,eR,gS]at this;exact decide_eq_false this
   ·left;rw[<-gS];exact decide_eq_false g
  have aIg:kD F R S (l-t+f) i=if ca S i<(R.length:Int)/\ca F i=0/\ca R (ca S i)=0/\l-t+f<=0 then ca S i+1 else ca S i:=by unfold kD;rw[gF,gS,eR]
  have apY:(ca S i>0->¬ca (WA f L) (ca F i)+ca (WB f L) (ca R (ca S i-1))>=l-t+f)->∀ b,(decide (kD F R S (l-t+f) i<(R.length:Int))&&decide (ca (WA f L) (ca F i)+ca (WB f L) (ca R (kD F R S (l-t+f) i))<=l+t+f))=b->alF (WA f L) (WB f L) F R S (l-t+f) (l+t+f) i=!b:=fun a1 b hb=>by
   have h3:=hpre a1;unfold alF;rw[<-gS,h1,gS,h3];rw[eX,eY,eR]at hb;rw[hb];rfl
  clear eX eR eY gF gS hpre;have azK:(ca S i>0->¬ca (WA f L) (ca F i)+ca (WB f L) (ca R (ca S i-1))>=l-t+f)->True:=fun _=>trivial
  clear azK;by_cases g2:ca S i>0
  ·have q2:decide (ca S i>0)=true:=decide_eq_true g2;have s7:=ax3 (ca S i-1) (by omega) (by omega)
   have aAM:=ax6 (ca R (ca S i-1));have azB:0+Int.toNat (ca S i-1)<R.length:=by omega
   have azC:0+Int.toNat (ca R (ca S i-1))<(WB f L).length:=by omega
   by_cases g3:ca (WA f L) (ca F i)+ca (WB f L) (ca R (ca S i-1))>=l-t+f
   ·have q3:decide (ca (WA f L) (ca F i)+ca (WB f L) (ca R (ca S i-1))>=l-t+f)=true:=decide_eq_true g3;rw[hcd false (hno hi1 (apj g2 g3)),if_neg (by decide)]
    clear hcd hno apj aIg apY iB;repeat'((conv=>whnf);first|apply And.intro|exact bA (by subst_vars;assumption)|intro h9)
    all_goals(try(conv=>whnf))<;>(subst_vars;try first|(apply Tk.mk;kernel_rfl)|exact⟨ah rfl⟩|exact⟨rfl⟩|exact⟨trivial⟩|rfl|contradiction|(apply Ob.mk;(try simp only[ag,ak,aa.ae])<;>(try dsimp only)<;>omega))
    all_goals first|exact⟨show 0+Int.toNat (i:Int)<S.length by omega⟩|exact⟨show 0+Int.toNat (i:Int)<F.length by omega⟩|exact⟨av2⟩|exact⟨azB⟩|exact⟨azC⟩|(refine Ob.mk ?_;show(ag .i64 (ca (WA f L) (ca F i)+ca (WB f L) (ca R (ca S i-1)))).p;simp only[ag,ak,aa.ae];omega)|(refine Ob.mk ?_;show(ag .i64 (ca S i-1)).p;simp only[ag,ak,aa.ae];omega)|exact⟨show 0<=ca S i-1/\ca S i-1<(R.length:Int) by omega⟩
   have q3:decide (ca (WA f L) (ca F i)+ca (WB f L) (ca R (ca S i-1))>=l-t+f)=false:=decide_eq_false g3;have akN:=apY (fun _=>g3)
   clear apj apY;repeat'((conv=>whnf);first|apply And.intro|exact bA (by subst_vars;assumption)|intro h9)
   all_goals(try(conv=>whnf))<;>(subst_vars;try first|(apply Tk.mk;kernel_rfl)|exact⟨ah rfl⟩|exact⟨rfl⟩|exact⟨trivial⟩|rfl|contradiction|(apply Ob.mk;(try simp only[ag,ak,aa.ae])<;>(try dsimp only)<;>omega))
   all_goals try first|exact⟨show 0+Int.toNat (i:Int)<S.length by omega⟩|exact⟨show 0+Int.toNat (i:Int)<F.length by omega⟩|exact⟨av2⟩|exact⟨azB⟩|exact⟨azC⟩|(refine Ob.mk ?_;show(ag .i64 (ca (WA f L) (ca F i)+ca (WB f L) (ca R (ca S i-1)))).p;simp only[ag,ak,aa.ae];omega)|(refine Ob.mk ?_;show(ag .i64 (ca S i-1)).p;simp only[ag,ak,aa.ae];omega)|exact⟨show 0<=ca S i-1/\ca S i-1<(R.length:Int) by omega⟩
   refine⟨Unit,fun _=>True,fun _=>⟨aI 162 [4,5,10,11,12,13,75,76,77,15,16] [.a (.p 4 [] 0 0),.a (.p 5 [] 0 0),.a (.sl 6 [] 0 (WA f L).length),.a (.sl 7 [] 0 (WB f L).length),.a (vI (l-t+f)),.a (vI (l+t+f)),.a (.sl 3 [] 0 S.length),.a (vI S.length),.a (vI i),.a (vI (kD F R S (l-t+f) i)),.a (vI (ca (WA f L) (ca F i)))],[],[.arr 67 kK L false false,.arr 3 kI F false false,.arr 3 kI R false false,.arr 3 kI S false false,.box true [vI l,vI t,vI f],.box true [.sl 1 [] 0 F.length,.sl 2 [] 0 R.length,.sl 3 [] 0 S.length],.arr 3 kI (WA f L) true true,.arr 3 kI (WB f L) true true]⟩,?_,?_⟩
   ·clear hcd hno iB akN hj;by_cases b1:ca S i<(R.length:Int)
    ·have w1:decide (ca S i<(R.length:Int))=true:=decide_eq_true b1;have aq7:0+Int.toNat (ca S i)<R.length:=by omega
     by_cases b2:ca F i=0
     ·have w2:(ca F i==0)=true:=beq_iff_eq.2 b2;by_cases b3:ca R (ca S i)=0
      ·have w3:(ca R (ca S i)==0)=true:=beq_iff_eq.2 b3;by_cases b4:l-t+f<=0
       ·have w4:decide (l-t+f<=0)=true:=decide_eq_true b4;have akw:ca S i+1=kD F R S (l-t+f) i:=by rw[aIg,if_pos ⟨b1,b2,b3,b4⟩]
        clear aIg b2 b3;repeat'((conv=>whnf);first|apply And.intro|exact bA (by subst_vars;assumption)|intro h9)
        all_goals(try(conv=>whnf))<;>(subst_vars;try first|(apply Tk.mk;kernel_rfl)|exact⟨ah rfl⟩|exact⟨rfl⟩|exact⟨trivial⟩|rfl|contradiction|(apply Ob.mk;(try simp only[ag,ak,aa.ae])<;>(try dsimp only)<;>omega))
        refine⟨(),[0,1,2,3,4,5,6,7],trivial,?_⟩;repeat'((conv=>whnf);(first|apply And.intro|intro _))
        all_goals first|rfl|trivial|exact ah rfl|exact⟨rfl,rfl,rfl⟩|exact⟨rfl,rfl⟩|(rename_i r9 bx;revert r9;decide)|exact akw
       have w4:decide (l-t+f<=0)=false:=decide_eq_false b4;have akw:ca S i=kD F R S (l-t+f) i:=by rw[aIg,if_neg (fun h=>b4 h.2.2.2)]
       clear aIg b2 b3;repeat'((conv=>whnf);first|apply And.intro|exact bA (by subst_vars;assumption)|intro h9)
       all_goals(try(conv=>whnf))<;>(subst_vars;try first|(apply Tk.mk;kernel_rfl)|exact⟨ah rfl⟩|exact⟨rfl⟩|exact⟨trivial⟩|rfl|contradiction|(apply Ob.mk;(try simp only[ag,ak,aa.ae])<;>(try dsimp only)<;>omega))
       all_goals try first|exact⟨show 0+Int.toNat (i:Int)<F.length by omega⟩|exact⟨aq7⟩|exact⟨show 0<=ca S i/\ca S i<(R.length:Int) by omega⟩
       refine⟨(),[0,1,2,3,4,5,6,7],trivial,?_⟩;repeat'((conv=>whnf);(first|apply And.intro|intro _))
       all_goals first|rfl|trivial|exact ah rfl|exact⟨rfl,rfl,rfl⟩|exact⟨rfl,rfl⟩|(rename_i r9 bx;revert r9;decide)|exact akw
      have w3:(ca R (ca S i)==0)=false:=beq_eq_false_iff_ne.2 b3;have akw:ca S i=kD F R S (l-t+f) i:=by rw[aIg,if_neg (fun h=>b3 h.2.2.1)]
      clear aIg b2 b3;repeat'((conv=>whnf);first|apply And.intro|exact bA (by subst_vars;assumption)|intro h9)
      all_goals(try(conv=>whnf))<;>(subst_vars;try first|(apply Tk.mk;kernel_rfl)|exact⟨ah rfl⟩|exact⟨rfl⟩|exact⟨trivial⟩|rfl|contradiction|(apply Ob.mk;(try simp only[ag,ak,aa.ae])<;>(try dsimp only)<;>omega))
      all_goals try first|exact⟨show 0+Int.toNat (i:Int)<F.length by omega⟩|exact⟨aq7⟩|exact⟨show 0<=ca S i/\ca S i<(R.length:Int) by omega⟩
      refine⟨(),[0,1,2,3,4,5,6,7],trivial,?_⟩;repeat'((conv=>whnf);(first|apply And.intro|intro _))
      all_goals first|rfl|trivial|exact ah rfl|exact⟨rfl,rfl,rfl⟩|exact⟨rfl,rfl⟩|(rename_i r9 bx;revert r9;decide)|exact akw
     have w2:(ca F i==0)=false:=beq_eq_false_iff_ne.2 b2;have akw:ca S i=kD F R S (l-t+f) i:=by rw[aIg,if_neg (fun h=>b2 h.2.1)]
     clear aIg b2;repeat'((conv=>whnf);first|apply And.intro|exact bA (by subst_vars;assumption)|intro h9)
     all_goals(try(conv=>whnf))<;>(subst_vars;try first|(apply Tk.mk;kernel_rfl)|exact⟨ah rfl⟩|exact⟨rfl⟩|exact⟨trivial⟩|rfl|contradiction|(apply Ob.mk;(try simp only[ag,ak,aa.ae])<;>(try dsimp only)<;>omega))
     all_goals try first|exact⟨show 0+Int.toNat (i:Int)<F.length by omega⟩
     refine⟨(),[0,1,2,3,4,5,6,7],trivial,?_⟩;repeat'((conv=>whnf);(first|apply And.intro|intro _))
     all_goals first|rfl|trivial|exact ah rfl|exact⟨rfl,rfl,rfl⟩|exact⟨rfl,rfl⟩|(rename_i r9 bx;revert r9;decide)|exact akw
    have w1:decide (ca S i<(R.length:Int))=false:=decide_eq_false b1;have akw:ca S i=kD F R S (l-t+f) i:=by rw[aIg,if_neg (fun h=>b1 h.1)]
    clear aIg;repeat'((conv=>whnf);first|apply And.intro|exact bA (by subst_vars;assumption)|intro h9)
    all_goals(try(conv=>whnf))<;>(subst_vars;try first|(apply Tk.mk;kernel_rfl)|exact⟨ah rfl⟩|exact⟨rfl⟩|exact⟨trivial⟩|rfl|contradiction|(apply Ob.mk;(try simp only[ag,ak,aa.ae])<;>(try dsimp only)<;>omega))
    refine⟨(),[0,1,2,3,4,5,6,7],trivial,?_⟩;repeat'((conv=>whnf);(first|apply And.intro|intro _))
    all_goals first|rfl|trivial|exact ah rfl|exact⟨rfl,rfl,rfl⟩|exact⟨rfl,rfl⟩|(rename_i r9 bx;revert r9;decide)|exact akw
   rintro _ _;have ayg:0<=kD F R S (l-t+f) i:=by rw[aIg];split<;>omega
   clear aIg;by_cases g5:kD F R S (l-t+f) i<(R.length:Int)
   ·have q5:decide (kD F R S (l-t+f) i<(R.length:Int))=true:=decide_eq_true g5;have aBB:=ax3 (kD F R S (l-t+f) i) ayg g5;have aAx:=ax6 (ca R (kD F R S (l-t+f) i));have atC:0+Int.toNat (kD F R S (l-t+f) i)<R.length:=by omega
    have atD:0+Int.toNat (ca R (kD F R S (l-t+f) i))<(WB f L).length:=by omega
    by_cases g6:ca (WA f L) (ca F i)+ca (WB f L) (ca R (kD F R S (l-t+f) i))<=l+t+f
    ·have q6:decide (ca (WA f L) (ca F i)+ca (WB f L) (ca R (kD F R S (l-t+f) i))<=l+t+f)=true:=decide_eq_true g6;rw[hcd false (hno hi1 (akN true (by rw[q5,q6];rfl))),if_neg (by decide)]
     clear hcd hno iB akN;repeat'((conv=>whnf);first|apply And.intro|exact bA (by subst_vars;assumption)|intro h9)
     all_goals(try(conv=>whnf))<;>(subst_vars;try first|(apply Tk.mk;kernel_rfl)|exact⟨ah rfl⟩|exact⟨rfl⟩|exact⟨trivial⟩|rfl|contradiction|(apply Ob.mk;(try simp only[ag,ak,aa.ae])<;>(try dsimp only)<;>omega))
     all_goals first|exact⟨atC⟩|exact⟨atD⟩|(refine Ob.mk ?_;show(ag .i64 (ca (WA f L) (ca F i)+ca (WB f L) (ca R (kD F R S (l-t+f) i)))).p;simp only[ag,ak,aa.ae];omega)
    have q6:decide (ca (WA f L) (ca F i)+ca (WB f L) (ca R (kD F R S (l-t+f) i))<=l+t+f)=false:=decide_eq_false g6;have hok:=akN false (by rw[q5,q6];rfl)
    clear hcd hno iB akN;repeat'((conv=>whnf);first|apply And.intro|exact bA (by subst_vars;assumption)|intro h9)
    all_goals(try(conv=>whnf))<;>(subst_vars;try first|(apply Tk.mk;kernel_rfl)|exact⟨ah rfl⟩|exact⟨rfl⟩|exact⟨trivial⟩|rfl|contradiction|(apply Ob.mk;(try simp only[ag,ak,aa.ae])<;>(try dsimp only)<;>omega))
    all_goals try first|exact⟨atC⟩|exact⟨atD⟩|(refine Ob.mk ?_;show(ag .i64 (ca (WA f L) (ca F i)+ca (WB f L) (ca R (kD F R S (l-t+f) i)))).p;simp only[ag,ak,aa.ae];omega)
    refine⟨i+1,[0,1,2,3,4,5,6,7],⟨hi1,fun j hj'=>by rcases Nat.lt_succ_iff_lt_or_eq.1 hj' with h|rfl;exact hj j h;exact hok⟩,?_,by show S.length-(i+1)<S.length-i;omega⟩
    repeat'((conv=>whnf);(first|apply And.intro|intro _))
    all_goals first|rfl|trivial|exact ah rfl|exact⟨rfl,rfl,rfl⟩|exact⟨rfl,rfl⟩|(rename_i r9 bx;revert r9;decide)
   have q5:decide (kD F R S (l-t+f) i<(R.length:Int))=false:=decide_eq_false g5;have hok:=akN false (by rw[q5];rfl)
   clear hcd hno iB akN;repeat'((conv=>whnf);first|apply And.intro|exact bA (by subst_vars;assumption)|intro h9)
   all_goals(try(conv=>whnf))<;>(subst_vars;try first|(apply Tk.mk;kernel_rfl)|exact⟨ah rfl⟩|exact⟨rfl⟩|exact⟨trivial⟩|rfl|contradiction|(apply Ob.mk;(try simp only[ag,ak,aa.ae])<;>(try dsimp only)<;>omega))
   refine⟨i+1,[0,1,2,3,4,5,6,7],⟨hi1,fun j hj'=>by rcases Nat.lt_succ_iff_lt_or_eq.1 hj' with h|rfl;exact hj j h;exact hok⟩,?_,by show S.length-(i+1)<S.length-i;omega⟩
   repeat'((conv=>whnf);(first|apply And.intro|intro _))
   all_goals first|rfl|trivial|exact ah rfl|exact⟨rfl,rfl,rfl⟩|exact⟨rfl,rfl⟩|(rename_i r9 bx;revert r9;decide)
  have q2:decide (ca S i>0)=false:=decide_eq_false g2;have akN:=apY (fun h=>absurd h g2)
  clear apj apY;repeat'((conv=>whnf);first|apply And.intro|exact bA (by subst_vars;assumption)|intro h9)
  all_goals(try(conv=>whnf))<;>(subst_vars;try first|(apply Tk.mk;kernel_rfl)|exact⟨ah rfl⟩|exact⟨rfl⟩|exact⟨trivial⟩|rfl|contradiction|(apply Ob.mk;(try simp only[ag,ak,aa.ae])<;>(try dsimp only)<;>omega))
  all_goals try first|exact⟨show 0+Int.toNat (i:Int)<S.length by omega⟩|exact⟨show 0+Int.toNat (i:Int)<F.length by omega⟩|exact⟨av2⟩
  refine⟨Unit,fun _=>True,fun _=>⟨aI 162 [4,5,10,11,12,13,75,76,77,15,16] [.a (.p 4 [] 0 0),.a (.p 5 [] 0 0),.a (.sl 6 [] 0 (WA f L).length),.a (.sl 7 [] 0 (WB f L).length),.a (vI (l-t+f)),.a (vI (l+t+f)),.a (.sl 3 [] 0 S.length),.a (vI S.length),.a (vI i),.a (vI (kD F R S (l-t+f) i)),.a (vI (ca (WA f L) (ca F i)))],[],[.arr 67 kK L false false,.arr 3 kI F false false,.arr 3 kI R false false,.arr 3 kI S false false,.box true [vI l,vI t,vI f],.box true [.sl 1 [] 0 F.length,.sl 2 [] 0 R.length,.sl 3 [] 0 S.length],.arr 3 kI (WA f L) true true,.arr 3 kI (WB f L) true true]⟩,?_,?_⟩
  ·clear hcd hno iB akN hj;by_cases b1:ca S i<(R.length:Int)
   ·have w1:decide (ca S i<(R.length:Int))=true:=decide_eq_true b1;have aq7:0+Int.toNat (ca S i)<R.length:=by omega
    by_cases b2:ca F i=0
    ·have w2:(ca F i==0)=true:=beq_iff_eq.2 b2;by_cases b3:ca R (ca S i)=0
     ·have w3:(ca R (ca S i)==0)=true:=beq_iff_eq.2 b3;by_cases b4:l-t+f<=0
      ·have w4:decide (l-t+f<=0)=true:=decide_eq_true b4;have akw:ca S i+1=kD F R S (l-t+f) i:=by rw[aIg,if_pos ⟨b1,b2,b3,b4⟩]
       clear aIg b2 b3;repeat'((conv=>whnf);first|apply And.intro|exact bA (by subst_vars;assumption)|intro h9)
       all_goals(try(conv=>whnf))<;>(subst_vars;try first|(apply Tk.mk;kernel_rfl)|exact⟨ah rfl⟩|exact⟨rfl⟩|exact⟨trivial⟩|rfl|contradiction|(apply Ob.mk;(try simp only[ag,ak,aa.ae])<;>(try dsimp only)<;>omega))
       all_goals try first|exact⟨show 0+Int.toNat (i:Int)<F.length by omega⟩|exact⟨aq7⟩|(refine Ob.mk ?_;show(ag .i64 (ca S i+1)).p;simp only[ag,ak,aa.ae];omega)|exact⟨show 0<=ca S i/\ca S i<(R.length:Int) by omega⟩
       refine⟨(),[0,1,2,3,4,5,6,7],trivial,?_⟩;repeat'((conv=>whnf);(first|apply And.intro|intro _))
       all_goals first|rfl|trivial|exact ah rfl|exact⟨rfl,rfl,rfl⟩|exact⟨rfl,rfl⟩|(rename_i r9 bx;revert r9;decide)|exact akw
      have w4:decide (l-t+f<=0)=false:=decide_eq_false b4;have akw:ca S i=kD F R S (l-t+f) i:=by rw[aIg,if_neg (fun h=>b4 h.2.2.2)]
      clear aIg b2 b3;repeat'((conv=>whnf);first|apply And.intro|exact bA (by subst_vars;assumption)|intro h9)
      all_goals(try(conv=>whnf))<;>(subst_vars;try first|(apply Tk.mk;kernel_rfl)|exact⟨ah rfl⟩|exact⟨rfl⟩|exact⟨trivial⟩|rfl|contradiction|(apply Ob.mk;(try simp only[ag,ak,aa.ae])<;>(try dsimp only)<;>omega))
      all_goals try first|exact⟨show 0+Int.toNat (i:Int)<F.length by omega⟩|exact⟨aq7⟩|exact⟨show 0<=ca S i/\ca S i<(R.length:Int) by omega⟩
      refine⟨(),[0,1,2,3,4,5,6,7],trivial,?_⟩;repeat'((conv=>whnf);(first|apply And.intro|intro _))
      all_goals first|rfl|trivial|exact ah rfl|exact⟨rfl,rfl,rfl⟩|exact⟨rfl,rfl⟩|(rename_i r9 bx;revert r9;decide)|exact akw
     have w3:(ca R (ca S i)==0)=false:=beq_eq_false_iff_ne.2 b3;have akw:ca S i=kD F R S (l-t+f) i:=by rw[aIg,if_neg (fun h=>b3 h.2.2.1)]
     clear aIg b2 b3;repeat'((conv=>whnf);first|apply And.intro|exact bA (by subst_vars;assumption)|intro h9)
     all_goals(try(conv=>whnf))<;>(subst_vars;try first|(apply Tk.mk;kernel_rfl)|exact⟨ah rfl⟩|exact⟨rfl⟩|exact⟨trivial⟩|rfl|contradiction|(apply Ob.mk;(try simp only[ag,ak,aa.ae])<;>(try dsimp only)<;>omega))
     all_goals try first|exact⟨show 0+Int.toNat (i:Int)<F.length by omega⟩|exact⟨aq7⟩|exact⟨show 0<=ca S i/\ca S i<(R.length:Int) by omega⟩
     refine⟨(),[0,1,2,3,4,5,6,7],trivial,?_⟩;repeat'((conv=>whnf);(first|apply And.intro|intro _))
     all_goals first|rfl|trivial|exact ah rfl|exact⟨rfl,rfl,rfl⟩|exact⟨rfl,rfl⟩|(rename_i r9 bx;revert r9;decide)|exact akw
    have w2:(ca F i==0)=false:=beq_eq_false_iff_ne.2 b2;have akw:ca S i=kD F R S (l-t+f) i:=by rw[aIg,if_neg (fun h=>b2 h.2.1)]
    clear aIg b2;repeat'((conv=>whnf);first|apply And.intro|exact bA (by subst_vars;assumption)|intro h9)
    all_goals(try(conv=>whnf))<;>(subst_vars;try first|(apply Tk.mk;kernel_rfl)|exact⟨ah rfl⟩|exact⟨rfl⟩|exact⟨trivial⟩|rfl|contradiction|(apply Ob.mk;(try simp only[ag,ak,aa.ae])<;>(try dsimp only)<;>omega))
    all_goals try first|exact⟨show 0+Int.toNat (i:Int)<F.length by omega⟩
    refine⟨(),[0,1,2,3,4,5,6,7],trivial,?_⟩;repeat'((conv=>whnf);(first|apply And.intro|intro _))
    all_goals first|rfl|trivial|exact ah rfl|exact⟨rfl,rfl,rfl⟩|exact⟨rfl,rfl⟩|(rename_i r9 bx;revert r9;decide)|exact akw
   have w1:decide (ca S i<(R.length:Int))=false:=decide_eq_false b1;have akw:ca S i=kD F R S (l-t+f) i:=by rw[aIg,if_neg (fun h=>b1 h.1)]
   clear aIg;repeat'((conv=>whnf);first|apply And.intro|exact bA (by subst_vars;assumption)|intro h9)
   all_goals(try(conv=>whnf))<;>(subst_vars;try first|(apply Tk.mk;kernel_rfl)|exact⟨ah rfl⟩|exact⟨rfl⟩|exact⟨trivial⟩|rfl|contradiction|(apply Ob.mk;(try simp only[ag,ak,aa.ae])<;>(try dsimp only)<;>omega))
   refine⟨(),[0,1,2,3,4,5,6,7],trivial,?_⟩;repeat'((conv=>whnf);(first|apply And.intro|intro _))
   all_goals first|rfl|trivial|exact ah rfl|exact⟨rfl,rfl,rfl⟩|exact⟨rfl,rfl⟩|(rename_i r9 bx;revert r9;decide)|exact akw
  rintro _ _;have ayg:0<=kD F R S (l-t+f) i:=by rw[aIg];split<;>omega
  clear aIg;by_cases g5:kD F R S (l-t+f) i<(R.length:Int)
  ·have q5:decide (kD F R S (l-t+f) i<(R.length:Int))=true:=decide_eq_true g5;have aBB:=ax3 (kD F R S (l-t+f) i) ayg g5;have aAx:=ax6 (ca R (kD F R S (l-t+f) i));have atC:0+Int.toNat (kD F R S (l-t+f) i)<R.length:=by omega
   have atD:0+Int.toNat (ca R (kD F R S (l-t+f) i))<(WB f L).length:=by omega
   by_cases g6:ca (WA f L) (ca F i)+ca (WB f L) (ca R (kD F R S (l-t+f) i))<=l+t+f
   ·have q6:decide (ca (WA f L) (ca F i)+ca (WB f L) (ca R (kD F R S (l-t+f) i))<=l+t+f)=true:=decide_eq_true g6;rw[hcd false (hno hi1 (akN true (by rw[q5,q6];rfl))),if_neg (by decide)]
    clear hcd hno iB akN;repeat'((conv=>whnf);first|apply And.intro|exact bA (by subst_vars;assumption)|intro h9)
    all_goals(try(conv=>whnf))<;>(subst_vars;try first|(apply Tk.mk;kernel_rfl)|exact⟨ah rfl⟩|exact⟨rfl⟩|exact⟨trivial⟩|rfl|contradiction|(apply Ob.mk;(try simp only[ag,ak,aa.ae])<;>(try dsimp only)<;>omega))
    all_goals first|exact⟨atC⟩|exact⟨atD⟩|(refine Ob.mk ?_;show(ag .i64 (ca (WA f L) (ca F i)+ca (WB f L) (ca R (kD F R S (l-t+f) i)))).p;simp only[ag,ak,aa.ae];omega)
   have q6:decide (ca (WA f L) (ca F i)+ca (WB f L) (ca R (kD F R S (l-t+f) i))<=l+t+f)=false:=decide_eq_false g6;have hok:=akN false (by rw[q5,q6];rfl)
   clear hcd hno iB akN;repeat'((conv=>whnf);first|apply And.intro|exact bA (by subst_vars;assumption)|intro h9)
   all_goals(try(conv=>whnf))<;>(subst_vars;try first|(apply Tk.mk;kernel_rfl)|exact⟨ah rfl⟩|exact⟨rfl⟩|exact⟨trivial⟩|rfl|contradiction|(apply Ob.mk;(try simp only[ag,ak,aa.ae])<;>(try dsimp only)<;>omega))
   all_goals try first|exact⟨atC⟩|exact⟨atD⟩|(refine Ob.mk ?_;show(ag .i64 (ca (WA f L) (ca F i)+ca (WB f L) (ca R (kD F R S (l-t+f) i)))).p;simp only[ag,ak,aa.ae];omega)
   refine⟨i+1,[0,1,2,3,4,5,6,7],⟨hi1,fun j hj'=>by rcases Nat.lt_succ_iff_lt_or_eq.1 hj' with h|rfl;exact hj j h;exact hok⟩,?_,by show S.length-(i+1)<S.length-i;omega⟩
   repeat'((conv=>whnf);(first|apply And.intro|intro _))
   all_goals first|rfl|trivial|exact ah rfl|exact⟨rfl,rfl,rfl⟩|exact⟨rfl,rfl⟩|(rename_i r9 bx;revert r9;decide)
  have q5:decide (kD F R S (l-t+f) i<(R.length:Int))=false:=decide_eq_false g5;have hok:=akN false (by rw[q5];rfl)
  clear hcd hno iB akN;repeat'((conv=>whnf);first|apply And.intro|exact bA (by subst_vars;assumption)|intro h9)
  all_goals(try(conv=>whnf))<;>(subst_vars;try first|(apply Tk.mk;kernel_rfl)|exact⟨ah rfl⟩|exact⟨rfl⟩|exact⟨trivial⟩|rfl|contradiction|(apply Ob.mk;(try simp only[ag,ak,aa.ae])<;>(try dsimp only)<;>omega))
  refine⟨i+1,[0,1,2,3,4,5,6,7],⟨hi1,fun j hj'=>by rcases Nat.lt_succ_iff_lt_or_eq.1 hj' with h|rfl;exact hj j h;exact hok⟩,?_,by show S.length-(i+1)<S.length-i;omega⟩
  repeat'((conv=>whnf);(first|apply And.intro|intro _))
  all_goals first|rfl|trivial|exact ah rfl|exact⟨rfl,rfl,rfl⟩|exact⟨rfl,rfl⟩|(rename_i r9 bx;revert r9;decide)
 have p0:decide ((i:Int)<(S.length:Int))=false:=decide_eq_false (by omega)
 rw[hcd true (iB (fun j hj'=>hj j (by omega))),if_pos rfl]
 clear hcd hno iB;repeat'((conv=>whnf);first|apply And.intro|exact bA (by subst_vars;assumption)|intro h9)
 all_goals(try(conv=>whnf))<;>(subst_vars;try first|(apply Tk.mk;kernel_rfl)|exact⟨ah rfl⟩|exact⟨rfl⟩|exact⟨trivial⟩|rfl|contradiction|(apply Ob.mk;(try simp only[ag,ak,aa.ae])<;>(try dsimp only)<;>omega)))
end Go.Proofs.Ytccnimhgjjnmoaa
end
section
namespace Go.Proofs.Ytccnimhgjjnmoaa
open Go Go.Sy Go.dg
variable {Γ:bn}
theorem atJ {R:List Int} (h:R.Nodup) {i j:Nat} {hi:i<R.length} {hj:j<R.length} (e:R[i]=R[j]):i=j:=by
 have hp:=List.pairwise_iff_getElem.1 (List.nodup_iff_pairwise_ne.1 h);rcases Nat.lt_trichotomy i j with h|h|h
 ·exact absurd e (hp i j hi hj h)
 ·exact h
 ·exact absurd e.symm (hp j i hj hi h)
theorem an8 {W S:List Int} (h:Lk W S):Bf S W=true:=by
 refine amW.2 ⟨h.len,fun i hi=>?_⟩
 have hl:=h.len;have hm:=h.perm.mem_iff.1 (List.getElem_mem hi);obtain⟨j,hj,he⟩:=List.mem_map.1 hm;have akD:=List.mem_range.1 hj;have hg:gA S i=S[i]:=Sh hi;have iP:S.Nodup:=h.perm.nodup_iff.2 (by
  refine List.pairwise_map.2 ((List.nodup_range (n:=W.length)).imp fun h e=>h (Int.ofNat.inj e))
  )
 unfold nD;rw[Bool.and_eq_true,Bool.and_eq_true,akk];refine⟨by rw[hg,<-he];exact⟨Int.natCast_nonneg j,by show(j:Int)<=_;omega⟩,?_,?_⟩
 ·rw[Bool.not_eq_true',Bool.eq_false_iff];intro hc;rw[List.contains_iff_mem,hg]at hc;obtain⟨k,hk,e⟩:=List.mem_iff_getElem.1 hc;rw[List.length_take]at hk;rw[List.getElem_take]at e;have:=atJ iP e;omega
 ·by_cases e:i=0
  ·rw[decide_eq_true e];rfl
  ·rw[decide_eq_false e,Bool.false_or,Bool.not_eq_true'];have:=h.up (i-1) i (Nat.zero_le _) (by omega) (by omega)
   exact decide_eq_false (by omega)
structure aum (W F:List Int):Prop where
 len:F.length=W.length
 inr:∀ i,i<F.length->0<=gA F i/\gA F i<(W.length:Int)
 nd:F.Nodup
 up:kM (cw W) 0 F.length F
theorem amV {W F:List Int} (h:Bf F W=true):aum W F:=by
 obtain⟨h1,h2⟩:=amW.1 h;refine⟨h1,fun i hi=>an7 (h2 i hi),?_,?_⟩
 ·rw[List.nodup_iff_pairwise_ne,List.pairwise_iff_getElem];intro i j hi hj hij e;have:=h2 j hj;unfold nD at this;rw[Bool.and_eq_true,Bool.and_eq_true,Bool.not_eq_true',Bool.eq_false_iff]at this;refine this.2.1 ?_;rw[List.contains_iff_mem,Sh hj,<-e];exact List.mem_iff_getElem.2 ⟨i,by rw[List.length_take];omega,by rw[List.getElem_take]⟩
 ·have step:∀ j,0<j->j<F.length->cw W (gA F (j-1))<=cw W (gA F j):=fun j h0 hj=>by
   have:=h2 j hj;unfold nD at this;rw[Bool.and_eq_true,Bool.and_eq_true,Bool.or_eq_true,decide_eq_true_eq,Bool.not_eq_true',Bool.not_eq_true',decide_eq_false_iff_not]at this;rcases this.2.2 with h|h<;>omega
  have chain:∀ d i,i+d<F.length->cw W (gA F i)<=cw W (gA F (i+d)):=by
   intro d;induction d with
   |zero=>intro i _;exact Int.le_refl _
   |succ d ih=>
    intro i hi;have a1:=ih i (by omega)
    have a2:=step (i+(d+1)) (by omega) hi
    rw[show i+(d+1)-1=i+d by omega]at a2
    omega
  intro i j _ hij hj;have:=chain (j-i) i (by omega)
  rwa[show i+(j-i)=j by omega]at this
theorem aum.has {W F:List Int} (h:aum W F) {x:Nat} (hx:x<W.length):∃ i,i<F.length/\gA F i=(x:Int):=by
 have:=atM (n:=W.length) h.nd (fun y hy=>by
  obtain⟨i,hi,rfl⟩:=List.mem_iff_getElem.1 hy;rw[<-Sh hi];exact h.inr i hi) h.len (x:=(x:Int)) (by omega) (by omega)
 obtain⟨i,hi,e⟩:=List.mem_iff_getElem.1 this;exact⟨i,hi,by rw[Sh hi];exact e⟩
theorem akG {R:List Int} {j:Nat}:cw R (j:Int)=gA R j:=by unfold cw gA;rw[Int.toNat_natCast]
theorem aqd {f:Int} {L:List Bk} {p q:Nat} (hp:p<2^(pA L).length) (hq:q<2^(pB L).length):cw (WA f L) (p:Int)+cw (WB f L) (q:Int)=wN f L (p+2^(pA L).length*q):=by
 have apT:pA L++pB L=L:=by show sub L 0 (gv L.length)++sub L (0+gv L.length) (L.length-gv L.length)=L;rw[Nat.zero_add];exact alG L _
 rw[akG,akG];unfold gA;rw[aoE f (pA L) hp,aoE f (pB L) hq,<-at6 f (pA L) (pB L) p q hp,apT]
theorem ao1 (L:List Bk):(pA L).length+(pB L).length=L.length:=by
 have apT:pA L++pB L=L:=by show sub L 0 (gv L.length)++sub L (0+gv L.length) (L.length-gv L.length)=L;rw[Nat.zero_add];exact alG L _
 rw[<-List.length_append,apT]
theorem aw3 {L:List Bk} {p q:Nat} (hp:p<2^(pA L).length) (hq:q<2^(pB L).length):p+2^(pA L).length*q<2^L.length:=by
 rw[<-ao1 L,Nat.pow_add];have:2^(pA L).length*(q+1)<=2^(pA L).length*2^(pB L).length:=Nat.mul_le_mul_left _ hq;rw[Nat.mul_add]at this;omega
theorem avi {l t f:Int} {L:List Bk} (h:gf l t f L=[]) {s:Nat} (hs:s<2^L.length) (h0:s≠0) (h1:l-t+f<=wN f L s):l+t+f<wN f L s:=Classical.byContradiction fun hn=>by
 have:akv l t f L s=true:=amx.2 ⟨h0,by omega,by omega⟩
 have hm:((s:Nat):Int)∈gf l t f L:=aoq.2 ⟨s,rfl,hs,this⟩;rw[h]at hm;cases hm
theorem awA {l t f:Int} {L:List Bk} {F R:List Int} (hg:gf l t f L=[]) (hF:Lk (WA f L) F) (hR:Lk (WB f L) R):akK (WA f L) (WB f L) F R (akT (WA f L) (WB f L) R l t f F) (l-t+f) (l+t+f)=true:=by
 have tF:=amV (an8 hF);have tR:=amV (an8 hR);have az9:(WA f L).length=2^(pA L).length:=x7 f (pA L);have akA:(WB f L).length=2^(pB L).length:=x7 f (pB L);have ax4:=amS (WA f L) (WB f L) R F l t f;refine aqS (an8 hF) (an8 hR) ax4 fun i hi=>?_
 rw[ax4]at hi;have hS:gA (akT (WA f L) (WB f L) R l t f F) i=((R.countP (qD (WA f L) (WB f L) (gA F i) l t f):Nat):Int):=by
  rw[Sh (by rw[ax4];exact hi)]
  unfold akT;rw[List.getElem_map,Sh hi]
 obtain⟨c1,c2,c3⟩:=as4 (q:=qD (WA f L) (WB f L) (gA F i) l t f) (R:=R) (arm tR.up);obtain⟨a,ha⟩:∃ a:Nat,gA F i=(a:Int):=⟨(gA F i).toNat,by have:=tF.inr i hi;omega⟩
 have aoT:a<2^(pA L).length:=by have:=tF.inr i hi;omega
 have hb:∀ j,j<R.length->∃ b:Nat,gA R j=(b:Int)/\b<2^(pB L).length:=fun j hj=>by
  have:=tR.inr j hj;exact⟨(gA R j).toNat,by omega,by omega⟩
 have atx:∀ j,R.countP (qD (WA f L) (WB f L) (gA F i) l t f)<=j->j<R.length->¬(gA F i=0/\gA R j=0)->l+t+f<cw (WA f L) (gA F i)+cw (WB f L) (gA R j):=fun j h1 h2 h3=>by
  have h4:=c3 j h1 h2;unfold qD at h4;simp only[decide_eq_false_iff_not]at h4;obtain⟨b,Kj,Y8⟩:=hb j h2;have h4:¬cw (WA f L) (gA F i)+cw (WB f L) (gA R j)<l-t+f:=h4;rw[ha,Kj]at h3 h4 ⊢;rw[aqd aoT Y8]at h4 ⊢;have hpos:=Nat.two_pow_pos (pA L).length;refine avi hg (aw3 aoT Y8) (fun h=>h3 ?_) (by omega)
  have:a=0:=by omega
  subst this;rcases Nat.mul_eq_zero.1 (show 2^(pA L).length*b=0 by omega)with h|h
  ·omega
  ·subst h;exact⟨rfl,rfl⟩
 unfold alF;rw[Bool.and_eq_true,Bool.and_eq_true,akk,Bool.not_eq_true',Bool.not_eq_true',Bool.and_eq_false_iff,Bool.and_eq_false_iff,decide_eq_false_iff_not,decide_eq_false_iff_not,decide_eq_false_iff_not,decide_eq_false_iff_not];rw[hS];generalize hk:R.countP (qD (WA f L) (WB f L) (gA F i) l t f)=k at*;refine⟨by omega,?_,?_⟩
 ·by_cases h0:0<k
  ·right
   have h4:=c2 (k-1) (by omega)
   unfold qD at h4;simp only[decide_eq_true_eq]at h4;rw[show((k:Int)-1)=((k-1:Nat):Int) by omega,akG]
   have h4:cw (WA f L) (gA F i)+cw (WB f L) (gA R (k-1))<l-t+f:=h4;omega
  ·left;omega
 ·have akw:kD F R (akT (WA f L) (WB f L) R l t f F) (l-t+f) i=if(k:Int)<(R.length:Int)/\gA F i=0/\cw R (k:Int)=0/\l-t+f<=0 then(k:Int)+1 else(k:Int):=by unfold kD;rw[hS]
  rw[akw];by_cases hc:(k:Int)<(R.length:Int)/\gA F i=0/\cw R (k:Int)=0/\l-t+f<=0
  ·rw[if_pos hc];by_cases hlt:(k:Int)+1<(R.length:Int)
   ·right
    rw[show((k:Int)+1)=((k+1:Nat):Int) by omega,akG]
    have hne:gA R (k+1)≠0:=fun e=>by
     have e2:=hc.2.2.1;rw[akG]at e2;rw[Sh (by omega)]at e e2
     have:=atJ tR.nd (e.trans e2.symm);omega
    have:=atx (k+1) (by omega) (by omega) (fun h=>hne h.2)
    omega
   ·left;exact hlt
  ·rw[if_neg hc];by_cases hlt:(k:Int)<(R.length:Int)
   ·right
    rw[akG]at hc ⊢;by_cases hz:gA F i=0/\gA R k=0
    ·have h4:=c3 k (Nat.le_refl _) (by omega)
     unfold qD at h4;simp only[decide_eq_false_iff_not]at h4;have h4:¬cw (WA f L) (gA F i)+cw (WB f L) (gA R k)<l-t+f:=h4;have Kt:cw (WA f L) (gA F i)+cw (WB f L) (gA R k)=0:=by
      rw[hz.1,hz.2];have:=aqd (f:=f) (L:=L) (p:=0) (q:=0) (Nat.two_pow_pos _) (Nat.two_pow_pos _);simpa[akU]using this
     exact absurd ⟨hlt,hz.1,hz.2,by omega⟩ hc
    ·have:=atx k (Nat.le_refl _) (by omega) hz
     omega
   ·left;exact hlt
theorem auH {l t f:Int} {L:List Bk} {F R S:List Int} (h:akK (WA f L) (WB f L) F R S (l-t+f) (l+t+f)=true):gf l t f L=[]:=Classical.byContradiction fun hne=>by
 obtain⟨h1,h2,h3,h4⟩:=awz.1 h;have tF:=amV h1;have tR:=amV h2;have az9:(WA f L).length=2^(pA L).length:=x7 f (pA L);have akA:(WB f L).length=2^(pB L).length:=x7 f (pB L);obtain⟨z,hz⟩:=List.exists_mem_of_ne_nil _ hne;obtain⟨s,rfl,hs,hgd⟩:=aoq.1 hz;obtain⟨g0,g1,g2⟩:=amx.1 hgd;have hpos:=Nat.two_pow_pos (pA L).length;have avZ:s=s%2^(pA L).length+2^(pA L).length*(s / 2^(pA L).length):=(Nat.mod_add_div _ _).symm;have hp:s%2^(pA L).length<2^(pA L).length:=Nat.mod_lt _ hpos;have hq:s / 2^(pA L).length<2^(pB L).length:=by
  rw[Nat.div_lt_iff_lt_mul hpos,Nat.mul_comm,<-Nat.pow_add,ao1];exact hs
 have hw:=aqd (f:=f) hp hq;rw[<-avZ]at hw;obtain⟨i,hi,ei⟩:=tF.has (x:=s%2^(pA L).length) (by omega)
 obtain⟨j,hj,ej⟩:=tR.has (x:=s / 2^(pA L).length) (by omega)
 rw[<-ei,<-ej]at hw;have hok:=h4 i (by omega)
 unfold alF at hok;rw[Bool.and_eq_true,Bool.and_eq_true,akk,Bool.not_eq_true',Bool.not_eq_true',Bool.and_eq_false_iff,Bool.and_eq_false_iff,decide_eq_false_iff_not,decide_eq_false_iff_not,decide_eq_false_iff_not,decide_eq_false_iff_not]at hok;obtain⟨⟨k0,k1⟩,k2,k3⟩:=hok;obtain⟨k,hk⟩:∃ k:Nat,gA S i=(k:Int):=⟨(gA S i).toNat,by omega⟩
 rw[hk]at k0 k1 k2;rcases Nat.lt_or_ge j k with vb|vb
 ·rcases k2 with k2|k2
  ·omega
  ·rw[show((k:Int)-1)=((k-1:Nat):Int) by omega,akG]at k2
   have:=tR.up.le (i:=j) (j:=k-1) (Nat.zero_le _) (by omega) (by omega)
   omega
 ·have akw:kD F R S (l-t+f) i=if(k:Int)<(R.length:Int)/\gA F i=0/\cw R (k:Int)=0/\l-t+f<=0 then(k:Int)+1 else(k:Int):=by unfold kD;rw[hk]
  rw[akw]at k3;by_cases hc:(k:Int)<(R.length:Int)/\gA F i=0/\cw R (k:Int)=0/\l-t+f<=0
  ·rw[if_pos hc]at k3;have aAB:j≠k:=fun e=>by
    subst e;have e2:=hc.2.2.1;rw[akG,ej]at e2;have e1:=hc.2.1;rw[ei]at e1;have a1:s%2^(pA L).length=0:=by omega
    have a2:s / 2^(pA L).length=0:=by omega
    rw[a1,a2]at avZ;exact g0 (by simpa using avZ)
   rcases k3 with k3|k3
   ·omega
   ·rw[show((k:Int)+1)=((k+1:Nat):Int) by omega,akG]at k3
    have:=tR.up.le (i:=k+1) (j:=j) (Nat.zero_le _) (by omega) (by omega)
    omega
  ·rw[if_neg hc]at k3;rcases k3 with k3|k3
   ·omega
   ·rw[akG]at k3;have:=tR.up.le (i:=k) (j:=j) (Nat.zero_le _) (by omega) (by omega)
    omega
end Go.Proofs.Ytccnimhgjjnmoaa
end
section
namespace Go.Proofs.Ytccnimhgjjnmoaa
open Go Go.Sy Go.dg
variable {Γ:bn}
def avM (D:List Bk->Int->Int->Int->Int->Int->List aa) (F:List Bk->Int->Int->Int->Int->Int->Tm):au:=.fn fun args rg=>match args with
 |[.a x0,.agg [.v (.int .i64 n0),.v (.int .i64 n1),.v (.int .i64 n2)],.a (.v (.int .i64 n3)),.a (.v (.int .i64 n4))]=>(match ac1 67 kK rg x0 with|some (q0,L0)=>some (q0++(D L0 n0 n1 n2 n3 n4),F L0 n0 n1 n2 n3 n4)|_=>none)
 |_=>none
theorem auQ {f:FuncId} {b:Body} {E:Env} {d:Nat} (hP:aL Try.prog Γ E) (hb:bQ Try.prog f b) {D:List Bk->Int->Int->Int->Int->Int->List aa} {F:List Bk->Int->Int->Int->Int->Int->Tm} (hp:∀ (L0:List Bk) (n0:Int) (n1:Int) (n2:Int) (n3:Int) (n4:Int),(F L0 n0 n1 n2 n3 n4).plain=true)
 (H:∀ (L0:List Bk) (n0:Int) (n1:Int) (n2:Int) (n3:Int) (n4:Int),bW (D L0 n0 n1 n2 n3 n4)->cQ E d b [.a (.sl 0 [] 0 L0.length),.agg [vI n0,vI n1,vI n2],.a (vI n3),.a (vI n4)] [.arr 67 kK L0 false false] (fun x _=>iL x (F L0 n0 n1 n2 n3 n4))):au.Ok Try.prog Γ f (avM D F):=au.aBp (d:=d) hP hb (by
 intro args rg q t hF hq;split at hF;next x0 n0 n1 n2 n3 n4=>
  split at hF;next q0 L0 hx0=>
   obtain⟨rfl,rfl⟩:=Prod.mk.inj (Option.some.inj hF);clear hF;rw[aH]at hq;obtain⟨aIh,hD⟩:=hq;obtain⟨e0,Vn⟩:=bP (by simp[kK]) hx0 aIh
   obtain⟨p0,r0⟩:=Vn [e0] 0 1 rfl (by omega)
   refine⟨hp _ _ _ _ _ _,[e0],[.a (.sl 0 [] 0 L0.length),.agg [vI n0,vI n1,vI n2],.a (vI n3),.a (vI n4)],[.arr 67 kK L0 false false],⟨⟨p0,⟨rfl,rfl,rfl,trivial⟩,rfl,rfl,trivial⟩,fun r g hg=>?_⟩,H _ _ _ _ _ _ hD⟩
   match r,hg with
   |0,hg=>obtain rfl:=Option.some.inj hg;exact r0
  next=>cases hF
 next=>cases hF)
attribute [local irreducible] ck wN kG aQ
def lj (l s:Int) (j:Nat):Int:=l+(j:Int)*s
theorem awY (l s:Int) (j:Nat):lj l s j+s=lj l s (j+1):=by
 unfold lj;rw[Int.natCast_add,Int.add_mul];omega
theorem azc {l s:Int} {m j:Nat} (hs:0<=s) (h:l+s*((m:Int)-1)<=1125899906842624) (hj:j<m):l<=lj l s j/\lj l s j<=1125899906842624:=by
 unfold lj;have h1:(j:Int)*s<=((m:Int)-1)*s:=Int.mul_le_mul_of_nonneg_right (by omega) hs
 have h2:0<=(j:Int)*s:=Int.mul_nonneg (by omega) hs
 rw[Int.mul_comm ((m:Int)-1) s]at h1;omega
theorem ayC {s m:Int} (hs:1<=s/\s<=1125899906842624) (hm:1<=m/\m<=200):0<=s*(m-1)/\s*(m-1)<=224054081461682176:=by
 have h1:s*(m-1)<=1125899906842624*(m-1):=Int.mul_le_mul_of_nonneg_right (by omega) (by omega)
 have h2:0<=s*(m-1):=Int.mul_nonneg (by omega) (by omega)
 omega
def atL (L:List Bk) (l t f s:Int) (j:Nat):Bool:=kG f (lj l s j-t+f) (lj l s j+t+f) L==0
def aow (L:List Bk) (l t f s:Int) (m:Nat):Nat:=match (List.range m).find? (atL L l t f s)with|some j=>j|none=>m
theorem ayM {L:List Bk} {l t f s:Int} {m j:Nat} (hj:j<m) (h:atL L l t f s j=true) (h0:∀ i,i<j->atL L l t f s i=false):aow L l t f s m=j:=by
 unfold aow;rw[anS hj h h0]
theorem aw7 {L:List Bk} {l t f s:Int} {m:Nat} (h0:∀ i,i<m->atL L l t f s i=false):aow L l t f s m=m:=by
 unfold aow;rw[List.find?_eq_none.2 (fun j hj=>by rw[h0 j (List.mem_range.1 hj)];decide)]
def aky (L:List Bk) (l t f s m:Int):Int×Int:=
 if bf L l t f=0 then(if aQ s 1 1125899906842624=true/\aQ m 1 200=true then(if l+s*(m-1)>1125899906842624 then(0,3)else(((aow L l t f s m.toNat:Nat):Int),0))else(0,1))else(0,bf L l t f)
def apA:au:=avM (fun L _ _ _ _ _=>[(aa.of (L.length<=1000000))]) (fun L l t f s m=> .bF [.a (vI (aky L l t f s m).1),.a (vI (aky L l t f s m).2)])
noncomputable def awg:List (Nat×au):=[(54,aBa),(67,gK),(57,alk)]
theorem arB:aR Try.prog Γ awg:=(((aR.nil.cons (aj Try.func57 rfl rfl).fn akY).cons (aj Try.func67 rfl rfl).fn fw).cons (aj Try.func54 rfl rfl).fn fQ)
theorem aqx:au.Ok Try.prog Γ 35 apA:=auQ (d:=0) (aP arB bq.nil false 0) (aj Try.func35 rfl rfl) (fun _ _ _ _ _ _=>rfl) (by
 intro L l t f s m ⟨hL,_⟩;simp only[aa.ae]at hL;have hone:=akP L l t f;cases h0:bf L l t f==0
 ·have e0:(lu L [(l,t,f)]!=0)=true:=by rw[hone];unfold bne;rw[h0];rfl
  rw[show aky L l t f s m=(0,bf L l t f) by unfold aky;rw[if_neg (by simpa using h0)]]
  repeat'((conv=>whnf);first|apply And.intro|exact bA (by subst_vars;assumption)|intro h9)
  all_goals(try(conv=>whnf))<;>(subst_vars;try first|(apply Tk.mk;kernel_rfl)|exact⟨ah rfl⟩|exact⟨rfl⟩|exact⟨trivial⟩|rfl|contradiction|(apply Ob.mk;(try simp only[ag,ak,aa.ae])<;>(try dsimp only)<;>omega))
  all_goals first|trivial|exact⟨hL⟩
 have e0:(lu L [(l,t,f)]!=0)=false:=by rw[hone];unfold bne;rw[h0];rfl
 have h1:=eq_of_beq h0;obtain⟨hB,hw⟩:=gg h1;obtain⟨hl,ht,hf⟩:=wE hw;cases w1:aQ s 1 1125899906842624
 ·have f1:(!aQ s 1 1125899906842624)=true:=by rw[w1];rfl
  rw[show aky L l t f s m=(0,1) by unfold aky;rw[if_pos h1,if_neg (by rw[w1];simp)]]
  repeat'((conv=>whnf);first|apply And.intro|exact bA (by subst_vars;assumption)|intro h9)
  all_goals(try(conv=>whnf))<;>(subst_vars;try first|(apply Tk.mk;kernel_rfl)|exact⟨ah rfl⟩|exact⟨rfl⟩|exact⟨trivial⟩|rfl|contradiction|(apply Ob.mk;(try simp only[ag,ak,aa.ae])<;>(try dsimp only)<;>omega))
  all_goals first|trivial|exact⟨hL⟩
 have f1:(!aQ s 1 1125899906842624)=false:=by rw[w1];rfl
 cases w2:aQ m 1 200
 ·have f2:(!aQ m 1 200)=true:=by rw[w2];rfl
  rw[show aky L l t f s m=(0,1) by unfold aky;rw[if_pos h1,if_neg (by rw[w2];simp)]]
  repeat'((conv=>whnf);first|apply And.intro|exact bA (by subst_vars;assumption)|intro h9)
  all_goals(try(conv=>whnf))<;>(subst_vars;try first|(apply Tk.mk;kernel_rfl)|exact⟨ah rfl⟩|exact⟨rfl⟩|exact⟨trivial⟩|rfl|contradiction|(apply Ob.mk;(try simp only[ag,ak,aa.ae])<;>(try dsimp only)<;>omega))
  all_goals first|trivial|exact⟨hL⟩
 have f2:(!aQ m 1 200)=false:=by rw[w2];rfl
 have u1:=akk.1 w1;have u2:=akk.1 w2;have hml:=ayC u1 u2;have r1:ak .i64 (s*(m-1)):=by simp only[ak];omega
 have r2:ak .i64 (l+s*(m-1)):=by simp only[ak];omega
 by_cases h3:l+s*(m-1)>1125899906842624
 ·have p3:decide (l+s*(m-1)>1125899906842624)=true:=decide_eq_true h3;rw[show aky L l t f s m=(0,3) by unfold aky;rw[if_pos h1,if_pos ⟨w1,w2⟩,if_pos h3]]
  repeat'((conv=>whnf);first|apply And.intro|exact bA (by subst_vars;assumption)|intro h9)
  all_goals(try(conv=>whnf))<;>(subst_vars;try first|(apply Tk.mk;kernel_rfl)|exact⟨ah rfl⟩|exact⟨rfl⟩|exact⟨trivial⟩|rfl|contradiction|(apply Ob.mk;(try simp only[ag,ak,aa.ae])<;>(try dsimp only)<;>omega))
  all_goals first|trivial|exact⟨hL⟩
 have p3:decide (l+s*(m-1)>1125899906842624)=false:=decide_eq_false h3;rw[show aky L l t f s m=(((aow L l t f s m.toNat:Nat):Int),0) by unfold aky;rw[if_pos h1,if_pos ⟨w1,w2⟩,if_neg h3]]
 obtain⟨m,rfl⟩:∃ k:Nat,m=(k:Int):=⟨m.toNat,by omega⟩
 rw[Int.toNat_natCast];have aAl:∀ j,j<m->l<=lj l s j/\lj l s j<=1125899906842624:=fun j hj=>azc (by omega) (by omega) hj
 have ZX:l=lj l s 0:=by unfold lj;simp
 have UW:0<=t/\t<=1152921504606846976:=by omega
 repeat'((conv=>whnf);first|apply And.intro|exact bA (by subst_vars;assumption)|intro h9)
 all_goals(try(conv=>whnf))<;>(subst_vars;try first|(apply Tk.mk;kernel_rfl)|exact⟨ah rfl⟩|exact⟨rfl⟩|exact⟨trivial⟩|rfl|contradiction|(apply Ob.mk;(try simp only[ag,ak,aa.ae])<;>(try dsimp only)<;>omega))
 all_goals try first|exact⟨hL⟩
 refine⟨Nat,fun j=>j<=m/\∀ i,i<j->atL L l t f s i=false,fun j=>⟨aI 51 [0,2,3,5,35,36] [.a (.sl 0 [] 0 L.length),.a (vI s),.a (vI m),.a (.p 1 [] 0 0),.a (vI m),.a (vI j)],[],[.arr 67 kK L false false,.box true [vI (lj l s j),vI t,vI f]]⟩,fun j=>m-j,0,[0,1],⟨Nat.zero_le _,fun i h=>absurd h (Nat.not_lt_zero i)⟩,?_,?_⟩
 ·repeat'((conv=>whnf)<;>first|apply And.intro|intro _|rfl|trivial|exact ah rfl|exact aS ‹_› rfl|exact aT ‹_› rfl|((repeat' first|rfl|constructor);done)|exact ZX)
 clear ZX;rintro j ⟨hj,hno⟩;by_cases Ho:j<m
 ·have p0:decide ((j:Int)<(m:Int))=true:=decide_eq_true (by omega)
  have hb:=aAl j Ho;have jJ:-1152921504606846976<=lj l s j/\lj l s j<=1152921504606846976:=by omega
  have r3:ak .i64 (lj l s j+s):=by simp only[ak];omega
  cases hq:kG f (lj l s j-t+f) (lj l s j+t+f) L==0
  ·have hst:=awY l s j;repeat'((conv=>whnf);first|apply And.intro|exact bA (by subst_vars;assumption)|intro h9)
   all_goals(try(conv=>whnf))<;>(subst_vars;try first|(apply Tk.mk;kernel_rfl)|exact⟨ah rfl⟩|exact⟨rfl⟩|exact⟨trivial⟩|rfl|contradiction|(apply Ob.mk;(try simp only[ag,ak,aa.ae])<;>(try dsimp only)<;>omega))
   all_goals try first|exact⟨hB⟩
   refine⟨j+1,[0,1],⟨Ho,fun i hi=>by rcases Nat.lt_succ_iff_lt_or_eq.1 hi with h|rfl;exact hno i h;exact hq⟩,?_,by show m-(j+1)<m-j;omega⟩
   repeat'((conv=>whnf)<;>first|apply And.intro|intro _|rfl|trivial|exact ah rfl|exact aS ‹_› rfl|exact aT ‹_› rfl|((repeat' first|rfl|constructor);done)|exact hst)
  rw[ayM Ho hq hno];repeat'((conv=>whnf);first|apply And.intro|exact bA (by subst_vars;assumption)|intro h9)
  all_goals(try(conv=>whnf))<;>(subst_vars;try first|(apply Tk.mk;kernel_rfl)|exact⟨ah rfl⟩|exact⟨rfl⟩|exact⟨trivial⟩|rfl|contradiction|(apply Ob.mk;(try simp only[ag,ak,aa.ae])<;>(try dsimp only)<;>omega))
  all_goals first|trivial|exact⟨hB⟩
 have p0:decide ((j:Int)<(m:Int))=false:=decide_eq_false (by omega)
 rw[aw7 (fun i hi=>hno i (by omega))]
 repeat'((conv=>whnf);first|apply And.intro|exact bA (by subst_vars;assumption)|intro h9)
 all_goals(try(conv=>whnf))<;>(subst_vars;try first|(apply Tk.mk;kernel_rfl)|exact⟨ah rfl⟩|exact⟨rfl⟩|exact⟨trivial⟩|rfl|contradiction|(apply Ob.mk;(try simp only[ag,ak,aa.ae])<;>(try dsimp only)<;>omega))
 all_goals first|trivial)
end Go.Proofs.Ytccnimhgjjnmoaa
end
section
namespace Go.Proofs.Ytccnimhgjjnmoaa
open Go Go.Sy Go.dg
variable {Γ:bn}
def ap5 (D:List Bk->Int->Int->Int->Int->Int->Int->List aa) (Rk:List Bk->Int->Int->Int->Int->Int->Int->(cM->Prop)->Prop):au:=.new fun args rg K=>match args with
 |[.a x0,.agg [.v (.int .i64 n0),.v (.int .i64 n1),.v (.int .i64 n2)],.agg [.v (.int .i64 n3),.v (.int .i64 n4),.v (.int .i64 n5)]]=>(match ac1 67 kK rg x0 with|some (q0,L0)=>aBP false (q0++(D L0 n0 n1 n2 n3 n4 n5)) (Rk L0 n0 n1 n2 n3 n4 n5 K)|_=>False)
 |_=>False
theorem atG {f:FuncId} {D:List Bk->Int->Int->Int->Int->Int->Int->List aa} {R:List Bk->Int->Int->Int->Int->Int->Int->cM} {Rk:List Bk->Int->Int->Int->Int->Int->Int->(cM->Prop)->Prop} (h:au.Ok Try.prog Γ f (aph D R)) (hk:∀ (L0:List Bk) (n0:Int) (n1:Int) (n2:Int) (n3:Int) (n4:Int) (n5:Int) K,Rk L0 n0 n1 n2 n3 n4 n5 K->K (R L0 n0 n1 n2 n3 n4 n5)):au.Ok Try.prog Γ f (ap5 D Rk):=by
 intro args rg K hC;refine h args rg K ?_
 (try unfold ap5 at hC)
 (try unfold aph)
 (try dsimp only at hC ⊢)
 split at hC;next x0 n0 n1 n2 n3 n4 n5=>
  split at hC;next q0 L0 hx0=>
   (try dsimp only)
   (try simp only[hx0])
   rw[aV]at hC ⊢;exact⟨hC.1,hk _ _ _ _ _ _ _ K hC.2⟩
  next=>exact hC.elim
 next=>exact hC.elim
def eS:List Bk:=[(1,1000),(2,1010),(3,1020),(4,2000),(5,5000)]
def aoK:au:=.new fun args rg K=>match args with
 |[]=>K ⟨[.arr 67 kK eS true true],.a (.sl 0 [] 0 5)⟩
 |_=>False
theorem apD:au.Ok Try.prog Γ 53 aoK:=au.fM (d:=0) (aP aR.nil bq.nil false 0) (aj Try.func53 rfl rfl) (by
 intro args rg K hC;split at hC;next=>
  have hK:=hC;refine⟨[],[],[],⟨trivial,fun r g hg=>by cases hg⟩,bu K,?_,fun x st h=>h⟩
  clear hC;repeat'((conv=>whnf);first|apply And.intro|exact bA (by subst_vars;assumption)|intro h9)
  all_goals(try(conv=>whnf))<;>(subst_vars;try first|(apply Tk.mk;kernel_rfl)|exact⟨ah rfl⟩|exact⟨rfl⟩|exact⟨trivial⟩|rfl|contradiction|(apply Ob.mk;(try simp only[ag,ak,aa.ae])<;>(try dsimp only)<;>omega))
  all_goals first
   |(refine bu.base ⟨_,[0],hK,⟨rfl,rfl,by simp,trivial⟩,rfl,?_⟩;(repeat'((conv=>whnf);(first|apply And.intro|intro _)));all_goals first|rfl|trivial)
 next=>exact hC.elim)
abbrev amK (L:List Bk) (l t f l' t' f':Int):List Int×List Int:=(ars L l t f l' t' f').getD ([],[])
abbrev at5 (L:List Bk) (l t f l' t' f':Int):Bool:=(ars L l t f l' t' f').isSome
def aAv (L:List Bk) (l t f l' t' f':Int) (K:cM->Prop):Prop:=((akW L l t f l' t' f'==0)=false->K (ak9 (akW L l t f l' t' f')))/\((akW L l t f l' t' f'==0)=true->decide ((L.length:Int)>10)=true->K (ak9 2))/\
 ((akW L l t f l' t' f'==0)=true->decide ((L.length:Int)>10)=false->at5 L l t f l' t' f'=false->K (ak9 5))/\
 ((akW L l t f l' t' f'==0)=true->decide ((L.length:Int)>10)=false->at5 L l t f l' t' f'=true->K ⟨[.arr 3 kI (pw L (amK L l t f l' t' f').1) true true,.arr 3 kI (pw L (amK L l t f l' t' f').2) true true],.bF [.a (.sl 0 [] 0 (pw L (amK L l t f l' t' f').1).length),.a (.sl 1 [] 0 (pw L (amK L l t f l' t' f').2).length),.a (vI 0)]⟩)
def av3:au:=ap5 (fun L _ _ _ _ _ _=>[(aa.of (L.length<=1000000))]) aAv
theorem ave:au.Ok Try.prog Γ 32 av3:=atG auB (by
 intro L l t f l' t' f' K ⟨h1,h2,h3,h4⟩;unfold ayR;cases h0:akW L l t f l' t' f'==0
 ·exact h1 h0
 cases hd:decide ((L.length:Int)>10)
 ·cases ht:ars L l t f l' t' f' with
  |none=>exact h3 h0 hd (by unfold at5;rw[ht];rfl)
  |some pq=>
   have:=h4 h0 hd (by unfold at5;rw[ht];rfl)
   unfold amK at this;rw[ht]at this;exact this
 ·exact h2 h0 hd)
theorem vZ:(bf eS 3020 0 0==0)=true/\(bf eS 3030 10 0==0)=true/\(bf eS 3021 0 0==0)=true/\(akW eS 2010 0 0 7000 0 0==0)=true/\((ck eS).1==0)=true:=by decide+kernel
theorem awd:(gf 3020 0 0 eS==[])=false/\(eg eS (aku 3020 0 0 eS)==[3,4])=true:=by decide+kernel
theorem ayU:(gf 3030 10 0 eS).length=2:=by decide+kernel
theorem aoF:(eg eS (x9 3021 0 eS)==[3,4])=true/\wN 0 eS (x9 3021 0 eS)=3020:=by decide+kernel
theorem ayW:at5 eS 2010 0 0 7000 0 0=true/\(pw eS (amK eS 2010 0 0 7000 0 0).1==[1,2])=true/\(pw eS (amK eS 2010 0 0 7000 0 0).2==[4,5])=true:=by decide+kernel
theorem auc:aky eS 1000 0 0 10 5=(3,0):=by decide+kernel
theorem azi:aoZ 0 eS 2=[2010,2020,2030,3000,3010,3020,6000,6010,6020,7000]:=by decide+kernel
theorem ayV:y7 0 eS 2=[2010,2020,2030,3000,3010,3020,6000,6010,6020,7000]:=by
 have h:=(ayA (f:=0) (L:=eS) (k:=2) (by decide) (by decide)).1
 rw[show(((2:Nat):Int))=2 from rfl,azi]at h;exact(h (by decide)).symm
theorem OB:(y7 0 eS 2).length=10/\ca (y7 0 eS 2) 9=7000:=by rw[ayV];decide
theorem aqo:(akS (tx eS 3020 0 0) eS eS.length==[1,2,5])=true:=by decide+kernel
theorem aqp:Cn eS 3021 0 0=(1,0):=by decide+kernel
theorem arw:gf 3021 0 0 eS=[]:=by decide+kernel
theorem arx:gf 3020 0 0 eS≠[]:=by decide+kernel
theorem aub {F R:List Int} (hF:Lk (WA 0 eS) F) (hR:Lk (WB 0 eS) R):(am1 eS 3021 0 0 F R (akT (WA 0 eS) (WB 0 eS) R 3021 0 0 F)==0)=true:=by
 unfold am1;rw[if_pos (eq_of_beq vZ.2.2.1),if_pos (awA arw hF hR)];rfl
theorem ayT (F R S:List Int):(am1 eS 3020 0 0 F R S==8)=true:=by
 unfold am1;rw[if_pos (eq_of_beq vZ.1),if_neg (fun h=>arx (auH h))];rfl
end Go.Proofs.Ytccnimhgjjnmoaa
end
