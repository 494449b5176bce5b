/-
  Texts of the claims: Yka8z. No condition: lemmas and contracts.
-/
import Derived.Test.YtccnimhgjjnmoaaSya1z
import Derived.Test.YtccnimhgjjnmoaaSya2z
import Derived.Test.YtccnimhgjjnmoaaSya3z
import Derived.Test.YtccnimhgjjnmoaaSya4z
import Derived.Test.YtccnimhgjjnmoaaSya5z
import Derived.Test.YtccnimhgjjnmoaaPla6z
import Derived.Test.YtccnimhgjjnmoaaYka7z
set_option linter.all false
set_option maxRecDepth 100000
set_option maxHeartbeats 40000000
section
namespace Go.Proofs.Ytccnimhgjjnmoaa
open Go Go.Sy Go.dg
variable {Γ:bn}
def Px (D:List Int->List aa) (R:List Int->cM):au:=.new fun args rg K=>match args with
 |[.a x0]=>(match ac1 3 kI rg x0 with|some (q0,L0)=>aBP false (q0++(D L0)) (K (R L0))|_=>False)
 |_=>False
theorem MG {f:FuncId} {b:Body} {E:Env} {d:Nat} (hP:aL Try.prog Γ E) (hb:bQ Try.prog f b) {D:List Int->List aa} {R:List Int->cM}
 (H:∀ (L0:List Int) (K:cM->Prop),bW (D L0)->K (R L0)->cQ E d b [.a (.sl 0 [] 0 L0.length)] [.arr 3 kI L0 false false] (bu K)):au.Ok Try.prog Γ f (Px D R):=au.fM (d:=d) hP hb (by
 intro args rg K hF;split at hF;next x0=>
  split at hF;next q0 L0 hx0=>
   rw[aV,aH]at hF;obtain⟨⟨aIh,hD⟩,hK⟩:=hF;obtain⟨e0,Vn⟩:=bP (by simp[kI]) hx0 aIh
   obtain⟨p0,r0⟩:=Vn [e0] 0 1 rfl (by omega)
   refine⟨[e0],[.a (.sl 0 [] 0 L0.length)],[.arr 3 kI L0 false false],⟨⟨p0,trivial⟩,fun r g hg=>?_⟩,bu K,H _ K hD hK,fun x st h=>h⟩
   match r,hg with
   |0,hg=>obtain rfl:=Option.some.inj hg;exact r0
  next=>exact hF.elim
 next=>exact hF.elim)
def axQ (D:Nat->Nat->List Bk->Int->List aa) (R:Nat->Nat->List Bk->Int->cM):au:=.new fun args rg K=>match args with
 |[.a x0,.a (.v (.int .i64 n0))]=>(match amp 67 kK rg x0 with|some (q0,a0,b0,L0)=>aBP false (q0++(D a0 b0 L0 n0)) (K (R a0 b0 L0 n0))|_=>False)
 |_=>False
theorem awL {f:FuncId} {b:Body} {E:Env} {d:Nat} (hP:aL Try.prog Γ E) (hb:bQ Try.prog f b) {D:Nat->Nat->List Bk->Int->List aa} {R:Nat->Nat->List Bk->Int->cM}
 (H:∀ (a0:Nat) (b0:Nat) (L0:List Bk) (n0:Int) (K:cM->Prop),bW (D a0 b0 L0 n0)->K (R a0 b0 L0 n0)->cQ E d b [.a (.sl 0 [] a0 b0),.a (vI n0)] [.arr 67 kK L0 false false] (bu K)):au.Ok Try.prog Γ f (axQ D R):=au.fM (d:=d) hP hb (by
 intro args rg K hF;split at hF;next x0 n0=>
  split at hF;next q0 a0 b0 L0 hx0=>
   rw[aV,aH]at hF;obtain⟨⟨aIh,hD⟩,hK⟩:=hF;obtain⟨e0,Vn⟩:=aov (by simp[kK]) hx0 aIh
   obtain⟨p0,r0⟩:=Vn [e0] 0 1 rfl (by omega)
   refine⟨[e0],[.a (.sl 0 [] a0 b0),.a (vI n0)],[.arr 67 kK L0 false false],⟨⟨p0,rfl,trivial⟩,fun r g hg=>?_⟩,bu K,H _ _ _ _ K hD hK,fun x st h=>h⟩
   match r,hg with
   |0,hg=>obtain rfl:=Option.some.inj hg;exact r0
  next=>exact hF.elim
 next=>exact hF.elim)
def amM:au:=Px (fun L=>[(aa.of (L.length<=1000000))]) (fun L=>⟨[.arr 3 kI L true true],.a (.sl 0 [] 0 L.length)⟩)
theorem al2:au.Ok Try.prog Γ 88 amM:=MG (d:=0) (aP aR.nil bq.nil false 0) (aj Try.func88 rfl rfl) (by
 intro L K ⟨hlen,_⟩ hK;simp only[aa.ae]at hlen;repeat'((conv=>whnf);(first|apply And.intro|intro _))
 all_goals try(conv=>whnf)
 ·have h0:L=[]:=by
   rcases Nat.eq_zero_or_pos L.length with h|h
   ·exact List.eq_nil_of_length_eq_zero h
   ·rename_i h1 h2;rw[h1 h]at h2;cases h2
  subst h0;exact bu.aC 3 kI (by simp) (.base ⟨_,[1],hK,⟨rfl,rfl,by simp,trivial⟩,rfl,rfl,rfl,rfl,rfl⟩)
 ·exact⟨Nat.le_of_eq (Nat.zero_add _)⟩
 ·exact⟨show L.length*1<=1099511627776 by omega⟩
 ·rename_i ys hys;obtain rfl:L=ys:=by rw[<-hys];exact List.take_length.symm
  exact .base ⟨_,[1],hK,⟨rfl,rfl,by simp,trivial⟩,rfl,rfl,rfl,rfl,rfl⟩)
def aey:au:=agi 1500000 adp
theorem aez:au.Ok Try.prog Γ 69 aey:=afO adO (fun p cap w=>Try.slices_Sort_int_none p cap w) (fun blk off cap zs w hH hb _ hB=>Try.slices_Sort_int blk off cap zs w hH hb (by omega))
def adP:au:=afD 1500000 Lib.compact
theorem ad0:au.Ok Try.prog Γ 70 adP:=afn afl (fun p cap w=>Try.slices_Compact_int_empty p cap w) (fun blk off cap zs w hH _ hc hB=>Try.slices_Compact_int blk off cap zs w hH (by omega) hc)
def apv (L:List Bk):aa:=⟨gb L,(ck L).1==0,by rw[beq_iff_eq];exact⟨amq,fun h=>by rw[atO h]⟩⟩
attribute [local irreducible] ck wN sub e7
def ayS (a b:Nat) (L:List Bk) (f:Int):cM:=⟨[.arr 3 kI (e7 f (sub L a b)) true true],.a (.sl 0 [] 0 (e7 f (sub L a b)).length)⟩
def akQ:au:=axQ (fun a b L f=>[(aa.of (a+b<=L.length)),apv L,(aa.of (0<=f/\f<=1000000))]) ayS
abbrev alO (L:List Bk) (a:Nat) (i:Int):Bk:=@Ar.get ⟨67,kK,L⟩ (a+Int.toNat i)
abbrev anB (b:Bk) (f n:Int):Int:=n+b.2+f
abbrev WI (f:Int) (L:List Bk) (a b i:Nat):List Int:=e7 f ((sub L a b).take i)
noncomputable def aul:List (Nat×au):=[(88,amM)]
theorem aqv:aR Try.prog Γ aul:=(aR.nil.cons (aj Try.func88 rfl rfl).fn al2)
theorem Wk:au.Ok Try.prog Γ 75 akQ:=awL (d:=0) (aP aqv bq.nil false 0) (aj Try.func75 rfl rfl) (by
 intro a b L f K ⟨hab,hB,hf,_⟩ hK;simp only[aa.ae]at hab hf;replace hB:gb L:=hB;have hn:=hB.Kg;have dZ:=wk hab;have ax5:WI f L a b 0=[0]:=by show e7 f ((sub L a b).take 0)=[0];rw[List.take_zero];unfold e7;rfl
 have azQ:(WI f L a b 0).length=1:=by rw[ax5];rfl
 have aby:∀ i,i<=b->(WI f L a b i).length=2^i:=fun i hi=>avA f (by omega)
 have avY:∀ i,i<=b->2^i<=1048576:=fun i hi=>akO (by omega)
 unfold ayS at hK;repeat'((conv=>whnf);first|apply And.intro|exact bA (by subst_vars;assumption)|intro h9)
 all_goals(try(conv=>whnf))<;>(subst_vars;try first|(apply Tk.mk;kernel_rfl)|exact⟨ah rfl⟩|exact⟨rfl⟩|exact⟨trivial⟩|rfl|contradiction|(apply Ob.mk;(try simp only[ag,ak,aa.ae])<;>(try dsimp only)<;>omega))
 refine⟨Nat,fun i=>i<=b,fun i=>⟨aI 36 [1,5,11,12,13] [.a (vI f),.a (.sl 1 [] 0 (WI f L a b i).length),.a (.sl 0 [] a b),.a (vI b),.a (vI i)],[],[.arr 67 kK L false false,.arr 3 kI (WI f L a b i) true true]⟩,fun i=>b-i,0,[0,1],Nat.zero_le _,?_,?_⟩
 ·repeat'((conv=>whnf)<;>first|apply And.intro|intro _|rfl|trivial|exact ah rfl|exact aS ‹_› rfl|exact aT ‹_› rfl|((repeat' first|rfl|constructor);done)|exact ax5.symm|exact azQ.symm|exact⟨rfl,rfl,ax5.symm⟩)
 rintro i hi;have agM:=aby i hi;have jJ:=avY i hi;by_cases hi1:i<b
 ·have p0:decide ((i:Int)<(b:Int))=true:=decide_eq_true (by omega)
  have apX:bk (sub L a b) i=alO L a i:=by rw[arp hi1];rfl
  have ayn:WI f L a b (i+1)=WI f L a b i++(WI f L a b i).map (anB (bk (sub L a b) i) f):=avz f (by omega)
  have hle:∀ x∈WI f L a b i,0<=x/\x<=1125899926842620:=fun x hx=>hB.alW hab hf.1 hf.2 hx
  have ae1:∀ x∈WI f L a b (i+1),0<=x/\x<=1125899926842620:=fun x hx=>hB.alW hab hf.1 hf.2 hx
  have hmem:bk (sub L a b) i∈L:=by rw[akX (by omega)];exact aoz (List.getElem_mem _)
  have hlen:=hB.len hmem;have aai:=avY (i+1) hi1;rw[Nat.pow_succ]at aai;rw[apX]at ayn hlen;repeat'((conv=>whnf);first|apply And.intro|exact bA (by subst_vars;assumption)|intro h9)
  all_goals(try(conv=>whnf))<;>(subst_vars;try first|(apply Tk.mk;kernel_rfl)|exact⟨ah rfl⟩|exact⟨rfl⟩|exact⟨trivial⟩|rfl|contradiction|(apply Ob.mk;(try simp only[ag,ak,aa.ae])<;>(try dsimp only)<;>omega))
  all_goals try first|exact⟨show a+Int.toNat (i:Int)<L.length by omega⟩|exact⟨show(WI f L a b i).length<=1000000 by omega⟩
  refine⟨Nat,fun j=>j<=(WI f L a b i).length,fun j=>⟨aI 36 [1,5,7,11,12,13,18,19,20] [.a (vI f),.a (.sl 1 [] 0 ((WI f L a b i).length+j)),.a (.p 2 [] 0 0),.a (.sl 0 [] a b),.a (vI b),.a (vI i),.a (.sl 3 [] 0 (WI f L a b i).length),.a (vI (WI f L a b i).length),.a (vI j)],[],
   [.arr 67 kK L false false,.arr 3 kI (WI f L a b i++((WI f L a b i).take j).map (anB (alO L a i) f)) true true,.box true [vI (alO L a i).1,vI (alO L a i).2],.arr 3 kI (WI f L a b i) true true]⟩,fun j=>(WI f L a b i).length-j,0,[0,1,2,3],Nat.zero_le _,?_,?_⟩
  ·have hap:WI f L a b i=WI f L a b i++((WI f L a b i).take 0).map (anB (alO L a i) f):=by simp
   repeat'((conv=>whnf)<;>first|apply And.intro|intro _|rfl|trivial|exact ah rfl|exact aS ‹_› rfl|exact aT ‹_› rfl|((repeat' first|rfl|constructor);done)|exact hap|exact⟨rfl,rfl,hap⟩)
  rintro j hj;by_cases Ho:j<(WI f L a b i).length
  ·have p1:decide ((j:Int)<((WI f L a b i).length:Int))=true:=decide_eq_true (by omega)
   have hx:@Ar.get ⟨3,kI,WI f L a b i⟩ (0+Int.toNat (j:Int))=(WI f L a b i)[j]:=amo (tg:=kI) Ho;have aAr:=hle _ (List.getElem_mem Ho);have aAs:=ae1 ((WI f L a b i)[j]+(alO L a i).2+f) (by rw[ayn];exact List.mem_append_right _ (List.mem_map.2 ⟨_,List.getElem_mem Ho,rfl⟩))
   have hst:=map_take (g:=anB (alO L a i) f) Ho;have apZ:(WI f L a b i++((WI f L a b i).take j).map (anB (alO L a i) f))++[(WI f L a b i)[j]+(alO L a i).2+f]=WI f L a b i++((WI f L a b i).take (j+1)).map (anB (alO L a i) f):=by rw[hst,List.append_assoc]
   have DG:(WI f L a b i++((WI f L a b i).take j).map (anB (alO L a i) f)).length=(WI f L a b i).length+j:=by rw[List.length_append,List.length_map,List.length_take,Nat.min_eq_left hj]
   rw[<-hx]at aAr aAs apZ;have hz:0+((WI f L a b i).length+j)=(WI f L a b i++((WI f L a b i).take j).map (anB (alO L a i) f)).length:=by omega
   repeat'((conv=>whnf);first|apply And.intro|exact bA (by subst_vars;assumption)|intro h9)
   all_goals(try(conv=>whnf))<;>(subst_vars;try first|(apply Tk.mk;kernel_rfl)|exact⟨ah rfl⟩|exact⟨rfl⟩|exact⟨trivial⟩|rfl|contradiction|(apply Ob.mk;(try simp only[ag,ak,aa.ae])<;>(try dsimp only)<;>omega))
   all_goals try first|exact⟨show 0+Int.toNat (j:Int)<(WI f L a b i).length by omega⟩|exact⟨hz⟩|exact⟨show((WI f L a b i).length+j+1)*1<=1099511627776 by omega⟩
   refine⟨j+1,[0,1,2,3],Ho,?_,by show(WI f L a b i).length-(j+1)<(WI f L a b i).length-j;omega⟩
   repeat'((conv=>whnf)<;>first|apply And.intro|intro _|rfl|trivial|exact ah rfl|exact aS ‹_› rfl|exact aT ‹_› rfl|((repeat' first|rfl|constructor);done)|exact⟨rfl,rfl,apZ⟩)
  have p1:decide ((j:Int)<((WI f L a b i).length:Int))=false:=decide_eq_false (by omega)
  obtain rfl:j=(WI f L a b i).length:=by omega
  have aym:WI f L a b i++((WI f L a b i).take (WI f L a b i).length).map (anB (alO L a i) f)=WI f L a b (i+1):=by rw[List.take_length,ayn]
  have azZ:(WI f L a b i).length+(WI f L a b i).length=(WI f L a b (i+1)).length:=by rw[aby _ hi,aby _ hi1,Nat.pow_succ];omega
  repeat'((conv=>whnf);first|apply And.intro|exact bA (by subst_vars;assumption)|intro h9)
  all_goals(try(conv=>whnf))<;>(subst_vars;try first|(apply Tk.mk;kernel_rfl)|exact⟨ah rfl⟩|exact⟨rfl⟩|exact⟨trivial⟩|rfl|contradiction|(apply Ob.mk;(try simp only[ag,ak,aa.ae])<;>(try dsimp only)<;>omega))
  refine⟨i+1,[0,1],hi1,?_,by show b-(i+1)<b-i;omega⟩
  repeat'((conv=>whnf)<;>first|apply And.intro|intro _|rfl|trivial|exact ah rfl|exact aS ‹_› rfl|exact aT ‹_› rfl|((repeat' first|rfl|constructor);done)|exact⟨rfl,rfl,aym⟩|exact azZ)
 have p0:decide ((i:Int)<(b:Int))=false:=decide_eq_false (by omega)
 have ht:e7 f (sub L a b)=WI f L a b i:=by show _=e7 f ((sub L a b).take i);rw[List.take_of_length_le (by omega)]
 rw[ht]at hK;repeat'((conv=>whnf);first|apply And.intro|exact bA (by subst_vars;assumption)|intro h9)
 all_goals(try(conv=>whnf))<;>(subst_vars;try first|(apply Tk.mk;kernel_rfl)|exact⟨ah rfl⟩|exact⟨rfl⟩|exact⟨trivial⟩|rfl|contradiction|(apply Ob.mk;(try simp only[ag,ak,aa.ae])<;>(try dsimp only)<;>omega))
 refine bu.base ⟨_,[1],hK,⟨rfl,rfl,by simp,trivial⟩,rfl,?_⟩
 repeat'((conv=>whnf)<;>first|apply And.intro|intro _|rfl|trivial))
end Go.Proofs.Ytccnimhgjjnmoaa
end
section
namespace Go.Proofs.Ytccnimhgjjnmoaa
open Go Go.Sy Go.dg
variable {Γ:bn}
attribute [local irreducible] ck wN sub e7 ta kG adp
abbrev gv (n:Nat):Nat:=Int.toNat (if(10:Int)<(n:Int)then 10 else(n:Int))
abbrev pA (L:List Bk):List Bk:=sub L 0 (gv L.length)
abbrev pB (L:List Bk):List Bk:=sub L (0+gv L.length) (L.length-gv L.length)
abbrev WA (f:Int) (L:List Bk):List Int:=e7 f (pA L)
abbrev WB (f:Int) (L:List Bk):List Int:=e7 f (pB L)
abbrev RB (f:Int) (L:List Bk):List Int:=adp (WB f L)
def aw6 (id:Nat):Option (List Nat×OT):=match Nat.beq id 4 with|true=>some ([],(.take 0 (.take 1 (.take 2 (.take 3 (.take 4 (.take 5 (.take 6 (.take 7 (.take 8 (.take 9 (.take 10 (.take 11 (.take 12 (.take 13 (.take 14 (.take 15 (.alt 16 (.alt 17 (.alt 18 (.alt 19 .fin .fin) .fin) .fin) (.alt 17 (.alt 16 (.alt 18 (.alt 19 .fin .fin) .fin) .fin) .fin)))))))))))))))))))|false=>none
def alk:au:=anQ (fun L l t f=>[apv L,(aa.of (0<=f/\f<=1000000)),(aa.of (-1152921504606846976<=l/\l<=1152921504606846976)),(aa.of (0<=t/\t<=1152921504606846976))]) (fun L l t f=> .a (vI (kG f (l-t+f) (l+t+f) L)))
noncomputable def asz:List (Nat×au):=[(75,akQ),(69,aey)]
theorem asA:aR Try.prog Γ asz:=((aR.nil.cons (aj Try.func69 rfl rfl).fn aez).cons (aj Try.func75 rfl rfl).fn Wk)
noncomputable def aqH:List (Nat×Body):=[(73,bo Try.f73),(76,bo Try.f76),(89,bo Try.f89),(90,bo Try.f90)]
theorem arK:bq Try.prog aqH:=((((bq.nil.cons (cg Try.func90 rfl rfl)).cons (cg Try.func89 rfl rfl)).cons (cg Try.func76 rfl rfl)).cons (cg Try.func73 rfl rfl))
noncomputable def apL:Env:={jV.env asz aqH false 0 with str:=aw6}
theorem aqz:aL Try.prog Γ apL:=(aP asA arK false 0).strs _
noncomputable def awD:Env:={apL with cut:=fun t=>Nat.beq t 2004}
theorem ar6:aL Try.prog Γ awD:=aqz.aBf _
theorem akY:au.Ok Try.prog Γ 57 alk:=alq (d:=4) ar6 (aj Try.func57 rfl rfl) (fun _ _ _ _=>rfl) (by
 intro L l t f ⟨hB,hf,hl,ht,_⟩;simp only[aa.ae]at hf hl ht;replace hB:gb L:=hB;have hn:=hB.Kg;have hc:=anC L.length;have akB:0+gv L.length<=L.length:=by show 0+gv L.length<=L.length;have:=hc.1;show 0+Int.toNat _<=_;omega
 have akC:(0+gv L.length)+(L.length-gv L.length)<=L.length:=by have:=hc.1;show 0+Int.toNat _+(_-Int.toNat _)<=_;omega
 have apT:pA L++pB L=L:=by show sub L 0 (gv L.length)++sub L (0+gv L.length) (L.length-gv L.length)=L;rw[Nat.zero_add];exact alG L _
 have ama:(WB f L).length=2^(L.length-gv L.length):=by show(e7 f (sub L (0+gv L.length) (L.length-gv L.length))).length=_;rw[x7,wk akC]
 have al9:(WA f L).length=2^gv L.length:=by show(e7 f (sub L 0 (gv L.length))).length=_;rw[x7,wk akB]
 have asd:(WB f L).length<=1024:=by rw[ama];exact Nat.le_trans (Nat.pow_le_pow_right (by omega) (hc.2.2 hn)) (by decide)
 have au1:(WA f L).length<=1024:=by rw[al9];exact Nat.le_trans (Nat.pow_le_pow_right (by omega) hc.2.1) (by decide)
 have am4:(RB f L).length=(WB f L).length:=adO _;have atu:∀ k,k<(RB f L).length->0<=(RB f L).getD k 0/\(RB f L).getD k 0<=1125899926842620:=fun k hk=>by
  rw[List.getD_eq_getElem?_getD,List.getElem?_eq_getElem hk];have hm:=afx.1 (List.getElem_mem hk);refine hB.alW (k:=L.length) akC hf.1 hf.2 ?_;rw[List.take_of_length_le (by rw[wk akC];omega)];exact hm
 have axZ:∀ k,k<(WA f L).length->0<=iA (WA f L) k/\iA (WA f L) k<=1125899926842620:=fun k hk=>by
  rw[ala hk];refine hB.alW (k:=L.length) akB hf.1 hf.2 ?_;rw[List.take_of_length_le (by rw[wk akB];omega)];exact List.getElem_mem hk
 have ayj:l-t+f<=(l+t+f)+1:=by omega
 repeat'((conv=>whnf);first|apply And.intro|exact bA (by subst_vars;assumption)|intro h9)
 all_goals(try(conv=>whnf))<;>(subst_vars;try first|(apply Tk.mk;kernel_rfl)|exact⟨ah rfl⟩|exact⟨rfl⟩|exact⟨trivial⟩|rfl|contradiction|(apply Ob.mk;(try simp only[ag,ak,aa.ae])<;>(try dsimp only)<;>omega))
 all_goals try first|exact⟨⟨rfl,show(WB f L).length<=1500000 by omega⟩⟩|exact⟨hB⟩|exact⟨akC⟩
 refine⟨Unit,fun _=>True,fun _=>⟨aI 64 [3,5,7,8,9] [.a (.p 1 [] 0 0),.a (.sl 0 [] 0 (gv L.length)),.a (.sl 2 [] 0 (RB f L).length),.a (.p 3 [] 0 0),.a (.p 4 [] 0 0)],[],[.arr 67 kK L false false,.box true [vI l,vI t,vI f],.arr 3 kI (RB f L) true true,.box true [vI (l-t+f)],.box true [vI (l+t+f)]]⟩,?_,?_⟩
 ·repeat'((conv=>whnf);first|apply And.intro|exact bA (by subst_vars;assumption)|intro h9)
  all_goals(try(conv=>whnf))<;>(subst_vars;try first|(apply Tk.mk;kernel_rfl)|exact⟨ah rfl⟩|exact⟨rfl⟩|exact⟨trivial⟩|rfl|contradiction|(apply Ob.mk;(try simp only[ag,ak,aa.ae])<;>(try dsimp only)<;>omega))
  all_goals try first|trivial
  all_goals first
   |(refine⟨(),[0,1,2,3,4],trivial,?_⟩;(repeat'((conv=>whnf);(first|apply And.intro|intro _)));(all_goals first|rfl|trivial|exact ah rfl|exact⟨rfl,rfl,rfl⟩|exact am4.symm);done)
   |(refine⟨(),[0,1,2,4,3],trivial,?_⟩;(repeat'((conv=>whnf);(first|apply And.intro|intro _)));(all_goals first|rfl|trivial|exact ah rfl|exact⟨rfl,rfl,rfl⟩|exact am4.symm);done)
 rintro _ _;repeat'((conv=>whnf);first|apply And.intro|exact bA (by subst_vars;assumption)|intro h9)
 all_goals(try(conv=>whnf))<;>(subst_vars;try first|(apply Tk.mk;kernel_rfl)|exact⟨ah rfl⟩|exact⟨rfl⟩|exact⟨trivial⟩|rfl|contradiction|(apply Ob.mk;(try simp only[ag,ak,aa.ae])<;>(try dsimp only)<;>omega))
 all_goals try first|exact⟨hB⟩|exact⟨akB⟩
 refine⟨Nat,fun i=>i<=(WA f L).length,fun i=>⟨aI 64 [7,8,9,10,43,44,45] [.a (.sl 2 [] 0 (RB f L).length),.a (.p 3 [] 0 0),.a (.p 4 [] 0 0),.a (vI (ta f (l-t+f) (l+t+f) (pB L) (WA f L) i)),.a (.sl 5 [] 0 (WA f L).length),.a (vI (WA f L).length),.a (vI i)],[],[.arr 67 kK L false false,.box true [vI l,vI t,vI f],.arr 3 kI (RB f L) true true,.box true [vI (l-t+f)],.box true [vI (l+t+f)],.arr 3 kI (WA f L) true true]⟩,fun i=>(WA f L).length-i,0,[0,1,2,3,4,5],Nat.zero_le _,?_,?_⟩
 ·have h0:(0:Int)=ta f (l-t+f) (l+t+f) (pB L) (WA f L) 0:=by unfold ta;rfl
  repeat'((conv=>whnf)<;>first|apply And.intro|intro _|rfl|trivial|exact ah rfl|exact aS ‹_› rfl|exact aT ‹_› rfl|((repeat' first|rfl|constructor);done)|exact h0)
 rintro i hi;have hci:=awx (f:=f) (B:=pB L) ayj hi;have aAA:i*(e7 f (pB L)).length<=1024*1024:=Nat.mul_le_mul (by omega) asd
 by_cases hi1:i<(WA f L).length
 ·have p0:decide ((i:Int)<((WA f L).length:Int))=true:=decide_eq_true (by omega)
  have aAq:=axZ i hi1;have hst:=as3 (f:=f) (lo:=l-t+f) (hi:=l+t+f) (B:=pB L) hi1;rw[<-ala hi1]at hst;have ase:0+Int.toNat (i:Int)<(WA f L).length:=by omega
  repeat'((conv=>whnf);first|apply And.intro|exact bA (by subst_vars;assumption)|intro h9)
  all_goals(try(conv=>whnf))<;>(subst_vars;try first|(apply Tk.mk;kernel_rfl)|exact⟨ah rfl⟩|exact⟨rfl⟩|exact⟨trivial⟩|rfl|contradiction|(apply Ob.mk;(try simp only[ag,ak,aa.ae])<;>(try dsimp only)<;>omega))
  all_goals try first|exact⟨ase⟩
  refine⟨Nat×Nat,fun x=>Kz (fun y=>decide (iA (WA f L) i+y<=l+t+f)) (RB f L) x.1 x.2,fun|(a,b)=>⟨aI 27 [0,1,5,6] [.a (.sl 2 [] 0 (RB f L).length),.a (.fn 89 [6,4]),.a (vI a),.a (vI b)],[aI 64 [7,8,9,10,12,43,44,45,49] [.a (.sl 2 [] 0 (RB f L).length),.a (.p 3 [] 0 0),.a (.p 4 [] 0 0),.a (vI (ta f (l-t+f) (l+t+f) (pB L) (WA f L) i)),.a (.p 6 [] 0 0),.a (.sl 5 [] 0 (WA f L).length),.a (vI (WA f L).length),.a (vI i),.a (vI (ta f (l-t+f) (l+t+f) (pB L) (WA f L) i))]],[.arr 67 kK L false false,.box true [vI l,vI t,vI f],.arr 3 kI (RB f L) true true,.box true [vI (l-t+f)],.box true [vI (l+t+f)],.arr 3 kI (WA f L) true true,.box true [vI (iA (WA f L) i)]]⟩,fun x=>x.2-x.1,(0,(RB f L).length),[0,1,2,3,4,5,6],Kz.init _ _,?_,?_⟩
  ·repeat'((conv=>whnf);(first|apply And.intro|intro _))
   all_goals first|rfl|trivial|exact ah rfl|exact aS ‹_› rfl|exact aT ‹_› rfl|((repeat' first|rfl|constructor);done)|(rename_i bx;rcases List.mem_cons.1 bx with h7|h7;(subst h7;exact ah rfl);(obtain rfl:=List.mem_singleton.1 h7;exact ah rfl))
  rintro⟨a,b⟩ hM;have aq2:=hM.le;have aq3:=hM.top;dsimp only at aq2 aq3;by_cases apW:a<b
  ·have atT:decide ((a:Int)<(b:Int))=true:=decide_eq_true (by omega)
   have hm:=amb apW;have Nq:(a+b) / 2<b:=by omega
   have Nr:a<=(a+b) / 2:=by omega
   have hidx:0+Int.toNat (((a:Int)+(b:Int)).tdiv 2)=(a+b) / 2:=by rw[hm];omega
   have eN:iA (RB f L) (((a:Int)+(b:Int)).tdiv 2)=(RB f L).getD ((a+b) / 2) 0:=by unfold iA;rw[hidx];rfl
   have ap0:=atu _ (show(a+b) / 2<(RB f L).length by omega)
   rw[<-eN]at ap0;have lR:0+Int.toNat (((a:Int)+(b:Int)).tdiv 2)<(RB f L).length:=by omega
   have htr:0<=((a:Int)+(b:Int)).tdiv 2/\((a:Int)+(b:Int)).tdiv 2<((RB f L).length:Int):=by rw[hm];omega
   have aoV:ak .i64 (iA (WA f L) i+iA (RB f L) (((a:Int)+(b:Int)).tdiv 2)):=by simp only[ak];omega
   cases hq:decide (iA (WA f L) i+iA (RB f L) (((a:Int)+(b:Int)).tdiv 2)<=l+t+f)
   ·have alv:=hM.down (awc _ _) Nr Nq (by rw[<-eN];exact hq)
    repeat'((conv=>whnf);first|apply And.intro|exact bA (by subst_vars;assumption)|intro h9)
    all_goals(try(conv=>whnf))<;>(subst_vars;try first|(apply Tk.mk;kernel_rfl)|exact⟨ah rfl⟩|exact⟨rfl⟩|exact⟨trivial⟩|rfl|contradiction|(apply Ob.mk;(try simp only[ag,ak,aa.ae])<;>(try dsimp only)<;>omega))
    all_goals try first|exact⟨aoV⟩|exact⟨lR⟩
    refine⟨(a,(a+b) / 2),[0,1,2,3,4,5,6],alv,?_,by show(a+b) / 2-a<b-a;omega⟩
    repeat'((conv=>whnf);(first|apply And.intro|intro _))
    all_goals first|rfl|trivial|exact ah rfl|exact aS ‹_› rfl|exact aT ‹_› rfl|((repeat' first|rfl|constructor);done)|(rename_i bx;rcases List.mem_cons.1 bx with h7|h7;(subst h7;exact ah rfl);(obtain rfl:=List.mem_singleton.1 h7;exact ah rfl))|exact hm
   have alv:=hM.up (awc _ _) Nr Nq (by rw[<-eN];exact hq)
   have ZI:((a:Int)+(b:Int)).tdiv 2+1=(((a+b) / 2+1:Nat):Int):=by rw[hm];omega
   repeat'((conv=>whnf);first|apply And.intro|exact bA (by subst_vars;assumption)|intro h9)
   all_goals(try(conv=>whnf))<;>(subst_vars;try first|(apply Tk.mk;kernel_rfl)|exact⟨ah rfl⟩|exact⟨rfl⟩|exact⟨trivial⟩|rfl|contradiction|(apply Ob.mk;(try simp only[ag,ak,aa.ae])<;>(try dsimp only)<;>omega))
   all_goals try first|exact⟨aoV⟩|exact⟨lR⟩
   refine⟨((a+b) / 2+1,b),[0,1,2,3,4,5,6],alv,?_,by show b-((a+b) / 2+1)<b-a;omega⟩
   repeat'((conv=>whnf);(first|apply And.intro|intro _))
   all_goals first|rfl|trivial|exact ah rfl|exact aS ‹_› rfl|exact aT ‹_› rfl|((repeat' first|rfl|constructor);done)|(rename_i bx;rcases List.mem_cons.1 bx with h7|h7;(subst h7;exact ah rfl);(obtain rfl:=List.mem_singleton.1 h7;exact ah rfl))|exact ZI
  have atT:decide ((a:Int)<(b:Int))=false:=decide_eq_false (by omega)
  have hba:b=a:=by omega
  have amA:=hM;dsimp only at amA;rw[hba]at amA;have Rl:=And.intro amA.end trivial;have aAz:a<=(WB f L).length:=by rw[<-am4];omega
  clear hba;repeat'((conv=>whnf);first|apply And.intro|exact bA (by subst_vars;assumption)|intro h9)
  all_goals(try(conv=>whnf))<;>(subst_vars;try first|(apply Tk.mk;kernel_rfl)|exact⟨ah rfl⟩|exact⟨rfl⟩|exact⟨trivial⟩|rfl|contradiction|(apply Ob.mk;(try simp only[ag,ak,aa.ae])<;>(try dsimp only)<;>omega))
  refine⟨Nat×Nat,fun x=>Kz (fun y=>decide (iA (WA f L) i+y<l-t+f)) (RB f L) x.1 x.2,fun|(c,d)=>⟨aI 27 [0,1,5,6] [.a (.sl 2 [] 0 (RB f L).length),.a (.fn 90 [6,3]),.a (vI c),.a (vI d)],[aI 64 [7,8,9,10,12,43,44,45,49,52] [.a (.sl 2 [] 0 (RB f L).length),.a (.p 3 [] 0 0),.a (.p 4 [] 0 0),.a (vI (ta f (l-t+f) (l+t+f) (pB L) (WA f L) i)),.a (.p 6 [] 0 0),.a (.sl 5 [] 0 (WA f L).length),.a (vI (WA f L).length),.a (vI i),.a (vI (ta f (l-t+f) (l+t+f) (pB L) (WA f L) i)),.a (vI a)]],[.arr 67 kK L false false,.box true [vI l,vI t,vI f],.arr 3 kI (RB f L) true true,.box true [vI (l-t+f)],.box true [vI (l+t+f)],.arr 3 kI (WA f L) true true,.box true [vI (iA (WA f L) i)]]⟩,fun x=>x.2-x.1,(0,(RB f L).length),[0,1,2,3,4,5,6],Kz.init _ _,?_,?_⟩
  ·repeat'((conv=>whnf);(first|apply And.intro|intro _))
   all_goals first|rfl|trivial|exact ah rfl|exact aS ‹_› rfl|exact aT ‹_› rfl|((repeat' first|rfl|constructor);done)|(rename_i bx;rcases List.mem_cons.1 bx with h7|h7;(subst h7;exact ah rfl);(obtain rfl:=List.mem_singleton.1 h7;exact ah rfl))
  rintro⟨c,d⟩ hM;have aq2:=hM.le;have aq3:=hM.top;dsimp only at aq2 aq3;by_cases apW:c<d
  ·have atT:decide ((c:Int)<(d:Int))=true:=decide_eq_true (by omega)
   have hm:=amb apW;have Nq:(c+d) / 2<d:=by omega
   have Nr:c<=(c+d) / 2:=by omega
   have hidx:0+Int.toNat (((c:Int)+(d:Int)).tdiv 2)=(c+d) / 2:=by rw[hm];omega
   have eN:iA (RB f L) (((c:Int)+(d:Int)).tdiv 2)=(RB f L).getD ((c+d) / 2) 0:=by unfold iA;rw[hidx];rfl
   have ap0:=atu _ (show(c+d) / 2<(RB f L).length by omega)
   rw[<-eN]at ap0;have lR:0+Int.toNat (((c:Int)+(d:Int)).tdiv 2)<(RB f L).length:=by omega
   have htr:0<=((c:Int)+(d:Int)).tdiv 2/\((c:Int)+(d:Int)).tdiv 2<((RB f L).length:Int):=by rw[hm];omega
   have aoV:ak .i64 (iA (WA f L) i+iA (RB f L) (((c:Int)+(d:Int)).tdiv 2)):=by simp only[ak];omega
   cases hq:decide (iA (WA f L) i+iA (RB f L) (((c:Int)+(d:Int)).tdiv 2)<l-t+f)
   ·have alv:=hM.down (apm _ _) Nr Nq (by rw[<-eN];exact hq)
    repeat'((conv=>whnf);first|apply And.intro|exact bA (by subst_vars;assumption)|intro h9)
    all_goals(try(conv=>whnf))<;>(subst_vars;try first|(apply Tk.mk;kernel_rfl)|exact⟨ah rfl⟩|exact⟨rfl⟩|exact⟨trivial⟩|rfl|contradiction|(apply Ob.mk;(try simp only[ag,ak,aa.ae])<;>(try dsimp only)<;>omega))
    all_goals try first|exact⟨aoV⟩|exact⟨lR⟩
    refine⟨(c,(c+d) / 2),[0,1,2,3,4,5,6],alv,?_,by show(c+d) / 2-c<d-c;omega⟩
    repeat'((conv=>whnf);(first|apply And.intro|intro _))
    all_goals first|rfl|trivial|exact ah rfl|exact aS ‹_› rfl|exact aT ‹_› rfl|((repeat' first|rfl|constructor);done)|(rename_i bx;rcases List.mem_cons.1 bx with h7|h7;(subst h7;exact ah rfl);(obtain rfl:=List.mem_singleton.1 h7;exact ah rfl))|exact hm
   have alv:=hM.up (apm _ _) Nr Nq (by rw[<-eN];exact hq)
   have ZI:((c:Int)+(d:Int)).tdiv 2+1=(((c+d) / 2+1:Nat):Int):=by rw[hm];omega
   repeat'((conv=>whnf);first|apply And.intro|exact bA (by subst_vars;assumption)|intro h9)
   all_goals(try(conv=>whnf))<;>(subst_vars;try first|(apply Tk.mk;kernel_rfl)|exact⟨ah rfl⟩|exact⟨rfl⟩|exact⟨trivial⟩|rfl|contradiction|(apply Ob.mk;(try simp only[ag,ak,aa.ae])<;>(try dsimp only)<;>omega))
   all_goals try first|exact⟨aoV⟩|exact⟨lR⟩
   refine⟨((c+d) / 2+1,d),[0,1,2,3,4,5,6],alv,?_,by show d-((c+d) / 2+1)<d-c;omega⟩
   repeat'((conv=>whnf);(first|apply And.intro|intro _))
   all_goals first|rfl|trivial|exact ah rfl|exact aS ‹_› rfl|exact aT ‹_› rfl|((repeat' first|rfl|constructor);done)|(rename_i bx;rcases List.mem_cons.1 bx with h7|h7;(subst h7;exact ah rfl);(obtain rfl:=List.mem_singleton.1 h7;exact ah rfl))|exact ZI
  have atT:decide ((c:Int)<(d:Int))=false:=decide_eq_false (by omega)
  have hba:d=c:=by omega
  have amA:=hM;dsimp only at amA;rw[hba]at amA;have xS:=And.intro amA.end trivial;clear hba;repeat'((conv=>whnf);first|apply And.intro|exact bA (by subst_vars;assumption)|intro h9)
  all_goals(try(conv=>whnf))<;>(subst_vars;try first|(apply Tk.mk;kernel_rfl)|exact⟨ah rfl⟩|exact⟨rfl⟩|exact⟨trivial⟩|rfl|contradiction|(apply Ob.mk;(try simp only[ag,ak,aa.ae])<;>(try dsimp only)<;>omega))
  refine⟨i+1,[0,1,2,3,4,5],hi1,?_,by show(WA f L).length-(i+1)<(WA f L).length-i;omega⟩
  have ajV:ta f (l-t+f) (l+t+f) (pB L) (WA f L) i+((a:Int)-(c:Int))=ta f (l-t+f) (l+t+f) (pB L) (WA f L) (i+1):=by rw[hst,Rl.1,xS.1]
  repeat'((conv=>whnf)<;>first|apply And.intro|intro _|rfl|trivial|exact ah rfl|exact aS ‹_› rfl|exact aT ‹_› rfl|((repeat' first|rfl|constructor);done)|exact ajV)
 have p0:decide ((i:Int)<((WA f L).length:Int))=false:=decide_eq_false (by omega)
 have hall:ta f (l-t+f) (l+t+f) (pB L) (WA f L) i=aom f (l-t+f) (l+t+f) L:=by
  unfold ta;rw[List.take_of_length_le (by omega)]
  exact(ar1 ayj (pA L) (pB L)).trans (by rw[apT])
 by_cases hlo:l-t+f<=0
 ·have p1:decide (l-t+f<=0)=true:=decide_eq_true hlo;have hF:ta f (l-t+f) (l+t+f) (pB L) (WA f L) i-1=kG f (l-t+f) (l+t+f) L:=by unfold kG;rw[if_pos hlo,hall]
  repeat'((conv=>whnf);first|apply And.intro|exact bA (by subst_vars;assumption)|intro h9)
  all_goals(try(conv=>whnf))<;>(subst_vars;try first|(apply Tk.mk;kernel_rfl)|exact⟨ah rfl⟩|exact⟨rfl⟩|exact⟨trivial⟩|rfl|contradiction|(apply Ob.mk;(try simp only[ag,ak,aa.ae])<;>(try dsimp only)<;>omega))
  all_goals first|trivial
 have p1:decide (l-t+f<=0)=false:=decide_eq_false hlo;have hF:ta f (l-t+f) (l+t+f) (pB L) (WA f L) i=kG f (l-t+f) (l+t+f) L:=by unfold kG;rw[if_neg hlo,hall]
 repeat'((conv=>whnf);first|apply And.intro|exact bA (by subst_vars;assumption)|intro h9)
 all_goals(try(conv=>whnf))<;>(subst_vars;try first|(apply Tk.mk;kernel_rfl)|exact⟨ah rfl⟩|exact⟨rfl⟩|exact⟨trivial⟩|rfl|contradiction|(apply Ob.mk;(try simp only[ag,ak,aa.ae])<;>(try dsimp only)<;>omega))
 all_goals first|trivial)
end Go.Proofs.Ytccnimhgjjnmoaa
end
section
namespace Go.Proofs.Ytccnimhgjjnmoaa
open Go Go.Sy Go.dg
variable {Γ:bn}
attribute [local irreducible] ck wN sub e7 ta kG adp aIo aQ
abbrev alA (L:List Bk) (k:Nat):Sl:=aI 36 [0,3,4,5,6] [.a (.sl 0 [] 0 L.length),.a (.p 1 [] 0 0),.a (.p 2 [] 0 0),.a (.p 3 [] 0 0),.a (vI k)]
noncomputable abbrev ami (fn:FuncId) (T:Array Value) (dd:Nat):Loop:=ac5 Try.f55 0 fn T dd
structure alm (b:Nat) (tm:Sl) (fr:List Sl):Prop where
 hd:∀ is m n,(∀ r,r<b->rn is r=r)->b<=m->b<=n->wM is m n tm.t tm.t
 tl:∀ is m n,(∀ r,r<b->rn is r=r)->b<=m->b<=n->NU is m n fr fr
theorem alm.push {b:Nat} {tm:Sl} {fr:List Sl} (h:alm b tm fr) {s:Sl} (hs:∀ is m n,(∀ r,r<b->rn is r=r)->b<=m->b<=n->wM is m n s.t s.t):alm b s (tm::fr):=
 ⟨hs,fun is m n h1 h2 h3=>⟨⟨rfl,h.hd is m n h1 h2 h3⟩,h.tl is m n h1 h2 h3⟩⟩
def awT (id:Nat):Option (Nat×OT):=match Nat.beq id 7 with|true=>some (14,(.take 0 (.take 1 (.take 2 (.take 3 (.take 4 (.take 5 (.take 6 (.take 7 (.take 8 (.take 9 (.take 10 (.take 11 (.take 12 (.take 13 .fin)))))))))))))))|false=>none
def aw0 (id:Nat):Option (List Nat):=match Nat.beq id 9 with|true=>some [0,1,3,4,2,5]|false=>none
noncomputable def asB:List (Nat×au):=[(57,alk),(85,apE),(88,amM)]
theorem asC:aR Try.prog Γ asB:=(((aR.nil.cons (aj Try.func88 rfl rfl).fn al2).cons (aj Try.func85 rfl rfl).fn aoL).cons (aj Try.func57 rfl rfl).fn akY)
noncomputable def aqI:List (Nat×Body):=[(68,bo Try.f68),(97,bo Try.f97),(98,bo Try.f98)]
theorem arL:bq Try.prog aqI:=(((bq.nil.cons (cg Try.func98 rfl rfl)).cons (cg Try.func97 rfl rfl)).cons (cg Try.func68 rfl rfl))
noncomputable def apM:Env:={jV.env asB aqI false 0 with htr:=awT}
theorem aqA:aL Try.prog Γ apM:=(aP asC arL false 0).NA _
noncomputable def apN:Env:={apM with ord:=aw0}
theorem aqB:aL Try.prog Γ apN:=aqA.Ju _
noncomputable def gq:Env:={apN with cut:=fun t=>match Nat.beq t 2007 with|true=>true|false=>(match Nat.beq t 1002 with|true=>true|false=>Nat.beq t 3000)}
theorem ar7:aL Try.prog Γ gq:=aqB.aBf _
section
variable (l t f:Int) (L:List Bk) (k l0:Nat) (fn:FuncId) (T:Array Value) (dd:Nat)
def anx (m:Nat) (cl:Cl):Prop:=∀ (n i:Nat) (zn zi s:Int) (A:List Int) (tm:Sl) (fr:List Sl) (Kc:Tm->St->Prop),
 zn=n->zi=i->n+m=k->i<=L.length->A.length=k->0<=s->s<=n*56294996342131->alm 12 tm fr->
 (aIo f (l-t) (l+t) L m (L.length-i) i s (A.take n)=none->∀ A',A'.length=k->A'.take n=A.take n->Kc (.a .tt) ⟨tm,fr,[.arr 67 kK L false false,.box true [vI l,vI t,vI f],.box true [.v (.slice none 0 0),vI 0],.box true [.v (.bool false)],.box true [.sl 0 [] 0 L.length],.box true [vI f],.box true [vI k],.lp l0 (alA L k) (ami fn T dd) .ready none,.box true [.yl 7],.arr 3 kI A' true true,.box true [.sl 9 [] 0 k],.box true [.fn 98 [6,8,10,5,4,11]]]⟩)->
 (∀ C len,aIo f (l-t) (l+t) L m (L.length-i) i s (A.take n)=some (C,len)->∀ A',A'.length=k->Kc (.a .ff) ⟨tm,fr,[.arr 67 kK L false false,.box true [vI l,vI t,vI f],.box true [.sl 12 [] 0 C.length,vI len],.box true [.tt],.box true [.sl 0 [] 0 L.length],.box true [vI f],.box true [vI k],.lp l0 (alA L k) (ami fn T dd) .done (some .ret),.box true [.yl 7],.arr 3 kI A' true true,.box true [.sl 9 [] 0 k],.box true [.fn 98 [6,8,10,5,4,11]],.arr 3 kI C true true]⟩)->
 cl (bo Try.f98) [.a (vI zn),.a (vI zi),.a (vI s),.a (.p 6 [] 0 0),.a (.p 8 [] 0 0),.a (.p 10 [] 0 0),.a (.p 5 [] 0 0),.a (.p 4 [] 0 0),.a (.p 11 [] 0 0)] ⟨tm,fr,[.arr 67 kK L false false,.box true [vI l,vI t,vI f],.box true [.v (.slice none 0 0),vI 0],.box true [.v (.bool false)],.box true [.sl 0 [] 0 L.length],.box true [vI f],.box true [vI k],.lp l0 (alA L k) (ami fn T dd) .ready none,.box true [.yl 7],.arr 3 kI A true true,.box true [.sl 9 [] 0 k],.box true [.fn 98 [6,8,10,5,4,11]]]⟩ Kc
variable {l t f} {L} {k l0} {fn} {T} {dd}
theorem atk (hB:gb L) (hf:0<=f/\f<=1000000) (hl:-1152921504606846976<=l/\l<=1152921504606846976) (ht:0<=t/\t<=1152921504606846976) (hk:k<=20) (e:Nat) (cl:Cl):
 anx l t f L k l0 fn T dd 0 (GG gq (jD gq cl (wF (MC gq (e+1))) none)):=by
 intro n i zn zi s A tm fr Kc alw amD hn hi hA fK xX hfr hno iB;have hkk:(zn==(k:Int))=true:=by rw[alw,show n=k by omega];exact beq_self_eq_true _
 have hT:A.take n=A:=List.take_of_length_le (by omega)
 have iB:=iB A (s-f);have pT:s<=1125919926842620:=by omega
 replace hA:=And.intro hA trivial;clear amD hn;cases hg:aQ (s-f) (l-t) (l+t)
 ·have hK:=hno (by unfold aIo;rw[hg];rfl) A hA.1 rfl
  repeat'((conv=>whnf);first|apply And.intro|exact bA (by subst_vars;assumption)|intro h9)
  all_goals(try(conv=>whnf))<;>(subst_vars;try first|(apply Tk.mk;kernel_rfl)|exact⟨ah rfl⟩|exact⟨rfl⟩|exact⟨trivial⟩|rfl|contradiction|(apply Ob.mk;(try simp only[ag,ak,aa.ae])<;>(try dsimp only)<;>omega))
  refine⟨Unit,fun _=>True,fun _=>⟨aI 55 [12] [.a .tt],tm::fr,[.arr 67 kK L false false,.box true [vI l,vI t,vI f],.box true [.v (.slice none 0 0),vI 0],.box true [.v (.bool false)],.box true [.sl 0 [] 0 L.length],.box true [vI f],.box true [vI k],.lp l0 (alA L k) (ami fn T dd) .ready none,.box true [.yl 7],.arr 3 kI A true true,.box true [.sl 9 [] 0 k],.box true [.fn 98 [6,8,10,5,4,11]]]⟩,?_,?_⟩
  ·repeat'((conv=>whnf);first|apply And.intro|exact bA (by subst_vars;assumption)|intro h9)
   all_goals(try(conv=>whnf))<;>(subst_vars;try first|(apply Tk.mk;kernel_rfl)|exact⟨ah rfl⟩|exact⟨rfl⟩|exact⟨trivial⟩|rfl|contradiction|(apply Ob.mk;(try simp only[ag,ak,aa.ae])<;>(try dsimp only)<;>omega))
   refine⟨(),[0,1,2,3,4,5,6,7,8,9,10,11],trivial,?_⟩;repeat'((conv=>whnf);(first|apply And.intro|intro _))
   all_goals first|rfl|trivial|exact ah rfl|exact⟨rfl,rfl,rfl⟩|exact⟨rfl,rfl⟩|exact hfr.hd _ _ _ (by decide) (ah rfl) (ah rfl)|exact hfr.tl _ _ _ (by decide) (ah rfl) (ah rfl)|exact hA.1|exact hA.1.symm|(rename_i r9 bx;revert r9;decide)
  rintro _ _;repeat'((conv=>whnf);first|apply And.intro|exact bA (by subst_vars;assumption)|intro h9)
  all_goals(try(conv=>whnf))<;>(subst_vars;try first|(apply Tk.mk;kernel_rfl)|exact⟨ah rfl⟩|exact⟨rfl⟩|exact⟨trivial⟩|rfl|contradiction|(apply Ob.mk;(try simp only[ag,ak,aa.ae])<;>(try dsimp only)<;>omega))
  all_goals try first|trivial
  all_goals exact hK
 have hK:=iB (by unfold aIo;rw[hg,hT];rfl) A hA.1
 repeat'((conv=>whnf);first|apply And.intro|exact bA (by subst_vars;assumption)|intro h9)
 all_goals(try(conv=>whnf))<;>(subst_vars;try first|(apply Tk.mk;kernel_rfl)|exact⟨ah rfl⟩|exact⟨rfl⟩|exact⟨trivial⟩|rfl|contradiction|(apply Ob.mk;(try simp only[ag,ak,aa.ae])<;>(try dsimp only)<;>omega))
 refine⟨Unit,fun _=>True,fun _=>⟨aI 55 [12] [.a .ff],tm::fr,[.arr 67 kK L false false,.box true [vI l,vI t,vI f],.box true [.sl 12 [] 0 A.length,vI (s-f)],.box true [.tt],.box true [.sl 0 [] 0 L.length],.box true [vI f],.box true [vI k],.lp l0 (alA L k) (ami fn T dd) .done (some .ret),.box true [.yl 7],.arr 3 kI A true true,.box true [.sl 9 [] 0 k],.box true [.fn 98 [6,8,10,5,4,11]],.arr 3 kI A true true]⟩,?_,?_⟩
 ·repeat'((conv=>whnf);first|apply And.intro|exact bA (by subst_vars;assumption)|intro h9)
  all_goals(try(conv=>whnf))<;>(subst_vars;try first|(apply Tk.mk;kernel_rfl)|exact⟨ah rfl⟩|exact⟨rfl⟩|exact⟨trivial⟩|rfl|contradiction|(apply Ob.mk;(try simp only[ag,ak,aa.ae])<;>(try dsimp only)<;>omega))
  all_goals try first|exact⟨hA.1.symm⟩|exact⟨show A.length<=1000000 by omega⟩
  refine⟨(),[0,1,2,3,4,5,6,7,8,9,10,11,13],trivial,?_⟩;repeat'((conv=>whnf);(first|apply And.intro|intro _))
  all_goals first|rfl|trivial|exact ah rfl|exact⟨rfl,rfl,rfl⟩|exact⟨rfl,rfl⟩|exact hfr.hd _ _ _ (by decide) (ah rfl) (ah rfl)|exact hfr.tl _ _ _ (by decide) (ah rfl) (ah rfl)|exact hA.1|exact hA.1.symm|(rename_i r9 bx;revert r9;decide)
 rintro _ _;repeat'((conv=>whnf);first|apply And.intro|exact bA (by subst_vars;assumption)|intro h9)
 all_goals(try(conv=>whnf))<;>(subst_vars;try first|(apply Tk.mk;kernel_rfl)|exact⟨ah rfl⟩|exact⟨rfl⟩|exact⟨trivial⟩|rfl|contradiction|(apply Ob.mk;(try simp only[ag,ak,aa.ae])<;>(try dsimp only)<;>omega))
 all_goals try first|trivial
 all_goals exact hK
theorem atj (hB:gb L) (hf:0<=f/\f<=1000000) (hk:k<=20) (m:Nat) (cl:Cl) (rd:Rd) (IH:anx l t f L k l0 fn T dd m cl):
 anx l t f L k l0 fn T dd (m+1) (GG gq (jD gq cl rd none)):=by
 intro n i zn zi s A tm fr Kc alw amD hn hi hA fK xX hfr hno iB;have hN:=hB.Kg;obtain rfl:=alw;obtain rfl:=amD;have hkk:((n:Int)==(k:Int))=false:=beq_eq_false_iff_ne.2 (by omega)
 have hnk:n+m+1<=k/\k<=n+m+1:=by omega
 replace hA:=And.intro hA trivial;clear hn;repeat'((conv=>whnf);first|apply And.intro|exact bA (by subst_vars;assumption)|intro h9)
 all_goals(try(conv=>whnf))<;>(subst_vars;try first|(apply Tk.mk;kernel_rfl)|exact⟨ah rfl⟩|exact⟨rfl⟩|exact⟨trivial⟩|rfl|contradiction|(apply Ob.mk;(try simp only[ag,ak,aa.ae])<;>(try dsimp only)<;>omega))
 refine⟨Nat×List Int,fun x=>(i<=x.1/\x.1<=L.length)/\(x.2.length=k/\x.2.take n=A.take n)/\aIo f (l-t) (l+t) L (m+1) (L.length-i) i s (A.take n)=aIo f (l-t) (l+t) L (m+1) (L.length-x.1) x.1 s (A.take n),fun|(j,A)=>⟨aI 55 [0,2,3,4,5,6,7,8,13] [.a (vI n),.a (vI s),.a (.p 6 [] 0 0),.a (.p 8 [] 0 0),.a (.p 10 [] 0 0),.a (.p 5 [] 0 0),.a (.p 4 [] 0 0),.a (.p 11 [] 0 0),.a (vI j)],tm::fr,[.arr 67 kK L false false,.box true [vI l,vI t,vI f],.box true [.v (.slice none 0 0),vI 0],.box true [.v (.bool false)],.box true [.sl 0 [] 0 L.length],.box true [vI f],.box true [vI k],.lp l0 (alA L k) (ami fn T dd) .ready none,.box true [.yl 7],.arr 3 kI A true true,.box true [.sl 9 [] 0 k],.box true [.fn 98 [6,8,10,5,4,11]]]⟩,fun x=>L.length+1-x.1,(i,A),[0,1,2,3,4,5,6,7,8,9,10,11],⟨⟨Nat.le_refl _,hi⟩,⟨hA.1,rfl⟩,rfl⟩,?_,?_⟩
 ·repeat'((conv=>whnf);(first|apply And.intro|intro _))
  all_goals first|rfl|trivial|exact ah rfl|exact⟨rfl,rfl,rfl⟩|exact⟨rfl,rfl⟩|exact hfr.hd _ _ _ (by decide) (ah rfl) (ah rfl)|exact hfr.tl _ _ _ (by decide) (ah rfl) (ah rfl)|exact hA.1|exact hA.1.symm|(rename_i r9 bx;revert r9;decide)
 rintro⟨j,B⟩ ⟨⟨aoU,hj⟩,⟨akA,amy⟩,hsrc⟩;dsimp only at aoU hj akA amy hsrc;replace akA:=And.intro akA trivial;by_cases Ho:j+(m+1)<=L.length
 ·have p0:decide ((j:Int)<=(L.length:Int)-((k:Int)-(n:Int)))=true:=decide_eq_true (by omega)
  have akD:j<L.length:=by omega
  have hlen:=hB.len (show bk L j∈L by rw[akX akD];exact List.getElem_mem akD)
  rw[<-tb L j]at hlen;have jK:=And.intro (show(B.set (0+Int.toNat (n:Int)) (j:Int)).length=k by rw[List.length_set];exact akA.1) trivial
  have r1:ak .i64 (s+(gr L j).2):=by simp only[ak];omega
  have r2:ak .i64 (s+(gr L j).2+f):=by simp only[ak];omega
  have vg:(B.set (0+Int.toNat (n:Int)) (j:Int)).take (n+1)=A.take n++[(j:Int)]:=by
   rw[Nat.zero_add,Int.toNat_natCast,<-amy];exact take_set (by omega)
  have hidx:0+Int.toNat (n:Int)<B.length:=by omega
  have hst:=atZ (f:=f) (lo:=l-t) (hi:=l+t) (L:=L) (m:=m) (s:=s) (p:=A.take n) akD;rw[show bk L j=gr L j from(tb L j).symm]at hst;repeat'((conv=>whnf);first|apply And.intro|exact bA (by subst_vars;assumption)|intro h9)
  all_goals(try(conv=>whnf))<;>(subst_vars;try first|(apply Tk.mk;kernel_rfl)|exact⟨ah rfl⟩|exact⟨rfl⟩|exact⟨trivial⟩|rfl|contradiction|(apply Ob.mk;(try simp only[ag,ak,aa.ae])<;>(try dsimp only)<;>omega))
  all_goals try first|exact⟨hidx⟩
  refine⟨List Int×Option (List Int×Int),fun x=>x.1.length=k/\aIo f (l-t) (l+t) L m (L.length-(j+1)) (j+1) (s+(gr L j).2+f) (A.take n++[(j:Int)])=x.2/\(x.2=none->x.1.take n=A.take n),fun|(A,none)=>⟨aI 55 [0,2,3,4,5,6,7,8,13,54] [.a (vI n),.a (vI s),.a (.p 6 [] 0 0),.a (.p 8 [] 0 0),.a (.p 10 [] 0 0),.a (.p 5 [] 0 0),.a (.p 4 [] 0 0),.a (.p 11 [] 0 0),.a (vI j),.a .ff],tm::fr,[.arr 67 kK L false false,.box true [vI l,vI t,vI f],.box true [.v (.slice none 0 0),vI 0],.box true [.v (.bool false)],.box true [.sl 0 [] 0 L.length],.box true [vI f],.box true [vI k],.lp l0 (alA L k) (ami fn T dd) .ready none,.box true [.yl 7],.arr 3 kI A true true,.box true [.sl 9 [] 0 k],.box true [.fn 98 [6,8,10,5,4,11]]]⟩|(A,some (C,len))=>⟨aI 55 [0,2,3,4,5,6,7,8,13,54] [.a (vI n),.a (vI s),.a (.p 6 [] 0 0),.a (.p 8 [] 0 0),.a (.p 10 [] 0 0),.a (.p 5 [] 0 0),.a (.p 4 [] 0 0),.a (.p 11 [] 0 0),.a (vI j),.a .tt],tm::fr,[.arr 67 kK L false false,.box true [vI l,vI t,vI f],.box true [.sl 12 [] 0 C.length,vI len],.box true [.tt],.box true [.sl 0 [] 0 L.length],.box true [vI f],.box true [vI k],.lp l0 (alA L k) (ami fn T dd) .done (some .ret),.box true [.yl 7],.arr 3 kI A true true,.box true [.sl 9 [] 0 k],.box true [.fn 98 [6,8,10,5,4,11]],.arr 3 kI C true true]⟩,?_,?_⟩
  ·repeat'((conv=>whnf);first|apply And.intro|exact bA (by subst_vars;assumption)|intro h9)
   all_goals(try(conv=>whnf))<;>(subst_vars;try first|(apply Tk.mk;kernel_rfl)|exact⟨ah rfl⟩|exact⟨rfl⟩|exact⟨trivial⟩|rfl|contradiction|(apply Ob.mk;(try simp only[ag,ak,aa.ae])<;>(try dsimp only)<;>omega))
   all_goals try first|exact⟨r1⟩|exact⟨r2⟩|exact⟨show 0+Int.toNat (j:Int)<L.length by omega⟩
   refine IH (n+1) (j+1) _ _ (s+(gr L j).2+f) _ _ _ _ rfl rfl (by omega) (by omega) jK.1 (by omega) (by omega) (hfr.push ?_) ?_ ?_
   ·intro is m n h1 h2 h3;repeat'((conv=>whnf);(first|apply And.intro|intro _))
    all_goals first|rfl|trivial|omega|(rw[h1 _ (by omega)];done)|(rw[h1 _ (by omega)];omega)|(simp only[List.map_cons,List.map_nil];rw[h1 6 (by decide),h1 8 (by decide),h1 10 (by decide),h1 5 (by decide),h1 4 (by decide),h1 11 (by decide)];done)|(have h7:=(show ∀ r∈[6,8,10,5,4,11],r<12 by decide) _ ‹_›;first|omega|(rw[h1 _ h7];omega))
   ·intro h0 A' nu acz;replace h0:aIo f (l-t) (l+t) L m (L.length-(j+1)) (j+1) (s+(gr L j).2+f) ((B.set (0+Int.toNat (n:Int)) (j:Int)).take (n+1))=none:=h0;replace acz:A'.take (n+1)=(B.set (0+Int.toNat (n:Int)) (j:Int)).take (n+1):=acz;rw[vg]at h0 acz;have atr:A'.take n=A.take n:=anq (by omega) acz
    replace nu:=And.intro nu trivial;repeat'((conv=>whnf);first|apply And.intro|exact bA (by subst_vars;assumption)|intro h9)
    all_goals(try(conv=>whnf))<;>(subst_vars;try first|(apply Tk.mk;kernel_rfl)|exact⟨ah rfl⟩|exact⟨rfl⟩|exact⟨trivial⟩|rfl|contradiction|(apply Ob.mk;(try simp only[ag,ak,aa.ae])<;>(try dsimp only)<;>omega))
    refine⟨(A',none),[0,1,2,3,4,5,6,7,8,9,10,11],⟨nu.1,h0,fun _=>atr⟩,?_⟩
    repeat'((conv=>whnf);(first|apply And.intro|intro _))
    all_goals first|rfl|trivial|exact ah rfl|exact⟨rfl,rfl,rfl⟩|exact⟨rfl,rfl⟩|exact hfr.hd _ _ _ (by decide) (ah rfl) (ah rfl)|exact hfr.tl _ _ _ (by decide) (ah rfl) (ah rfl)|exact hA.1|exact hA.1.symm|(rename_i r9 bx;revert r9;decide)
   ·intro C len hC A' nu;replace hC:aIo f (l-t) (l+t) L m (L.length-(j+1)) (j+1) (s+(gr L j).2+f) ((B.set (0+Int.toNat (n:Int)) (j:Int)).take (n+1))=some (C,len):=hC;rw[vg]at hC;replace nu:=And.intro nu trivial;repeat'((conv=>whnf);first|apply And.intro|exact bA (by subst_vars;assumption)|intro h9)
    all_goals(try(conv=>whnf))<;>(subst_vars;try first|(apply Tk.mk;kernel_rfl)|exact⟨ah rfl⟩|exact⟨rfl⟩|exact⟨trivial⟩|rfl|contradiction|(apply Ob.mk;(try simp only[ag,ak,aa.ae])<;>(try dsimp only)<;>omega))
    refine⟨(A',some (C,len)),[0,1,2,3,4,5,6,7,8,9,10,11,12],⟨nu.1,hC,fun h=>by cases h⟩,?_⟩
    repeat'((conv=>whnf);(first|apply And.intro|intro _))
    all_goals first|rfl|trivial|exact ah rfl|exact⟨rfl,rfl,rfl⟩|exact⟨rfl,rfl⟩|exact hfr.hd _ _ _ (by decide) (ah rfl) (ah rfl)|exact hfr.tl _ _ _ (by decide) (ah rfl) (ah rfl)|exact hA.1|exact hA.1.symm|(rename_i r9 bx;revert r9;decide)
  rintro⟨A',o⟩ ⟨alu,h0,acz⟩;dsimp only at alu h0 acz;replace alu:=And.intro alu trivial;cases o with
  |none=>
   have acz:=acz rfl;repeat'((conv=>whnf);first|apply And.intro|exact bA (by subst_vars;assumption)|intro h9)
   all_goals(try(conv=>whnf))<;>(subst_vars;try first|(apply Tk.mk;kernel_rfl)|exact⟨ah rfl⟩|exact⟨rfl⟩|exact⟨trivial⟩|rfl|contradiction|(apply Ob.mk;(try simp only[ag,ak,aa.ae])<;>(try dsimp only)<;>omega))
   refine⟨(j+1,A'),[0,1,2,3,4,5,6,7,8,9,10,11],⟨⟨by dsimp only;omega,akD⟩,⟨alu.1,acz⟩,by dsimp only;rw[hsrc,hst,h0]⟩,?_,by show L.length+1-(j+1)<L.length+1-j;omega⟩
   repeat'((conv=>whnf);(first|apply And.intro|intro _))
   all_goals first|rfl|trivial|exact ah rfl|exact⟨rfl,rfl,rfl⟩|exact⟨rfl,rfl⟩|exact hfr.hd _ _ _ (by decide) (ah rfl) (ah rfl)|exact hfr.tl _ _ _ (by decide) (ah rfl) (ah rfl)|exact hA.1|exact hA.1.symm|(rename_i r9 bx;revert r9;decide)
  |some x=>
   obtain⟨C,len⟩:=x;have hK:=iB C len (by rw[hsrc,hst,h0]) A' alu.1
   repeat'((conv=>whnf);first|apply And.intro|exact bA (by subst_vars;assumption)|intro h9)
   all_goals(try(conv=>whnf))<;>(subst_vars;try first|(apply Tk.mk;kernel_rfl)|exact⟨ah rfl⟩|exact⟨rfl⟩|exact⟨trivial⟩|rfl|contradiction|(apply Ob.mk;(try simp only[ag,ak,aa.ae])<;>(try dsimp only)<;>omega))
   all_goals try first|trivial
   all_goals exact hK
 have p0:decide ((j:Int)<=(L.length:Int)-((k:Int)-(n:Int)))=false:=decide_eq_false (by omega)
 have hK:=hno (by rw[hsrc];exact anp (by omega)) B akA.1 amy
 repeat'((conv=>whnf);first|apply And.intro|exact bA (by subst_vars;assumption)|intro h9)
 all_goals(try(conv=>whnf))<;>(subst_vars;try first|(apply Tk.mk;kernel_rfl)|exact⟨ah rfl⟩|exact⟨rfl⟩|exact⟨trivial⟩|rfl|contradiction|(apply Ob.mk;(try simp only[ag,ak,aa.ae])<;>(try dsimp only)<;>omega))
 all_goals try first|trivial
 all_goals exact hK
end
end Go.Proofs.Ytccnimhgjjnmoaa
end
section
namespace Go.Proofs.Ytccnimhgjjnmoaa
open Go Go.Sy Go.dg
variable {Γ:bn}
def al5 (D:List Bk->Int->Int->Int->List aa) (R:List Bk->Int->Int->Int->cM):au:=.new fun args rg K=>match args with
 |[.a x0,.agg [.v (.int .i64 n0),.v (.int .i64 n1),.v (.int .i64 n2)]]=>(match ac1 67 kK rg x0 with|some (q0,L0)=>aBP false (q0++(D L0 n0 n1 n2)) (K (R L0 n0 n1 n2))|_=>False)
 |_=>False
theorem amN {f:FuncId} {b:Body} {E:Env} {d:Nat} (hP:aL Try.prog Γ E) (hb:bQ Try.prog f b) {D:List Bk->Int->Int->Int->List aa} {R:List Bk->Int->Int->Int->cM}
 (H:∀ (L0:List Bk) (n0:Int) (n1:Int) (n2:Int) (K:cM->Prop),bW (D L0 n0 n1 n2)->K (R L0 n0 n1 n2)->cQ E d b [.a (.sl 0 [] 0 L0.length),.agg [vI n0,vI n1,vI n2]] [.arr 67 kK L0 false false] (bu K)):au.Ok Try.prog Γ f (al5 D R):=au.fM (d:=d) hP hb (by
 intro args rg K hF;split at hF;next x0 n0 n1 n2=>
  split at hF;next q0 L0 hx0=>
   rw[aV,aH]at hF;obtain⟨⟨aIh,hD⟩,hK⟩:=hF;obtain⟨e0,Vn⟩:=bP (by simp[kK]) hx0 aIh
   obtain⟨p0,r0⟩:=Vn [e0] 0 1 rfl (by omega)
   refine⟨[e0],[.a (.sl 0 [] 0 L0.length),.agg [vI n0,vI n1,vI n2]],[.arr 67 kK L0 false false],⟨⟨p0,⟨rfl,rfl,rfl,trivial⟩,trivial⟩,fun r g hg=>?_⟩,bu K,H _ _ _ _ K hD hK,fun x st h=>h⟩
   match r,hg with
   |0,hg=>obtain rfl:=Option.some.inj hg;exact r0
  next=>exact hF.elim
 next=>exact hF.elim)
attribute [local irreducible] ck wN sub e7 ta kG adp aIo aQ x6 Q2 alr
theorem av5 {l t f:Int} {L:List Bk} {k l0:Nat} {fn:FuncId} {T:Array Value} {dd:Nat} (hB:gb L) (hf:0<=f/\f<=1000000) (hl:-1152921504606846976<=l/\l<=1152921504606846976) (ht:0<=t/\t<=1152921504606846976) (hk:k<=20) (e:Nat):∀ m,anx l t f L k l0 fn T dd m (GG gq (MC gq (e+2+m) none))
 |0=>atk hB hf hl ht hk e _
 |m+1=>atj hB hf hk m _ _ (av5 hB hf hl ht hk e m)
def avC (l t f:Int) (L:List Bk) (k:Nat) (cl:Cl):Prop:=∀ (l0:Nat) (fn:FuncId) (T:Array Value) (dd:Nat) (tm:Sl) (fr:List Sl) (s:Sl) (Kc:Tm->St->Prop),alm 7 tm fr->s.n=36->(∀ is m n,(∀ r,r<7->rn is r=r)->12<=m->12<=n->wM is m n s.t (alA L k).t)->
 (alr f (l-t) (l+t) L k=none->∀ A',A'.length=k->Kc (.bF []) ⟨tm,fr,[.arr 67 kK L false false,.box true [vI l,vI t,vI f],.box true [.v (.slice none 0 0),vI 0],.box true [.v (.bool false)],.box true [.sl 0 [] 0 L.length],.box true [vI f],.box true [vI k],.lp l0 (alA L k) (ami fn T dd) .ready none,.box true [.yl 7],.arr 3 kI A' true true,.box true [.sl 9 [] 0 k],.box true [.fn 98 [6,8,10,5,4,11]]]⟩)->
 (∀ C len,alr f (l-t) (l+t) L k=some (C,len)->∀ A',A'.length=k->Kc (.bF []) ⟨tm,fr,[.arr 67 kK L false false,.box true [vI l,vI t,vI f],.box true [.sl 12 [] 0 C.length,vI len],.box true [.tt],.box true [.sl 0 [] 0 L.length],.box true [vI f],.box true [vI k],.lp l0 (alA L k) (ami fn T dd) .done (some .ret),.box true [.yl 7],.arr 3 kI A' true true,.box true [.sl 9 [] 0 k],.box true [.fn 98 [6,8,10,5,4,11]],.arr 3 kI C true true]⟩)->
 cl (bo Try.f97) [.a (.yl 7),.a (.p 6 [] 0 0),.a (.p 5 [] 0 0),.a (.p 4 [] 0 0)] ⟨tm,fr,[.arr 67 kK L false false,.box true [vI l,vI t,vI f],.box true [.v (.slice none 0 0),vI 0],.box true [.v (.bool false)],.box true [.sl 0 [] 0 L.length],.box true [vI f],.box true [vI k],.lp l0 s (ami fn T dd) .ready none]⟩ Kc
theorem ayG {l t f:Int} {L:List Bk} {k:Nat} (hB:gb L) (cB:1<=k) (hk:k<=20) (cl:Cl) (rd:Rd) (hS:∀ (l0:Nat) (fn:FuncId) (T:Array Value) (dd:Nat),anx l t f L k l0 fn T dd k cl):avC l t f L k (GG gq (jD gq cl rd none)):=by
 intro l0 fn T dd tm fr s Kc hfr PS hs hno iB;have p1:decide ((k:Int)>=1)=true:=decide_eq_true (by omega)
 have att:=And.intro (show(List.replicate k (0:Int)).length=k from List.length_replicate) trivial;obtain⟨sn,st⟩:=s;dsimp only at PS hs;subst PS;repeat'((conv=>whnf);first|apply And.intro|exact bA (by subst_vars;assumption)|intro h9)
 all_goals(try(conv=>whnf))<;>(subst_vars;try first|(apply Tk.mk;kernel_rfl)|exact⟨ah rfl⟩|exact⟨rfl⟩|exact⟨trivial⟩|rfl|contradiction|(apply Ob.mk;(try simp only[ag,ak,aa.ae])<;>(try dsimp only)<;>omega))
 all_goals try first|exact⟨show(k:Int)*1<=16777216 by omega⟩
 refine⟨Unit,fun _=>True,fun _=>⟨aI 14 [1,2,3,4,5,6] [.a (.p 6 [] 0 0),.a (.p 5 [] 0 0),.a (.p 4 [] 0 0),.a (.p 8 [] 0 0),.a (.p 10 [] 0 0),.a (.p 11 [] 0 0)],tm::fr,[.arr 67 kK L false false,.box true [vI l,vI t,vI f],.box true [.v (.slice none 0 0),vI 0],.box true [.v (.bool false)],.box true [.sl 0 [] 0 L.length],.box true [vI f],.box true [vI k],.lp l0 (alA L k) (ami fn T dd) .ready none,.box true [.yl 7],.arr 3 kI (List.replicate k (0:Int)) true true,.box true [.sl 9 [] 0 k],.box true [.any]]⟩,?_,?_⟩
 ·repeat'((conv=>whnf);first|apply And.intro|exact bA (by subst_vars;assumption)|intro h9)
  all_goals(try(conv=>whnf))<;>(subst_vars;try first|(apply Tk.mk;kernel_rfl)|exact⟨ah rfl⟩|exact⟨rfl⟩|exact⟨trivial⟩|rfl|contradiction|(apply Ob.mk;(try simp only[ag,ak,aa.ae])<;>(try dsimp only)<;>omega))
  refine⟨(),[0,1,2,3,4,5,6,7,8,9,10,11],trivial,?_⟩;repeat'((conv=>whnf);(first|apply And.intro|intro _))
  all_goals first|rfl|exact hs _ _ _ (by decide) (ah rfl) (ah rfl)|exact hfr.hd _ _ _ (by decide) (ah rfl) (ah rfl)|exact hfr.tl _ _ _ (by decide) (ah rfl) (ah rfl)|trivial|exact ah rfl|exact⟨rfl,rfl,rfl⟩|exact⟨rfl,rfl⟩|(rename_i r9 bx;revert r9;decide)
 rintro _ _;repeat'((conv=>whnf);first|apply And.intro|exact bA (by subst_vars;assumption)|intro h9)
 all_goals(try(conv=>whnf))<;>(subst_vars;try first|(apply Tk.mk;kernel_rfl)|exact⟨ah rfl⟩|exact⟨rfl⟩|exact⟨trivial⟩|rfl|contradiction|(apply Ob.mk;(try simp only[ag,ak,aa.ae])<;>(try dsimp only)<;>omega))
 refine hS l0 fn T dd 0 0 _ _ _ _ _ _ _ rfl rfl (by omega) (by omega) att.1 (by omega) (by omega) ⟨?_,?_⟩ ?_ ?_
 ·intro is m n h1 h2 h3;repeat'((conv=>whnf);(first|apply And.intro|intro _))
  all_goals first|rfl|trivial|omega|(rw[h1 _ (by omega)];done)|(rw[h1 _ (by omega)];omega)|(simp only[List.map_cons,List.map_nil];rw[h1 6 (by decide),h1 8 (by decide),h1 10 (by decide),h1 5 (by decide),h1 4 (by decide),h1 11 (by decide)];done)|(have h7:=(show ∀ r∈[6,8,10,5,4,11],r<12 by decide) _ ‹_›;first|omega|(rw[h1 _ h7];omega))|(simp only[List.map_cons,List.map_nil];rw[h1 6 (by decide),h1 5 (by decide),h1 4 (by decide)];done)|(have h7:=(show ∀ r∈[6,5,4],r<12 by decide) _ ‹_›;first|omega|(rw[h1 _ h7];omega))
 ·intro is m n h1 h2 h3;refine⟨⟨rfl,hfr.hd is m n (fun r hr=>h1 r (by omega)) (by omega) (by omega)⟩,hfr.tl is m n (fun r hr=>h1 r (by omega)) (by omega) (by omega)⟩
 ·intro h0 A' nu _;replace nu:=And.intro nu trivial;have hK:=hno (by unfold alr;exact h0) A' nu.1
  repeat'((conv=>whnf);first|apply And.intro|exact bA (by subst_vars;assumption)|intro h9)
  all_goals(try(conv=>whnf))<;>(subst_vars;try first|(apply Tk.mk;kernel_rfl)|exact⟨ah rfl⟩|exact⟨rfl⟩|exact⟨trivial⟩|rfl|contradiction|(apply Ob.mk;(try simp only[ag,ak,aa.ae])<;>(try dsimp only)<;>omega))
  all_goals try first|trivial
  all_goals exact hK
 ·intro C n hC A' nu;replace nu:=And.intro nu trivial;have hK:=iB C n (by unfold alr;exact hC) A' nu.1
  repeat'((conv=>whnf);first|apply And.intro|exact bA (by subst_vars;assumption)|intro h9)
  all_goals(try(conv=>whnf))<;>(subst_vars;try first|(apply Tk.mk;kernel_rfl)|exact⟨ah rfl⟩|exact⟨rfl⟩|exact⟨trivial⟩|rfl|contradiction|(apply Ob.mk;(try simp only[ag,ak,aa.ae])<;>(try dsimp only)<;>omega))
  all_goals try first|trivial
  all_goals exact hK
end Go.Proofs.Ytccnimhgjjnmoaa
end
