/-
  Texts of the claims: Ykz1z. No condition: lemmas and contracts.
-/
import Derived.Test.YtccnimhgjjnmoaaSya1z
import Derived.Test.YtccnimhgjjnmoaaSya2z
import Derived.Test.YtccnimhgjjnmoaaSya3z
import Derived.Test.YtccnimhgjjnmoaaSya4z
import Derived.Test.YtccnimhgjjnmoaaSya5z
import Derived.Test.YtccnimhgjjnmoaaPla6z
import Derived.Test.YtccnimhgjjnmoaaYka7z
import Derived.Test.YtccnimhgjjnmoaaYka8z
import Derived.Test.YtccnimhgjjnmoaaYka9z
import Derived.Test.YtccnimhgjjnmoaaYka10z
import Derived.Test.YtccnimhgjjnmoaaYka11z
import Derived.Test.YtccnimhgjjnmoaaYka12z
import Derived.Test.YtccnimhgjjnmoaaYka13z
import Derived.Test.YtccnimhgjjnmoaaYka14z
import Derived.Test.YtccnimhgjjnmoaaYka15z
import Derived.Test.YtccnimhgjjnmoaaYka16z
import Derived.Test.YtccnimhgjjnmoaaYka17z
import Derived.Test.YtccnimhgjjnmoaaYka18z
import Derived.Test.YtccnimhgjjnmoaaPlb1z
import Derived.Test.YtccnimhgjjnmoaaPlc1z
import Derived.Test.YtccnimhgjjnmoaaYkc2z
import Derived.Test.YtccnimhgjjnmoaaPld1z
import Derived.Test.YtccnimhgjjnmoaaYke1z
import Derived.Test.YtccnimhgjjnmoaaPlf1z
import Derived.Test.YtccnimhgjjnmoaaPlg1z
import Derived.Test.YtccnimhgjjnmoaaYkg2z
import Derived.Test.YtccnimhgjjnmoaaPlh1z
import Derived.Test.YtccnimhgjjnmoaaYkh2z
import Derived.Test.YtccnimhgjjnmoaaYki1z
import Derived.Test.YtccnimhgjjnmoaaYkk1z
import Derived.Test.YtccnimhgjjnmoaaYkm1z
import Derived.Test.YtccnimhgjjnmoaaYko1z
import Derived.Test.YtccnimhgjjnmoaaPlr1z
import Derived.Test.YtccnimhgjjnmoaaYkr2z
set_option linter.all false
set_option maxRecDepth 100000
set_option maxHeartbeats 40000000
section
namespace Go.Proofs.Ytccnimhgjjnmoaa
open Go Go.Sy Go.dg
variable {Γ:bn}
def aFK (D:List Bk->Int->Int->Int->Int->Int->Int->List Int->List Int->List aa) (F:List Bk->Int->Int->Int->Int->Int->Int->List Int->List Int->Tm):au:=.fn fun args rg=>match args with
 |[.a x0,.agg [.v (.int .i64 n0),.v (.int .i64 n1),.v (.int .i64 n2)],.agg [.v (.int .i64 n3),.v (.int .i64 n4),.v (.int .i64 n5)],.a x1,.a x2]=>(match ac1 67 kK rg x0,ac1 3 kI rg x1,ac1 3 kI rg x2 with|some (q0,L0),some (q1,L1),some (q2,L2)=>some (q0++(q1++(q2++(D L0 n0 n1 n2 n3 n4 n5 L1 L2))),F L0 n0 n1 n2 n3 n4 n5 L1 L2)|_,_,_=>none)
 |_=>none
theorem aFL {f:FuncId} {b:Body} {E:Env} {d:Nat} (hP:aL Try.prog Γ E) (hb:bQ Try.prog f b) {D:List Bk->Int->Int->Int->Int->Int->Int->List Int->List Int->List aa} {F:List Bk->Int->Int->Int->Int->Int->Int->List Int->List Int->Tm} (hp:∀ (L0:List Bk) (n0:Int) (n1:Int) (n2:Int) (n3:Int) (n4:Int) (n5:Int) (L1:List Int) (L2:List Int),(F L0 n0 n1 n2 n3 n4 n5 L1 L2).plain=true)
 (H:∀ (L0:List Bk) (n0:Int) (n1:Int) (n2:Int) (n3:Int) (n4:Int) (n5:Int) (L1:List Int) (L2:List Int),bW (D L0 n0 n1 n2 n3 n4 n5 L1 L2)->cQ E d b [.a (.sl 0 [] 0 L0.length),.agg [vI n0,vI n1,vI n2],.agg [vI n3,vI n4,vI n5],.a (.sl 1 [] 0 L1.length),.a (.sl 2 [] 0 L2.length)] [.arr 67 kK L0 false false,.arr 3 kI L1 false false,.arr 3 kI L2 false false] (fun x _=>iL x (F L0 n0 n1 n2 n3 n4 n5 L1 L2))):au.Ok Try.prog Γ f (aFK D F):=au.aBp (d:=d) hP hb (by
 intro args rg q t hF hq;split at hF;next x0 n0 n1 n2 n3 n4 n5 x1 x2=>
  split at hF;next q0 L0 q1 L1 q2 L2 hx0 cO cq=>
   obtain⟨rfl,rfl⟩:=Prod.mk.inj (Option.some.inj hF);clear hF;rw[aH,aH,aH]at hq;obtain⟨aIh,gk,AM,hD⟩:=hq;obtain⟨e0,Vn⟩:=bP (by simp[kK]) hx0 aIh
   obtain⟨e1,iO⟩:=bP (by simp[kI]) cO gk
   obtain⟨e2,AH⟩:=bP (by simp[kI]) cq AM
   obtain⟨p0,r0⟩:=Vn [e0,e1,e2] 0 3 rfl (by omega)
   obtain⟨p1,r1⟩:=iO [e0,e1,e2] 1 3 rfl (by omega)
   obtain⟨p2,r2⟩:=AH [e0,e1,e2] 2 3 rfl (by omega)
   refine⟨hp _ _ _ _ _ _ _ _ _,[e0,e1,e2],[.a (.sl 0 [] 0 L0.length),.agg [vI n0,vI n1,vI n2],.agg [vI n3,vI n4,vI n5],.a (.sl 1 [] 0 L1.length),.a (.sl 2 [] 0 L2.length)],[.arr 67 kK L0 false false,.arr 3 kI L1 false false,.arr 3 kI L2 false false],⟨⟨p0,⟨rfl,rfl,rfl,trivial⟩,⟨rfl,rfl,rfl,trivial⟩,p1,p2,trivial⟩,fun r g hg=>?_⟩,H _ _ _ _ _ _ _ _ _ hD⟩
   match r,hg with
   |0,hg=>obtain rfl:=Option.some.inj hg;exact r0
   |1,hg=>obtain rfl:=Option.some.inj hg;exact r1
   |2,hg=>obtain rfl:=Option.some.inj hg;exact r2
  next=>cases hF
 next=>cases hF)
noncomputable def aHc:List (Nat×au):=[(21,aIb),(32,av3),(48,aEn),(47,aFA)]
theorem aGF:aR Try.prog Γ aHc:=((((aR.nil.cons (aj Try.func47 rfl rfl).fn aE3).cons (aj Try.func48 rfl rfl).fn aEh).cons (aj Try.func32 rfl rfl).fn ave).cons (aj Try.func21 rfl rfl).fn sW)
def aD9 (J I:List Int) (i:Nat):Bool:=(I.take i).all fun z=>!J.contains z
theorem aGn (J I:List Int):aD9 J I 0=true:=rfl
theorem aFm {J I:List Int} {i:Nat} (h:i<I.length):aD9 J I (i+1)=(aD9 J I i&&!J.contains (ca I i)):=by
 unfold aD9;rw[List.take_add_one,List.getElem?_eq_getElem h,List.all_append,alf h];simp
theorem aGp (L:List Bk):(ck L).1≠5:=by
 unfold ck;split
 ·show(2:Int)≠5;decide
 ·split
  ·unfold l5;split
   ·show(1:Int)≠5;decide
   ·split
    ·show(6:Int)≠5;decide
    ·show(0:Int)≠5;decide
  ·show(0:Int)≠5;decide
theorem aFZ (L:List Bk) (l t f l' t' f':Int):(akW L l t f l' t' f' !=5)=true:=by
 rw[bne_iff_ne];unfold akW lu;split
 ·split<;>decide
 ·exact aGp L
theorem aFl {L:List Bk} (hL:aos L) {u v:Nat} (hu:u<2^L.length):u &&& v=0<->∀ x∈eg L u,¬x∈eg L v:=by
 rw[and_zero hu];constructor
 ·intro h x hx hy;rw[aEw hL]at hx hy;exact h _ hx.1 ⟨hx.2,hy.2⟩
 ·intro h j hj ⟨h1,h2⟩;have hp:=aFU hL hj;refine h (bk L j).1 ?_ ?_<;>rw[aEw hL,hp]
  ·exact⟨hj,h1⟩
  ·exact⟨hj,h2⟩
theorem aEr {L:List Bk} {l t f:Int} {u:Nat}:u∈aD7 l t f L<->u<2^L.length/\akv l t f L u=true:=by
 unfold aD7;rw[awS,List.mem_filter,List.mem_range]
structure aHA (L:List Bk) (l t f l' t' f':Int):Prop where
 g1:((aD1 L l t f (pw L (amK L l t f l' t' f').1)).2==0)=true
 g2:aD3 L l t f (pw L (amK L l t f l' t' f').1)=true
 g3:((aD1 L l' t' f' (pw L (amK L l t f l' t' f').2)).2==0)=true
 g4:aD3 L l' t' f' (pw L (amK L l t f l' t' f').2)=true
 aH7:∀ k:Nat,k<(pw L (amK L l t f l' t' f').1).length->(pw L (amK L l t f l' t' f').2).contains (ca (pw L (amK L l t f l' t' f').1) k)=false
 n1:(pw L (amK L l t f l' t' f').1).length<=20
 n2:(pw L (amK L l t f l' t' f').2).length<=20
 Kg:∀ I J:List Int,aD3 L l t f I=true->aD3 L l' t' f' J=true->aD9 J I I.length=true->decide (((pw L (amK L l t f l' t' f').1).length:Int)+((pw L (amK L l t f l' t' f').2).length:Int)>(I.length:Int)+(J.length:Int))=false
theorem aEQ {L:List Bk} {l t f l' t' f':Int} {I J:List Int} (hB:gb L) (h1:aD3 L l t f I=true) (h2:aD3 L l' t' f' J=true) (h3:aD9 J I I.length=true):∃ u v:Nat,u∈aD7 l t f L/\v∈aD7 l' t' f' L/\u &&& v=0/\I.length=cnt L.length u/\J.length=cnt L.length v:=by
 obtain⟨u,u1,u2,u3⟩:=aEl h1;obtain⟨v,v1,v2,v3⟩:=aEl h2;refine⟨u,v,aEr.2 ⟨u1,u2⟩,aEr.2 ⟨v1,v2⟩,?_,by rw[<-u3,ew],by rw[<-v3,ew]⟩
 rw[aFl hB.aos u1,u3,v3];intro x hx hy;unfold aD9 at h3;rw[List.take_length,List.all_eq_true]at h3;have:=h3 x hx;rw[Bool.not_eq_true',Bool.eq_false_iff]at this;exact this (List.contains_iff_mem.2 hy)
theorem aGO {L:List Bk} {l t f l' t' f':Int} (hq:akW L l t f l' t' f'=0) (hr:at5 L l t f l' t' f'=true):aHA L l t f l' t' f':=by
 obtain⟨hB,w1,w2⟩:=awm hq;have hn:=hB.Kg;have ha:bf L l t f=0:=by unfold bf;rw[atO hB,if_pos rfl,if_pos w1]
 have hb:bf L l' t' f'=0:=by unfold bf;rw[atO hB,if_pos rfl,if_pos w2]
 have hs:(rT L l t f l' t' f').isSome=true:=by rw[<-aEO];exact hr
 have aFC:=aEq L.length (aD7 l t f L) (aD7 l' t' f' L);obtain⟨i1,i2⟩:=aFW hs;cases hp:rT L l t f l' t' f' with
 |none=>rw[hp]at hs;cases hs
 |some pq=>
  obtain⟨p,q⟩:=pq;obtain⟨⟨d1,d2,d3⟩,dm⟩:=aFC.some (p,q) hp;rw[hp]at i1 i2;have i1:(pw L (amK L l t f l' t' f').1)=eg L p:=i1;have i2:(pw L (amK L l t f l' t' f').2)=eg L q:=i2;dsimp only at d1 d2 d3 dm;obtain⟨p1,p2⟩:=aEr.1 d1;obtain⟨q1,q2⟩:=aEr.1 d2;obtain⟨a1,a2⟩:=aEk ha p1 p2;obtain⟨b1,b2⟩:=aEk hb q1 q2;refine⟨by rw[i1];exact beq_iff_eq.2 a1,by rw[i1];exact a2,by rw[i2];exact beq_iff_eq.2 b1,by rw[i2];exact b2,fun k hk=>?_,by rw[i1,ew];have:=ajs L.length p;omega,by rw[i2,ew];have:=ajs L.length q;omega,fun I J h1 h2 h3=>?_⟩
  ·rw[i1]at hk ⊢;rw[i2,Bool.eq_false_iff];intro hc;rw[List.contains_iff_mem,alf hk]at hc;exact(aFl hB.aos p1).1 d3 _ (List.getElem_mem hk) hc
  ·obtain⟨u,v,hu,hv,akF,e1,e2⟩:=aEQ hB h1 h2 h3;have:=dm u v ⟨hu,hv,akF⟩;unfold akI at this;rw[Bool.or_eq_false_iff]at this;have h5:=of_decide_eq_false this.1;rw[i1,i2,ew,ew,e1,e2];exact decide_eq_false (by omega)
theorem aGN {L:List Bk} {l t f l' t' f':Int} {I J:List Int} (hq:akW L l t f l' t' f'=0) (hr:at5 L l t f l' t' f'=false) (h1:aD3 L l t f I=true) (h2:aD3 L l' t' f' J=true) (h3:aD9 J I I.length=true):False:=by
 obtain⟨hB,w1,w2⟩:=awm hq;have aFC:=aEq L.length (aD7 l t f L) (aD7 l' t' f' L);obtain⟨u,v,hu,hv,akF,-,-⟩:=aEQ hB h1 h2 h3;have hs:(rT L l t f l' t' f').isSome=false:=by rw[<-aEO];exact hr
 cases hp:rT L l t f l' t' f' with
 |none=>exact aFC.none hp u v ⟨hu,hv,akF⟩
 |some pq=>rw[hp]at hs;cases hs
attribute [local irreducible] ck bf akW ars pw aD1 aD3 aD9
noncomputable def aHs:Env:={jV.env aHc [] false 0 with cut:=fun t=>Nat.beq t 115}
theorem aGq:aL Try.prog Γ aHs:=(aP aGF bq.nil false 0).aBf _
def aFh:au:=aFK (fun _ _ _ _ _ _ _ _ _=>[]) (fun _ _ _ _ _ _ _ _ _=>bl true)
theorem aEI:au.Ok Try.prog Γ 17 aFh:=aFL (d:=0) aGq (aj Try.func17 rfl rfl) (fun _ _ _ _ _ _ _ _ _=>rfl) (by
 intro L l t f l' t' f' I J _;have z0:((0:Int)==0)=true:=rfl;have z1:((0:Int)!=0)=false:=rfl;have z2:((5:Int)!=0)=true:=rfl;have z3:((5:Int)!=5)=false:=rfl;have z4:((0:Int)+0==0)=true:=rfl;by_cases g1:L.length>7
 ·have d1:decide ((L.length:Int)>7)=true:=decide_eq_true (by omega)
  repeat'((conv=>whnf);first|apply And.intro|exact bA (by subst_vars;assumption)|intro h9)
  all_goals(try(conv=>whnf))<;>(subst_vars;try first|(apply Tk.mk;kernel_rfl)|exact⟨ah rfl⟩|exact⟨rfl⟩|exact⟨trivial⟩|rfl|contradiction|(apply Ob.mk;(try simp only[ag,ak,aa.ae])<;>(try dsimp only)<;>omega))
 have d1:decide ((L.length:Int)>7)=false:=decide_eq_false (by omega)
 by_cases g2:I.length>20
 ·have d2:decide ((I.length:Int)>20)=true:=decide_eq_true (by omega)
  repeat'((conv=>whnf);first|apply And.intro|exact bA (by subst_vars;assumption)|intro h9)
  all_goals(try(conv=>whnf))<;>(subst_vars;try first|(apply Tk.mk;kernel_rfl)|exact⟨ah rfl⟩|exact⟨rfl⟩|exact⟨trivial⟩|rfl|contradiction|(apply Ob.mk;(try simp only[ag,ak,aa.ae])<;>(try dsimp only)<;>omega))
 have d2:decide ((I.length:Int)>20)=false:=decide_eq_false (by omega)
 by_cases g3:J.length>20
 ·have d3:decide ((J.length:Int)>20)=true:=decide_eq_true (by omega)
  repeat'((conv=>whnf);first|apply And.intro|exact bA (by subst_vars;assumption)|intro h9)
  all_goals(try(conv=>whnf))<;>(subst_vars;try first|(apply Tk.mk;kernel_rfl)|exact⟨ah rfl⟩|exact⟨rfl⟩|exact⟨trivial⟩|rfl|contradiction|(apply Ob.mk;(try simp only[ag,ak,aa.ae])<;>(try dsimp only)<;>omega))
 have d3:decide ((J.length:Int)>20)=false:=decide_eq_false (by omega)
 have d4:decide ((L.length:Int)>10)=false:=decide_eq_false (by omega)
 have hL:L.length<=1000000:=by omega
 have hI:I.length<=1000:=by omega
 have hJ:J.length<=1000:=by omega
 have aHg:J.length<=1000000:=by omega
 cases h0:akW L l t f l' t' f'==0
 ·have a1:(akW L l t f l' t' f' !=0)=true:=by unfold bne;rw[h0];rfl
  have a2:=aFZ L l t f l' t' f';repeat'((conv=>whnf);first|apply And.intro|exact bA (by subst_vars;assumption)|intro h9)
  all_goals(try(conv=>whnf))<;>(subst_vars;try first|(apply Tk.mk;kernel_rfl)|exact⟨ah rfl⟩|exact⟨rfl⟩|exact⟨trivial⟩|rfl|contradiction|(apply Ob.mk;(try simp only[ag,ak,aa.ae])<;>(try dsimp only)<;>omega))
  all_goals try first|exact⟨hL⟩
 have hq:=eq_of_beq h0;have hz:=aGn J I;cases hr:at5 L l t f l' t' f'
 ·have hno:=fun h1 h2 h3=>aGN (I:=I) (J:=J) hq hr h1 h2 h3
  clear hq;repeat'((conv=>whnf);first|apply And.intro|exact bA (by subst_vars;assumption)|intro h9)
  all_goals(try(conv=>whnf))<;>(subst_vars;try first|(apply Tk.mk;kernel_rfl)|exact⟨ah rfl⟩|exact⟨rfl⟩|exact⟨trivial⟩|rfl|contradiction|(apply Ob.mk;(try simp only[ag,ak,aa.ae])<;>(try dsimp only)<;>omega))
  all_goals try first|exact⟨hL⟩|exact⟨hI⟩|exact⟨hJ⟩
  refine⟨Nat,fun i=>i<=I.length,fun i=>⟨aI 168 [0,3,4,6,7,11,12,13,14,15,16,17,18,19] [.a (.sl 0 [] 0 L.length),.a (.sl 1 [] 0 I.length),.a (.sl 2 [] 0 J.length),.a (.p 3 [] 0 0),.a (.p 4 [] 0 0),.a (.v (.slice none 0 0)),.a (.v (.slice none 0 0)),.a (vI 5),.a (.v (.bool (aD3 L l t f I))),.a (vI (aD1 L l t f I).2),.a (.v (.bool (aD3 L l' t' f' J))),.a (vI (aD1 L l' t' f' J).2),.a (.v (.bool (aD9 J I i))),.a (vI i)],[],[.arr 67 kK L false false,.arr 3 kI I false false,.arr 3 kI J false false,.box true [vI l,vI t,vI f],.box true [vI l',vI t',vI f']]⟩,fun i=>I.length-i,0,[0,1,2,3,4],Nat.zero_le _,?_,?_⟩
  ·repeat'((conv=>whnf)<;>first|apply And.intro|intro _|rfl|trivial|exact ah rfl|exact aS ‹_› rfl|exact aT ‹_› rfl|((repeat' first|rfl|constructor);done)|exact hz|exact hz.symm)
  intro i hi;by_cases hi1:i<I.length
  ·have p0:decide ((i:Int)<(I.length:Int))=true:=decide_eq_true (by omega)
   have hst:=aFm (J:=J) hi1;cases hap:aD9 J I i
   ·rw[hap,Bool.false_and]at hst;repeat'((conv=>whnf);first|apply And.intro|exact bA (by subst_vars;assumption)|intro h9)
    all_goals(try(conv=>whnf))<;>(subst_vars;try first|(apply Tk.mk;kernel_rfl)|exact⟨ah rfl⟩|exact⟨rfl⟩|exact⟨trivial⟩|rfl|contradiction|(apply Ob.mk;(try simp only[ag,ak,aa.ae])<;>(try dsimp only)<;>omega))
    all_goals
     refine⟨i+1,[0,1,2,3,4],hi1,?_,by show I.length-(i+1)<I.length-i;omega⟩
     repeat'((conv=>whnf)<;>first|apply And.intro|intro _|rfl|trivial|exact ah rfl|exact aS ‹_› rfl|exact aT ‹_› rfl|((repeat' first|rfl|constructor);done)|exact hst|exact hst.symm)
   ·rw[hap,Bool.true_and]at hst;repeat'((conv=>whnf);first|apply And.intro|exact bA (by subst_vars;assumption)|intro h9)
    all_goals(try(conv=>whnf))<;>(subst_vars;try first|(apply Tk.mk;kernel_rfl)|exact⟨ah rfl⟩|exact⟨rfl⟩|exact⟨trivial⟩|rfl|contradiction|(apply Ob.mk;(try simp only[ag,ak,aa.ae])<;>(try dsimp only)<;>omega))
    all_goals try first|exact⟨aHg⟩|exact⟨show 0+Int.toNat (i:Int)<I.length by omega⟩
    all_goals
     refine⟨i+1,[0,1,2,3,4],hi1,?_,by show I.length-(i+1)<I.length-i;omega⟩
     repeat'((conv=>whnf)<;>first|apply And.intro|intro _|rfl|trivial|exact ah rfl|exact aS ‹_› rfl|exact aT ‹_› rfl|((repeat' first|rfl|constructor);done)|exact hst|exact hst.symm)
  have p0:decide ((i:Int)<(I.length:Int))=false:=decide_eq_false (by omega)
  have hnl:aD9 J I i=true->aD9 J I I.length=true:=fun h=>by rw[show I.length=i by omega];exact h
  repeat'((conv=>whnf);first|apply And.intro|exact bA (by subst_vars;assumption)|intro h9)
  all_goals(try(conv=>whnf))<;>(subst_vars;try first|(apply Tk.mk;kernel_rfl)|exact⟨ah rfl⟩|exact⟨rfl⟩|exact⟨trivial⟩|rfl|contradiction|(apply Ob.mk;(try simp only[ag,ak,aa.ae])<;>(try dsimp only)<;>omega))
  refine⟨Unit,fun _=>True,fun _=>⟨aI 168 [11,12,13] [.a (.v (.slice none 0 0)),.a (.v (.slice none 0 0)),.a (vI 5)],[],[.arr 67 kK L false false,.arr 3 kI I false false,.arr 3 kI J false false,.box true [vI l,vI t,vI f],.box true [vI l',vI t',vI f']]⟩,?_,?_⟩
  ·cases k1:(aD1 L l t f I).2==0
   ·repeat'((conv=>whnf);first|apply And.intro|exact bA (by subst_vars;assumption)|intro h9)
    all_goals(try(conv=>whnf))<;>(subst_vars;try first|(apply Tk.mk;kernel_rfl)|exact⟨ah rfl⟩|exact⟨rfl⟩|exact⟨trivial⟩|rfl|contradiction|(apply Ob.mk;(try simp only[ag,ak,aa.ae])<;>(try dsimp only)<;>omega))
    all_goals
     refine⟨(),[0,1,2,3,4],trivial,?_⟩;repeat'((conv=>whnf)<;>first|apply And.intro|intro _|rfl|trivial|exact ah rfl|exact aS ‹_› rfl|exact aT ‹_› rfl|((repeat' first|rfl|constructor);done))
   cases k3:(aD1 L l' t' f' J).2==0
   ·repeat'((conv=>whnf);first|apply And.intro|exact bA (by subst_vars;assumption)|intro h9)
    all_goals(try(conv=>whnf))<;>(subst_vars;try first|(apply Tk.mk;kernel_rfl)|exact⟨ah rfl⟩|exact⟨rfl⟩|exact⟨trivial⟩|rfl|contradiction|(apply Ob.mk;(try simp only[ag,ak,aa.ae])<;>(try dsimp only)<;>omega))
    all_goals
     refine⟨(),[0,1,2,3,4],trivial,?_⟩;repeat'((conv=>whnf)<;>first|apply And.intro|intro _|rfl|trivial|exact ah rfl|exact aS ‹_› rfl|exact aT ‹_› rfl|((repeat' first|rfl|constructor);done))
   cases k2:aD3 L l t f I
   ·repeat'((conv=>whnf);first|apply And.intro|exact bA (by subst_vars;assumption)|intro h9)
    all_goals(try(conv=>whnf))<;>(subst_vars;try first|(apply Tk.mk;kernel_rfl)|exact⟨ah rfl⟩|exact⟨rfl⟩|exact⟨trivial⟩|rfl|contradiction|(apply Ob.mk;(try simp only[ag,ak,aa.ae])<;>(try dsimp only)<;>omega))
    all_goals
     refine⟨(),[0,1,2,3,4],trivial,?_⟩;repeat'((conv=>whnf)<;>first|apply And.intro|intro _|rfl|trivial|exact ah rfl|exact aS ‹_› rfl|exact aT ‹_› rfl|((repeat' first|rfl|constructor);done))
   cases k4:aD3 L l' t' f' J
   ·repeat'((conv=>whnf);first|apply And.intro|exact bA (by subst_vars;assumption)|intro h9)
    all_goals(try(conv=>whnf))<;>(subst_vars;try first|(apply Tk.mk;kernel_rfl)|exact⟨ah rfl⟩|exact⟨rfl⟩|exact⟨trivial⟩|rfl|contradiction|(apply Ob.mk;(try simp only[ag,ak,aa.ae])<;>(try dsimp only)<;>omega))
    all_goals
     refine⟨(),[0,1,2,3,4],trivial,?_⟩;repeat'((conv=>whnf)<;>first|apply And.intro|intro _|rfl|trivial|exact ah rfl|exact aS ‹_› rfl|exact aT ‹_› rfl|((repeat' first|rfl|constructor);done))
   cases k5:aD9 J I i
   ·repeat'((conv=>whnf);first|apply And.intro|exact bA (by subst_vars;assumption)|intro h9)
    all_goals(try(conv=>whnf))<;>(subst_vars;try first|(apply Tk.mk;kernel_rfl)|exact⟨ah rfl⟩|exact⟨rfl⟩|exact⟨trivial⟩|rfl|contradiction|(apply Ob.mk;(try simp only[ag,ak,aa.ae])<;>(try dsimp only)<;>omega))
    all_goals
     refine⟨(),[0,1,2,3,4],trivial,?_⟩;repeat'((conv=>whnf)<;>first|apply And.intro|intro _|rfl|trivial|exact ah rfl|exact aS ‹_› rfl|exact aT ‹_› rfl|((repeat' first|rfl|constructor);done))
   exact absurd (hno k2 k4 (hnl k5)) (by simp)
  intro _ _;repeat'((conv=>whnf);first|apply And.intro|exact bA (by subst_vars;assumption)|intro h9)
  all_goals(try(conv=>whnf))<;>(subst_vars;try first|(apply Tk.mk;kernel_rfl)|exact⟨ah rfl⟩|exact⟨rfl⟩|exact⟨trivial⟩|rfl|contradiction|(apply Ob.mk;(try simp only[ag,ak,aa.ae])<;>(try dsimp only)<;>omega))
 ·obtain⟨b1,b2,b3,b4,aHv,n1,n2,Sa⟩:=aGO hq hr;have n3:(pw L (amK L l t f l' t' f').1).length<=1000:=by omega
  have n4:(pw L (amK L l t f l' t' f').2).length<=1000:=by omega
  have n5:(pw L (amK L l t f l' t' f').2).length<=1000000:=by omega
  have r1:ak .i64 (((pw L (amK L l t f l' t' f').1).length:Int)+((pw L (amK L l t f l' t' f').2).length:Int)):=by simp only[ak];omega
  have r2:ak .i64 ((I.length:Int)+(J.length:Int)):=by simp only[ak];omega
  clear hq;repeat'((conv=>whnf);first|apply And.intro|exact bA (by subst_vars;assumption)|intro h9)
  all_goals(try(conv=>whnf))<;>(subst_vars;try first|(apply Tk.mk;kernel_rfl)|exact⟨ah rfl⟩|exact⟨rfl⟩|exact⟨trivial⟩|rfl|contradiction|(apply Ob.mk;(try simp only[ag,ak,aa.ae])<;>(try dsimp only)<;>omega))
  all_goals try first|exact⟨hL⟩|exact⟨hI⟩|exact⟨hJ⟩
  refine⟨Nat,fun i=>i<=I.length,fun i=>⟨aI 168 [0,3,4,6,7,11,12,13,14,15,16,17,18,19] [.a (.sl 0 [] 0 L.length),.a (.sl 1 [] 0 I.length),.a (.sl 2 [] 0 J.length),.a (.p 3 [] 0 0),.a (.p 4 [] 0 0),.a (.sl 5 [] 0 (pw L (amK L l t f l' t' f').1).length),.a (.sl 6 [] 0 (pw L (amK L l t f l' t' f').2).length),.a (vI 0),.a (.v (.bool (aD3 L l t f I))),.a (vI (aD1 L l t f I).2),.a (.v (.bool (aD3 L l' t' f' J))),.a (vI (aD1 L l' t' f' J).2),.a (.v (.bool (aD9 J I i))),.a (vI i)],[],[.arr 67 kK L false false,.arr 3 kI I false false,.arr 3 kI J false false,.box true [vI l,vI t,vI f],.box true [vI l',vI t',vI f'],.arr 3 kI (pw L (amK L l t f l' t' f').1) true true,.arr 3 kI (pw L (amK L l t f l' t' f').2) true true]⟩,fun i=>I.length-i,0,[0,1,2,3,4,5,6],Nat.zero_le _,?_,?_⟩
  ·repeat'((conv=>whnf)<;>first|apply And.intro|intro _|rfl|trivial|exact ah rfl|exact aS ‹_› rfl|exact aT ‹_› rfl|((repeat' first|rfl|constructor);done)|exact hz|exact hz.symm)
  intro i hi;by_cases hi1:i<I.length
  ·have p0:decide ((i:Int)<(I.length:Int))=true:=decide_eq_true (by omega)
   have hst:=aFm (J:=J) hi1;cases hap:aD9 J I i
   ·rw[hap,Bool.false_and]at hst;repeat'((conv=>whnf);first|apply And.intro|exact bA (by subst_vars;assumption)|intro h9)
    all_goals(try(conv=>whnf))<;>(subst_vars;try first|(apply Tk.mk;kernel_rfl)|exact⟨ah rfl⟩|exact⟨rfl⟩|exact⟨trivial⟩|rfl|contradiction|(apply Ob.mk;(try simp only[ag,ak,aa.ae])<;>(try dsimp only)<;>omega))
    all_goals
     refine⟨i+1,[0,1,2,3,4,5,6],hi1,?_,by show I.length-(i+1)<I.length-i;omega⟩
     repeat'((conv=>whnf)<;>first|apply And.intro|intro _|rfl|trivial|exact ah rfl|exact aS ‹_› rfl|exact aT ‹_› rfl|((repeat' first|rfl|constructor);done)|exact hst|exact hst.symm)
   ·rw[hap,Bool.true_and]at hst;repeat'((conv=>whnf);first|apply And.intro|exact bA (by subst_vars;assumption)|intro h9)
    all_goals(try(conv=>whnf))<;>(subst_vars;try first|(apply Tk.mk;kernel_rfl)|exact⟨ah rfl⟩|exact⟨rfl⟩|exact⟨trivial⟩|rfl|contradiction|(apply Ob.mk;(try simp only[ag,ak,aa.ae])<;>(try dsimp only)<;>omega))
    all_goals try first|exact⟨aHg⟩|exact⟨show 0+Int.toNat (i:Int)<I.length by omega⟩
    all_goals
     refine⟨i+1,[0,1,2,3,4,5,6],hi1,?_,by show I.length-(i+1)<I.length-i;omega⟩
     repeat'((conv=>whnf)<;>first|apply And.intro|intro _|rfl|trivial|exact ah rfl|exact aS ‹_› rfl|exact aT ‹_› rfl|((repeat' first|rfl|constructor);done)|exact hst|exact hst.symm)
  have p0:decide ((i:Int)<(I.length:Int))=false:=decide_eq_false (by omega)
  have hnl:aD9 J I i=true->aD9 J I I.length=true:=fun h=>by rw[show I.length=i by omega];exact h
  repeat'((conv=>whnf);first|apply And.intro|exact bA (by subst_vars;assumption)|intro h9)
  all_goals(try(conv=>whnf))<;>(subst_vars;try first|(apply Tk.mk;kernel_rfl)|exact⟨ah rfl⟩|exact⟨rfl⟩|exact⟨trivial⟩|rfl|contradiction|(apply Ob.mk;(try simp only[ag,ak,aa.ae])<;>(try dsimp only)<;>omega))
  refine⟨Unit,fun _=>True,fun _=>⟨aI 168 [0,6,7,11,12,13] [.a (.sl 0 [] 0 L.length),.a (.p 3 [] 0 0),.a (.p 4 [] 0 0),.a (.sl 5 [] 0 (pw L (amK L l t f l' t' f').1).length),.a (.sl 6 [] 0 (pw L (amK L l t f l' t' f').2).length),.a (vI 0)],[],[.arr 67 kK L false false,.arr 3 kI I false false,.arr 3 kI J false false,.box true [vI l,vI t,vI f],.box true [vI l',vI t',vI f'],.arr 3 kI (pw L (amK L l t f l' t' f').1) true true,.arr 3 kI (pw L (amK L l t f l' t' f').2) true true]⟩,?_,?_⟩
  ·cases k1:(aD1 L l t f I).2==0
   ·repeat'((conv=>whnf);first|apply And.intro|exact bA (by subst_vars;assumption)|intro h9)
    all_goals(try(conv=>whnf))<;>(subst_vars;try first|(apply Tk.mk;kernel_rfl)|exact⟨ah rfl⟩|exact⟨rfl⟩|exact⟨trivial⟩|rfl|contradiction|(apply Ob.mk;(try simp only[ag,ak,aa.ae])<;>(try dsimp only)<;>omega))
    all_goals
     refine⟨(),[0,1,2,3,4,5,6],trivial,?_⟩;repeat'((conv=>whnf)<;>first|apply And.intro|intro _|rfl|trivial|exact ah rfl|exact aS ‹_› rfl|exact aT ‹_› rfl|((repeat' first|rfl|constructor);done))
   cases k3:(aD1 L l' t' f' J).2==0
   ·repeat'((conv=>whnf);first|apply And.intro|exact bA (by subst_vars;assumption)|intro h9)
    all_goals(try(conv=>whnf))<;>(subst_vars;try first|(apply Tk.mk;kernel_rfl)|exact⟨ah rfl⟩|exact⟨rfl⟩|exact⟨trivial⟩|rfl|contradiction|(apply Ob.mk;(try simp only[ag,ak,aa.ae])<;>(try dsimp only)<;>omega))
    all_goals
     refine⟨(),[0,1,2,3,4,5,6],trivial,?_⟩;repeat'((conv=>whnf)<;>first|apply And.intro|intro _|rfl|trivial|exact ah rfl|exact aS ‹_› rfl|exact aT ‹_› rfl|((repeat' first|rfl|constructor);done))
   cases k2:aD3 L l t f I
   ·repeat'((conv=>whnf);first|apply And.intro|exact bA (by subst_vars;assumption)|intro h9)
    all_goals(try(conv=>whnf))<;>(subst_vars;try first|(apply Tk.mk;kernel_rfl)|exact⟨ah rfl⟩|exact⟨rfl⟩|exact⟨trivial⟩|rfl|contradiction|(apply Ob.mk;(try simp only[ag,ak,aa.ae])<;>(try dsimp only)<;>omega))
    all_goals
     refine⟨(),[0,1,2,3,4,5,6],trivial,?_⟩;repeat'((conv=>whnf)<;>first|apply And.intro|intro _|rfl|trivial|exact ah rfl|exact aS ‹_› rfl|exact aT ‹_› rfl|((repeat' first|rfl|constructor);done))
   cases k4:aD3 L l' t' f' J
   ·repeat'((conv=>whnf);first|apply And.intro|exact bA (by subst_vars;assumption)|intro h9)
    all_goals(try(conv=>whnf))<;>(subst_vars;try first|(apply Tk.mk;kernel_rfl)|exact⟨ah rfl⟩|exact⟨rfl⟩|exact⟨trivial⟩|rfl|contradiction|(apply Ob.mk;(try simp only[ag,ak,aa.ae])<;>(try dsimp only)<;>omega))
    all_goals
     refine⟨(),[0,1,2,3,4,5,6],trivial,?_⟩;repeat'((conv=>whnf)<;>first|apply And.intro|intro _|rfl|trivial|exact ah rfl|exact aS ‹_› rfl|exact aT ‹_› rfl|((repeat' first|rfl|constructor);done))
   cases k5:aD9 J I i
   ·repeat'((conv=>whnf);first|apply And.intro|exact bA (by subst_vars;assumption)|intro h9)
    all_goals(try(conv=>whnf))<;>(subst_vars;try first|(apply Tk.mk;kernel_rfl)|exact⟨ah rfl⟩|exact⟨rfl⟩|exact⟨trivial⟩|rfl|contradiction|(apply Ob.mk;(try simp only[ag,ak,aa.ae])<;>(try dsimp only)<;>omega))
    all_goals
     refine⟨(),[0,1,2,3,4,5,6],trivial,?_⟩;repeat'((conv=>whnf)<;>first|apply And.intro|intro _|rfl|trivial|exact ah rfl|exact aS ‹_› rfl|exact aT ‹_› rfl|((repeat' first|rfl|constructor);done))
   have k6:=Sa I J k2 k4 (hnl k5);repeat'((conv=>whnf);first|apply And.intro|exact bA (by subst_vars;assumption)|intro h9)
   all_goals(try(conv=>whnf))<;>(subst_vars;try first|(apply Tk.mk;kernel_rfl)|exact⟨ah rfl⟩|exact⟨rfl⟩|exact⟨trivial⟩|rfl|contradiction|(apply Ob.mk;(try simp only[ag,ak,aa.ae])<;>(try dsimp only)<;>omega))
   all_goals
    refine⟨(),[0,1,2,3,4,5,6],trivial,?_⟩;repeat'((conv=>whnf)<;>first|apply And.intro|intro _|rfl|trivial|exact ah rfl|exact aS ‹_› rfl|exact aT ‹_› rfl|((repeat' first|rfl|constructor);done))
  intro _ _;repeat'((conv=>whnf);first|apply And.intro|exact bA (by subst_vars;assumption)|intro h9)
  all_goals(try(conv=>whnf))<;>(subst_vars;try first|(apply Tk.mk;kernel_rfl)|exact⟨ah rfl⟩|exact⟨rfl⟩|exact⟨trivial⟩|rfl|contradiction|(apply Ob.mk;(try simp only[ag,ak,aa.ae])<;>(try dsimp only)<;>omega))
  all_goals try first|exact⟨hL⟩|exact⟨n3⟩|exact⟨n4⟩
  refine⟨Nat,fun k=>k<=(pw L (amK L l t f l' t' f').1).length,fun k=>⟨aI 168 [11,12,20,21,22,23,24] [.a (.sl 5 [] 0 (pw L (amK L l t f l' t' f').1).length),.a (.sl 6 [] 0 (pw L (amK L l t f l' t' f').2).length),.a (.v (.bool (aD3 L l t f (pw L (amK L l t f l' t' f').1)))),.a (vI (aD1 L l t f (pw L (amK L l t f l' t' f').1)).2),.a (.v (.bool (aD3 L l' t' f' (pw L (amK L l t f l' t' f').2)))),.a (vI (aD1 L l' t' f' (pw L (amK L l t f l' t' f').2)).2),.a (vI k)],[],[.arr 67 kK L false false,.arr 3 kI I false false,.arr 3 kI J false false,.box true [vI l,vI t,vI f],.box true [vI l',vI t',vI f'],.arr 3 kI (pw L (amK L l t f l' t' f').1) true true,.arr 3 kI (pw L (amK L l t f l' t' f').2) true true]⟩,fun k=>(pw L (amK L l t f l' t' f').1).length-k,0,[0,1,2,3,4,5,6],Nat.zero_le _,?_,?_⟩
  ·repeat'((conv=>whnf)<;>first|apply And.intro|intro _|rfl|trivial|exact ah rfl|exact aS ‹_› rfl|exact aT ‹_› rfl|((repeat' first|rfl|constructor);done))
  intro k hk;by_cases cB:k<(pw L (amK L l t f l' t' f').1).length
  ·have q0:decide ((k:Int)<((pw L (amK L l t f l' t' f').1).length:Int))=true:=decide_eq_true (by omega)
   have q1:=aHv k cB;repeat'((conv=>whnf);first|apply And.intro|exact bA (by subst_vars;assumption)|intro h9)
   all_goals(try(conv=>whnf))<;>(subst_vars;try first|(apply Tk.mk;kernel_rfl)|exact⟨ah rfl⟩|exact⟨rfl⟩|exact⟨trivial⟩|rfl|contradiction|(apply Ob.mk;(try simp only[ag,ak,aa.ae])<;>(try dsimp only)<;>omega))
   all_goals try first|exact⟨n5⟩|exact⟨show 0+Int.toNat (k:Int)<(pw L (amK L l t f l' t' f').1).length by omega⟩
   refine⟨k+1,[0,1,2,3,4,5,6],cB,?_,by show(pw L (amK L l t f l' t' f').1).length-(k+1)<(pw L (amK L l t f l' t' f').1).length-k;omega⟩
   repeat'((conv=>whnf)<;>first|apply And.intro|intro _|rfl|trivial|exact ah rfl|exact aS ‹_› rfl|exact aT ‹_› rfl|((repeat' first|rfl|constructor);done))
  have q0:decide ((k:Int)<((pw L (amK L l t f l' t' f').1).length:Int))=false:=decide_eq_false (by omega)
  repeat'((conv=>whnf);first|apply And.intro|exact bA (by subst_vars;assumption)|intro h9)
  all_goals(try(conv=>whnf))<;>(subst_vars;try first|(apply Tk.mk;kernel_rfl)|exact⟨ah rfl⟩|exact⟨rfl⟩|exact⟨trivial⟩|rfl|contradiction|(apply Ob.mk;(try simp only[ag,ak,aa.ae])<;>(try dsimp only)<;>omega))
  all_goals try first|trivial)
end Go.Proofs.Ytccnimhgjjnmoaa
end
