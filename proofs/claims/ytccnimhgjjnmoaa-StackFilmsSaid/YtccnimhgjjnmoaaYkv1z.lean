/-
  Texts of the claims: Ykv1z. No condition: lemmas and contracts.
-/
import Derived.Test.YtccnimhgjjnmoaaSya1z
import Derived.Test.YtccnimhgjjnmoaaSya2z
import Derived.Test.YtccnimhgjjnmoaaSya3z
import Derived.Test.YtccnimhgjjnmoaaSya4z
import Derived.Test.YtccnimhgjjnmoaaSya5z
import Derived.Test.YtccnimhgjjnmoaaPla6z
import Derived.Test.YtccnimhgjjnmoaaYka7z
import Derived.Test.YtccnimhgjjnmoaaYka8z
import Derived.Test.YtccnimhgjjnmoaaYka9z
import Derived.Test.YtccnimhgjjnmoaaYka10z
import Derived.Test.YtccnimhgjjnmoaaYka11z
import Derived.Test.YtccnimhgjjnmoaaYka12z
import Derived.Test.YtccnimhgjjnmoaaYka13z
import Derived.Test.YtccnimhgjjnmoaaYka14z
import Derived.Test.YtccnimhgjjnmoaaYka15z
import Derived.Test.YtccnimhgjjnmoaaYka16z
import Derived.Test.YtccnimhgjjnmoaaYka17z
import Derived.Test.YtccnimhgjjnmoaaYka18z
import Derived.Test.YtccnimhgjjnmoaaPlb1z
import Derived.Test.YtccnimhgjjnmoaaPlc1z
import Derived.Test.YtccnimhgjjnmoaaYkc2z
import Derived.Test.YtccnimhgjjnmoaaPld1z
import Derived.Test.YtccnimhgjjnmoaaYke1z
import Derived.Test.YtccnimhgjjnmoaaPlf1z
import Derived.Test.YtccnimhgjjnmoaaPlh1z
import Derived.Test.YtccnimhgjjnmoaaYkh2z
import Derived.Test.YtccnimhgjjnmoaaYkm1z
set_option linter.all false
set_option maxRecDepth 100000
set_option maxHeartbeats 40000000
section
namespace Go.Proofs.Ytccnimhgjjnmoaa
open Go Go.Sy Go.dg
variable {Γ:bn}
theorem aG0 {f:Int} {L:List Bk} {k:Nat} {i:Nat} (h0:0<i) (hi:i<(y7 f L k).length):¬ca (y7 f L k) i<=ca (y7 f L k) ((i:Int)-1):=by
 have h:=(afm (aIi f L k)).1;have hp:=List.pairwise_iff_getElem.1 h (i-1) i (by unfold y7 at hi;omega) (by unfold y7 at hi;exact hi) (by omega)
 rw[show((i:Int)-1)=((i-1:Nat):Int) by omega,alf hi,alf (show i-1<(y7 f L k).length by omega)]
 unfold y7;omega
theorem aGu {L:List Bk} {l t f l' t' f':Int} {I:List Int} (h:(aD1 L l t f I).2=0) (h':(aD1 L l' t' f' I).2=0):(aD1 L l t f I).1-(aD1 L l' t' f' I).1=((I.length:Int)-1)*(f-f'):=by
 have ha:=aEb h;have hb:=aEb h';unfold aD1 at h h' ⊢;rw[if_pos ha]at h ⊢;rw[if_pos hb]at h' ⊢;by_cases h1:I=[]
 ·rw[if_pos h1]at h;cases h
 ·rw[if_neg h1]at h h' ⊢;rw[if_neg h1];by_cases h2:(aD2 L none I).1=0
  ·rw[if_pos h2,if_pos h2];dsimp only;rw[Int.mul_sub];omega
  ·rw[if_neg h2]at h;exact absurd h h2
structure aHB (L:List Bk) (l t f:Int) (I:List Int):Prop where
 ne:1<=I.length
 lo:0<=(aD1 L l t f I).1+f
 hi:(aD1 L l t f I).1+f<=1125899926842620
 mem:(y7 f L (Int.toNat (I.length:Int))).contains (aD1 L l t f I).1=true
theorem aFM {L:List Bk} {l t f:Int} {I:List Int} (h:(aD1 L l t f I).2=0):aHB L l t f I:=by
 have ha:=aEb h;obtain⟨hB,hw⟩:=gg ha;obtain⟨hl,ht,hf⟩:=wE hw;obtain⟨u,-,h2,h3,h4,h5⟩:=aEy hB ((aFb ha).symm.trans h);have e:=h5 l t f ha;have h1:=alH hf.1 hB.lens u;have h6:=hB.asr hf.1 hf.2 u;have h7:I.length=cnt L.length u:=by rw[<-h4,ew]
 have h8:=aon h2 h3;refine⟨by omega,by omega,by omega,?_⟩
 rw[List.contains_iff_mem,Int.toNat_natCast];unfold y7;rw[(afm _).2,ap7 (by omega) hB.Kg]
 exact⟨u,h2,by omega,by rw[alN (by have:=hB.Kg;omega) h2,h7],e.symm⟩
attribute [local irreducible] bf ck aD1 y7 aQ
def aGh (D:List Bk->Int->Int->Int->Int->Int->Int->List Int->List aa) (F:List Bk->Int->Int->Int->Int->Int->Int->List Int->Tm):au:=.fn fun args rg=>match args with
 |[.a x0,.agg [.v (.int .i64 n0),.v (.int .i64 n1),.v (.int .i64 n2)],.agg [.v (.int .i64 n3),.v (.int .i64 n4),.v (.int .i64 n5)],.a x1]=>(match ac1 67 kK rg x0,ac1 3 kI rg x1 with|some (q0,L0),some (q1,L1)=>some (q0++(q1++(D L0 n0 n1 n2 n3 n4 n5 L1)),F L0 n0 n1 n2 n3 n4 n5 L1)|_,_=>none)
 |_=>none
theorem aF4 {f:FuncId} {b:Body} {E:Env} {d:Nat} (hP:aL Try.prog Γ E) (hb:bQ Try.prog f b) {D:List Bk->Int->Int->Int->Int->Int->Int->List Int->List aa} {F:List Bk->Int->Int->Int->Int->Int->Int->List Int->Tm} (hp:∀ (L0:List Bk) (n0:Int) (n1:Int) (n2:Int) (n3:Int) (n4:Int) (n5:Int) (L1:List Int),(F L0 n0 n1 n2 n3 n4 n5 L1).plain=true)
 (H:∀ (L0:List Bk) (n0:Int) (n1:Int) (n2:Int) (n3:Int) (n4:Int) (n5:Int) (L1:List Int),bW (D L0 n0 n1 n2 n3 n4 n5 L1)->cQ E d b [.a (.sl 0 [] 0 L0.length),.agg [vI n0,vI n1,vI n2],.agg [vI n3,vI n4,vI n5],.a (.sl 1 [] 0 L1.length)] [.arr 67 kK L0 false false,.arr 3 kI L1 false false] (fun x _=>iL x (F L0 n0 n1 n2 n3 n4 n5 L1))):au.Ok Try.prog Γ f (aGh D F):=au.aBp (d:=d) hP hb (by
 intro args rg q t hF hq;split at hF;next x0 n0 n1 n2 n3 n4 n5 x1=>
  split at hF;next q0 L0 q1 L1 hx0 cO=>
   obtain⟨rfl,rfl⟩:=Prod.mk.inj (Option.some.inj hF);clear hF;rw[aH,aH]at hq;obtain⟨aIh,gk,hD⟩:=hq;obtain⟨e0,Vn⟩:=bP (by simp[kK]) hx0 aIh
   obtain⟨e1,iO⟩:=bP (by simp[kI]) cO gk
   obtain⟨p0,r0⟩:=Vn [e0,e1] 0 2 rfl (by omega)
   obtain⟨p1,r1⟩:=iO [e0,e1] 1 2 rfl (by omega)
   refine⟨hp _ _ _ _ _ _ _ _,[e0,e1],[.a (.sl 0 [] 0 L0.length),.agg [vI n0,vI n1,vI n2],.agg [vI n3,vI n4,vI n5],.a (.sl 1 [] 0 L1.length)],[.arr 67 kK L0 false false,.arr 3 kI L1 false false],⟨⟨p0,⟨rfl,rfl,rfl,trivial⟩,⟨rfl,rfl,rfl,trivial⟩,p1,trivial⟩,fun r g hg=>?_⟩,H _ _ _ _ _ _ _ _ hD⟩
   match r,hg with
   |0,hg=>obtain rfl:=Option.some.inj hg;exact r0
   |1,hg=>obtain rfl:=Option.some.inj hg;exact r1
  next=>cases hF
 next=>cases hF)
noncomputable def aHG:List (Nat×au):=[(21,aIb),(46,aEf),(36,aoX),(47,aFA)]
theorem aGG:aR Try.prog Γ aHG:=((((aR.nil.cons (aj Try.func47 rfl rfl).fn aE3).cons (aj Try.func36 rfl rfl).fn ap2).cons (aj Try.func46 rfl rfl).fn aEc).cons (aj Try.func21 rfl rfl).fn sW)
def aE0:au:=aGh (fun _ _ _ _ _ _ _ _=>[]) (fun _ _ _ _ _ _ _ _=>bl true)
theorem aEA:au.Ok Try.prog Γ 13 aE0:=aF4 (d:=0) (aP aGG bq.nil false 0) (aj Try.func13 rfl rfl) (fun _ _ _ _ _ _ _ _=>rfl) (by
 intro L l t f l' t' f' I _;have z0:((0:Int)==0)=true:=rfl;have z1:((0:Int)==2)=false:=rfl;have z2:((2:Int)==2)=true:=rfl;have z3:decide ((1:Int)<0)=false:=rfl;by_cases g1:L.length>12
 ·have d1:decide ((L.length:Int)>12)=true:=decide_eq_true (by omega)
  repeat'((conv=>whnf);first|apply And.intro|exact bA (by subst_vars;assumption)|intro h9)
  all_goals(try(conv=>whnf))<;>(subst_vars;try first|(apply Tk.mk;kernel_rfl)|exact⟨ah rfl⟩|exact⟨rfl⟩|exact⟨trivial⟩|rfl|contradiction|(apply Ob.mk;(try simp only[ag,ak,aa.ae])<;>(try dsimp only)<;>omega))
 have d1:decide ((L.length:Int)>12)=false:=decide_eq_false (by omega)
 by_cases g2:I.length>20
 ·have d2:decide ((I.length:Int)>20)=true:=decide_eq_true (by omega)
  repeat'((conv=>whnf);first|apply And.intro|exact bA (by subst_vars;assumption)|intro h9)
  all_goals(try(conv=>whnf))<;>(subst_vars;try first|(apply Tk.mk;kernel_rfl)|exact⟨ah rfl⟩|exact⟨rfl⟩|exact⟨trivial⟩|rfl|contradiction|(apply Ob.mk;(try simp only[ag,ak,aa.ae])<;>(try dsimp only)<;>omega))
 have d2:decide ((I.length:Int)>20)=false:=decide_eq_false (by omega)
 have hL:L.length<=1000000:=by omega
 have hI:I.length<=1000:=by omega
 cases h0:(aD1 L l t f I).2==0
 ·have a1:((aD1 L l t f I).2!=0)=true:=by unfold bne;rw[h0];rfl
  repeat'((conv=>whnf);first|apply And.intro|exact bA (by subst_vars;assumption)|intro h9)
  all_goals(try(conv=>whnf))<;>(subst_vars;try first|(apply Tk.mk;kernel_rfl)|exact⟨ah rfl⟩|exact⟨rfl⟩|exact⟨trivial⟩|rfl|contradiction|(apply Ob.mk;(try simp only[ag,ak,aa.ae])<;>(try dsimp only)<;>omega))
  all_goals try first|exact⟨hL⟩|exact⟨hI⟩
 have a1:((aD1 L l t f I).2!=0)=false:=by unfold bne;rw[h0];rfl
 cases h1:(aD1 L l' t' f' I).2==0
 ·have a2:((aD1 L l' t' f' I).2!=0)=true:=by unfold bne;rw[h1];rfl
  repeat'((conv=>whnf);first|apply And.intro|exact bA (by subst_vars;assumption)|intro h9)
  all_goals(try(conv=>whnf))<;>(subst_vars;try first|(apply Tk.mk;kernel_rfl)|exact⟨ah rfl⟩|exact⟨rfl⟩|exact⟨trivial⟩|rfl|contradiction|(apply Ob.mk;(try simp only[ag,ak,aa.ae])<;>(try dsimp only)<;>omega))
  all_goals try first|exact⟨hL⟩|exact⟨hI⟩
 have a2:((aD1 L l' t' f' I).2!=0)=false:=by unfold bne;rw[h1];rfl
 have hd:=aGu (eq_of_beq h0) (eq_of_beq h1);obtain⟨n1,n2,n3,n4⟩:=aFM (eq_of_beq h0);obtain⟨-,m2,m3,-⟩:=aFM (eq_of_beq h1);obtain⟨hB,hw⟩:=gg (aEb (eq_of_beq h0));obtain⟨-,fS⟩:=gg (aEb (eq_of_beq h1));have hf:=(wE hw).2.2;have aAH:=(wE fS).2.2;have c1:((ck L).1==0)=true:=by rw[atO hB];rfl
 have c2:(aQ f 0 1000000&&aQ (I.length:Int) 1 20)=true:=by rw[Bool.and_eq_true,akk,akk];omega
 have r1:ak .i64 ((aD1 L l t f I).1-(aD1 L l' t' f' I).1):=by simp only[ak];omega
 have r2:ak .i64 (((I.length:Int)-1)*(f-f')):=by rw[<-hd];exact r1
 have r3:ak .i64 (f-f'):=by simp only[ak];omega
 have q1:((aD1 L l t f I).1-(aD1 L l' t' f' I).1==((I.length:Int)-1)*(f-f'))=true:=beq_iff_eq.2 hd;clear hd;cases ht:decide ((y7 f L (Int.toNat (I.length:Int))).length<=1000)
 ·repeat'((conv=>whnf);first|apply And.intro|exact bA (by subst_vars;assumption)|intro h9)
  all_goals(try(conv=>whnf))<;>(subst_vars;try first|(apply Tk.mk;kernel_rfl)|exact⟨ah rfl⟩|exact⟨rfl⟩|exact⟨trivial⟩|rfl|contradiction|(apply Ob.mk;(try simp only[ag,ak,aa.ae])<;>(try dsimp only)<;>omega))
  all_goals try first|exact⟨hL⟩|exact⟨hI⟩
  refine⟨Unit,fun _=>True,fun _=>⟨aI 100 [0,3,5,6,9,11,13,14,15] [.a (.sl 0 [] 0 L.length),.a (.sl 1 [] 0 I.length),.a (.p 2 [] 0 0),.a (.p 3 [] 0 0),.a (vI (aD1 L l t f I).1),.a (vI (aD1 L l' t' f' I).1),.a (.v (.slice none 0 0)),.a (vI 2),.a (vI 1)],[],[.arr 67 kK L false false,.arr 3 kI I false false,.box true [vI l,vI t,vI f],.box true [vI l',vI t',vI f']]⟩,fun _=>0,(),[0,1,2,3],trivial,?_,?_⟩
  ·repeat'((conv=>whnf)<;>first|apply And.intro|intro _|rfl|trivial|exact ah rfl|exact aS ‹_› rfl|exact aT ‹_› rfl|((repeat' first|rfl|constructor);done))
  intro _ _;repeat'((conv=>whnf);first|apply And.intro|exact bA (by subst_vars;assumption)|intro h9)
  all_goals(try(conv=>whnf))<;>(subst_vars;try first|(apply Tk.mk;kernel_rfl)|exact⟨ah rfl⟩|exact⟨rfl⟩|exact⟨trivial⟩|rfl|contradiction|(apply Ob.mk;(try simp only[ag,ak,aa.ae])<;>(try dsimp only)<;>omega))
  all_goals try first|exact⟨r2⟩
 have hlt:=of_decide_eq_true ht;have aHS:(y7 f L (Int.toNat (I.length:Int))).length<=1000000:=by omega
 repeat'((conv=>whnf);first|apply And.intro|exact bA (by subst_vars;assumption)|intro h9)
 all_goals(try(conv=>whnf))<;>(subst_vars;try first|(apply Tk.mk;kernel_rfl)|exact⟨ah rfl⟩|exact⟨rfl⟩|exact⟨trivial⟩|rfl|contradiction|(apply Ob.mk;(try simp only[ag,ak,aa.ae])<;>(try dsimp only)<;>omega))
 all_goals try first|exact⟨hL⟩|exact⟨hI⟩
 refine⟨Nat,fun i=>1<=i,fun i=>⟨aI 100 [0,3,5,6,9,11,13,14,15] [.a (.sl 0 [] 0 L.length),.a (.sl 1 [] 0 I.length),.a (.p 2 [] 0 0),.a (.p 3 [] 0 0),.a (vI (aD1 L l t f I).1),.a (vI (aD1 L l' t' f' I).1),.a (.sl 4 [] 0 (y7 f L (Int.toNat (I.length:Int))).length),.a (vI 0),.a (vI i)],[],[.arr 67 kK L false false,.arr 3 kI I false false,.box true [vI l,vI t,vI f],.box true [vI l',vI t',vI f'],.arr 3 kI (y7 f L (Int.toNat (I.length:Int))) true true]⟩,fun i=>(y7 f L (Int.toNat (I.length:Int))).length-i,1,[0,1,2,3,4],Nat.le_refl _,?_,?_⟩
 ·repeat'((conv=>whnf)<;>first|apply And.intro|intro _|rfl|trivial|exact ah rfl|exact aS ‹_› rfl|exact aT ‹_› rfl|((repeat' first|rfl|constructor);done))
 intro i hi;by_cases hi1:i<(y7 f L (Int.toNat (I.length:Int))).length
 ·have p0:decide ((i:Int)<((y7 f L (Int.toNat (I.length:Int))).length:Int))=true:=decide_eq_true (by omega)
  have p1:decide (ca (y7 f L (Int.toNat (I.length:Int))) i<=ca (y7 f L (Int.toNat (I.length:Int))) ((i:Int)-1))=false:=decide_eq_false (aG0 (by omega) hi1)
  repeat'((conv=>whnf);first|apply And.intro|exact bA (by subst_vars;assumption)|intro h9)
  all_goals(try(conv=>whnf))<;>(subst_vars;try first|(apply Tk.mk;kernel_rfl)|exact⟨ah rfl⟩|exact⟨rfl⟩|exact⟨trivial⟩|rfl|contradiction|(apply Ob.mk;(try simp only[ag,ak,aa.ae])<;>(try dsimp only)<;>omega))
  all_goals try first|exact⟨show 0+Int.toNat (i:Int)<(y7 f L (Int.toNat (I.length:Int))).length by omega⟩|exact⟨show 0+Int.toNat ((i:Int)-1)<(y7 f L (Int.toNat (I.length:Int))).length by omega⟩
  refine⟨i+1,[0,1,2,3,4],by omega,?_,by show(y7 f L (Int.toNat (I.length:Int))).length-(i+1)<(y7 f L (Int.toNat (I.length:Int))).length-i;omega⟩
  repeat'((conv=>whnf)<;>first|apply And.intro|intro _|rfl|trivial|exact ah rfl|exact aS ‹_› rfl|exact aT ‹_› rfl|((repeat' first|rfl|constructor);done))
 have p0:decide ((i:Int)<((y7 f L (Int.toNat (I.length:Int))).length:Int))=false:=decide_eq_false (by omega)
 repeat'((conv=>whnf);first|apply And.intro|exact bA (by subst_vars;assumption)|intro h9)
 all_goals(try(conv=>whnf))<;>(subst_vars;try first|(apply Tk.mk;kernel_rfl)|exact⟨ah rfl⟩|exact⟨rfl⟩|exact⟨trivial⟩|rfl|contradiction|(apply Ob.mk;(try simp only[ag,ak,aa.ae])<;>(try dsimp only)<;>omega))
 all_goals try first|trivial|exact⟨r2⟩|exact⟨aHS⟩)
end Go.Proofs.Ytccnimhgjjnmoaa
end
