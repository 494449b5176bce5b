/-
  Texts of the claims: Ykw2z. No condition: lemmas and contracts.
-/
import Derived.Test.YtccnimhgjjnmoaaSya1z
import Derived.Test.YtccnimhgjjnmoaaSya2z
import Derived.Test.YtccnimhgjjnmoaaSya3z
import Derived.Test.YtccnimhgjjnmoaaSya4z
import Derived.Test.YtccnimhgjjnmoaaSya5z
import Derived.Test.YtccnimhgjjnmoaaPla6z
import Derived.Test.YtccnimhgjjnmoaaYka7z
import Derived.Test.YtccnimhgjjnmoaaYka8z
import Derived.Test.YtccnimhgjjnmoaaYka9z
import Derived.Test.YtccnimhgjjnmoaaYka10z
import Derived.Test.YtccnimhgjjnmoaaYka11z
import Derived.Test.YtccnimhgjjnmoaaYka12z
import Derived.Test.YtccnimhgjjnmoaaYka13z
import Derived.Test.YtccnimhgjjnmoaaYka14z
import Derived.Test.YtccnimhgjjnmoaaYka15z
import Derived.Test.YtccnimhgjjnmoaaYka16z
import Derived.Test.YtccnimhgjjnmoaaYka17z
import Derived.Test.YtccnimhgjjnmoaaYka18z
import Derived.Test.YtccnimhgjjnmoaaPlb1z
import Derived.Test.YtccnimhgjjnmoaaPlc1z
import Derived.Test.YtccnimhgjjnmoaaYkc2z
import Derived.Test.YtccnimhgjjnmoaaPld1z
import Derived.Test.YtccnimhgjjnmoaaYke1z
import Derived.Test.YtccnimhgjjnmoaaPlf1z
import Derived.Test.YtccnimhgjjnmoaaPlh1z
import Derived.Test.YtccnimhgjjnmoaaYkh2z
import Derived.Test.YtccnimhgjjnmoaaYki1z
import Derived.Test.YtccnimhgjjnmoaaPlp1z
import Derived.Test.YtccnimhgjjnmoaaYkp2z
import Derived.Test.YtccnimhgjjnmoaaPlw1z
set_option linter.all false
set_option maxRecDepth 100000
set_option maxHeartbeats 40000000
section
namespace Go.Proofs.Ytccnimhgjjnmoaa
open Go Go.Sy Go.dg
variable {Γ:bn}
def aHf (D:List Bk->List Int->List aa) (F:List Bk->List Int->Tm):au:=.fn fun args rg=>match args with
 |[.a x0,.a x1]=>(match ac1 67 kK rg x0,ac1 3 kI rg x1 with|some (q0,L0),some (q1,L1)=>some (q0++(q1++(D L0 L1)),F L0 L1)|_,_=>none)
 |_=>none
theorem aGS {f:FuncId} {b:Body} {E:Env} {d:Nat} (hP:aL Try.prog Γ E) (hb:bQ Try.prog f b) {D:List Bk->List Int->List aa} {F:List Bk->List Int->Tm} (hp:∀ (L0:List Bk) (L1:List Int),(F L0 L1).plain=true)
 (H:∀ (L0:List Bk) (L1:List Int),bW (D L0 L1)->cQ E d b [.a (.sl 0 [] 0 L0.length),.a (.sl 1 [] 0 L1.length)] [.arr 67 kK L0 false false,.arr 3 kI L1 false false] (fun x _=>iL x (F L0 L1))):au.Ok Try.prog Γ f (aHf D F):=au.aBp (d:=d) hP hb (by
 intro args rg q t hF hq;split at hF;next x0 x1=>
  split at hF;next q0 L0 q1 L1 hx0 cO=>
   obtain⟨rfl,rfl⟩:=Prod.mk.inj (Option.some.inj hF);clear hF;rw[aH,aH]at hq;obtain⟨aIh,gk,hD⟩:=hq;obtain⟨e0,Vn⟩:=bP (by simp[kK]) hx0 aIh
   obtain⟨e1,iO⟩:=bP (by simp[kI]) cO gk
   obtain⟨p0,r0⟩:=Vn [e0,e1] 0 2 rfl (by omega)
   obtain⟨p1,r1⟩:=iO [e0,e1] 1 2 rfl (by omega)
   refine⟨hp _ _,[e0,e1],[.a (.sl 0 [] 0 L0.length),.a (.sl 1 [] 0 L1.length)],[.arr 67 kK L0 false false,.arr 3 kI L1 false false],⟨⟨p0,p1,trivial⟩,fun r g hg=>?_⟩,H _ _ hD⟩
   match r,hg with
   |0,hg=>obtain rfl:=Option.some.inj hg;exact r0
   |1,hg=>obtain rfl:=Option.some.inj hg;exact r1
  next=>cases hF
 next=>cases hF)
attribute [local irreducible] ck bf lu pos aD2 lenOf aO wO dF aQ aD1
theorem aFH {p n:Nat} (h:p<n) (hn:n<=20):2^p<=1048576:=Nat.le_trans (Nat.pow_le_pow_right (by omega) (show p<=20 by omega)) (by decide)
theorem aG8 {p s m:Nat} (h:2^p<=1048576) (hs:s<=m*1048576) (hm:m<=1000):ak .i64 ((2^p:Nat):Int)/\ak .i64 ((s:Int)+((2^p:Nat):Int))/\(s:Int)+((2^p:Nat):Int)=((s+2^p:Nat):Int):=by
 generalize 2^p=w at*;simp only[ak];omega
def aE4:au:=aHf (fun L I=>[aoI L,(aa.of (I.length<=1000))]) (fun L I=> .bF [.a (vI (aD5 L I).1),.a (vI (aD5 L I).2)])
theorem aFj:au.Ok Try.prog Γ 49 aE4:=aGS (d:=0) (aP aR.nil bq.nil false 0) (aj Try.func49 rfl rfl) (fun _ _=>rfl) (by
 intro L I ⟨hB,hI,_⟩;simp only[aa.ae]at hI;replace hB:gb L:=hB;have hn:=hB.Kg;cases k0:((I.length:Int)==0);rotate_left
 ·have Ra:I=[]:=List.eq_nil_of_length_eq_zero (by have:(I.length:Int)=0:=eq_of_beq k0;omega)
  rw[show aD5 L I=(0,1) by unfold aD5;rw[if_pos Ra]]
  clear Ra;repeat'((conv=>whnf);first|apply And.intro|exact bA (by subst_vars;assumption)|intro h9)
  all_goals(try(conv=>whnf))<;>(subst_vars;try first|(apply Tk.mk;kernel_rfl)|exact⟨ah rfl⟩|exact⟨rfl⟩|exact⟨trivial⟩|rfl|contradiction|(apply Ob.mk;(try simp only[ag,ak,aa.ae])<;>(try dsimp only)<;>omega))
  all_goals first|trivial
 have aGi:¬I=[]:=fun e=>by subst e;cases k0
 have hF:∀ e:Int,∀ n:Int,∀ s:Nat,aD2 L none I=(e,n,s)->aD5 L I=(((s:Nat):Int),e):=fun e n s h=>by
  unfold aD5;rw[if_neg aGi,h]
 repeat'((conv=>whnf);first|apply And.intro|exact bA (by subst_vars;assumption)|intro h9)
 all_goals(try(conv=>whnf))<;>(subst_vars;try first|(apply Tk.mk;kernel_rfl)|exact⟨ah rfl⟩|exact⟨rfl⟩|exact⟨trivial⟩|rfl|contradiction|(apply Ob.mk;(try simp only[ag,ak,aa.ae])<;>(try dsimp only)<;>omega))
 refine⟨Nat×Int×Nat,fun x=>x.1<=I.length/\aD2 L none I=aEa x.2.1 x.2.2 (aD2 L (tU I x.1) (I.drop x.1))/\x.2.2<=x.1*1048576,fun|(i,_,s)=>⟨aI 59 [0,1,6,7] [.a (.sl 0 [] 0 L.length),.a (.sl 1 [] 0 I.length),.a (vI (s:Nat)),.a (vI i)],[],[.arr 67 kK L false false,.arr 3 kI I false false]⟩,fun x=>I.length-x.1,(0,0,0),[0,1],⟨Nat.zero_le _,(aEP L none I).symm,Nat.le_refl _⟩,?_,?_⟩
 ·repeat'((conv=>whnf)<;>first|apply And.intro|intro _|rfl|trivial|exact ah rfl|exact aS ‹_› rfl|exact aT ‹_› rfl|((repeat' first|rfl|constructor);done))
 rintro⟨i,n,s⟩ ⟨hi,hacc,xX⟩;dsimp only at hi hacc xX;by_cases hi1:i<I.length
 ·have p0:decide ((i:Int)<(I.length:Int))=true:=decide_eq_true (by omega)
  have hx:=aGa I i;repeat'((conv=>whnf);first|apply And.intro|exact bA (by subst_vars;assumption)|intro h9)
  all_goals(try(conv=>whnf))<;>(subst_vars;try first|(apply Tk.mk;kernel_rfl)|exact⟨ah rfl⟩|exact⟨rfl⟩|exact⟨trivial⟩|rfl|contradiction|(apply Ob.mk;(try simp only[ag,ak,aa.ae])<;>(try dsimp only)<;>omega))
  refine⟨Nat,fun k=>k<=L.length/\∀ j,j<k->(bk L j).1≠I.getD i 0,fun k=>⟨aI 59 [0,1,6,7,8] [.a (.sl 0 [] 0 L.length),.a (.sl 1 [] 0 I.length),.a (vI (s:Nat)),.a (vI i),.a (vI k)],[],[.arr 67 kK L false false,.arr 3 kI I false false]⟩,fun k=>L.length-k,0,[0,1],⟨Nat.zero_le _,fun j h=>absurd h (Nat.not_lt_zero j)⟩,?_,?_⟩
  ·repeat'((conv=>whnf)<;>first|apply And.intro|intro _|rfl|trivial|exact ah rfl|exact aS ‹_› rfl|exact aT ‹_› rfl|((repeat' first|rfl|constructor);done))
  rintro k ⟨hk,hne⟩;by_cases cB:k<L.length
  ·have q0:decide ((k:Int)<(L.length:Int))=true:=decide_eq_true (by omega)
   have q3:((k:Int)==(L.length:Int))=false:=beq_eq_false_iff_ne.2 (by omega)
   have apX:=tb L k;by_cases anY:(bk L k).1=I.getD i 0
   ·have q1:((gr L k).1!=ca I i)=false:=by rw[apX,hx,anY];exact bne_self_eq_false _
    have hps:=aGz cB hne anY;rw[<-hx]at hps;have hp2:pos L (ca I i)<L.length:=by omega
    have avY:=aFH hp2 hn;have hsh:=atY k;have hkk:(1:Int)*2^Int.toNat (k:Int)=((2^pos L (ca I i):Nat):Int):=by rw[Int.toNat_natCast,hps];exact hsh
    have qR:0<i->ca I i<=ca I ((i:Int)-1)->aD2 L none I=(6,0,0):=fun h1 h2=>aFf hi1 hacc (by rw[<-hx];exact hp2) h1 (by rw[<-hx,<-aFD h1];exact h2)
    have hgo:(i=0\/¬ca I i<=ca I ((i:Int)-1))->aD2 L none I=aEa (n+lenOf L (ca I i)) (s+2^pos L (ca I i)) (aD2 L (tU I (i+1)) (I.drop (i+1))):=fun h=>by
     rw[hx];refine aFw hi1 hacc (by rw[<-hx];exact hp2) ?_
     rcases h with h|h
     ·exact .inl h
     ·by_cases hz:i=0
      ·exact .inl hz
      ·rw[aFD (by omega),hx]at h;exact .inr (by omega)
    obtain⟨s7,aBB,pT⟩:=aG8 avY xX (show i<=1000 by omega)
    rw[<-hkk]at s7 aBB pT;have aHi:(k:Int)<=64:=by omega
    clear hkk;by_cases hz:0<i
    ·have q4:decide ((i:Int)>0)=true:=decide_eq_true (by omega)
     by_cases hle:ca I i<=ca I ((i:Int)-1)
     ·have q2:decide (ca I i<=ca I ((i:Int)-1))=true:=decide_eq_true hle;rw[show aD5 L I=(0,6) by rw[hF _ _ _ (qR hz hle)];rfl]
      clear hps;repeat'((conv=>whnf);first|apply And.intro|exact bA (by subst_vars;assumption)|intro h9)
      all_goals(try(conv=>whnf))<;>(subst_vars;try first|(apply Tk.mk;kernel_rfl)|exact⟨ah rfl⟩|exact⟨rfl⟩|exact⟨trivial⟩|rfl|contradiction|(apply Ob.mk;(try simp only[ag,ak,aa.ae])<;>(try dsimp only)<;>omega))
      all_goals first|trivial|exact⟨show 0+Int.toNat (i:Int)<I.length by omega⟩|exact⟨show 0+Int.toNat (k:Int)<L.length by omega⟩|exact⟨show 0+Int.toNat ((i:Int)-1)<I.length by omega⟩
     have q2:decide (ca I i<=ca I ((i:Int)-1))=false:=decide_eq_false hle;have xW:=hgo (.inr hle);clear hps;repeat'((conv=>whnf);first|apply And.intro|exact bA (by subst_vars;assumption)|intro h9)
     all_goals(try(conv=>whnf))<;>(subst_vars;try first|(apply Tk.mk;kernel_rfl)|exact⟨ah rfl⟩|exact⟨rfl⟩|exact⟨trivial⟩|rfl|contradiction|(apply Ob.mk;(try simp only[ag,ak,aa.ae])<;>(try dsimp only)<;>omega))
     all_goals try first|exact⟨s7⟩|exact⟨aBB⟩|exact⟨aHi⟩|exact⟨show 0+Int.toNat (i:Int)<I.length by omega⟩|exact⟨show 0+Int.toNat (k:Int)<L.length by omega⟩|exact⟨show 0+Int.toNat ((i:Int)-1)<I.length by omega⟩
     refine⟨(i+1,n+lenOf L (ca I i),s+2^pos L (ca I i)),[0,1],⟨hi1,xW,by dsimp only;omega⟩,?_,by show I.length-(i+1)<I.length-i;omega⟩
     repeat'((conv=>whnf)<;>first|apply And.intro|intro _|rfl|trivial|exact ah rfl|exact aS ‹_› rfl|exact aT ‹_› rfl|((repeat' first|rfl|constructor);done)|exact pT)
    have q4:decide ((i:Int)>0)=false:=decide_eq_false (by omega)
    have xW:=hgo (.inl (by omega))
    clear hps;repeat'((conv=>whnf);first|apply And.intro|exact bA (by subst_vars;assumption)|intro h9)
    all_goals(try(conv=>whnf))<;>(subst_vars;try first|(apply Tk.mk;kernel_rfl)|exact⟨ah rfl⟩|exact⟨rfl⟩|exact⟨trivial⟩|rfl|contradiction|(apply Ob.mk;(try simp only[ag,ak,aa.ae])<;>(try dsimp only)<;>omega))
    all_goals try first|exact⟨s7⟩|exact⟨aBB⟩|exact⟨aHi⟩|exact⟨show 0+Int.toNat (i:Int)<I.length by omega⟩|exact⟨show 0+Int.toNat (k:Int)<L.length by omega⟩
    refine⟨(i+1,n+lenOf L (ca I i),s+2^pos L (ca I i)),[0,1],⟨hi1,xW,by dsimp only;omega⟩,?_,by show I.length-(i+1)<I.length-i;omega⟩
    repeat'((conv=>whnf)<;>first|apply And.intro|intro _|rfl|trivial|exact ah rfl|exact aS ‹_› rfl|exact aT ‹_› rfl|((repeat' first|rfl|constructor);done)|exact pT)
   ·have q1:((gr L k).1!=ca I i)=true:=by rw[apX,hx];exact bne_iff_ne.2 anY
    repeat'((conv=>whnf);first|apply And.intro|exact bA (by subst_vars;assumption)|intro h9)
    all_goals(try(conv=>whnf))<;>(subst_vars;try first|(apply Tk.mk;kernel_rfl)|exact⟨ah rfl⟩|exact⟨rfl⟩|exact⟨trivial⟩|rfl|contradiction|(apply Ob.mk;(try simp only[ag,ak,aa.ae])<;>(try dsimp only)<;>omega))
    all_goals try first|exact⟨show 0+Int.toNat (i:Int)<I.length by omega⟩|exact⟨show 0+Int.toNat (k:Int)<L.length by omega⟩
    refine⟨k+1,[0,1],⟨cB,fun j hj=>by rcases Nat.lt_succ_iff_lt_or_eq.1 hj with h|rfl;exact hne j h;exact anY⟩,?_,by show L.length-(k+1)<L.length-k;omega⟩
    repeat'((conv=>whnf)<;>first|apply And.intro|intro _|rfl|trivial|exact ah rfl|exact aS ‹_› rfl|exact aT ‹_› rfl|((repeat' first|rfl|constructor);done))
  have q0:decide ((k:Int)<(L.length:Int))=false:=decide_eq_false (by omega)
  have q3:((k:Int)==(L.length:Int))=true:=beq_iff_eq.2 (by omega)
  rw[show aD5 L I=(0,5) by rw[hF _ _ _ (aFx hi1 hacc (aG3 fun j hj=>hne j (by omega)))];rfl]
  repeat'((conv=>whnf);first|apply And.intro|exact bA (by subst_vars;assumption)|intro h9)
  all_goals(try(conv=>whnf))<;>(subst_vars;try first|(apply Tk.mk;kernel_rfl)|exact⟨ah rfl⟩|exact⟨rfl⟩|exact⟨trivial⟩|rfl|contradiction|(apply Ob.mk;(try simp only[ag,ak,aa.ae])<;>(try dsimp only)<;>omega))
  all_goals first|trivial
 have p0:decide ((i:Int)<(I.length:Int))=false:=decide_eq_false (by omega)
 rw[show aD5 L I=(((s:Nat):Int),0) by rw[hF _ _ _ (aFV (by omega) hacc)]]
 repeat'((conv=>whnf);first|apply And.intro|exact bA (by subst_vars;assumption)|intro h9)
 all_goals(try(conv=>whnf))<;>(subst_vars;try first|(apply Tk.mk;kernel_rfl)|exact⟨ah rfl⟩|exact⟨rfl⟩|exact⟨trivial⟩|rfl|contradiction|(apply Ob.mk;(try simp only[ag,ak,aa.ae])<;>(try dsimp only)<;>omega))
 all_goals first|trivial)
end Go.Proofs.Ytccnimhgjjnmoaa
end
section
namespace Go.Proofs.Ytccnimhgjjnmoaa
open Go Go.Sy Go.dg
variable {Γ:bn}
noncomputable def aHI:List (Nat×au):=[(21,aIb),(46,aEf),(48,aEn),(26,anH),(49,aE4),(50,alJ),(51,aoM)]
theorem aGJ:aR Try.prog Γ aHI:=(((((((aR.nil.cons (aj Try.func51 rfl rfl).fn apF).cons (aj Try.func50 rfl rfl).fn alP).cons (aj Try.func49 rfl rfl).fn aFj).cons (aj Try.func26 rfl rfl).fn ao7).cons (aj Try.func48 rfl rfl).fn aEh).cons (aj Try.func46 rfl rfl).fn aEc).cons (aj Try.func21 rfl rfl).fn sW)
theorem aGY {L:List Bk} {l t f:Int} {I:List Int} (h:¬bf L l t f=0):aD1 L l t f I=(0,bf L l t f):=by unfold aD1;rw[if_neg h]
theorem aGX {L:List Bk} {l t f:Int} {I:List Int} (h:¬(aD1 L l t f I).2=0):(aD1 L l t f I).1=0:=by
 unfold aD1 at h ⊢;by_cases h0:bf L l t f=0
 ·rw[if_pos h0]at h ⊢;by_cases h1:I=[]
  ·rw[if_pos h1]
  ·rw[if_neg h1]at h ⊢;by_cases h2:(aD2 L none I).1=0
   ·rw[if_pos h2]at h;exact absurd rfl h
   ·rw[if_neg h2]
 ·rw[if_neg h0]
theorem aFO {L:List Bk} {l t f:Int} {I:List Int} (h:¬(aD1 L l t f I).2=0):(!aD3 L l t f I)=true:=by
 unfold aD3;rw[decide_eq_false h];rfl
attribute [local irreducible] ck bf aD1 aD5 aD3 akv wN
def aEJ:au:=aFB (fun _ _ _ _ _=>[]) (fun _ _ _ _ _=>bl true)
theorem aEs:au.Ok Try.prog Γ 14 aEJ:=aEL (d:=0) (aP aGJ bq.nil false 0) (aj Try.func14 rfl rfl) (fun _ _ _ _ _=>rfl) (by
 intro L l t f I _;by_cases g1:L.length>30
 ·have d1:decide ((L.length:Int)>30)=true:=decide_eq_true (by omega)
  repeat'((conv=>whnf);first|apply And.intro|exact bA (by subst_vars;assumption)|intro h9)
  all_goals(try(conv=>whnf))<;>(subst_vars;try first|(apply Tk.mk;kernel_rfl)|exact⟨ah rfl⟩|exact⟨rfl⟩|exact⟨trivial⟩|rfl|contradiction|(apply Ob.mk;(try simp only[ag,ak,aa.ae])<;>(try dsimp only)<;>omega))
 have d1:decide ((L.length:Int)>30)=false:=decide_eq_false (by omega)
 by_cases g2:I.length>40
 ·have d2:decide ((I.length:Int)>40)=true:=decide_eq_true (by omega)
  repeat'((conv=>whnf);first|apply And.intro|exact bA (by subst_vars;assumption)|intro h9)
  all_goals(try(conv=>whnf))<;>(subst_vars;try first|(apply Tk.mk;kernel_rfl)|exact⟨ah rfl⟩|exact⟨rfl⟩|exact⟨trivial⟩|rfl|contradiction|(apply Ob.mk;(try simp only[ag,ak,aa.ae])<;>(try dsimp only)<;>omega))
 have d2:decide ((I.length:Int)>40)=false:=decide_eq_false (by omega)
 have hL:L.length<=1000000:=by omega
 have hI:I.length<=1000:=by omega
 cases h0:bf L l t f==0
 ·have hn:¬bf L l t f=0:=fun e=>by rw[e]at h0;cases h0
  have e0:=aGY (I:=I) hn;have hb:¬(aD1 L l t f I).2=0:=by rw[e0];exact hn
  have a1:(bf L l t f !=0)=true:=by unfold bne;rw[h0];rfl
  have a2:((aD1 L l t f I).2!=bf L l t f)=false:=by rw[e0];exact bne_self_eq_false _
  have a3:((aD1 L l t f I).1==0)=true:=by rw[e0];rfl
  have a4:=aFO hb;clear e0;repeat'((conv=>whnf);first|apply And.intro|exact bA (by subst_vars;assumption)|intro h9)
  all_goals(try(conv=>whnf))<;>(subst_vars;try first|(apply Tk.mk;kernel_rfl)|exact⟨ah rfl⟩|exact⟨rfl⟩|exact⟨trivial⟩|rfl|contradiction|(apply Ob.mk;(try simp only[ag,ak,aa.ae])<;>(try dsimp only)<;>omega))
  all_goals try first|trivial|exact⟨hL⟩|exact⟨hI⟩
 have ha:=eq_of_beq h0;obtain⟨hB,hw⟩:=gg ha;obtain⟨hl,ht,hf⟩:=wE hw;have hn:=hB.Kg;have hp:=akO hn;have jJ:-1152921504606846976<=l/\l<=1152921504606846976:=by omega
 have UW:-1152921504606846976<=t/\t<=1152921504606846976:=by omega
 have hls:=aFb (I:=I) ha;have a2:((aD1 L l t f I).2!=(aD5 L I).2)=false:=by rw[hls];exact bne_self_eq_false _
 cases h1:(aD5 L I).2==0
 ·have hb:¬(aD1 L l t f I).2=0:=fun e=>by rw[<-hls,e]at h1;cases h1
  have a1:((aD5 L I).2!=0)=true:=by unfold bne;rw[h1];rfl
  have a3:((aD1 L l t f I).1==0)=true:=beq_iff_eq.2 (aGX hb);have a4:=aFO hb;clear hls;repeat'((conv=>whnf);first|apply And.intro|exact bA (by subst_vars;assumption)|intro h9)
  all_goals(try(conv=>whnf))<;>(subst_vars;try first|(apply Tk.mk;kernel_rfl)|exact⟨ah rfl⟩|exact⟨rfl⟩|exact⟨trivial⟩|rfl|contradiction|(apply Ob.mk;(try simp only[ag,ak,aa.ae])<;>(try dsimp only)<;>omega))
  all_goals try first|trivial|exact⟨hL⟩|exact⟨hI⟩|exact⟨hB⟩
 have a1:((aD5 L I).2!=0)=false:=by unfold bne;rw[h1];rfl
 obtain⟨u,e1,e2,e3,-,e4⟩:=aEy hB (eq_of_beq h1);have e5:=e4 l t f ha;have e6:=aEM (hls.trans (eq_of_beq h1)) e3 e5;have a3:((aD1 L l t f I).1==wN f L (Int.toNat (aD5 L I).1)-f)=true:=by rw[e1,Int.toNat_natCast];exact beq_iff_eq.2 e5
 have a4:(aD3 L l t f I==akv l t f L (Int.toNat (aD5 L I).1))=true:=by rw[e1,Int.toNat_natCast,e6];exact beq_self_eq_true _
 have hs:0<=(aD5 L I).1/\(aD5 L I).1<4611686018427387904:=by rw[e1];omega
 clear e1 e5 e6 e4 hls;repeat'((conv=>whnf);first|apply And.intro|exact bA (by subst_vars;assumption)|intro h9)
 all_goals(try(conv=>whnf))<;>(subst_vars;try first|(apply Tk.mk;kernel_rfl)|exact⟨ah rfl⟩|exact⟨rfl⟩|exact⟨trivial⟩|rfl|contradiction|(apply Ob.mk;(try simp only[ag,ak,aa.ae])<;>(try dsimp only)<;>omega))
 all_goals try first|trivial|exact⟨hL⟩|exact⟨hI⟩|exact⟨hB⟩|exact⟨hs⟩)
end Go.Proofs.Ytccnimhgjjnmoaa
end
