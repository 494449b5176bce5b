/-
  Texts of the claims: Ykd2y. No condition: lemmas and contracts.
-/
import Derived.Test.YtccnimhgjjnmoaaSya1z
import Derived.Test.YtccnimhgjjnmoaaSya2z
import Derived.Test.YtccnimhgjjnmoaaSya3z
import Derived.Test.YtccnimhgjjnmoaaSya4z
import Derived.Test.YtccnimhgjjnmoaaSya5z
import Derived.Test.YtccnimhgjjnmoaaPla6z
import Derived.Test.YtccnimhgjjnmoaaYka7z
import Derived.Test.YtccnimhgjjnmoaaYka8z
import Derived.Test.YtccnimhgjjnmoaaYka9z
import Derived.Test.YtccnimhgjjnmoaaYka10z
import Derived.Test.YtccnimhgjjnmoaaYka11z
import Derived.Test.YtccnimhgjjnmoaaYka12z
import Derived.Test.YtccnimhgjjnmoaaYka13z
import Derived.Test.YtccnimhgjjnmoaaYka14z
import Derived.Test.YtccnimhgjjnmoaaYka15z
import Derived.Test.YtccnimhgjjnmoaaYka16z
import Derived.Test.YtccnimhgjjnmoaaYka17z
import Derived.Test.YtccnimhgjjnmoaaYka18z
import Derived.Test.YtccnimhgjjnmoaaPlb1z
import Derived.Test.YtccnimhgjjnmoaaPlc1z
import Derived.Test.YtccnimhgjjnmoaaYkc2z
import Derived.Test.YtccnimhgjjnmoaaPld1z
import Derived.Test.YtccnimhgjjnmoaaYke1z
import Derived.Test.YtccnimhgjjnmoaaPlf1z
import Derived.Test.YtccnimhgjjnmoaaPlg1z
import Derived.Test.YtccnimhgjjnmoaaYkg2z
import Derived.Test.YtccnimhgjjnmoaaPlh1z
import Derived.Test.YtccnimhgjjnmoaaYkh2z
import Derived.Test.YtccnimhgjjnmoaaYki1z
import Derived.Test.YtccnimhgjjnmoaaPlj1z
import Derived.Test.YtccnimhgjjnmoaaYkk1z
import Derived.Test.YtccnimhgjjnmoaaYkm1z
import Derived.Test.YtccnimhgjjnmoaaPln1z
import Derived.Test.YtccnimhgjjnmoaaYko1z
import Derived.Test.YtccnimhgjjnmoaaPlq1z
import Derived.Test.YtccnimhgjjnmoaaPla1y
import Derived.Test.YtccnimhgjjnmoaaYka2y
import Derived.Test.YtccnimhgjjnmoaaPlb1y
import Derived.Test.YtccnimhgjjnmoaaPld1y
set_option linter.all false
set_option maxRecDepth 100000
set_option maxHeartbeats 40000000
section
namespace Go.Proofs.Ytccnimhgjjnmoaa
open Go Go.Sy Go.dg
variable {Γ:bn}
def aKj (D:Nat->Nat->List Int->Int->List aa) (F:Nat->Nat->List Int->Int->Tm):au:=.fn fun args rg=>match args with
 |[.a x0,.a (.v (.int .i64 n0))]=>(match amp 3 kI rg x0 with|some (q0,a0,b0,L0)=>some (q0++(D a0 b0 L0 n0),F a0 b0 L0 n0)|_=>none)
 |_=>none
theorem aJ3 {f:FuncId} {b:Body} {E:Env} {d:Nat} (hP:aL Try.prog Γ E) (hb:bQ Try.prog f b) {D:Nat->Nat->List Int->Int->List aa} {F:Nat->Nat->List Int->Int->Tm} (hp:∀ (a0:Nat) (b0:Nat) (L0:List Int) (n0:Int),(F a0 b0 L0 n0).plain=true)
 (H:∀ (a0:Nat) (b0:Nat) (L0:List Int) (n0:Int),bW (D a0 b0 L0 n0)->cQ E d b [.a (.sl 0 [] a0 b0),.a (vI n0)] [.arr 3 kI L0 false false] (fun x _=>iL x (F a0 b0 L0 n0))):au.Ok Try.prog Γ f (aKj D F):=au.aBp (d:=d) hP hb (by
 intro args rg q t hF hq;split at hF;next x0 n0=>
  split at hF;next q0 a0 b0 L0 hx0=>
   obtain⟨rfl,rfl⟩:=Prod.mk.inj (Option.some.inj hF);clear hF;rw[aH]at hq;obtain⟨aIh,hD⟩:=hq;obtain⟨e0,Vn⟩:=aov (by simp[kI]) hx0 aIh
   obtain⟨p0,r0⟩:=Vn [e0] 0 1 rfl (by omega)
   refine⟨hp _ _ _ _,[e0],[.a (.sl 0 [] a0 b0),.a (vI n0)],[.arr 3 kI L0 false false],⟨⟨p0,rfl,trivial⟩,fun r g hg=>?_⟩,H _ _ _ _ hD⟩
   match r,hg with
   |0,hg=>obtain rfl:=Option.some.inj hg;exact r0
  next=>cases hF
 next=>cases hF)
def aJ2 (D:List Bk->Nat->Nat->List Int->List aa) (R:List Bk->Nat->Nat->List Int->cM):au:=.new fun args rg K=>match args with
 |[.a x0,.a x1]=>(match ac1 67 kK rg x0,amp 3 kI rg x1 with|some (q0,L0),some (q1,a1,b1,L1)=>aBP false (q0++(q1++(D L0 a1 b1 L1))) (K (R L0 a1 b1 L1))|_,_=>False)
 |_=>False
theorem aJR {f:FuncId} {b:Body} {E:Env} {d:Nat} (hP:aL Try.prog Γ E) (hb:bQ Try.prog f b) {D:List Bk->Nat->Nat->List Int->List aa} {R:List Bk->Nat->Nat->List Int->cM}
 (H:∀ (L0:List Bk) (a1:Nat) (b1:Nat) (L1:List Int) (K:cM->Prop),bW (D L0 a1 b1 L1)->K (R L0 a1 b1 L1)->cQ E d b [.a (.sl 0 [] 0 L0.length),.a (.sl 1 [] a1 b1)] [.arr 67 kK L0 false false,.arr 3 kI L1 false false] (bu K)):au.Ok Try.prog Γ f (aJ2 D R):=au.fM (d:=d) hP hb (by
 intro args rg K hF;split at hF;next x0 x1=>
  split at hF;next q0 L0 q1 a1 b1 L1 hx0 cO=>
   rw[aV,aH,aH]at hF;obtain⟨⟨aIh,gk,hD⟩,hK⟩:=hF;obtain⟨e0,Vn⟩:=bP (by simp[kK]) hx0 aIh
   obtain⟨e1,iO⟩:=aov (by simp[kI]) cO gk
   obtain⟨p0,r0⟩:=Vn [e0,e1] 0 2 rfl (by omega)
   obtain⟨p1,r1⟩:=iO [e0,e1] 1 2 rfl (by omega)
   refine⟨[e0,e1],[.a (.sl 0 [] 0 L0.length),.a (.sl 1 [] a1 b1)],[.arr 67 kK L0 false false,.arr 3 kI L1 false false],⟨⟨p0,p1,trivial⟩,fun r g hg=>?_⟩,bu K,H _ _ _ _ K hD hK,fun x st h=>h⟩
   match r,hg with
   |0,hg=>obtain rfl:=Option.some.inj hg;exact r0
   |1,hg=>obtain rfl:=Option.some.inj hg;exact r1
  next=>exact hF.elim
 next=>exact hF.elim)
def aIW (I:List Int) (a b:Nat):List Int:=(I.drop a).take b
theorem aJy (I:List Int):aIW I 0 I.length=I:=by unfold aIW;rw[List.drop_zero,List.take_length]
theorem aJE {I:List Int} {a b:Nat} (h:a+b<=I.length):(aIW I a b).length=b:=by unfold aIW;rw[List.length_take,List.length_drop];omega
abbrev aJ7 (I:List Int) (a:Nat) (i:Int):Int:=@Ar.get ⟨3,kI,I⟩ (a+Int.toNat i)
theorem aKf {I:List Int} {a b i:Nat} (h:a+b<=I.length) (hi:i<b):aJ7 I a i=ca (aIW I a b) i:=by
 rw[alf (show i<(aIW I a b).length by rw[aJE h];exact hi)]
 unfold aIW;rw[List.getElem_take,List.getElem_drop];show I.getD (a+Int.toNat (i:Int)) 0=_;rw[Int.toNat_natCast,List.getD_eq_getElem?_getD,List.getElem?_eq_getElem (by omega)];rfl
def aJv:au:=aKj (fun a b I _=>[(aa.of (a+b<=I.length)),(aa.of (I.length<=1000000))]) (fun a b I n=>bl ((aIW I a b).contains n))
attribute [local irreducible] aIW
theorem aJn:au.Ok Try.prog Γ 47 aJv:=aJ3 (d:=0) (aP aR.nil bq.nil false 0) (aj Try.func47 rfl rfl) (fun _ _ _ _=>rfl) (by
 intro a b I n ⟨hab,hI,_⟩;simp only[aa.ae]at hab hI;have RJ:=aJE hab;repeat'((conv=>whnf);first|apply And.intro|exact bA (by subst_vars;assumption)|intro h9)
 all_goals(try(conv=>whnf))<;>(subst_vars;try first|(apply Tk.mk;kernel_rfl)|exact⟨ah rfl⟩|exact⟨rfl⟩|exact⟨trivial⟩|rfl|contradiction|(apply Ob.mk;(try simp only[ag,ak,aa.ae])<;>(try dsimp only)<;>omega))
 refine⟨Nat,fun i=>i<=b/\∀ j,j<i->ca (aIW I a b) j≠n,fun i=>⟨aI 18 [0,1,5] [.a (.sl 0 [] a b),.a (vI n),.a (vI i)],[],[.arr 3 kI I false false]⟩,fun i=>b-i,0,[0],⟨Nat.zero_le _,fun j h=>absurd h (Nat.not_lt_zero j)⟩,?_,?_⟩
 ·repeat'((conv=>whnf)<;>first|apply And.intro|intro _|rfl|trivial|exact ah rfl|exact aS ‹_› rfl|exact aT ‹_› rfl|((repeat' first|rfl|constructor);done))
 rintro i ⟨hi,hj⟩;by_cases hi1:i<b
 ·have p0:decide ((i:Int)<(b:Int))=true:=decide_eq_true (by omega)
  have hx:=aKf hab hi1;by_cases hw:ca (aIW I a b) i=n
  ·have e1:(aJ7 I a i==n)=true:=by rw[hx];exact beq_iff_eq.2 hw
   rw[aGT (by omega) hw]
   clear hx;replace hw:=And.intro hw trivial;repeat'((conv=>whnf);first|apply And.intro|exact bA (by subst_vars;assumption)|intro h9)
   all_goals(try(conv=>whnf))<;>(subst_vars;try first|(apply Tk.mk;kernel_rfl)|exact⟨ah rfl⟩|exact⟨rfl⟩|exact⟨trivial⟩|rfl|contradiction|(apply Ob.mk;(try simp only[ag,ak,aa.ae])<;>(try dsimp only)<;>omega))
   all_goals first|exact⟨show a+Int.toNat (i:Int)<I.length by omega⟩
  have e1:(aJ7 I a i==n)=false:=by rw[hx];exact beq_eq_false_iff_ne.2 hw
  clear hx;repeat'((conv=>whnf);first|apply And.intro|exact bA (by subst_vars;assumption)|intro h9)
  all_goals(try(conv=>whnf))<;>(subst_vars;try first|(apply Tk.mk;kernel_rfl)|exact⟨ah rfl⟩|exact⟨rfl⟩|exact⟨trivial⟩|rfl|contradiction|(apply Ob.mk;(try simp only[ag,ak,aa.ae])<;>(try dsimp only)<;>omega))
  all_goals try first|exact⟨show a+Int.toNat (i:Int)<I.length by omega⟩
  refine⟨i+1,[0],⟨hi1,fun j hj2=>by rcases Nat.lt_succ_iff_lt_or_eq.1 hj2 with h|rfl;exact hj j h;exact hw⟩,?_,by show b-(i+1)<b-i;omega⟩
  repeat'((conv=>whnf)<;>first|apply And.intro|intro _|rfl|trivial|exact ah rfl|exact aS ‹_› rfl|exact aT ‹_› rfl|((repeat' first|rfl|constructor);done))
 have p0:decide ((i:Int)<(b:Int))=false:=decide_eq_false (by omega)
 rw[aGU (fun j h=>hj j (by omega))]
 repeat'((conv=>whnf);first|apply And.intro|exact bA (by subst_vars;assumption)|intro h9)
 all_goals(try(conv=>whnf))<;>(subst_vars;try first|(apply Tk.mk;kernel_rfl)|exact⟨ah rfl⟩|exact⟨rfl⟩|exact⟨trivial⟩|rfl|contradiction|(apply Ob.mk;(try simp only[ag,ak,aa.ae])<;>(try dsimp only)<;>omega)))
theorem aJV {S:List Int} {L:List Bk} {i:Nat} (h:i<L.length):aIV S (L.take (i+1))=if S.contains (bk L i).1=true then aIV S (L.take i)else aIV S (L.take i)++[bk L i]:=by
 unfold aIV;rw[List.take_add_one,List.getElem?_eq_getElem h,List.filter_append,<-akX h];show _++List.filter (fun b=>!S.contains b.1) [bk L i]=_
 rw[List.filter_cons];cases S.contains (bk L i).1<;>simp
attribute [local irreducible] aIV
def aJo:au:=aJ2 (fun L a b I=>[(aa.of (L.length<=1000000)),(aa.of (a+b<=I.length)),(aa.of (I.length<=1000000))]) (fun L a b I=>⟨[.arr 67 kK (aIV (aIW I a b) L) true true],.a (.sl 0 [] 0 (aIV (aIW I a b) L).length)⟩)
noncomputable def aKr:List (Nat×au):=[(47,aJv)]
theorem aJZ:aR Try.prog Γ aKr:=(aR.nil.cons (aj Try.func47 rfl rfl).fn aJn)
theorem aJw:au.Ok Try.prog Γ 52 aJo:=aJR (d:=0) (aP aJZ bq.nil false 0) (aj Try.func52 rfl rfl) (by
 intro L a b I K ⟨hL,hab,hI,_⟩ hK;simp only[aa.ae]at hL hab hI;have e0:aIV (aIW I a b) (L.take 0)=[]:=by rw[List.take_zero];unfold aIV;rfl
 have aJ0:(aIV (aIW I a b) (L.take 0)).length=0:=by rw[e0];rfl
 repeat'((conv=>whnf);first|apply And.intro|exact bA (by subst_vars;assumption)|intro h9)
 all_goals(try(conv=>whnf))<;>(subst_vars;try first|(apply Tk.mk;kernel_rfl)|exact⟨ah rfl⟩|exact⟨rfl⟩|exact⟨trivial⟩|rfl|contradiction|(apply Ob.mk;(try simp only[ag,ak,aa.ae])<;>(try dsimp only)<;>omega))
 refine⟨Nat,fun i=>i<=L.length,fun i=>⟨aI 29 [0,1,5,6] [.a (.sl 0 [] 0 L.length),.a (.sl 1 [] a b),.a (.sl 2 [] 0 (aIV (aIW I a b) (L.take i)).length),.a (vI i)],[],[.arr 67 kK L false false,.arr 3 kI I false false,.arr 67 kK (aIV (aIW I a b) (L.take i)) true true]⟩,fun i=>L.length-i,0,[0,1,1000],Nat.zero_le _,?_,?_⟩
 ·repeat'((conv=>whnf)<;>first|apply And.intro|intro _|rfl|trivial|exact ah rfl|exact aS ‹_› rfl|exact aT ‹_› rfl|((repeat' first|rfl|constructor);done)|exact e0|exact aJ0)
 intro i hi;have aby:(aIV (aIW I a b) (L.take i)).length<=i:=Nat.le_trans (aJi _) (by rw[List.length_take];omega)
 by_cases hi1:i<L.length
 ·have p0:decide ((i:Int)<(L.length:Int))=true:=decide_eq_true (by omega)
  have hst:=aJV (S:=aIW I a b) hi1;rw[<-tb]at hst;cases hc:(aIW I a b).contains (gr L i).1
  ·rw[hc,if_neg (by simp)]at hst
   have amC:=congrArg List.length hst;rw[List.length_append,List.length_singleton]at amC;have e1:(!(aIW I a b).contains (gr L i).1)=true:=by rw[hc];rfl
   repeat'((conv=>whnf);first|apply And.intro|exact bA (by subst_vars;assumption)|intro h9)
   all_goals(try(conv=>whnf))<;>(subst_vars;try first|(apply Tk.mk;kernel_rfl)|exact⟨ah rfl⟩|exact⟨rfl⟩|exact⟨trivial⟩|rfl|contradiction|(apply Ob.mk;(try simp only[ag,ak,aa.ae])<;>(try dsimp only)<;>omega))
   all_goals try first|exact⟨hab⟩|exact⟨hI⟩|exact⟨show 0+Int.toNat (i:Int)<L.length by omega⟩|exact⟨Nat.zero_add _⟩|exact⟨show((aIV (aIW I a b) (L.take i)).length+1)*2<=1099511627776 by omega⟩
   refine⟨i+1,[0,1,2],hi1,?_,by show L.length-(i+1)<L.length-i;omega⟩
   repeat'((conv=>whnf)<;>first|apply And.intro|intro _|rfl|trivial|exact ah rfl|exact aS ‹_› rfl|exact aT ‹_› rfl|((repeat' first|rfl|constructor);done)|exact amC.symm|exact⟨rfl,rfl,hst.symm⟩)
  ·rw[hc,if_pos rfl]at hst;have e1:(!(aIW I a b).contains (gr L i).1)=false:=by rw[hc];rfl
   have amC:=congrArg List.length hst;repeat'((conv=>whnf);first|apply And.intro|exact bA (by subst_vars;assumption)|intro h9)
   all_goals(try(conv=>whnf))<;>(subst_vars;try first|(apply Tk.mk;kernel_rfl)|exact⟨ah rfl⟩|exact⟨rfl⟩|exact⟨trivial⟩|rfl|contradiction|(apply Ob.mk;(try simp only[ag,ak,aa.ae])<;>(try dsimp only)<;>omega))
   all_goals try first|exact⟨hab⟩|exact⟨hI⟩|exact⟨show 0+Int.toNat (i:Int)<L.length by omega⟩
   refine⟨i+1,[0,1,2],hi1,?_,by show L.length-(i+1)<L.length-i;omega⟩
   repeat'((conv=>whnf)<;>first|apply And.intro|intro _|rfl|trivial|exact ah rfl|exact aS ‹_› rfl|exact aT ‹_› rfl|((repeat' first|rfl|constructor);done)|exact amC.symm|exact⟨rfl,rfl,hst.symm⟩)
 have p0:decide ((i:Int)<(L.length:Int))=false:=decide_eq_false (by omega)
 have pU:L.take i=L:=List.take_of_length_le (by omega)
 rw[<-pU]at hK;have lQ:K ⟨[.arr 67 kK (aIV (aIW I a b) (L.take i)) true true],.a (.sl 0 [] 0 (aIV (aIW I a b) (L.take i)).length)⟩:=by
  have:=hK;rw[pU]at this ⊢;exact this
 clear hK pU;repeat'((conv=>whnf);first|apply And.intro|exact bA (by subst_vars;assumption)|intro h9)
 all_goals(try(conv=>whnf))<;>(subst_vars;try first|(apply Tk.mk;kernel_rfl)|exact⟨ah rfl⟩|exact⟨rfl⟩|exact⟨trivial⟩|rfl|contradiction|(apply Ob.mk;(try simp only[ag,ak,aa.ae])<;>(try dsimp only)<;>omega))
 refine bu.base ⟨_,[2],lQ,⟨rfl,rfl,by simp,trivial⟩,rfl,?_⟩
 repeat'((conv=>whnf)<;>first|apply And.intro|intro _|rfl|trivial))
end Go.Proofs.Ytccnimhgjjnmoaa
end
section
namespace Go.Proofs.Ytccnimhgjjnmoaa
open Go Go.Sy Go.dg
variable {Γ:bn}
theorem aIJ {q:Nat->Bool} {L:List Bk} {n:Nat} {x:Int}:x∈akS q L n<->∃ i,i<n/\q i=true/\(bk L i).1=x:=by
 unfold akS;rw[List.mem_map];constructor
 ·rintro⟨i,hi,rfl⟩;obtain⟨h1,h2⟩:=List.mem_filter.1 hi;exact⟨i,List.mem_range.1 h1,h2,rfl⟩
 ·rintro⟨i,h1,h2,rfl⟩;exact⟨i,List.mem_filter.2 ⟨List.mem_range.2 h1,h2⟩,rfl⟩
attribute [local irreducible] bf ck gf aku eg wN aD1 aD3 Cn aCd tx akS
end Go.Proofs.Ytccnimhgjjnmoaa
end
section
namespace Go.Proofs.Ytccnimhgjjnmoaa
open Go Go.Sy Go.dg
variable {Γ:bn}
noncomputable def aKg:List (Nat×au):=[(21,aIb),(44,aCQ),(45,arf),(48,aEn),(52,aJo),(23,alU),(22,ap3),(47,aJv),(28,uA)]
theorem aJW:aR Try.prog Γ aKg:=(((((((((aR.nil.cons (aj Try.func28 rfl rfl).fn yG).cons (aj Try.func47 rfl rfl).fn aJn).cons (aj Try.func22 rfl rfl).fn aoY).cons (aj Try.func23 rfl rfl).fn an2).cons (aj Try.func52 rfl rfl).fn aJw).cons (aj Try.func48 rfl rfl).fn aEh).cons (aj Try.func45 rfl rfl).fn ash).cons (aj Try.func44 rfl rfl).fn aCV).cons (aj Try.func21 rfl rfl).fn sW)
theorem aKa {I:List Int} {z:Nat} (h:z<I.length):aIW I (0+Int.toNat (z:Int)) (Int.toNat ((z:Int)+1)-Int.toNat (z:Int))=[ca I z]:=by
 rw[show Int.toNat ((z:Int)+1)-Int.toNat (z:Int)=1 by omega,Nat.zero_add,Int.toNat_natCast,alf h]
 unfold aIW;rw[List.drop_eq_getElem_cons h];rfl
theorem aJB {S:List Int} {L:List Bk} {l t f:Int} (ha:bf L l t f=0):bf (aIV S L) l t f=0:=by
 obtain⟨hB,hw⟩:=gg ha;unfold bf;rw[atO (aKc hB),if_pos rfl,if_pos hw]
theorem aJx {L:List Bk} {l t f:Int} (hB:gb L) (h0:0<=l+t+f) {x:Int} (hx:x∈(akS (aCd L l t f) L L.length)) {u:Nat} (hu:u<2^L.length) (hg:akv l t f L u=true):x∈eg L u:=by
 rw[aIJ]at hx;obtain⟨j,h1,h2,rfl⟩:=hx;have h3:kG f (l-t+f) (l+t+f) (L.eraseIdx j)=0:=beq_iff_eq.1 h2;rw[aC3 h0 h1]at h3;rw[aEw hB.aos,aFU hB.aos h1];refine⟨h1,h3 u ?_⟩;rw[<-aCr,awS,List.mem_filter,List.mem_range];exact⟨hu,hg⟩
theorem aJq {L:List Bk} {l t f:Int} (hB:gb L) (h0:0<=l+t+f) {u:Nat} (hu:u<2^L.length) (hg:akv l t f L u=true):∀ x∈eg L u,(akS (tx L l t f) L L.length).contains x=false:=fun x hx=>by
 rw[Bool.eq_false_iff];intro hc;rw[List.contains_iff_mem,aIJ]at hc;obtain⟨j,h1,h2,rfl⟩:=hc;have h3:kG f (l-t+f) (l+t+f) L=kG f (l-t+f) (l+t+f) (L.eraseIdx j):=beq_iff_eq.1 h2;rw[aDh h0 h1]at h3;rw[aEw hB.aos,aFU hB.aos h1]at hx;have:=h3 u (by rw[<-aCr,awS,List.mem_filter,List.mem_range];exact⟨hu,hg⟩)
 rw[hx.2]at this;cases this
structure aKs (L:List Bk) (l t f:Int) (I:List Int):Prop where
 p1:∀ z:Nat,z<(akS (aCd L l t f) L L.length).length->(bf (aIV (aIW (akS (aCd L l t f) L L.length) (0+Int.toNat (z:Int)) (Int.toNat ((z:Int)+1)-Int.toNat (z:Int))) L) l t f !=0)=false/\((if bf (aIV (aIW (akS (aCd L l t f) L L.length) (0+Int.toNat (z:Int)) (Int.toNat ((z:Int)+1)-Int.toNat (z:Int))) L) l t f=0 then(gN l t f (aIV (aIW (akS (aCd L l t f) L L.length) (0+Int.toNat (z:Int)) (Int.toNat ((z:Int)+1)-Int.toNat (z:Int))) L):Int)else 0)!=0)=false/\(aIV (aIW (akS (aCd L l t f) L L.length) (0+Int.toNat (z:Int)) (Int.toNat ((z:Int)+1)-Int.toNat (z:Int))) L).length<=1000000
 p2:∀ z:Nat,z<(akS (aCd L l t f) L L.length).length->aD3 L l t f I=true->(!((aIW I 0 I.length).contains (ca (akS (aCd L l t f) L L.length) z)))=false
 p3:∀ v:Nat,v<(akS (tx L l t f) L L.length).length->aD3 L l t f I=true->(aIW I 0 I.length).contains (ca (akS (tx L l t f) L L.length) v)=false
 q1:(bf (aIV (aIW (akS (tx L l t f) L L.length) 0 (akS (tx L l t f) L L.length).length) L) l t f==0)=true
 q2:((if bf L l t f=0 then(gN l t f L:Int)else 0)==(if bf (aIV (aIW (akS (tx L l t f) L L.length) 0 (akS (tx L l t f) L L.length).length) L) l t f=0 then(gN l t f (aIV (aIW (akS (tx L l t f) L L.length) 0 (akS (tx L l t f) L L.length).length) L):Int)else 0))=true
 q3:((gN l t f (aIV (aIW (akS (tx L l t f) L L.length) 0 (akS (tx L l t f) L L.length).length) L):Int)==0)=false
 q4:decide (eg L (aku l t f L)=eg (aIV (aIW (akS (tx L l t f) L L.length) 0 (akS (tx L l t f) L L.length).length) L) (aku l t f (aIV (aIW (akS (tx L l t f) L L.length) 0 (akS (tx L l t f) L L.length).length) L)))=true
 n1:(eg L (aku l t f L)).length<=1000000
 n2:(eg (aIV (aIW (akS (tx L l t f) L L.length) 0 (akS (tx L l t f) L L.length).length) L) (aku l t f (aIV (aIW (akS (tx L l t f) L L.length) 0 (akS (tx L l t f) L L.length).length) L))).length<=1000000
 n3:(aIV (aIW (akS (tx L l t f) L L.length) 0 (akS (tx L l t f) L L.length).length) L).length<=1000000
theorem aJ8 {L:List Bk} {l t f:Int} {I:List Int} (ha:bf L l t f=0) (hg:gf l t f L≠[]):aKs L l t f I:=by
 obtain⟨hB,hw⟩:=gg ha;obtain⟨hl,ht,hf⟩:=wE hw;have h0:0<=l+t+f:=by omega
 have hn:=hB.Kg;obtain⟨e1,e2⟩:=aJD (S:=aIW (akS (tx L l t f) L L.length) 0 (akS (tx L l t f) L L.length).length) (L:=L) (l:=l) (t:=t) (f:=f) (fun u hu aJp=>by rw[aJy];exact aJq hB h0 hu aJp)
 have e3:=e2 hg;have anY:∀ u,(eg L u).length<=1000000:=fun u=>by rw[ew];have:=ajs L.length u;omega
 have hb:=aJB (S:=aIW (akS (tx L l t f) L L.length) 0 (akS (tx L l t f) L L.length).length) ha;refine⟨fun z hz=>?_,fun z hz hgd=>?_,fun v hv hgd=>?_,by rw[hb];rfl,?_,?_,decide_eq_true e3.symm,anY _,by rw[e3];exact anY _,by have:=aJi (S:=aIW (akS (tx L l t f) L L.length) 0 (akS (tx L l t f) L L.length).length) L;omega⟩
 ·have hbz:=aJB (S:=aIW (akS (aCd L l t f) L L.length) (0+Int.toNat (z:Int)) (Int.toNat ((z:Int)+1)-Int.toNat (z:Int))) ha;have hno:gf l t f (aIV (aIW (akS (aCd L l t f) L L.length) (0+Int.toNat (z:Int)) (Int.toNat ((z:Int)+1)-Int.toNat (z:Int))) L)=[]:=by
   rw[aKa hz];refine aJC (x:=ca (akS (aCd L l t f) L L.length) z) (by simp) fun u hu aJp=>?_
   refine aJx hB h0 ?_ hu aJp;rw[alf hz];exact List.getElem_mem hz
  refine⟨by rw[hbz];rfl,?_,by have:=aJi (S:=aIW (akS (aCd L l t f) L L.length) (0+Int.toNat (z:Int)) (Int.toNat ((z:Int)+1)-Int.toNat (z:Int))) L;omega⟩
  rw[if_pos hbz];show(((gf l t f (aIV (aIW (akS (aCd L l t f) L L.length) (0+Int.toNat (z:Int)) (Int.toNat ((z:Int)+1)-Int.toNat (z:Int))) L)).length:Int)!=0)=false;rw[hno];rfl
 ·obtain⟨u,u1,u2,u3⟩:=aEl hgd;rw[aJy];have:(I.contains (ca (akS (aCd L l t f) L L.length) z))=true:=by
   rw[List.contains_iff_mem,<-u3];refine aJx hB h0 ?_ u1 u2;rw[alf hz];exact List.getElem_mem hz
  rw[this];rfl
 ·obtain⟨u,u1,u2,u3⟩:=aEl hgd;rw[aJy,Bool.eq_false_iff];intro hc;rw[List.contains_iff_mem,<-u3]at hc;have h9:=aJq hB h0 u1 u2 _ hc;rw[Bool.eq_false_iff]at h9;apply h9;rw[List.contains_iff_mem,alf hv];exact List.getElem_mem hv
 ·rw[if_pos ha,if_pos hb];show(((gf l t f L).length:Int)==((gf l t f (aIV (aIW (akS (tx L l t f) L L.length) 0 (akS (tx L l t f) L L.length).length) L)).length:Int))=true;rw[e1];exact beq_self_eq_true _
 ·have:=List.length_pos_iff.2 hg;refine beq_eq_false_iff_ne.2 ?_;show ¬((gf l t f (aIV (aIW (akS (tx L l t f) L L.length) 0 (akS (tx L l t f) L L.length).length) L)).length:Int)=0;omega
attribute [local irreducible] ck bf gf aku eg aD1 aD3 aCd tx akS aIW aIV
def aKo (id:Nat):Option OT:=match Nat.beq id 11 with|true=>some (.take 0 (.take 1 (.take 2 (.take 3 (.take 4 (.alt 5 (.alt 6 (.alt 7 (.alt 8 (.take 9 (.take 10 (.take 11 (.take 12 (.take 13 .fin))))) .fin) .fin) (.alt 7 (.alt 6 (.alt 8 (.take 9 (.take 10 (.take 11 (.take 12 (.take 13 .fin))))) .fin) .fin) .fin)) (.alt 7 (.alt 5 (.alt 6 (.alt 8 (.take 9 (.take 10 (.take 11 (.take 12 (.take 13 .fin))))) .fin) .fin) .fin) .fin)))))))|false=>match Nat.beq id 20 with|true=>some (.take 0 (.take 1 (.alt 2 (.alt 3 (.alt 4 (.take 5 (.take 6 (.take 7 (.take 8 (.take 9 .fin))))) .fin) .fin) (.alt 3 (.alt 2 (.alt 4 (.take 5 (.take 6 (.take 7 (.take 8 (.take 9 .fin))))) .fin) .fin) .fin))))|false=>match Nat.beq id 22 with|true=>some (.take 0 (.take 1 (.alt 2 (.alt 3 (.alt 4 (.take 5 (.take 6 (.take 7 (.take 8 (.take 9 .fin))))) .fin) .fin) (.alt 3 (.alt 2 (.alt 4 (.take 5 (.take 6 (.take 7 (.take 8 (.take 9 .fin))))) .fin) .fin) .fin))))|false=>none
noncomputable def aKl:Env:={jV.env aKg [] false 0 with tree:=aKo}
theorem aJP:aL Try.prog Γ aKl:=(aP aJW bq.nil false 0).vU _
def aJu:au:=aFB (fun _ _ _ _ _=>[]) (fun _ _ _ _ _=>bl true)
theorem aJc:au.Ok Try.prog Γ 18 aJu:=aEL (d:=0) aJP (aj Try.func18 rfl rfl) (fun _ _ _ _ _=>rfl) (by
 intro L l t f I _;have z0:((0:Int)==0)=true:=rfl;have z1:((0:Int)!=0)=false:=rfl;have z2:((5:Int)!=0)=true:=rfl;have z3:((5:Int)==5)=true:=rfl;by_cases g1:L.length>11
 ·have d1:decide ((L.length:Int)>11)=true:=decide_eq_true (by omega)
  repeat'((conv=>whnf);first|apply And.intro|exact bA (by subst_vars;assumption)|intro h9)
  all_goals(try(conv=>whnf))<;>(subst_vars;try first|(apply Tk.mk;kernel_rfl)|exact⟨ah rfl⟩|exact⟨rfl⟩|exact⟨trivial⟩|rfl|contradiction|(apply Ob.mk;(try simp only[ag,ak,aa.ae])<;>(try dsimp only)<;>omega))
 have d1:decide ((L.length:Int)>11)=false:=decide_eq_false (by omega)
 by_cases g2:I.length>20
 ·have d2:decide ((I.length:Int)>20)=true:=decide_eq_true (by omega)
  repeat'((conv=>whnf);first|apply And.intro|exact bA (by subst_vars;assumption)|intro h9)
  all_goals(try(conv=>whnf))<;>(subst_vars;try first|(apply Tk.mk;kernel_rfl)|exact⟨ah rfl⟩|exact⟨rfl⟩|exact⟨trivial⟩|rfl|contradiction|(apply Ob.mk;(try simp only[ag,ak,aa.ae])<;>(try dsimp only)<;>omega))
 have d2:decide ((I.length:Int)>20)=false:=decide_eq_false (by omega)
 have hL:L.length<=1000000:=by omega
 have hI:I.length<=1000:=by omega
 have aJM:0+I.length<=I.length/\I.length<=1000000:=by omega
 cases h0:bf L l t f==0
 ·have a1:(bf L l t f !=0)=true:=by unfold bne;rw[h0];rfl
  have a2:(bf L l t f==bf L l t f)=true:=beq_self_eq_true _;repeat'((conv=>whnf);first|apply And.intro|exact bA (by subst_vars;assumption)|intro h9)
  all_goals(try(conv=>whnf))<;>(subst_vars;try first|(apply Tk.mk;kernel_rfl)|exact⟨ah rfl⟩|exact⟨rfl⟩|exact⟨trivial⟩|rfl|contradiction|(apply Ob.mk;(try simp only[ag,ak,aa.ae])<;>(try dsimp only)<;>omega))
  all_goals try first|trivial|exact⟨hL⟩
 have ha:=eq_of_beq h0;cases hg:((gN l t f L:Int)==0);rotate_left
 ·clear ha;repeat'((conv=>whnf);first|apply And.intro|exact bA (by subst_vars;assumption)|intro h9)
  all_goals(try(conv=>whnf))<;>(subst_vars;try first|(apply Tk.mk;kernel_rfl)|exact⟨ah rfl⟩|exact⟨rfl⟩|exact⟨trivial⟩|rfl|contradiction|(apply Ob.mk;(try simp only[ag,ak,aa.ae])<;>(try dsimp only)<;>omega))
  all_goals try first|exact⟨hL⟩
 obtain⟨p1,p2,p3,q1,q2,q3,q4,n1,n2,n3⟩:=aJ8 (I:=I) ha (amP hg);have vc:=aDd (show L.length<=12 by omega) (aCd L l t f)
 have Sk:=aDd (show L.length<=12 by omega) (tx L l t f)
 clear ha;repeat'((conv=>whnf);first|apply And.intro|exact bA (by subst_vars;assumption)|intro h9)
 all_goals(try(conv=>whnf))<;>(subst_vars;try first|(apply Tk.mk;kernel_rfl)|exact⟨ah rfl⟩|exact⟨rfl⟩|exact⟨trivial⟩|rfl|contradiction|(apply Ob.mk;(try simp only[ag,ak,aa.ae])<;>(try dsimp only)<;>omega))
 all_goals try first|exact⟨hL⟩|exact⟨hI⟩
 refine⟨Nat,fun z=>z<=(akS (aCd L l t f) L L.length).length,fun z=>⟨aI 179 [0,2,4,7,9,11,12,13] [.a (.sl 0 [] 0 L.length),.a (.sl 1 [] 0 I.length),.a (.p 2 [] 0 0),.a (.sl 3 [] 0 (akS (aCd L l t f) L L.length).length),.a (.sl 4 [] 0 (akS (tx L l t f) L L.length).length),.a (.v (.bool (aD3 L l t f I))),.a (vI (aD1 L l t f I).2),.a (vI z)],[],[.arr 67 kK L false false,.arr 3 kI I false false,.box true [vI l,vI t,vI f],.arr 3 kI (akS (aCd L l t f) L L.length) true true,.arr 3 kI (akS (tx L l t f) L L.length) true true]⟩,fun z=>(akS (aCd L l t f) L L.length).length-z,0,[0,1,2,3,4],Nat.zero_le _,?_,?_⟩
 ·repeat'((conv=>whnf)<;>first|apply And.intro|intro _|rfl|trivial|exact ah rfl|exact aS ‹_› rfl|exact aT ‹_› rfl|((repeat' first|rfl|constructor);done))
 intro z hz;by_cases S7:z<(akS (aCd L l t f) L L.length).length
 ·have y0:decide ((z:Int)<((akS (aCd L l t f) L L.length).length:Int))=true:=decide_eq_true (by omega)
  obtain⟨y1,y2,y3⟩:=p1 z S7;have x1:0+Int.toNat (z:Int)+(Int.toNat ((z:Int)+1)-Int.toNat (z:Int))<=(akS (aCd L l t f) L L.length).length:=by omega
  have x2:ak .i64 ((z:Int)+1):=by simp only[ak];omega
  cases k1:(aD1 L l t f I).2==0
  ·repeat'((conv=>whnf);first|apply And.intro|exact bA (by subst_vars;assumption)|intro h9)
   all_goals(try(conv=>whnf))<;>(subst_vars;try first|(apply Tk.mk;kernel_rfl)|exact⟨ah rfl⟩|exact⟨rfl⟩|exact⟨trivial⟩|rfl|contradiction|(apply Ob.mk;(try simp only[ag,ak,aa.ae])<;>(try dsimp only)<;>omega))
   all_goals try first|trivial|exact⟨hL⟩|exact⟨vc⟩|exact⟨x1⟩|exact⟨y3⟩
   all_goals
    refine⟨z+1,[0,1,2,3,4],S7,?_,by show(akS (aCd L l t f) L L.length).length-(z+1)<(akS (aCd L l t f) L L.length).length-z;omega⟩
    repeat'((conv=>whnf)<;>first|apply And.intro|intro _|rfl|trivial|exact ah rfl|exact aS ‹_› rfl|exact aT ‹_› rfl|((repeat' first|rfl|constructor);done))
  cases k2:aD3 L l t f I
  ·repeat'((conv=>whnf);first|apply And.intro|exact bA (by subst_vars;assumption)|intro h9)
   all_goals(try(conv=>whnf))<;>(subst_vars;try first|(apply Tk.mk;kernel_rfl)|exact⟨ah rfl⟩|exact⟨rfl⟩|exact⟨trivial⟩|rfl|contradiction|(apply Ob.mk;(try simp only[ag,ak,aa.ae])<;>(try dsimp only)<;>omega))
   all_goals try first|trivial|exact⟨hL⟩|exact⟨vc⟩|exact⟨x1⟩|exact⟨y3⟩
   all_goals
    refine⟨z+1,[0,1,2,3,4],S7,?_,by show(akS (aCd L l t f) L L.length).length-(z+1)<(akS (aCd L l t f) L L.length).length-z;omega⟩
    repeat'((conv=>whnf)<;>first|apply And.intro|intro _|rfl|trivial|exact ah rfl|exact aS ‹_› rfl|exact aT ‹_› rfl|((repeat' first|rfl|constructor);done))
  have y4:=p2 z S7 k2;repeat'((conv=>whnf);first|apply And.intro|exact bA (by subst_vars;assumption)|intro h9)
  all_goals(try(conv=>whnf))<;>(subst_vars;try first|(apply Tk.mk;kernel_rfl)|exact⟨ah rfl⟩|exact⟨rfl⟩|exact⟨trivial⟩|rfl|contradiction|(apply Ob.mk;(try simp only[ag,ak,aa.ae])<;>(try dsimp only)<;>omega))
  all_goals try first|trivial|exact⟨hL⟩|exact⟨aJM.1⟩|exact⟨aJM.2⟩|exact⟨vc⟩|exact⟨x1⟩|exact⟨y3⟩|exact⟨show 0+Int.toNat (z:Int)<(akS (aCd L l t f) L L.length).length by omega⟩
  all_goals
   refine⟨z+1,[0,1,2,3,4],S7,?_,by show(akS (aCd L l t f) L L.length).length-(z+1)<(akS (aCd L l t f) L L.length).length-z;omega⟩
   repeat'((conv=>whnf)<;>first|apply And.intro|intro _|rfl|trivial|exact ah rfl|exact aS ‹_› rfl|exact aT ‹_› rfl|((repeat' first|rfl|constructor);done))
 have y0:decide ((z:Int)<((akS (aCd L l t f) L L.length).length:Int))=false:=decide_eq_false (by omega)
 repeat'((conv=>whnf);first|apply And.intro|exact bA (by subst_vars;assumption)|intro h9)
 all_goals(try(conv=>whnf))<;>(subst_vars;try first|(apply Tk.mk;kernel_rfl)|exact⟨ah rfl⟩|exact⟨rfl⟩|exact⟨trivial⟩|rfl|contradiction|(apply Ob.mk;(try simp only[ag,ak,aa.ae])<;>(try dsimp only)<;>omega))
 refine⟨Nat,fun v=>v<=(akS (tx L l t f) L L.length).length,fun v=>⟨aI 179 [0,2,4,9,11,12,16] [.a (.sl 0 [] 0 L.length),.a (.sl 1 [] 0 I.length),.a (.p 2 [] 0 0),.a (.sl 4 [] 0 (akS (tx L l t f) L L.length).length),.a (.v (.bool (aD3 L l t f I))),.a (vI (aD1 L l t f I).2),.a (vI v)],[],[.arr 67 kK L false false,.arr 3 kI I false false,.box true [vI l,vI t,vI f],.arr 3 kI (akS (aCd L l t f) L L.length) true true,.arr 3 kI (akS (tx L l t f) L L.length) true true]⟩,fun v=>(akS (tx L l t f) L L.length).length-v,0,[0,1,2,3,4],Nat.zero_le _,?_,?_⟩
 ·repeat'((conv=>whnf)<;>first|apply And.intro|intro _|rfl|trivial|exact ah rfl|exact aS ‹_› rfl|exact aT ‹_› rfl|((repeat' first|rfl|constructor);done))
 clear y0;intro v hv;by_cases Vp:v<(akS (tx L l t f) L L.length).length
 ·have y0:decide ((v:Int)<((akS (tx L l t f) L L.length).length:Int))=true:=decide_eq_true (by omega)
  have x2:ak .i64 ((v:Int)+1):=by simp only[ak];omega
  cases k1:(aD1 L l t f I).2==0
  ·repeat'((conv=>whnf);first|apply And.intro|exact bA (by subst_vars;assumption)|intro h9)
   all_goals(try(conv=>whnf))<;>(subst_vars;try first|(apply Tk.mk;kernel_rfl)|exact⟨ah rfl⟩|exact⟨rfl⟩|exact⟨trivial⟩|rfl|contradiction|(apply Ob.mk;(try simp only[ag,ak,aa.ae])<;>(try dsimp only)<;>omega))
   all_goals
    refine⟨v+1,[0,1,2,3,4],Vp,?_,by show(akS (tx L l t f) L L.length).length-(v+1)<(akS (tx L l t f) L L.length).length-v;omega⟩
    repeat'((conv=>whnf)<;>first|apply And.intro|intro _|rfl|trivial|exact ah rfl|exact aS ‹_› rfl|exact aT ‹_› rfl|((repeat' first|rfl|constructor);done))
  cases k2:aD3 L l t f I
  ·repeat'((conv=>whnf);first|apply And.intro|exact bA (by subst_vars;assumption)|intro h9)
   all_goals(try(conv=>whnf))<;>(subst_vars;try first|(apply Tk.mk;kernel_rfl)|exact⟨ah rfl⟩|exact⟨rfl⟩|exact⟨trivial⟩|rfl|contradiction|(apply Ob.mk;(try simp only[ag,ak,aa.ae])<;>(try dsimp only)<;>omega))
   all_goals
    refine⟨v+1,[0,1,2,3,4],Vp,?_,by show(akS (tx L l t f) L L.length).length-(v+1)<(akS (tx L l t f) L L.length).length-v;omega⟩
    repeat'((conv=>whnf)<;>first|apply And.intro|intro _|rfl|trivial|exact ah rfl|exact aS ‹_› rfl|exact aT ‹_› rfl|((repeat' first|rfl|constructor);done))
  have y4:=p3 v Vp k2;repeat'((conv=>whnf);first|apply And.intro|exact bA (by subst_vars;assumption)|intro h9)
  all_goals(try(conv=>whnf))<;>(subst_vars;try first|(apply Tk.mk;kernel_rfl)|exact⟨ah rfl⟩|exact⟨rfl⟩|exact⟨trivial⟩|rfl|contradiction|(apply Ob.mk;(try simp only[ag,ak,aa.ae])<;>(try dsimp only)<;>omega))
  all_goals try first|exact⟨aJM.1⟩|exact⟨aJM.2⟩|exact⟨show 0+Int.toNat (v:Int)<(akS (tx L l t f) L L.length).length by omega⟩
  all_goals
   refine⟨v+1,[0,1,2,3,4],Vp,?_,by show(akS (tx L l t f) L L.length).length-(v+1)<(akS (tx L l t f) L L.length).length-v;omega⟩
   repeat'((conv=>whnf)<;>first|apply And.intro|intro _|rfl|trivial|exact ah rfl|exact aS ‹_› rfl|exact aT ‹_› rfl|((repeat' first|rfl|constructor);done))
 have y0:decide ((v:Int)<((akS (tx L l t f) L L.length).length:Int))=false:=decide_eq_false (by omega)
 have x3:0+(akS (tx L l t f) L L.length).length<=(akS (tx L l t f) L L.length).length:=by omega
 repeat'((conv=>whnf);first|apply And.intro|exact bA (by subst_vars;assumption)|intro h9)
 all_goals(try(conv=>whnf))<;>(subst_vars;try first|(apply Tk.mk;kernel_rfl)|exact⟨ah rfl⟩|exact⟨rfl⟩|exact⟨trivial⟩|rfl|contradiction|(apply Ob.mk;(try simp only[ag,ak,aa.ae])<;>(try dsimp only)<;>omega))
 all_goals try first|trivial|exact⟨hL⟩|exact⟨Sk⟩|exact⟨x3⟩|exact⟨n1⟩|exact⟨n3⟩)
end Go.Proofs.Ytccnimhgjjnmoaa
end
