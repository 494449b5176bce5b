/-
  Texts of the claims: Yka10z. No condition: lemmas and contracts.
-/
import Derived.Test.YtccnimhgjjnmoaaSya1z
import Derived.Test.YtccnimhgjjnmoaaSya2z
import Derived.Test.YtccnimhgjjnmoaaSya3z
import Derived.Test.YtccnimhgjjnmoaaSya4z
import Derived.Test.YtccnimhgjjnmoaaSya5z
import Derived.Test.YtccnimhgjjnmoaaPla6z
import Derived.Test.YtccnimhgjjnmoaaYka7z
import Derived.Test.YtccnimhgjjnmoaaYka8z
import Derived.Test.YtccnimhgjjnmoaaYka9z
set_option linter.all false
set_option maxRecDepth 100000
set_option maxHeartbeats 40000000
section
namespace Go.Proofs.Ytccnimhgjjnmoaa
open Go Go.Sy Go.dg
variable {Γ:bn}
def apg (D:List Bk->Int->Int->List aa) (R:List Bk->Int->Int->cM):au:=.new fun args rg K=>match args with
 |[.a x0,.a (.v (.int .i64 n0)),.a (.v (.int .i64 n1))]=>(match ac1 67 kK rg x0 with|some (q0,L0)=>aBP false (q0++(D L0 n0 n1)) (K (R L0 n0 n1))|_=>False)
 |_=>False
theorem auR {f:FuncId} {b:Body} {E:Env} {d:Nat} (hP:aL Try.prog Γ E) (hb:bQ Try.prog f b) {D:List Bk->Int->Int->List aa} {R:List Bk->Int->Int->cM}
 (H:∀ (L0:List Bk) (n0:Int) (n1:Int) (K:cM->Prop),bW (D L0 n0 n1)->K (R L0 n0 n1)->cQ E d b [.a (.sl 0 [] 0 L0.length),.a (vI n0),.a (vI n1)] [.arr 67 kK L0 false false] (bu K)):au.Ok Try.prog Γ f (apg D R):=au.fM (d:=d) hP hb (by
 intro args rg K hF;split at hF;next x0 n0 n1=>
  split at hF;next q0 L0 hx0=>
   rw[aV,aH]at hF;obtain⟨⟨aIh,hD⟩,hK⟩:=hF;obtain⟨e0,Vn⟩:=bP (by simp[kK]) hx0 aIh
   obtain⟨p0,r0⟩:=Vn [e0] 0 1 rfl (by omega)
   refine⟨[e0],[.a (.sl 0 [] 0 L0.length),.a (vI n0),.a (vI n1)],[.arr 67 kK L0 false false],⟨⟨p0,rfl,rfl,trivial⟩,fun r g hg=>?_⟩,bu K,H _ _ _ K hD hK,fun x st h=>h⟩
   match r,hg with
   |0,hg=>obtain rfl:=Option.some.inj hg;exact r0
  next=>exact hF.elim
 next=>exact hF.elim)
attribute [local irreducible] ck wN sub e7 ta kG adp aQ aH8 aIi
theorem av6 {f:Int} {L:List Bk} {k l0:Nat} {fn:FuncId} {T:Array Value} {dd:Nat} (hB:gb L) (hf:0<=f/\f<=1000000) (hk:k<=20) (e:Nat):∀ m,anz f L k l0 fn T dd m (GG l9 (MC l9 (e+2+m) none))
 |0=>asa hf hk e _
 |m+1=>ar9 hB hf hk m _ _ (av6 hB hf hk e m)
def asK (f:Int) (L:List Bk) (k:Nat) (cl:Cl):Prop:=∀ (l0:Nat) (fn:FuncId) (T:Array Value) (dd:Nat) (tn:Nat) (tt:Tr) (fr:List Sl) (sn:Nat) (st:Tr) (Kc:Tm->St->Prop),
 (∀ is m n,(∀ r,r<5->rn is r=r)->5<=m->5<=n->wM is m n tt tt)->(∀ is m n,(∀ r,r<5->rn is r=r)->5<=m->5<=n->NU is m n fr fr)->
 (∀ k,Tr.gY (Tm.mapA (At.kill true true 10)) tt k<->k tt)->(∀ k,fD (Sl.gY (At.kill true true 10)) fr k<->k fr)->sn=42->
 (∀ is m n,(∀ r,r<5->rn is r=r)->5<=m->5<=n->wM is m n st (aoH L k).t)->
 (∀ A',A'.length=k->Kc (.bF []) ⟨⟨tn,tt⟩,fr,[.arr 67 kK L false false,.box true [.sl 10 [] 0 ((aIi f L k)).length],.box true [.sl 0 [] 0 L.length],.box true [vI f],.box true [vI k],.lp l0 (aoH L k) (aoG fn T dd) .ready none,.box true [.yl 5],.arr 3 kI A' true true,.box true [.sl 7 [] 0 k],.box true [.fn 98 [4,6,8,3,2,9]],.arr 3 kI (aIi f L k) true true]⟩)->
 cl (bo Try.f97) [.a (.yl 5),.a (.p 4 [] 0 0),.a (.p 3 [] 0 0),.a (.p 2 [] 0 0)] ⟨⟨tn,tt⟩,fr,[.arr 67 kK L false false,.box true [.v (.slice none 0 0)],.box true [.sl 0 [] 0 L.length],.box true [vI f],.box true [vI k],.lp l0 ⟨sn,st⟩ (aoG fn T dd) .ready none]⟩ Kc
theorem ayH {f:Int} {L:List Bk} {k:Nat} (cB:1<=k) (hk:k<=20) (hN:L.length<=20) (cl:Cl) (rd:Rd) (hS:∀ (l0:Nat) (fn:FuncId) (T:Array Value) (dd:Nat),anz f L k l0 fn T dd k cl):asK f L k (GG l9 (jD l9 cl rd none)):=by
 intro l0 fn T dd tn tt fr sn st Kc hd tl km kl PS hs iB;have p1:decide ((k:Int)>=1)=true:=decide_eq_true (by omega)
 have att:=And.intro (show(List.replicate k (0:Int)).length=k from List.length_replicate) trivial;have Np:(([]:List Int)++aH8 f L k (L.length-0) 0 0).length<=2000000:=by
  rw[List.nil_append];show(aH8 f L k L.length 0 0).length<=2000000;rw[amL k L.length 0 0 (by omega),List.length_map]
  have h1:=anu k L.length;have h2:=akO hN;omega
 subst PS;repeat'((conv=>whnf);first|apply And.intro|exact bA (by subst_vars;assumption)|intro h9)
 all_goals(try(conv=>whnf))<;>(subst_vars;try first|(apply Tk.mk;kernel_rfl)|exact⟨ah rfl⟩|exact⟨rfl⟩|exact⟨trivial⟩|rfl|contradiction|(apply Ob.mk;(try simp only[ag,ak,aa.ae])<;>(try dsimp only)<;>omega))
 all_goals try first|exact⟨show(k:Int)*1<=16777216 by omega⟩
 refine⟨Unit,fun _=>True,fun _=>⟨aI 14 [1,2,3,4,5,6] [.a (.p 4 [] 0 0),.a (.p 3 [] 0 0),.a (.p 2 [] 0 0),.a (.p 6 [] 0 0),.a (.p 8 [] 0 0),.a (.p 9 [] 0 0)],⟨tn,tt⟩::fr,[.arr 67 kK L false false,.box true [.sl 10 [] 0 0],.box true [.sl 0 [] 0 L.length],.box true [vI f],.box true [vI k],.lp l0 (aoH L k) (aoG fn T dd) .ready none,.box true [.yl 5],.arr 3 kI (List.replicate k (0:Int)) true true,.box true [.sl 7 [] 0 k],.box true [.any],.arr 3 kI [] true true]⟩,?_,?_⟩
 ·repeat'((conv=>whnf);first|apply And.intro|exact bA (by subst_vars;assumption)|intro h9)
  all_goals(try(conv=>whnf))<;>(subst_vars;try first|(apply Tk.mk;kernel_rfl)|exact⟨ah rfl⟩|exact⟨rfl⟩|exact⟨trivial⟩|rfl|contradiction|(apply Ob.mk;(try simp only[ag,ak,aa.ae])<;>(try dsimp only)<;>omega))
  refine⟨(),[0,1,2,3,4,5,6,7,8,9,1000],trivial,?_⟩;repeat'((conv=>whnf);(first|apply And.intro|intro _))
  all_goals first|rfl|trivial|exact ah rfl|exact⟨rfl,rfl,rfl⟩|exact⟨rfl,rfl⟩|exact hs _ _ _ (by decide) (ah rfl) (ah rfl)|exact hd _ _ _ (by decide) (ah rfl) (ah rfl)|exact tl _ _ _ (by decide) (ah rfl) (ah rfl)|(rename_i r9 bx;revert r9;decide)
 rintro _ _;repeat'((conv=>whnf);first|apply And.intro|exact bA (by subst_vars;assumption)|intro h9)
 all_goals(try(conv=>whnf))<;>(subst_vars;try first|(apply Tk.mk;kernel_rfl)|exact⟨ah rfl⟩|exact⟨rfl⟩|exact⟨trivial⟩|rfl|contradiction|(apply Ob.mk;(try simp only[ag,ak,aa.ae])<;>(try dsimp only)<;>omega))
 refine hS l0 fn T dd 0 0 _ _ _ _ [] _ _ _ _ rfl rfl (by omega) (by omega) att.1 (by omega) (by omega) Np ⟨?_,?_,?_,?_⟩ ?_
 ·intro is m n h1 h2 h3;repeat'((conv=>whnf);(first|apply And.intro|intro _))
  all_goals first|rfl|trivial|omega|(rw[h1 _ (by omega)];done)|(rw[h1 _ (by omega)];omega)|(simp only[List.map_cons,List.map_nil];rw[h1 4 (by decide),h1 6 (by decide),h1 8 (by decide),h1 3 (by decide),h1 2 (by decide),h1 9 (by decide)];done)|(have h7:=(show ∀ r∈[4,6,8,3,2,9],r<10 by decide) _ ‹_›;first|omega|(rw[h1 _ h7];omega))
 ·intro is m n h1 h2 h3;exact⟨⟨rfl,hd is m n (fun r hr=>h1 r (by omega)) (by omega) (by omega)⟩,tl is m n (fun r hr=>h1 r (by omega)) (by omega) (by omega)⟩
 ·intro k;exact Iff.rfl
 ·intro k;exact(km _).trans (kl _)
 ·intro A' nu _;replace nu:=And.intro nu trivial;have hK:=iB A' nu.1;unfold aIi at hK;repeat'((conv=>whnf);first|apply And.intro|exact bA (by subst_vars;assumption)|intro h9)
  all_goals(try(conv=>whnf))<;>(subst_vars;try first|(apply Tk.mk;kernel_rfl)|exact⟨ah rfl⟩|exact⟨rfl⟩|exact⟨trivial⟩|rfl|contradiction|(apply Ob.mk;(try simp only[ag,ak,aa.ae])<;>(try dsimp only)<;>omega))
  all_goals try first|trivial
  all_goals exact hK
theorem aoo {E:Env} {n:Nat} {b:Body} {args:List Tm} {rg:List az} {K:Tm->St->Prop}
 (h:∀ K':Ex->St->Prop,(∀ e an,(match e with
   | .exit _=>False
   |_=>(match nl E an b.rs with
    |some (q,x)=>aBP E.aN q (K x an)
    |none=>False))->K' e an)->qJ b.n args (fun s=>fD ou rg (fun rg=>jD E (GG E (MC E n none)) (wF (MC E n)) none b.code ⟨s,[],rg⟩ K'))):cQ E (n+1) b args rg K:=h _ (fun _ _ h=>h)
noncomputable def azH:Code:=lc (rc (rc (rc (rc (bo Try.f36).code))))
def asM (cl:Cl):Prop:=∀ (f:Int) (L:List Bk) (k:Int) (tm:Sl) (fr:List Sl) (g0 g1:az) (Kc:Tm->St->Prop),
 Kc (.a (.fn 97 [4,3,2])) ⟨tm,fr,[g0,g1,.box true [.sl 0 [] 0 L.length],.box true [vI f],.box true [vI k]]⟩->
 cl (bo Try.f68) [.a (.sl 0 [] 0 L.length),.a (vI f),.a (vI k)] ⟨tm,fr,[g0,g1]⟩ Kc
theorem atP {cl:Cl} {rd:Rd}:asM (GG l9 (jD l9 cl rd none)):=by
 intro f L k tm fr g0 g1 Kc hK;repeat'((conv=>whnf);first|apply And.intro|exact bA (by subst_vars;assumption)|intro h9)
 all_goals(try(conv=>whnf))<;>(subst_vars;try first|(apply Tk.mk;kernel_rfl)|exact⟨ah rfl⟩|exact⟨rfl⟩|exact⟨trivial⟩|rfl|contradiction|(apply Ob.mk;(try simp only[ag,ak,aa.ae])<;>(try dsimp only)<;>omega))
 all_goals try first|trivial
 all_goals exact hK
def ak8 (e:Int):cM:=⟨[],.bF [.a (.v (.slice none 0 0)),.a (vI e)]⟩
def y7 (f:Int) (L:List Bk) (k:Nat):List Int:=Lib.compact (adp (aIi f L k))
def avh (L:List Bk) (f k:Int):cM:=match (ck L).1==0,aQ f 0 1000000&&aQ k 1 20 with
 |false,_=>ak8 (ck L).1
 |true,false=>ak8 1
 |true,true=>match decide ((y7 f L k.toNat).length<=1000)with
  |true=>⟨[.arr 3 kI (y7 f L k.toNat) true true],.bF [.a (.sl 0 [] 0 (y7 f L k.toNat).length),.a (vI 0)]⟩
  |false=>ak8 2
theorem awn (L:List Bk):lu L []=(ck L).1:=by
 unfold lu;by_cases h:(ck L).1=0
 ·rw[if_pos h,h];rfl
 ·rw[if_neg h]
def asS:au:=apg (fun L _ _=>[(aa.of (L.length<=1000000))]) avh
theorem apy:au.Ok Try.prog Γ 36 asS:=auR (d:=26+1) auJ (aj Try.func36 rfl rfl) (by
 intro L f k K ⟨hL,_⟩ hK;simp only[aa.ae]at hL;refine aoo (n:=26) ?_;intro K' anV;have hQ:=atP (cl:=GG l9 (MC l9 25 none)) (rd:=wF (MC l9 25));replace hQ:asM (GG l9 (MC l9 26 none)):=hQ;have hP:∀ (hB:gb L) (hf:0<=f/\f<=1000000) (k:Nat),1<=k->k<=20->asK f L k (GG l9 (MC l9 26 none)):=fun hB hf k h1 h2=>ayH h1 h2 hB.Kg (GG l9 (MC l9 25 none)) (wF (MC l9 25)) (fun l0 fn T dd=>by
  have:=av6 (f:=f) (L:=L) (k:=k) (l0:=l0) (fn:=fn) (T:=T) (dd:=dd) hB hf h2 (23-k) k;rwa[show 23-k+2+k=25 by omega]at this)
 generalize GG l9 (MC l9 26 none)=cl at*;generalize wF (MC l9 26)=rd;have hone:=awn L;unfold avh at hK;repeat'((conv=>whnf);first|apply And.intro|exact bA (by subst_vars;assumption)|intro h9)
 all_goals(try(conv=>whnf))<;>(subst_vars;try first|(apply Tk.mk;kernel_rfl)|exact⟨ah rfl⟩|exact⟨rfl⟩|exact⟨trivial⟩|rfl|contradiction|(apply Ob.mk;(try simp only[ag,ak,aa.ae])<;>(try dsimp only)<;>omega))
 all_goals try first|exact⟨hL⟩
 refine⟨Unit,fun _=>True,fun _=>⟨aI 42 [0,1,2,8,14] [.a (.sl 0 [] 0 L.length),.a (vI f),.a (vI k),.a (vI (lu L [])),.a (.v (.bool (lu L []!=0)))],[],[.arr 67 kK L false false]⟩,?_,?_⟩
 ·repeat'((conv=>whnf);first|apply And.intro|exact bA (by subst_vars;assumption)|intro h9)
  all_goals(try(conv=>whnf))<;>(subst_vars;try first|(apply Tk.mk;kernel_rfl)|exact⟨ah rfl⟩|exact⟨rfl⟩|exact⟨trivial⟩|rfl|contradiction|(apply Ob.mk;(try simp only[ag,ak,aa.ae])<;>(try dsimp only)<;>omega))
  refine⟨(),[0],trivial,?_⟩;repeat'((conv=>whnf)<;>first|apply And.intro|intro _|rfl|trivial|exact ah rfl|exact aS ‹_› rfl|exact aT ‹_› rfl|((repeat' first|rfl|constructor);done))
 rintro _ _;cases h0:(ck L).1==0
 ·rw[h0]at hK;dsimp only[ak8]at hK;have e0:(lu L []!=0)=true:=by rw[hone];unfold bne;rw[h0];rfl
  rw[<-hone]at hK;repeat'((conv=>whnf);first|apply And.intro|exact bA (by subst_vars;assumption)|intro h9)
  all_goals(try(conv=>whnf))<;>(subst_vars;try first|(apply Tk.mk;kernel_rfl)|exact⟨ah rfl⟩|exact⟨rfl⟩|exact⟨trivial⟩|rfl|contradiction|(apply Ob.mk;(try simp only[ag,ak,aa.ae])<;>(try dsimp only)<;>omega))
  refine anV _ _ ?_;repeat'((conv=>whnf);first|apply And.intro|exact bA (by subst_vars;assumption)|intro h9)
  all_goals(try(conv=>whnf))<;>(subst_vars;try first|(apply Tk.mk;kernel_rfl)|exact⟨ah rfl⟩|exact⟨rfl⟩|exact⟨trivial⟩|rfl|contradiction|(apply Ob.mk;(try simp only[ag,ak,aa.ae])<;>(try dsimp only)<;>omega))
  all_goals first
   |(refine bu.base ⟨_,[],hK,trivial,rfl,?_⟩;(repeat'((conv=>whnf);(first|apply And.intro|intro _)));all_goals first|rfl|trivial)
 rw[h0]at hK;have e0:(lu L []!=0)=false:=by rw[hone];unfold bne;rw[h0];rfl
 have hB:=amq (eq_of_beq h0);cases w1:aQ f 0 1000000
 ·have f1:(!aQ f 0 1000000)=true:=by rw[w1];rfl
  rw[w1]at hK;rw[Bool.false_and]at hK;dsimp only[ak8]at hK;repeat'((conv=>whnf);first|apply And.intro|exact bA (by subst_vars;assumption)|intro h9)
  all_goals(try(conv=>whnf))<;>(subst_vars;try first|(apply Tk.mk;kernel_rfl)|exact⟨ah rfl⟩|exact⟨rfl⟩|exact⟨trivial⟩|rfl|contradiction|(apply Ob.mk;(try simp only[ag,ak,aa.ae])<;>(try dsimp only)<;>omega))
  refine anV _ _ ?_;repeat'((conv=>whnf);first|apply And.intro|exact bA (by subst_vars;assumption)|intro h9)
  all_goals(try(conv=>whnf))<;>(subst_vars;try first|(apply Tk.mk;kernel_rfl)|exact⟨ah rfl⟩|exact⟨rfl⟩|exact⟨trivial⟩|rfl|contradiction|(apply Ob.mk;(try simp only[ag,ak,aa.ae])<;>(try dsimp only)<;>omega))
  all_goals first
   |(refine bu.base ⟨_,[],hK,trivial,rfl,?_⟩;(repeat'((conv=>whnf);(first|apply And.intro|intro _)));all_goals first|rfl|trivial)
 have f1:(!aQ f 0 1000000)=false:=by rw[w1];rfl
 cases w2:aQ k 1 20
 ·have f2:(!aQ k 1 20)=true:=by rw[w2];rfl
  rw[w1,w2]at hK;rw[Bool.true_and]at hK;dsimp only[ak8]at hK;repeat'((conv=>whnf);first|apply And.intro|exact bA (by subst_vars;assumption)|intro h9)
  all_goals(try(conv=>whnf))<;>(subst_vars;try first|(apply Tk.mk;kernel_rfl)|exact⟨ah rfl⟩|exact⟨rfl⟩|exact⟨trivial⟩|rfl|contradiction|(apply Ob.mk;(try simp only[ag,ak,aa.ae])<;>(try dsimp only)<;>omega))
  refine anV _ _ ?_;repeat'((conv=>whnf);first|apply And.intro|exact bA (by subst_vars;assumption)|intro h9)
  all_goals(try(conv=>whnf))<;>(subst_vars;try first|(apply Tk.mk;kernel_rfl)|exact⟨ah rfl⟩|exact⟨rfl⟩|exact⟨trivial⟩|rfl|contradiction|(apply Ob.mk;(try simp only[ag,ak,aa.ae])<;>(try dsimp only)<;>omega))
  all_goals first
   |(refine bu.base ⟨_,[],hK,trivial,rfl,?_⟩;(repeat'((conv=>whnf);(first|apply And.intro|intro _)));all_goals first|rfl|trivial)
 have f2:(!aQ k 1 20)=false:=by rw[w2];rfl
 have hf:=akk.1 w1;have hk:=akk.1 w2;rw[w1,w2]at hK;rw[Bool.true_and]at hK;obtain⟨k,rfl⟩:∃ m:Nat,k=(m:Int):=⟨k.toNat,by omega⟩
 rw[Int.toNat_natCast]at hK;replace hP:=hP hB hf;repeat'((conv=>whnf);first|apply And.intro|exact bA (by subst_vars;assumption)|intro h9)
 all_goals(try(conv=>whnf))<;>(subst_vars;try first|(apply Tk.mk;kernel_rfl)|exact⟨ah rfl⟩|exact⟨rfl⟩|exact⟨trivial⟩|rfl|contradiction|(apply Ob.mk;(try simp only[ag,ak,aa.ae])<;>(try dsimp only)<;>omega))
 refine⟨Unit,fun _=>True,fun _=>⟨aI 42 [9] [.a (.p 1 [] 0 0)],[],[.arr 67 kK L false false,.box true [.sl 2 [] 0 (aIi f L k).length],.arr 3 kI (aIi f L k) true true]⟩,?_,?_⟩
 ·refine aqa ?_;intro an K3 hst amz;show jD l9 cl rd none (.seq (lc azH) (rc azH)) an K3;refine akL (E:=l9) (cl:=cl) (rd:=rd) (rn:=none) ?_ ?_
  ·rfl
  intro K1 am3 _;subst hst;repeat'((conv=>whnf);first|apply And.intro|exact bA (by subst_vars;assumption)|intro h9)
  all_goals(try(conv=>whnf))<;>(subst_vars;try first|(apply Tk.mk;kernel_rfl)|exact⟨ah rfl⟩|exact⟨rfl⟩|exact⟨trivial⟩|rfl|contradiction|(apply Ob.mk;(try simp only[ag,ak,aa.ae])<;>(try dsimp only)<;>omega))
  refine hQ f L k _ _ _ _ _ ?_;repeat'((conv=>whnf);first|apply And.intro|exact bA (by subst_vars;assumption)|intro h9)
  all_goals(try(conv=>whnf))<;>(subst_vars;try first|(apply Tk.mk;kernel_rfl)|exact⟨ah rfl⟩|exact⟨rfl⟩|exact⟨trivial⟩|rfl|contradiction|(apply Ob.mk;(try simp only[ag,ak,aa.ae])<;>(try dsimp only)<;>omega))
  refine am3 _ ?_;repeat'((conv=>whnf);first|apply And.intro|exact bA (by subst_vars;assumption)|intro h9)
  all_goals(try(conv=>whnf))<;>(subst_vars;try first|(apply Tk.mk;kernel_rfl)|exact⟨ah rfl⟩|exact⟨rfl⟩|exact⟨trivial⟩|rfl|contradiction|(apply Ob.mk;(try simp only[ag,ak,aa.ae])<;>(try dsimp only)<;>omega))
  all_goals try first|trivial
  rename_i l0 fn T;rename Nat=>dd
  refine hP k (by omega) (by omega) l0 fn T dd _ _ _ _ _ _ ?_ ?_ ?_ ?_ rfl ?_ ?_
  ·intro is m n h1 h2 h3;repeat'((conv=>whnf);(first|apply And.intro|intro _))
   all_goals first|rfl|trivial|omega|(rw[h1 _ (by omega)];done)|(rw[h1 _ (by omega)];omega)|(simp only[List.map_cons,List.map_nil];rw[h1 4 (by decide),h1 3 (by decide),h1 2 (by decide)];done)|(have h7:=(show ∀ r∈[4,3,2],r<5 by decide) _ ‹_›;first|omega|(rw[h1 _ h7];omega))
  ·intro is m n h1 h2 h3;repeat'((conv=>whnf);(first|apply And.intro|intro _))
   all_goals first|rfl|trivial|omega|(rw[h1 _ (by omega)];done)|(rw[h1 _ (by omega)];omega)|(simp only[List.map_cons,List.map_nil];rw[h1 4 (by decide),h1 3 (by decide),h1 2 (by decide)];done)|(have h7:=(show ∀ r∈[4,3,2],r<5 by decide) _ ‹_›;first|omega|(rw[h1 _ h7];omega))
  ·intro k;exact Iff.rfl
  ·intro k;exact Iff.rfl
  ·intro is m n h1 h2 h3;repeat'((conv=>whnf);(first|apply And.intro|intro _))
   all_goals first|rfl|trivial|omega|(rw[h1 _ (by omega)];done)|(rw[h1 _ (by omega)];omega)|(simp only[List.map_cons,List.map_nil];rw[h1 4 (by decide),h1 3 (by decide),h1 2 (by decide)];done)|(have h7:=(show ∀ r∈[4,3,2],r<5 by decide) _ ‹_›;first|omega|(rw[h1 _ h7];omega))
  ·intro A' nu;replace nu:=And.intro nu trivial;repeat'((conv=>whnf);first|apply And.intro|exact bA (by subst_vars;assumption)|intro h9)
   all_goals(try(conv=>whnf))<;>(subst_vars;try first|(apply Tk.mk;kernel_rfl)|exact⟨ah rfl⟩|exact⟨rfl⟩|exact⟨trivial⟩|rfl|contradiction|(apply Ob.mk;(try simp only[ag,ak,aa.ae])<;>(try dsimp only)<;>omega))
   refine amz _ _ ?_;refine⟨(),[0,1,10],trivial,?_⟩;repeat'((conv=>whnf)<;>first|apply And.intro|intro _|rfl|trivial|exact ah rfl|exact aS ‹_› rfl|exact aT ‹_› rfl|((repeat' first|rfl|constructor);done))
 rintro _ _;have dZ:=adO (aIi f L k);have AF:=afl (adp (aIi f L k));have nv:(aIi f L k).length<=1048576:=by
  rw[ap6,List.length_map];have h1:=anu k L.length;have h2:=akO hB.Kg;omega
 by_cases h3:(y7 f L k).length<=1000
 ·have p3:decide (((Lib.compact (adp (aIi f L k))).length:Int)>1000)=false:=decide_eq_false (by unfold y7 at h3;omega)
  rw[decide_eq_true h3]at hK;dsimp only[y7]at hK;repeat'((conv=>whnf);first|apply And.intro|exact bA (by subst_vars;assumption)|intro h9)
  all_goals(try(conv=>whnf))<;>(subst_vars;try first|(apply Tk.mk;kernel_rfl)|exact⟨ah rfl⟩|exact⟨rfl⟩|exact⟨trivial⟩|rfl|contradiction|(apply Ob.mk;(try simp only[ag,ak,aa.ae])<;>(try dsimp only)<;>omega))
  all_goals try first|exact⟨⟨rfl,show(aIi f L k).length<=1500000 by omega⟩⟩
  refine anV _ _ ?_;repeat'((conv=>whnf);first|apply And.intro|exact bA (by subst_vars;assumption)|intro h9)
  all_goals(try(conv=>whnf))<;>(subst_vars;try first|(apply Tk.mk;kernel_rfl)|exact⟨ah rfl⟩|exact⟨rfl⟩|exact⟨trivial⟩|rfl|contradiction|(apply Ob.mk;(try simp only[ag,ak,aa.ae])<;>(try dsimp only)<;>omega))
  all_goals try first
   |(refine bu.base ⟨_,[3],hK,⟨rfl,rfl,by simp,trivial⟩,rfl,?_⟩;(repeat'((conv=>whnf);(first|apply And.intro|intro _)));all_goals first|rfl|trivial)
 have p3:decide (((Lib.compact (adp (aIi f L k))).length:Int)>1000)=true:=decide_eq_true (by unfold y7 at h3;omega)
 rw[decide_eq_false h3]at hK;dsimp only[ak8]at hK;repeat'((conv=>whnf);first|apply And.intro|exact bA (by subst_vars;assumption)|intro h9)
 all_goals(try(conv=>whnf))<;>(subst_vars;try first|(apply Tk.mk;kernel_rfl)|exact⟨ah rfl⟩|exact⟨rfl⟩|exact⟨trivial⟩|rfl|contradiction|(apply Ob.mk;(try simp only[ag,ak,aa.ae])<;>(try dsimp only)<;>omega))
 all_goals try first|exact⟨⟨rfl,show(aIi f L k).length<=1500000 by omega⟩⟩
 refine anV _ _ ?_;repeat'((conv=>whnf);first|apply And.intro|exact bA (by subst_vars;assumption)|intro h9)
 all_goals(try(conv=>whnf))<;>(subst_vars;try first|(apply Tk.mk;kernel_rfl)|exact⟨ah rfl⟩|exact⟨rfl⟩|exact⟨trivial⟩|rfl|contradiction|(apply Ob.mk;(try simp only[ag,ak,aa.ae])<;>(try dsimp only)<;>omega))
 all_goals try first
  |(refine bu.base ⟨_,[],hK,trivial,rfl,?_⟩;(repeat'((conv=>whnf);(first|apply And.intro|intro _)));all_goals first|rfl|trivial))
end Go.Proofs.Ytccnimhgjjnmoaa
end
section
namespace Go.Proofs.Ytccnimhgjjnmoaa
open Go Go.Sy Go.dg
variable {Γ:bn}
def axW (D:List Int->List Int->List aa) (F:List Int->List Int->Tm):au:=.fn fun args rg=>match args with
 |[.agg [],.a x0,.a x1]=>(match ac1 3 kI rg x0,ac1 3 kI rg x1 with|some (q0,L0),some (q1,L1)=>some (q0++(q1++(D L0 L1)),F L0 L1)|_,_=>none)
 |_=>none
theorem awO {f:FuncId} {b:Body} {E:Env} {d:Nat} (hP:aL Try.prog Γ E) (hb:bQ Try.prog f b) {D:List Int->List Int->List aa} {F:List Int->List Int->Tm} (hp:∀ (L0:List Int) (L1:List Int),(F L0 L1).plain=true)
 (H:∀ (L0:List Int) (L1:List Int),bW (D L0 L1)->cQ E d b [.agg [],.a (.sl 0 [] 0 L0.length),.a (.sl 1 [] 0 L1.length)] [.arr 3 kI L0 false false,.arr 3 kI L1 false false] (fun x _=>iL x (F L0 L1))):au.Ok Try.prog Γ f (axW D F):=au.aBp (d:=d) hP hb (by
 intro args rg q t hF hq;split at hF;next x0 x1=>
  split at hF;next q0 L0 q1 L1 hx0 cO=>
   obtain⟨rfl,rfl⟩:=Prod.mk.inj (Option.some.inj hF);clear hF;rw[aH,aH]at hq;obtain⟨aIh,gk,hD⟩:=hq;obtain⟨e0,Vn⟩:=bP (by simp[kI]) hx0 aIh
   obtain⟨e1,iO⟩:=bP (by simp[kI]) cO gk
   obtain⟨p0,r0⟩:=Vn [e0,e1] 0 2 rfl (by omega)
   obtain⟨p1,r1⟩:=iO [e0,e1] 1 2 rfl (by omega)
   refine⟨hp _ _,[e0,e1],[.agg [],.a (.sl 0 [] 0 L0.length),.a (.sl 1 [] 0 L1.length)],[.arr 3 kI L0 false false,.arr 3 kI L1 false false],⟨⟨trivial,p0,p1,trivial⟩,fun r g hg=>?_⟩,H _ _ hD⟩
   match r,hg with
   |0,hg=>obtain rfl:=Option.some.inj hg;exact r0
   |1,hg=>obtain rfl:=Option.some.inj hg;exact r1
  next=>cases hF
 next=>cases hF)
attribute [local irreducible] bJ td
abbrev ca (L:List Int) (i:Int):Int:=@Ar.get ⟨3,kI,L⟩ (0+Int.toNat i)
theorem alf {L:List Int} {i:Nat} (h:i<L.length):ca L i=L[i]:=amo (tg:=kI) h
def aqN:au:=fN (fun _=>[]) (fun _=>bl false)
theorem arU:au.Ok Try.prog Γ 127 aqN:=y9 (d:=0) (aP aR.nil bq.nil false 0) (aj Try.func127 rfl rfl) (fun _=>rfl) (by
 intro n _;have e0:(n !=n)=false:=by simp
 repeat'((conv=>whnf);first|apply And.intro|exact bA (by subst_vars;assumption)|intro h9)
 all_goals(try(conv=>whnf))<;>(subst_vars;try first|(apply Tk.mk;kernel_rfl)|exact⟨ah rfl⟩|exact⟨rfl⟩|exact⟨trivial⟩|rfl|contradiction|(apply Ob.mk;(try simp only[ag,ak,aa.ae])<;>(try dsimp only)<;>omega))
 all_goals first|trivial)
def avK:au:=Kf (fun _ _=>[]) (fun x y=> .a (vI (bJ x y)))
noncomputable def Mg:List (Nat×au):=[(127,aqN)]
theorem KU:aR Try.prog Γ Mg:=(aR.nil.cons (aj Try.func127 rfl rfl).fn arU)
theorem auD:au.Ok Try.prog Γ 121 avK:=An (d:=0) (aP KU bq.nil false 0) (aj Try.func121 rfl rfl) (fun _ _=>rfl) (by
 intro x y _;by_cases h1:x<y
 ·have p0:decide (x<y)=true:=decide_eq_true h1;rw[show bJ x y=-1 by unfold bJ;rw[if_pos h1]]
  repeat'((conv=>whnf);first|apply And.intro|exact bA (by subst_vars;assumption)|intro h9)
  all_goals(try(conv=>whnf))<;>(subst_vars;try first|(apply Tk.mk;kernel_rfl)|exact⟨ah rfl⟩|exact⟨rfl⟩|exact⟨trivial⟩|rfl|contradiction|(apply Ob.mk;(try simp only[ag,ak,aa.ae])<;>(try dsimp only)<;>omega))
 have p0:decide (x<y)=false:=decide_eq_false h1;by_cases h2:x>y
 ·have p1:decide (x>y)=true:=decide_eq_true h2;rw[show bJ x y=1 by unfold bJ;rw[if_neg h1,if_pos h2]]
  repeat'((conv=>whnf);first|apply And.intro|exact bA (by subst_vars;assumption)|intro h9)
  all_goals(try(conv=>whnf))<;>(subst_vars;try first|(apply Tk.mk;kernel_rfl)|exact⟨ah rfl⟩|exact⟨rfl⟩|exact⟨trivial⟩|rfl|contradiction|(apply Ob.mk;(try simp only[ag,ak,aa.ae])<;>(try dsimp only)<;>omega))
 have p1:decide (x>y)=false:=decide_eq_false h2;rw[show bJ x y=0 by unfold bJ;rw[if_neg h1,if_neg h2]]
 repeat'((conv=>whnf);first|apply And.intro|exact bA (by subst_vars;assumption)|intro h9)
 all_goals(try(conv=>whnf))<;>(subst_vars;try first|(apply Tk.mk;kernel_rfl)|exact⟨ah rfl⟩|exact⟨rfl⟩|exact⟨trivial⟩|rfl|contradiction|(apply Ob.mk;(try simp only[ag,ak,aa.ae])<;>(try dsimp only)<;>omega)))
def aoJ:au:=PA (fun L M=>[(aa.of (L.length<=1000000)),(aa.of (M.length<=1000000))]) (fun L M=> .a (vI (td L M)))
noncomputable def aud:List (Nat×au):=[(121,avK)]
theorem aqq:aR Try.prog Γ aud:=(aR.nil.cons (aj Try.func121 rfl rfl).fn auD)
theorem apx:au.Ok Try.prog Γ 105 aoJ:=MK (d:=0) (aP aqq bq.nil false 0) (aj Try.func105 rfl rfl) (fun _ _=>rfl) (by
 intro L M ⟨hL,hM,_⟩;simp only[aa.ae]at hL hM;repeat'((conv=>whnf);first|apply And.intro|exact bA (by subst_vars;assumption)|intro h9)
 all_goals(try(conv=>whnf))<;>(subst_vars;try first|(apply Tk.mk;kernel_rfl)|exact⟨ah rfl⟩|exact⟨rfl⟩|exact⟨trivial⟩|rfl|contradiction|(apply Ob.mk;(try simp only[ag,ak,aa.ae])<;>(try dsimp only)<;>omega))
 refine⟨Nat,fun i=>(i<=L.length/\i<=M.length)/\td L M=td (L.drop i) (M.drop i),fun i=>⟨aI 36 [0,1,9,10,11] [.a (.sl 0 [] 0 L.length),.a (.sl 1 [] 0 M.length),.a (.sl 0 [] 0 L.length),.a (vI L.length),.a (vI i)],[],[.arr 3 kI L false false,.arr 3 kI M false false]⟩,fun i=>L.length-i,0,[0,1],⟨⟨Nat.zero_le _,Nat.zero_le _⟩,rfl⟩,?_,?_⟩
 ·repeat'((conv=>whnf)<;>first|apply And.intro|intro _|rfl|trivial|exact ah rfl|exact aS ‹_› rfl|exact aT ‹_› rfl|((repeat' first|rfl|constructor);done))
 rintro i ⟨⟨hi,hi'⟩,hc⟩;by_cases hi1:i<L.length
 ·have p0:decide ((i:Int)<(L.length:Int))=true:=decide_eq_true (by omega)
  have hd:=List.drop_eq_getElem_cons hi1;rw[<-alf hi1]at hd;by_cases hi2:i<M.length
  ·have p1:decide ((i:Int)>=(M.length:Int))=false:=decide_eq_false (by omega)
   have hm:=List.drop_eq_getElem_cons hi2;rw[<-alf hi2]at hm;rw[hd,hm]at hc;by_cases hz:bJ (ca L i) (ca M i)=0
   ·have e1:(bJ (ca L i) (ca M i)!=0)=false:=by rw[hz];rfl
    have xS:td L M=td (L.drop (i+1)) (M.drop (i+1)):=by rw[hc];exact awt hz
    repeat'((conv=>whnf);first|apply And.intro|exact bA (by subst_vars;assumption)|intro h9)
    all_goals(try(conv=>whnf))<;>(subst_vars;try first|(apply Tk.mk;kernel_rfl)|exact⟨ah rfl⟩|exact⟨rfl⟩|exact⟨trivial⟩|rfl|contradiction|(apply Ob.mk;(try simp only[ag,ak,aa.ae])<;>(try dsimp only)<;>omega))
    all_goals try first|(refine Ob.mk ?_;show 0+Int.toNat (i:Int)<L.length;omega)|(refine Ob.mk ?_;show 0+Int.toNat (i:Int)<M.length;omega)
    all_goals
     refine⟨i+1,[0,1],⟨⟨hi1,hi2⟩,xS⟩,?_,by show L.length-(i+1)<L.length-i;omega⟩
     repeat'((conv=>whnf)<;>first|apply And.intro|intro _|rfl|trivial|exact ah rfl|exact aS ‹_› rfl|exact aT ‹_› rfl|((repeat' first|rfl|constructor);done))
   have e1:(bJ (ca L i) (ca M i)!=0)=true:=by simpa using hz
   rw[show td L M=bJ (ca L i) (ca M i) by rw[hc];exact awu hz]
   repeat'((conv=>whnf);first|apply And.intro|exact bA (by subst_vars;assumption)|intro h9)
   all_goals(try(conv=>whnf))<;>(subst_vars;try first|(apply Tk.mk;kernel_rfl)|exact⟨ah rfl⟩|exact⟨rfl⟩|exact⟨trivial⟩|rfl|contradiction|(apply Ob.mk;(try simp only[ag,ak,aa.ae])<;>(try dsimp only)<;>omega))
   all_goals first|(refine Ob.mk ?_;show 0+Int.toNat (i:Int)<L.length;omega)|(refine Ob.mk ?_;show 0+Int.toNat (i:Int)<M.length;omega)
  have p1:decide ((i:Int)>=(M.length:Int))=true:=decide_eq_true (by omega)
  rw[show td L M=1 by rw[hc,hd,List.drop_eq_nil_of_le (by omega:M.length<=i)];exact aww]
  repeat'((conv=>whnf);first|apply And.intro|exact bA (by subst_vars;assumption)|intro h9)
  all_goals(try(conv=>whnf))<;>(subst_vars;try first|(apply Tk.mk;kernel_rfl)|exact⟨ah rfl⟩|exact⟨rfl⟩|exact⟨trivial⟩|rfl|contradiction|(apply Ob.mk;(try simp only[ag,ak,aa.ae])<;>(try dsimp only)<;>omega))
  all_goals first|(refine Ob.mk ?_;show 0+Int.toNat (i:Int)<L.length;omega)
 have p0:decide ((i:Int)<(L.length:Int))=false:=decide_eq_false (by omega)
 rw[List.drop_eq_nil_of_le (by omega:L.length<=i)]at hc
 by_cases hi2:i<M.length
 ·have p1:decide ((L.length:Int)<(M.length:Int))=true:=decide_eq_true (by omega)
  rw[show td L M=-1 by rw[hc,List.drop_eq_getElem_cons hi2];exact auE]
  repeat'((conv=>whnf);first|apply And.intro|exact bA (by subst_vars;assumption)|intro h9)
  all_goals(try(conv=>whnf))<;>(subst_vars;try first|(apply Tk.mk;kernel_rfl)|exact⟨ah rfl⟩|exact⟨rfl⟩|exact⟨trivial⟩|rfl|contradiction|(apply Ob.mk;(try simp only[ag,ak,aa.ae])<;>(try dsimp only)<;>omega))
 have p1:decide ((L.length:Int)<(M.length:Int))=false:=decide_eq_false (by omega)
 rw[show td L M=0 by rw[hc,List.drop_eq_nil_of_le (by omega:M.length<=i)];exact awv]
 repeat'((conv=>whnf);first|apply And.intro|exact bA (by subst_vars;assumption)|intro h9)
 all_goals(try(conv=>whnf))<;>(subst_vars;try first|(apply Tk.mk;kernel_rfl)|exact⟨ah rfl⟩|exact⟨rfl⟩|exact⟨trivial⟩|rfl|contradiction|(apply Ob.mk;(try simp only[ag,ak,aa.ae])<;>(try dsimp only)<;>omega)))
def ams:au:=axW (fun L M=>[(aa.of (L.length<=1000000)),(aa.of (M.length<=1000000))]) (fun L M=> .a (vI (Pn L M)))
noncomputable def auh:List (Nat×au):=[(105,aoJ)]
theorem aqs:aR Try.prog Γ auh:=(aR.nil.cons (aj Try.func105 rfl rfl).fn apx)
theorem amt:au.Ok Try.prog Γ 94 ams:=awO (d:=0) (aP aqs bq.nil false 0) (aj Try.func94 rfl rfl) (fun _ _=>rfl) (by
 intro L M ⟨hL,hM,_⟩;simp only[aa.ae]at hL hM;by_cases h:L.length=M.length
 ·have e0:((L.length:Int)!=(M.length:Int))=false:=by rw[h];simp
  rw[show Pn L M=td L M by unfold Pn;rw[if_pos h]]
  repeat'((conv=>whnf);first|apply And.intro|exact bA (by subst_vars;assumption)|intro h9)
  all_goals(try(conv=>whnf))<;>(subst_vars;try first|(apply Tk.mk;kernel_rfl)|exact⟨ah rfl⟩|exact⟨rfl⟩|exact⟨trivial⟩|rfl|contradiction|(apply Ob.mk;(try simp only[ag,ak,aa.ae])<;>(try dsimp only)<;>omega))
  all_goals first|exact⟨hL⟩|exact⟨hM⟩
 have e0:((L.length:Int)!=(M.length:Int))=true:=by simp;omega
 rw[show Pn L M=(L.length:Int)-(M.length:Int) by unfold Pn;rw[if_neg h]]
 repeat'((conv=>whnf);first|apply And.intro|exact bA (by subst_vars;assumption)|intro h9)
 all_goals(try(conv=>whnf))<;>(subst_vars;try first|(apply Tk.mk;kernel_rfl)|exact⟨ah rfl⟩|exact⟨rfl⟩|exact⟨trivial⟩|rfl|contradiction|(apply Ob.mk;(try simp only[ag,ak,aa.ae])<;>(try dsimp only)<;>omega)))
end Go.Proofs.Ytccnimhgjjnmoaa
end
section
namespace Go.Proofs.Ytccnimhgjjnmoaa
open Go Go.Sy Go.dg
variable {Γ:bn}
def avP (D:List (List Int)->Int->Int->Fn->Array Value->Array Value->List aa) (F:List (List Int)->Int->Int->Fn->Array Value->Array Value->Tm):au:=.fn fun args rg=>match args with
 |[.a x0,.a (.v (.int .i64 n0)),.a (.v (.int .i64 n1)),.a (.v (.func py sg sq))]=>(match ac1 27 kT rg x0 with|some (q0,L0)=>some (q0++(D L0 n0 n1 py sg sq),F L0 n0 n1 py sg sq)|_=>none)
 |_=>none
theorem auV {f:FuncId} {b:Body} {E:Env} {d:Nat} (hP:aL Try.prog Γ E) (hb:bQ Try.prog f b) {D:List (List Int)->Int->Int->Fn->Array Value->Array Value->List aa} {F:List (List Int)->Int->Int->Fn->Array Value->Array Value->Tm} (hp:∀ (L0:List (List Int)) (n0:Int) (n1:Int) (py:Fn) (sg:Array Value) (sq:Array Value),(F L0 n0 n1 py sg sq).plain=true)
 (H:∀ (L0:List (List Int)) (n0:Int) (n1:Int) (py:Fn) (sg:Array Value) (sq:Array Value),bW (D L0 n0 n1 py sg sq)->cQ E d b [.a (.sl 0 [] 0 L0.length),.a (vI n0),.a (vI n1),.a (.v (.func py sg sq))] [.arr 27 kT L0 false false] (fun x _=>iL x (F L0 n0 n1 py sg sq))):au.Ok Try.prog Γ f (avP D F):=au.aBp (d:=d) hP hb (by
 intro args rg q t hF hq;split at hF;next x0 n0 n1 py sg sq=>
  split at hF;next q0 L0 hx0=>
   obtain⟨rfl,rfl⟩:=Prod.mk.inj (Option.some.inj hF);clear hF;rw[aH]at hq;obtain⟨aIh,hD⟩:=hq;obtain⟨e0,Vn⟩:=bP (by simp[kT]) hx0 aIh
   obtain⟨p0,r0⟩:=Vn [e0] 0 1 rfl (by omega)
   refine⟨hp _ _ _ _ _ _,[e0],[.a (.sl 0 [] 0 L0.length),.a (vI n0),.a (vI n1),.a (.v (.func py sg sq))],[.arr 27 kT L0 false false],⟨⟨p0,rfl,rfl,rfl,trivial⟩,fun r g hg=>?_⟩,H _ _ _ _ _ _ hD⟩
   match r,hg with
   |0,hg=>obtain rfl:=Option.some.inj hg;exact r0
  next=>cases hF
 next=>cases hF)
def ati (D:List (List Int)->Int->Int->Int->Fn->Array Value->Array Value->List aa) (F:List (List Int)->Int->Int->Int->Fn->Array Value->Array Value->Tm):au:=.fn fun args rg=>match args with
 |[.a x0,.a (.v (.int .i64 n0)),.a (.v (.int .i64 n1)),.a (.v (.int .i64 n2)),.a (.v (.func py sg sq))]=>(match ac1 27 kT rg x0 with|some (q0,L0)=>some (q0++(D L0 n0 n1 n2 py sg sq),F L0 n0 n1 n2 py sg sq)|_=>none)
 |_=>none
theorem aoQ {f:FuncId} {b:Body} {E:Env} {d:Nat} (hP:aL Try.prog Γ E) (hb:bQ Try.prog f b) {D:List (List Int)->Int->Int->Int->Fn->Array Value->Array Value->List aa} {F:List (List Int)->Int->Int->Int->Fn->Array Value->Array Value->Tm} (hp:∀ (L0:List (List Int)) (n0:Int) (n1:Int) (n2:Int) (py:Fn) (sg:Array Value) (sq:Array Value),(F L0 n0 n1 n2 py sg sq).plain=true)
 (H:∀ (L0:List (List Int)) (n0:Int) (n1:Int) (n2:Int) (py:Fn) (sg:Array Value) (sq:Array Value),bW (D L0 n0 n1 n2 py sg sq)->cQ E d b [.a (.sl 0 [] 0 L0.length),.a (vI n0),.a (vI n1),.a (vI n2),.a (.v (.func py sg sq))] [.arr 27 kT L0 false false] (fun x _=>iL x (F L0 n0 n1 n2 py sg sq))):au.Ok Try.prog Γ f (ati D F):=au.aBp (d:=d) hP hb (by
 intro args rg q t hF hq;split at hF;next x0 n0 n1 n2 py sg sq=>
  split at hF;next q0 L0 hx0=>
   obtain⟨rfl,rfl⟩:=Prod.mk.inj (Option.some.inj hF);clear hF;rw[aH]at hq;obtain⟨aIh,hD⟩:=hq;obtain⟨e0,Vn⟩:=bP (by simp[kT]) hx0 aIh
   obtain⟨p0,r0⟩:=Vn [e0] 0 1 rfl (by omega)
   refine⟨hp _ _ _ _ _ _ _,[e0],[.a (.sl 0 [] 0 L0.length),.a (vI n0),.a (vI n1),.a (vI n2),.a (.v (.func py sg sq))],[.arr 27 kT L0 false false],⟨⟨p0,rfl,rfl,rfl,rfl,trivial⟩,fun r g hg=>?_⟩,H _ _ _ _ _ _ _ hD⟩
   match r,hg with
   |0,hg=>obtain rfl:=Option.some.inj hg;exact r0
  next=>cases hF
 next=>cases hF)
def axT (D:List (List Int)->Int->Fn->Array Value->Array Value->List aa) (F:List (List Int)->Int->Fn->Array Value->Array Value->Tm):au:=.fn fun args rg=>match args with
 |[.a x0,.a (.v (.int .i64 n0)),.a (.v (.func py sg sq))]=>(match ac1 27 kT rg x0 with|some (q0,L0)=>some (q0++(D L0 n0 py sg sq),F L0 n0 py sg sq)|_=>none)
 |_=>none
theorem awM {f:FuncId} {b:Body} {E:Env} {d:Nat} (hP:aL Try.prog Γ E) (hb:bQ Try.prog f b) {D:List (List Int)->Int->Fn->Array Value->Array Value->List aa} {F:List (List Int)->Int->Fn->Array Value->Array Value->Tm} (hp:∀ (L0:List (List Int)) (n0:Int) (py:Fn) (sg:Array Value) (sq:Array Value),(F L0 n0 py sg sq).plain=true)
 (H:∀ (L0:List (List Int)) (n0:Int) (py:Fn) (sg:Array Value) (sq:Array Value),bW (D L0 n0 py sg sq)->cQ E d b [.a (.sl 0 [] 0 L0.length),.a (vI n0),.a (.v (.func py sg sq))] [.arr 27 kT L0 false false] (fun x _=>iL x (F L0 n0 py sg sq))):au.Ok Try.prog Γ f (axT D F):=au.aBp (d:=d) hP hb (by
 intro args rg q t hF hq;split at hF;next x0 n0 py sg sq=>
  split at hF;next q0 L0 hx0=>
   obtain⟨rfl,rfl⟩:=Prod.mk.inj (Option.some.inj hF);clear hF;rw[aH]at hq;obtain⟨aIh,hD⟩:=hq;obtain⟨e0,Vn⟩:=bP (by simp[kT]) hx0 aIh
   obtain⟨p0,r0⟩:=Vn [e0] 0 1 rfl (by omega)
   refine⟨hp _ _ _ _ _,[e0],[.a (.sl 0 [] 0 L0.length),.a (vI n0),.a (.v (.func py sg sq))],[.arr 27 kT L0 false false],⟨⟨p0,rfl,rfl,trivial⟩,fun r g hg=>?_⟩,H _ _ _ _ _ hD⟩
   match r,hg with
   |0,hg=>obtain rfl:=Option.some.inj hg;exact r0
  next=>cases hF
 next=>cases hF)
def azm (D:List (List Int)->Fn->Array Value->Array Value->List aa) (F:List (List Int)->Fn->Array Value->Array Value->Tm):au:=.fn fun args rg=>match args with
 |[.a x0,.a (.v (.func py sg sq))]=>(match ac1 27 kT rg x0 with|some (q0,L0)=>some (q0++(D L0 py sg sq),F L0 py sg sq)|_=>none)
 |_=>none
theorem axS {f:FuncId} {b:Body} {E:Env} {d:Nat} (hP:aL Try.prog Γ E) (hb:bQ Try.prog f b) {D:List (List Int)->Fn->Array Value->Array Value->List aa} {F:List (List Int)->Fn->Array Value->Array Value->Tm} (hp:∀ (L0:List (List Int)) (py:Fn) (sg:Array Value) (sq:Array Value),(F L0 py sg sq).plain=true)
 (H:∀ (L0:List (List Int)) (py:Fn) (sg:Array Value) (sq:Array Value),bW (D L0 py sg sq)->cQ E d b [.a (.sl 0 [] 0 L0.length),.a (.v (.func py sg sq))] [.arr 27 kT L0 false false] (fun x _=>iL x (F L0 py sg sq))):au.Ok Try.prog Γ f (azm D F):=au.aBp (d:=d) hP hb (by
 intro args rg q t hF hq;split at hF;next x0 py sg sq=>
  split at hF;next q0 L0 hx0=>
   obtain⟨rfl,rfl⟩:=Prod.mk.inj (Option.some.inj hF);clear hF;rw[aH]at hq;obtain⟨aIh,hD⟩:=hq;obtain⟨e0,Vn⟩:=bP (by simp[kT]) hx0 aIh
   obtain⟨p0,r0⟩:=Vn [e0] 0 1 rfl (by omega)
   refine⟨hp _ _ _ _,[e0],[.a (.sl 0 [] 0 L0.length),.a (.v (.func py sg sq))],[.arr 27 kT L0 false false],⟨⟨p0,rfl,trivial⟩,fun r g hg=>?_⟩,H _ _ _ _ hD⟩
   match r,hg with
   |0,hg=>obtain rfl:=Option.some.inj hg;exact r0
  next=>cases hF
 next=>cases hF)
attribute [local irreducible] bJ td Pn
structure Uf (T:List (List Int)):Prop where
 Kg:T.length<=1000000
 short:∀ x∈T,x.length<=1000000
 ord:T.Pairwise (fun a b=>¬Pn b a<0)
open Classical in
noncomputable def asm (T:List (List Int)):aa:=⟨Uf T,decide (Uf T),decide_eq_true_iff⟩
abbrev alo:Value:=.func (.func 94) #[.agg #[]] #[]
open Classical in
noncomputable def ar0 (k:Fn) (p c:Array Value):aa:=⟨k= .func 94/\p=#[.agg #[]]/\c=#[],decide (k= .func 94/\p=#[.agg #[]]/\c=#[]),decide_eq_true_iff⟩
abbrev bh (T:List (List Int)) (i:Int):List Int:=@Ar.get ⟨27,kT,T⟩ (0+Int.toNat i)
theorem wV {T:List (List Int)} {i:Nat} (h:i<T.length):bh T i=T[i]:=amo (tg:=kT) h
theorem Uf.le {T:List (List Int)} (h:Uf T) {i j:Nat} (hij:i<j) (hj:j<T.length):decide (Pn (bh T j) (bh T i)<0)=false:=by
 rw[wV hj,wV (by omega)]
 exact decide_eq_false (List.pairwise_iff_getElem.1 h.ord i j (by omega) hj hij)
theorem Uf.len {T:List (List Int)} (h:Uf T) {i:Nat} (hi:i<T.length):(bh T i).length<=1000000:=by
 rw[wV hi];exact h.short _ (List.getElem_mem hi)
theorem Sg (i j:Nat):((i:Int)+(j:Int)) / 2^Int.toNat 1=(((i+j) / 2:Nat):Int):=by
 show((i:Int)+(j:Int)) / 2=_;omega
noncomputable def asX:au:=avP (fun T a b k p c=>[asm T,ar0 k p c,(aa.of (0<=a/\a<=b/\b<=T.length))]) (fun _ _ _ _ _ _=> .bF [])
noncomputable def ay0:List (Nat×au):=[(94,ams)]
theorem auj:aR Try.prog Γ ay0:=(aR.nil.cons (aj Try.func94 rfl rfl).fn amt)
theorem asY:au.Ok Try.prog Γ 119 asX:=auV (d:=0) (aP auj bq.nil false 0) (aj Try.func119 rfl rfl) (fun _ _ _ _ _ _=>rfl) (by
 intro T a b k p c ⟨hT,hv,hab,_⟩;simp only[aa.ae]at hab;replace hT:Uf T:=hT;obtain⟨rfl,rfl,rfl⟩:k= .func 94/\p=#[.agg #[]]/\c=#[]:=hv;have Sa:=hT.Kg;obtain⟨a,rfl⟩:∃ k:Nat,a=(k:Int):=⟨a.toNat,by omega⟩
 repeat'((conv=>whnf);first|apply And.intro|exact bA (by subst_vars;assumption)|intro h9)
 all_goals(try(conv=>whnf))<;>(subst_vars;try first|(apply Tk.mk;kernel_rfl)|exact⟨ah rfl⟩|exact⟨rfl⟩|exact⟨trivial⟩|rfl|contradiction|(apply Ob.mk;(try simp only[ag,ak,aa.ae])<;>(try dsimp only)<;>omega))
 refine⟨Nat,fun i=>a+1<=i/\((i:Int)<=b\/i=a+1),fun i=>⟨aI 53 [0,1,2,3,8] [.a (.sl 0 [] 0 T.length),.a (vI a),.a (vI b),.a (.v alo),.a (vI i)],[],[.arr 27 kT T false false]⟩,fun i=>b.toNat+1-i,a+1,[0],⟨Nat.le_refl _,.inr rfl⟩,?_,?_⟩
 ·repeat'((conv=>whnf)<;>first|apply And.intro|intro _|rfl|trivial|exact ah rfl|exact aS ‹_› rfl|exact aT ‹_› rfl|((repeat' first|rfl|constructor);done))
 rintro i ⟨hi,hib⟩;by_cases hi1:(i:Int)<b
 ·have p0:decide ((i:Int)<b)=true:=decide_eq_true hi1;repeat'((conv=>whnf);first|apply And.intro|exact bA (by subst_vars;assumption)|intro h9)
  all_goals(try(conv=>whnf))<;>(subst_vars;try first|(apply Tk.mk;kernel_rfl)|exact⟨ah rfl⟩|exact⟨rfl⟩|exact⟨trivial⟩|rfl|contradiction|(apply Ob.mk;(try simp only[ag,ak,aa.ae])<;>(try dsimp only)<;>omega))
  refine⟨Unit,fun _=>True,fun _=>⟨aI 53 [0,1,2,3,8,9] [.a (.sl 0 [] 0 T.length),.a (vI a),.a (vI b),.a (.v alo),.a (vI i),.a (vI i)],[],[.arr 27 kT T false false]⟩,fun _=>1,(),[0],trivial,?_,?_⟩
  ·repeat'((conv=>whnf)<;>first|apply And.intro|intro _|rfl|trivial|exact ah rfl|exact aS ‹_› rfl|exact aT ‹_› rfl|((repeat' first|rfl|constructor);done))
  rintro _ _;have p1:decide ((i:Int)>(a:Int))=true:=decide_eq_true (by omega)
  have hij:i<T.length:=by omega
  have e1:((i:Int)-1)=((i-1:Nat):Int):=by omega
  have q1:decide (Pn (bh T i) (bh T ((i:Int)-1))<0)=false:=by rw[e1];exact hT.le (by omega) hij
  have agM:=hT.len hij;have jJ:(bh T ((i:Int)-1)).length<=1000000:=by rw[e1];exact hT.len (by omega)
  repeat'((conv=>whnf);first|apply And.intro|exact bA (by subst_vars;assumption)|intro h9)
  all_goals(try(conv=>whnf))<;>(subst_vars;try first|(apply Tk.mk;kernel_rfl)|exact⟨ah rfl⟩|exact⟨rfl⟩|exact⟨trivial⟩|rfl|contradiction|(apply Ob.mk;(try simp only[ag,ak,aa.ae])<;>(try dsimp only)<;>omega))
  all_goals try first|exact⟨show 0+Int.toNat (i:Int)<T.length by omega⟩|exact⟨show 0+Int.toNat ((i:Int)-1)<T.length by omega⟩|exact⟨agM⟩|exact⟨jJ⟩
  all_goals
   refine⟨i+1,[0],⟨by omega,.inl (by omega)⟩,?_,by show b.toNat+1-(i+1)<b.toNat+1-i;omega⟩
   repeat'((conv=>whnf)<;>first|apply And.intro|intro _|rfl|trivial|exact ah rfl|exact aS ‹_› rfl|exact aT ‹_› rfl|((repeat' first|rfl|constructor);done))
 have p0:decide ((i:Int)<b)=false:=decide_eq_false hi1;repeat'((conv=>whnf);first|apply And.intro|exact bA (by subst_vars;assumption)|intro h9)
 all_goals(try(conv=>whnf))<;>(subst_vars;try first|(apply Tk.mk;kernel_rfl)|exact⟨ah rfl⟩|exact⟨rfl⟩|exact⟨trivial⟩|rfl|contradiction|(apply Ob.mk;(try simp only[ag,ak,aa.ae])<;>(try dsimp only)<;>omega))
 all_goals first|trivial)
end Go.Proofs.Ytccnimhgjjnmoaa
end
