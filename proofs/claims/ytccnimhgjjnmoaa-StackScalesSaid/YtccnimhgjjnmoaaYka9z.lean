/-
  Texts of the claims: Yka9z. No condition: lemmas and contracts.
-/
import Derived.Test.YtccnimhgjjnmoaaSya1z
import Derived.Test.YtccnimhgjjnmoaaSya2z
import Derived.Test.YtccnimhgjjnmoaaSya3z
import Derived.Test.YtccnimhgjjnmoaaSya4z
import Derived.Test.YtccnimhgjjnmoaaSya5z
import Derived.Test.YtccnimhgjjnmoaaPla6z
import Derived.Test.YtccnimhgjjnmoaaYka7z
import Derived.Test.YtccnimhgjjnmoaaYka8z
set_option linter.all false
set_option maxRecDepth 100000
set_option maxHeartbeats 40000000
section
namespace Go.Proofs.Ytccnimhgjjnmoaa
open Go Go.Sy Go.dg
variable {Γ:bn}
attribute [local irreducible] ck wN sub e7 ta kG adp aIo aQ x6 Q2 alr
def lc:Code->Code
 | .seq a _=>a
 |c=>c
def rc:Code->Code
 | .seq _ b=>b
 |c=>c
def bc:Code->Code
 | .block _ c=>c
 | .loop c=>c
 |c=>c
theorem akL {E:Env} {cl:Cl} {rd:Rd} {rn:Option (Nat×Nat)} {a b:Code} {st:St} {K:Ex->St->Prop} (hc:E.aBf a=false)
 (h:∀ K1:Ex->St->Prop,(∀ st,jD E cl rd rn b st K->K1 .normal st)->(∀ e st,(match e with| .normal=>False|e=>K e st)->K1 e st)->jD E cl rd rn a st K1):jD E cl rd rn (.seq a b) st K:=by
 show(match E.aBf a with
  |true=>∃ (X:Type) (I:X->Prop) (S:X->St),jD E cl rd rn a st (fun e an=>match e with| .normal=>∃ (x:X) (is:List Nat),I x/\Le is an (S x)|e=>K e an)/\∀ x,I x->jD E cl rd rn b (S x) K
  |false=>jD E cl rd rn a st (fun e st=>match e with| .normal=>jD E cl rd rn b st K|e=>K e st))
 rw[hc];refine h _ (fun st h=>h) ?_
 intro e st h;cases e with
 |normal=>exact h.elim
 |_=>exact h
theorem aqa {fa:St->(Ex->St->Prop)->Prop} {st:St} {K0:Ex->St->Prop} (h:∀ an K1,an=st->(∀ e st,K0 e st->K1 e st)->fa an K1):fa st K0:=h st K0 rfl (fun _ _ h=>h)
theorem anP {E:Env} {cl:Cl} {rd:Rd} {rn:Option (Nat×Nat)} {id:Nat} {c:Code} {st:St} {K:Ex->St->Prop}
 (h:∀ K1:Ex->St->Prop,(∀ e st,(match e with| .exit id'=>(match Nat.beq id id' with|true=>K .normal st|false=>K (.exit id') st)|e=>K e st)->K1 e st)->jD E cl rd rn c st K1):jD E cl rd rn (.block id c) st K:=h _ (fun _ _ h=>h)
def awG (E:Env) (cl:Cl) (rd:Rd) (b:Body) (args:List Tm) (rg:List az) (K:Tm->St->Prop):Prop:=
 qJ b.n args (fun s=>fD ou rg (fun rg=>jD E cl rd none b.code ⟨s,[],rg⟩ (fun e an=>match e with
  | .exit _=>False
  |_=>(match nl E an b.rs with
   |some (q,x)=>aBP E.aN q (K x an)
   |none=>False))))
theorem auO {E:Env} {n:Nat} {b:Body} {args:List Tm} {rg:List az} {K:Tm->St->Prop} (h:awG E (GG E (MC E n none)) (wF (MC E n)) b args rg K):cQ E (n+1) b args rg K:=h
def apb (cl:Cl):Prop:=∀ (f:Int) (L:List Bk) (k:Nat) (tm:Sl) (fr:List Sl) (g0 g1 g2 g3:az) (Kc:Tm->St->Prop),
 Kc (.a (.fn 97 [6,5,4])) ⟨tm,fr,[g0,g1,g2,g3,.box true [.sl 0 [] 0 L.length],.box true [vI f],.box true [vI k]]⟩->
 cl (bo Try.f68) [.a (.sl 0 [] 0 L.length),.a (vI f),.a (vI k)] ⟨tm,fr,[g0,g1,g2,g3]⟩ Kc
theorem avj {cl:Cl} {rd:Rd}:apb (GG gq (jD gq cl rd none)):=by
 intro f L k tm fr g0 g1 g2 g3 Kc hK;repeat'((conv=>whnf);first|apply And.intro|exact bA (by subst_vars;assumption)|intro h9)
 all_goals(try(conv=>whnf))<;>(subst_vars;try first|(apply Tk.mk;kernel_rfl)|exact⟨ah rfl⟩|exact⟨rfl⟩|exact⟨trivial⟩|rfl|contradiction|(apply Ob.mk;(try simp only[ag,ak,aa.ae])<;>(try dsimp only)<;>omega))
 all_goals try first|trivial
 all_goals exact hK
noncomputable def azI:Code:=bc (lc (rc (bc (bc (rc (lc (rc (rc (bo Try.f55).code))))))))
def apk:cM:=⟨[],.bF [.agg [.v (.slice none 0 0),vI 0],.a .ff]⟩
def auY (L:List Bk) (l t f:Int):cM:=match x6 f (l-t) (l+t) L with
 |some (C,n)=>⟨[.arr 3 kI C true true],.bF [.agg [.sl 0 [] 0 C.length,vI n],.a .tt]⟩
 |none=>apk
def aws:au:=al5 (fun L l t f=>[apv L,(aa.of (0<=f/\f<=1000000)),(aa.of (0<=l/\l<=1152921504606846976)),(aa.of (0<=t/\t<=1152921504606846976))]) auY
theorem arR:au.Ok Try.prog Γ 55 aws:=amN (d:=26+1) ar7 (aj Try.func55 rfl rfl) (by
 intro L l t f K ⟨hB,hf,hl,ht,_⟩ hK;simp only[aa.ae]at hf hl ht;replace hB:gb L:=hB;have hN:=hB.Kg;refine auO (n:=26) ?_;have hQ:=avj (cl:=GG gq (MC gq 25 none)) (rd:=wF (MC gq 25));have hP:∀ k,1<=k->k<=20->avC l t f L k (GG gq (MC gq 26 none)):=fun k h1 h2=>ayG hB h1 h2 (GG gq (MC gq 25 none)) (wF (MC gq 25)) (fun l0 fn T dd=>by
  have:=av5 (l:=l) (t:=t) (f:=f) (L:=L) (k:=k) (l0:=l0) (fn:=fn) (T:=T) (dd:=dd) hB hf (by omega) ht h2 (23-k) k
  rwa[show 23-k+2+k=25 by omega]at this)
 replace hQ:apb (GG gq (MC gq 26 none)):=hQ;generalize GG gq (MC gq 26 none)=cl at*;generalize wF (MC gq 26)=rd;unfold auY at hK;cases h0:kG f (l-t+f) (l+t+f) L==0
 ·repeat'((conv=>whnf);first|apply And.intro|exact bA (by subst_vars;assumption)|intro h9)
  all_goals(try(conv=>whnf))<;>(subst_vars;try first|(apply Tk.mk;kernel_rfl)|exact⟨ah rfl⟩|exact⟨rfl⟩|exact⟨trivial⟩|rfl|contradiction|(apply Ob.mk;(try simp only[ag,ak,aa.ae])<;>(try dsimp only)<;>omega))
  all_goals try first|exact⟨hB⟩
  refine⟨Nat,fun k=>(1<=k/\k<=L.length+1)/\Q2 f (l-t) (l+t) L (k-1)=none,fun k=>⟨alA L k,[],[.arr 67 kK L false false,.box true [vI l,vI t,vI f],.box true [.v (.slice none 0 0),vI 0],.box true [.v (.bool false)]]⟩,fun k=>L.length+1-k,1,[0,1,2,3],⟨⟨Nat.le_refl _,by omega⟩,by unfold Q2;rfl⟩,?_,?_⟩
  ·repeat'((conv=>whnf)<;>first|apply And.intro|intro _|rfl|trivial|exact ah rfl|exact aS ‹_› rfl|exact aT ‹_› rfl|((repeat' first|rfl|constructor);done))
  rintro k ⟨⟨cB,lQ⟩,hkn⟩;by_cases aAj:k<=L.length
  ·have p0:decide ((k:Int)<=(L.length:Int))=true:=decide_eq_true (by omega)
   repeat'((conv=>whnf);first|apply And.intro|exact bA (by subst_vars;assumption)|intro h9)
   all_goals(try(conv=>whnf))<;>(subst_vars;try first|(apply Tk.mk;kernel_rfl)|exact⟨ah rfl⟩|exact⟨rfl⟩|exact⟨trivial⟩|rfl|contradiction|(apply Ob.mk;(try simp only[ag,ak,aa.ae])<;>(try dsimp only)<;>omega))
   refine⟨Unit,fun _=>Q2 f (l-t) (l+t) L k=none,fun _=>⟨alA L k,[],[.arr 67 kK L false false,.box true [vI l,vI t,vI f],.box true [.v (.slice none 0 0),vI 0],.box true [.v (.bool false)]]⟩,?_,?_⟩
   ·refine aqa ?_;intro an K4 hst avS;show jD gq cl rd none (.block 1 (.seq (lc azI) (rc azI))) an K4;refine anP ?_;intro K3 amz;refine akL (E:=gq) (cl:=cl) (rd:=rd) (rn:=none) ?_ ?_
    ·rfl
    intro K1 am3 _;subst hst;repeat'((conv=>whnf);first|apply And.intro|exact bA (by subst_vars;assumption)|intro h9)
    all_goals(try(conv=>whnf))<;>(subst_vars;try first|(apply Tk.mk;kernel_rfl)|exact⟨ah rfl⟩|exact⟨rfl⟩|exact⟨trivial⟩|rfl|contradiction|(apply Ob.mk;(try simp only[ag,ak,aa.ae])<;>(try dsimp only)<;>omega))
    refine hQ f L k _ _ _ _ _ _ _ ?_;repeat'((conv=>whnf);first|apply And.intro|exact bA (by subst_vars;assumption)|intro h9)
    all_goals(try(conv=>whnf))<;>(subst_vars;try first|(apply Tk.mk;kernel_rfl)|exact⟨ah rfl⟩|exact⟨rfl⟩|exact⟨trivial⟩|rfl|contradiction|(apply Ob.mk;(try simp only[ag,ak,aa.ae])<;>(try dsimp only)<;>omega))
    refine am3 _ ?_;repeat'((conv=>whnf);first|apply And.intro|exact bA (by subst_vars;assumption)|intro h9)
    all_goals(try(conv=>whnf))<;>(subst_vars;try first|(apply Tk.mk;kernel_rfl)|exact⟨ah rfl⟩|exact⟨rfl⟩|exact⟨trivial⟩|rfl|contradiction|(apply Ob.mk;(try simp only[ag,ak,aa.ae])<;>(try dsimp only)<;>omega))
    all_goals try first|trivial
    rename_i l0 fn T;rename Nat=>dd
    refine hP k cB (by omega) l0 fn T dd _ _ _ _ ⟨?_,?_⟩ rfl ?_ ?_ ?_
    ·intro is m n h1 h2 h3;repeat'((conv=>whnf);(first|apply And.intro|intro _))
     all_goals first|rfl|trivial|omega|(rw[h1 _ (by omega)];done)|(rw[h1 _ (by omega)];omega)|(simp only[List.map_cons,List.map_nil];rw[h1 6 (by decide),h1 5 (by decide),h1 4 (by decide)];done)|(have h7:=(show ∀ r∈[6,5,4],r<7 by decide) _ ‹_›;first|omega|(rw[h1 _ h7];omega))
    ·intro is m n h1 h2 h3;repeat'((conv=>whnf);(first|apply And.intro|intro _))
     all_goals first|rfl|trivial|omega|(rw[h1 _ (by omega)];done)|(rw[h1 _ (by omega)];omega)|(simp only[List.map_cons,List.map_nil];rw[h1 6 (by decide),h1 5 (by decide),h1 4 (by decide)];done)|(have h7:=(show ∀ r∈[6,5,4],r<7 by decide) _ ‹_›;first|omega|(rw[h1 _ h7];omega))
    ·intro is m n h1 h2 h3;repeat'((conv=>whnf);(first|apply And.intro|intro _))
     all_goals first|rfl|trivial|omega|(rw[h1 _ (by omega)];done)|(rw[h1 _ (by omega)];omega)|(simp only[List.map_cons,List.map_nil];rw[h1 6 (by decide),h1 5 (by decide),h1 4 (by decide)];done)|(have h7:=(show ∀ r∈[6,5,4],r<7 by decide) _ ‹_›;first|omega|(rw[h1 _ h7];omega))
    ·intro h0 A' nu;have xW:=auZ hkn cB h0;replace nu:=And.intro nu trivial;repeat'((conv=>whnf);first|apply And.intro|exact bA (by subst_vars;assumption)|intro h9)
     all_goals(try(conv=>whnf))<;>(subst_vars;try first|(apply Tk.mk;kernel_rfl)|exact⟨ah rfl⟩|exact⟨rfl⟩|exact⟨trivial⟩|rfl|contradiction|(apply Ob.mk;(try simp only[ag,ak,aa.ae])<;>(try dsimp only)<;>omega))
     refine amz _ _ (avS _ _ ?_);refine⟨(),[0,1,2,3],xW,?_⟩;repeat'((conv=>whnf);(first|apply And.intro|intro _))
     all_goals first|rfl|exact hs _ _ _ (by decide) (ah rfl) (ah rfl)|exact hfr.hd _ _ _ (by decide) (ah rfl) (ah rfl)|exact hfr.tl _ _ _ (by decide) (ah rfl) (ah rfl)|trivial|exact ah rfl|exact⟨rfl,rfl,rfl⟩|exact⟨rfl,rfl⟩|(rename_i r9 bx;revert r9;decide)
    ·intro C n hC A' nu;have xW:=atm hkn cB aAj hC;replace nu:=And.intro nu trivial;rw[xW]at hK;dsimp only at hK;repeat'((conv=>whnf);first|apply And.intro|exact bA (by subst_vars;assumption)|intro h9)
     all_goals(try(conv=>whnf))<;>(subst_vars;try first|(apply Tk.mk;kernel_rfl)|exact⟨ah rfl⟩|exact⟨rfl⟩|exact⟨trivial⟩|rfl|contradiction|(apply Ob.mk;(try simp only[ag,ak,aa.ae])<;>(try dsimp only)<;>omega))
     refine amz _ _ (avS _ _ ?_);repeat'((conv=>whnf);first|apply And.intro|exact bA (by subst_vars;assumption)|intro h9)
     all_goals(try(conv=>whnf))<;>(subst_vars;try first|(apply Tk.mk;kernel_rfl)|exact⟨ah rfl⟩|exact⟨rfl⟩|exact⟨trivial⟩|rfl|contradiction|(apply Ob.mk;(try simp only[ag,ak,aa.ae])<;>(try dsimp only)<;>omega))
     refine bu.base ⟨_,[12],hK,⟨rfl,rfl,by simp,trivial⟩,rfl,?_⟩
     repeat'((conv=>whnf)<;>first|apply And.intro|intro _|rfl|trivial)
   rintro _ xW;repeat'((conv=>whnf);first|apply And.intro|exact bA (by subst_vars;assumption)|intro h9)
   all_goals(try(conv=>whnf))<;>(subst_vars;try first|(apply Tk.mk;kernel_rfl)|exact⟨ah rfl⟩|exact⟨rfl⟩|exact⟨trivial⟩|rfl|contradiction|(apply Ob.mk;(try simp only[ag,ak,aa.ae])<;>(try dsimp only)<;>omega))
   refine⟨k+1,[0,1,2,3],⟨⟨by omega,by omega⟩,by rw[Nat.add_sub_cancel];exact xW⟩,?_,by show L.length+1-(k+1)<L.length+1-k;omega⟩
   repeat'((conv=>whnf);(first|apply And.intro|intro _))
   all_goals first|rfl|exact hs _ _ _ (by decide) (ah rfl) (ah rfl)|exact hfr.hd _ _ _ (by decide) (ah rfl) (ah rfl)|exact hfr.tl _ _ _ (by decide) (ah rfl) (ah rfl)|trivial|exact ah rfl|exact⟨rfl,rfl,rfl⟩|exact⟨rfl,rfl⟩|(rename_i r9 bx;revert r9;decide)
  have p0:decide ((k:Int)<=(L.length:Int))=false:=decide_eq_false (by omega)
  have aBz:x6 f (l-t) (l+t) L=none:=by unfold x6;rw[show L.length=k-1 by omega];exact hkn
  rw[aBz]at hK;dsimp only[apk]at hK;repeat'((conv=>whnf);first|apply And.intro|exact bA (by subst_vars;assumption)|intro h9)
  all_goals(try(conv=>whnf))<;>(subst_vars;try first|(apply Tk.mk;kernel_rfl)|exact⟨ah rfl⟩|exact⟨rfl⟩|exact⟨trivial⟩|rfl|contradiction|(apply Ob.mk;(try simp only[ag,ak,aa.ae])<;>(try dsimp only)<;>omega))
  all_goals first
   |(refine bu.base ⟨_,[],hK,trivial,rfl,?_⟩;(repeat'((conv=>whnf);(first|apply And.intro|intro _)));all_goals first|rfl|trivial)
 have h1:=apP (l:=l) (t:=t) (f:=f) (L:=L) (by omega) (eq_of_beq h0)
 rw[h1]at hK;dsimp only[apk]at hK;repeat'((conv=>whnf);first|apply And.intro|exact bA (by subst_vars;assumption)|intro h9)
 all_goals(try(conv=>whnf))<;>(subst_vars;try first|(apply Tk.mk;kernel_rfl)|exact⟨ah rfl⟩|exact⟨rfl⟩|exact⟨trivial⟩|rfl|contradiction|(apply Ob.mk;(try simp only[ag,ak,aa.ae])<;>(try dsimp only)<;>omega))
 all_goals try first|exact⟨hB⟩
 refine⟨Unit,fun _=>True,fun _=>⟨aI 36 [4,5] [.a (.p 2 [] 0 0),.a (.p 3 [] 0 0)],[],[.arr 67 kK L false false,.box true [vI l,vI t,vI f],.box true [.v (.slice none 0 0),vI 0],.box true [.v (.bool false)]]⟩,?_,?_⟩
 ·repeat'((conv=>whnf);first|apply And.intro|exact bA (by subst_vars;assumption)|intro h9)
  all_goals(try(conv=>whnf))<;>(subst_vars;try first|(apply Tk.mk;kernel_rfl)|exact⟨ah rfl⟩|exact⟨rfl⟩|exact⟨trivial⟩|rfl|contradiction|(apply Ob.mk;(try simp only[ag,ak,aa.ae])<;>(try dsimp only)<;>omega))
  refine⟨(),[0,1,2,3],trivial,?_⟩;repeat'((conv=>whnf);(first|apply And.intro|intro _))
  all_goals first|rfl|exact hs _ _ _ (by decide) (ah rfl) (ah rfl)|exact hfr.hd _ _ _ (by decide) (ah rfl) (ah rfl)|exact hfr.tl _ _ _ (by decide) (ah rfl) (ah rfl)|trivial|exact ah rfl|exact⟨rfl,rfl,rfl⟩|exact⟨rfl,rfl⟩|(rename_i r9 bx;revert r9;decide)
 rintro _ _;repeat'((conv=>whnf);first|apply And.intro|exact bA (by subst_vars;assumption)|intro h9)
 all_goals(try(conv=>whnf))<;>(subst_vars;try first|(apply Tk.mk;kernel_rfl)|exact⟨ah rfl⟩|exact⟨rfl⟩|exact⟨trivial⟩|rfl|contradiction|(apply Ob.mk;(try simp only[ag,ak,aa.ae])<;>(try dsimp only)<;>omega))
 all_goals first
  |(refine bu.base ⟨_,[],hK,trivial,rfl,?_⟩;(repeat'((conv=>whnf);(first|apply And.intro|intro _)));all_goals first|rfl|trivial))
end Go.Proofs.Ytccnimhgjjnmoaa
end
section
namespace Go.Proofs.Ytccnimhgjjnmoaa
open Go Go.Sy Go.dg
variable {Γ:bn}
def axO (D:List Bk->List Int->List aa) (R:List Bk->List Int->cM):au:=.new fun args rg K=>match args with
 |[.a x0,.a x1]=>(match ac1 67 kK rg x0,ac1 3 kI rg x1 with|some (q0,L0),some (q1,L1)=>aBP false (q0++(q1++(D L0 L1))) (K (R L0 L1))|_,_=>False)
 |_=>False
theorem awJ {f:FuncId} {b:Body} {E:Env} {d:Nat} (hP:aL Try.prog Γ E) (hb:bQ Try.prog f b) {D:List Bk->List Int->List aa} {R:List Bk->List Int->cM}
 (H:∀ (L0:List Bk) (L1:List Int) (K:cM->Prop),bW (D L0 L1)->K (R L0 L1)->cQ E d b [.a (.sl 0 [] 0 L0.length),.a (.sl 1 [] 0 L1.length)] [.arr 67 kK L0 false false,.arr 3 kI L1 false false] (bu K)):au.Ok Try.prog Γ f (axO D R):=au.fM (d:=d) hP hb (by
 intro args rg K hF;split at hF;next x0 x1=>
  split at hF;next q0 L0 q1 L1 hx0 cO=>
   rw[aV,aH,aH]at hF;obtain⟨⟨aIh,gk,hD⟩,hK⟩:=hF;obtain⟨e0,Vn⟩:=bP (by simp[kK]) hx0 aIh
   obtain⟨e1,iO⟩:=bP (by simp[kI]) cO gk
   obtain⟨p0,r0⟩:=Vn [e0,e1] 0 2 rfl (by omega)
   obtain⟨p1,r1⟩:=iO [e0,e1] 1 2 rfl (by omega)
   refine⟨[e0,e1],[.a (.sl 0 [] 0 L0.length),.a (.sl 1 [] 0 L1.length)],[.arr 67 kK L0 false false,.arr 3 kI L1 false false],⟨⟨p0,p1,trivial⟩,fun r g hg=>?_⟩,bu K,H _ _ K hD hK,fun x st h=>h⟩
   match r,hg with
   |0,hg=>obtain rfl:=Option.some.inj hg;exact r0
   |1,hg=>obtain rfl:=Option.some.inj hg;exact r1
  next=>exact hF.elim
 next=>exact hF.elim)
def asi (D:List Bk->Int->Int->Int->List aa) (Rk:List Bk->Int->Int->Int->(cM->Prop)->Prop):au:=.new fun args rg K=>match args with
 |[.a x0,.agg [.v (.int .i64 n0),.v (.int .i64 n1),.v (.int .i64 n2)]]=>(match ac1 67 kK rg x0 with|some (q0,L0)=>aBP false (q0++(D L0 n0 n1 n2)) (Rk L0 n0 n1 n2 K)|_=>False)
 |_=>False
theorem avf {f:FuncId} {D:List Bk->Int->Int->Int->List aa} {R:List Bk->Int->Int->Int->cM} {Rk:List Bk->Int->Int->Int->(cM->Prop)->Prop} (h:au.Ok Try.prog Γ f (al5 D R)) (hk:∀ (L0:List Bk) (n0:Int) (n1:Int) (n2:Int) K,Rk L0 n0 n1 n2 K->K (R L0 n0 n1 n2)):au.Ok Try.prog Γ f (asi D Rk):=by
 intro args rg K hC;refine h args rg K ?_
 (try unfold asi at hC)
 (try unfold al5)
 (try dsimp only at hC ⊢)
 split at hC;next x0 n0 n1 n2=>
  split at hC;next q0 L0 hx0=>
   (try dsimp only)
   (try simp only[hx0])
   rw[aV]at hC ⊢;exact⟨hC.1,hk _ _ _ _ K hC.2⟩
  next=>exact hC.elim
 next=>exact hC.elim
attribute [local irreducible] ck wN sub e7 ta kG adp aIo aQ x6 Q2 alr
def pw (L:List Bk) (C:List Int):List Int:=C.map (fun i=>(gr L i).1)
theorem au9 (L:List Bk) {C:List Int} {i:Nat} (h:i<C.length):pw L (C.take (i+1))=pw L (C.take i)++[(gr L (iA C i)).1]:=by
 unfold pw;rw[map_take h,ala h]
theorem aq9 (L:List Bk) (C:List Int):(pw L C).length=C.length:=List.length_map _
attribute [local irreducible] pw
def are (L:List Bk) (C:List Int):Prop:=∀ i∈C,0<=i/\i<(L.length:Int)
instance (L:List Bk) (C:List Int):Decidable (are L C):=by unfold are;infer_instance
def ayq (L:List Bk) (C:List Int):cM:=⟨[.arr 3 kI (pw L C) true true],.a (.sl 0 [] 0 (pw L C).length)⟩
def apd:au:=axO (fun L C=>[(aa.of (C.length<=1000000)),(aa.of (are L C))]) ayq
theorem anb:au.Ok Try.prog Γ 56 apd:=awJ (d:=0) (aP aR.nil bq.nil false 0) (aj Try.func56 rfl rfl) (by
 intro L C K ⟨hC,hin,_⟩ hK;simp only[aa.ae]at hC hin;unfold ayq at hK;have h0:pw L (C.take 0)=[]:=by unfold pw;rfl
 have DG:∀ i,i<=C.length->(pw L (C.take i)).length=i:=fun i hi=>by rw[aq9,List.length_take,Nat.min_eq_left hi]
 repeat'((conv=>whnf);first|apply And.intro|exact bA (by subst_vars;assumption)|intro h9)
 all_goals(try(conv=>whnf))<;>(subst_vars;try first|(apply Tk.mk;kernel_rfl)|exact⟨ah rfl⟩|exact⟨rfl⟩|exact⟨trivial⟩|rfl|contradiction|(apply Ob.mk;(try simp only[ag,ak,aa.ae])<;>(try dsimp only)<;>omega))
 refine⟨Nat,fun i=>i<=C.length,fun i=>⟨aI 24 [0,5,8,9,10] [.a (.sl 0 [] 0 L.length),.a (.sl 2 [] 0 i),.a (.sl 1 [] 0 C.length),.a (vI C.length),.a (vI i)],[],[.arr 67 kK L false false,.arr 3 kI C false false,.arr 3 kI (pw L (C.take i)) true true]⟩,fun i=>C.length-i,0,[0,1,1000],Nat.zero_le _,?_,?_⟩
 ·repeat'((conv=>whnf)<;>first|apply And.intro|intro _|rfl|trivial|exact ah rfl|exact aS ‹_› rfl|exact aT ‹_› rfl|((repeat' first|rfl|constructor);done)|exact h0)
 rintro i hi;have hl:=DG i hi;by_cases hi1:i<C.length
 ·have p0:decide ((i:Int)<(C.length:Int))=true:=decide_eq_true (by omega)
  have hst:=au9 L hi1;have hci:=hin _ (List.getElem_mem hi1);rw[<-ala hi1]at hci;have cO:0+Int.toNat (iA C i)<L.length:=by omega
  repeat'((conv=>whnf);first|apply And.intro|exact bA (by subst_vars;assumption)|intro h9)
  all_goals(try(conv=>whnf))<;>(subst_vars;try first|(apply Tk.mk;kernel_rfl)|exact⟨ah rfl⟩|exact⟨rfl⟩|exact⟨trivial⟩|rfl|contradiction|(apply Ob.mk;(try simp only[ag,ak,aa.ae])<;>(try dsimp only)<;>omega))
  all_goals try first|exact⟨cO⟩|exact⟨show 0+i=(pw L (C.take i)).length by omega⟩|exact⟨show 0+Int.toNat (i:Int)<C.length by omega⟩|exact⟨show(i+1)*1<=1099511627776 by omega⟩
  refine⟨i+1,[0,1,2],hi1,?_,by show C.length-(i+1)<C.length-i;omega⟩
  repeat'((conv=>whnf)<;>first|apply And.intro|intro _|rfl|trivial|exact ah rfl|exact aS ‹_› rfl|exact aT ‹_› rfl|((repeat' first|rfl|constructor);done)|exact⟨rfl,rfl,hst.symm⟩)
 have p0:decide ((i:Int)<(C.length:Int))=false:=decide_eq_false (by omega)
 have ajV:=And.intro (show i=(pw L C).length by rw[aq9];omega) trivial
 have ht:pw L C=pw L (C.take i):=by rw[List.take_of_length_le (by omega)]
 rw[<-ajV.1,ht]at hK;repeat'((conv=>whnf);first|apply And.intro|exact bA (by subst_vars;assumption)|intro h9)
 all_goals(try(conv=>whnf))<;>(subst_vars;try first|(apply Tk.mk;kernel_rfl)|exact⟨ah rfl⟩|exact⟨rfl⟩|exact⟨trivial⟩|rfl|contradiction|(apply Ob.mk;(try simp only[ag,ak,aa.ae])<;>(try dsimp only)<;>omega))
 refine bu.base ⟨_,[2],hK,⟨rfl,rfl,by simp,trivial⟩,rfl,?_⟩
 repeat'((conv=>whnf)<;>first|apply And.intro|intro _|rfl|trivial))
theorem amE:∀ (r i u:Nat),∀ z∈idx r i u,(i:Int)<=z/\z<((i+r:Nat):Int)
 |0,_,_,z,h=>by cases h
 |r+1,i,u,z,h=>by
  rw[idx]at h;split at h
  ·rcases List.mem_cons.1 h with rfl|h
   ·omega
   ·have:=amE r (i+1) (u / 2) z h;omega
  ·have:=amE r (i+1) (u / 2) z h;omega
theorem atn {f lo hi:Int} {L:List Bk} {C:List Int} {n:Int} (h:x6 f lo hi L=some (C,n)):are L C/\C.length<=L.length:=by
 rw[amO]at h;cases hf:(AL L.length).find? (fun u=>aQ (wN f L u-f) lo hi)with
 |none=>rw[hf]at h;cases h
 |some u=>
  rw[hf]at h;have h:=(Prod.mk.inj (Option.some.inj h)).1;subst h;refine⟨fun z hz=>by have:=amE _ _ _ z hz;omega,by rw[alT];exact ajs _ _⟩
def aot:au:=asi (fun L l t f=>[apv L,(aa.of (0<=f/\f<=1000000)),(aa.of (0<=l/\l<=1152921504606846976)),(aa.of (0<=t/\t<=1152921504606846976))]) (fun L l t f K=>((x6 f (l-t) (l+t) L).isSome=false->K apk)/\((x6 f (l-t) (l+t) L).isSome=true->∀ C n,x6 f (l-t) (l+t) L=some (C,n)->K ⟨[.arr 3 kI C true true],.bF [.agg [.sl 0 [] 0 C.length,vI n],.a .tt]⟩))
theorem an3:au.Ok Try.prog Γ 55 aot:=avf arR (by
 intro L l t f K ⟨h1,h2⟩;unfold auY;cases hF:x6 f (l-t) (l+t) L with
 |none=>exact h1 (by rw[hF];rfl)
 |some x=>
  obtain⟨C,n⟩:=x;exact h2 (by rw[hF];rfl) C n hF)
def akH (e:Int):cM:=⟨[],.bF [.a (.v (.slice none 0 0)),.a (vI e)]⟩
def ayB (L:List Bk) (l t f:Int):cM:=match bf L l t f==0 with
 |false=>akH (bf L l t f)
 |true=>match x6 f (l-t) (l+t) L with
  |none=>akH 5
  |some (C,_)=>⟨[.arr 3 kI (pw L C) true true],.bF [.a (.sl 0 [] 0 (pw L C).length),.a (vI 0)]⟩
def axC:au:=al5 (fun L _ _ _=>[(aa.of (L.length<=1000000))]) ayB
noncomputable def ayX:List (Nat×au):=[(54,aBa),(55,aot),(56,apd)]
theorem auf:aR Try.prog Γ ayX:=(((aR.nil.cons (aj Try.func56 rfl rfl).fn anb).cons (aj Try.func55 rfl rfl).fn an3).cons (aj Try.func54 rfl rfl).fn fQ)
theorem asT:au.Ok Try.prog Γ 22 axC:=amN (d:=0) (aP auf bq.nil false 0) (aj Try.func22 rfl rfl) (by
 intro L l t f K ⟨hL,_⟩ hK;simp only[aa.ae]at hL;have hone:=akP L l t f;unfold ayB at hK;cases h0:bf L l t f==0
 ·rw[h0]at hK;dsimp only[akH]at hK;have e0:(lu L [(l,t,f)]!=0)=true:=by rw[hone];unfold bne;rw[h0];rfl
  rw[<-hone]at hK;repeat'((conv=>whnf);first|apply And.intro|exact bA (by subst_vars;assumption)|intro h9)
  all_goals(try(conv=>whnf))<;>(subst_vars;try first|(apply Tk.mk;kernel_rfl)|exact⟨ah rfl⟩|exact⟨rfl⟩|exact⟨trivial⟩|rfl|contradiction|(apply Ob.mk;(try simp only[ag,ak,aa.ae])<;>(try dsimp only)<;>omega))
  all_goals first
   |(refine bu.base ⟨_,[],hK,trivial,rfl,?_⟩;(repeat'((conv=>whnf);(first|apply And.intro|intro _)));all_goals first|rfl|trivial)
   |exact⟨hL⟩
 rw[h0]at hK;dsimp only at hK;have e0:(lu L [(l,t,f)]!=0)=false:=by rw[hone];unfold bne;rw[h0];rfl
 obtain⟨hB,hw⟩:=gg (eq_of_beq h0);obtain⟨hl,ht,hf⟩:=wE hw;have jJ:0<=l/\l<=1152921504606846976:=by omega
 have UW:0<=t/\t<=1152921504606846976:=by omega
 cases hF:x6 f (l-t) (l+t) L with
 |none=>
  rw[hF]at hK;dsimp only[akH]at hK;have hs:(x6 f (l-t) (l+t) L).isSome=false:=by rw[hF];rfl
  repeat'((conv=>whnf);first|apply And.intro|exact bA (by subst_vars;assumption)|intro h9)
  all_goals(try(conv=>whnf))<;>(subst_vars;try first|(apply Tk.mk;kernel_rfl)|exact⟨ah rfl⟩|exact⟨rfl⟩|exact⟨trivial⟩|rfl|contradiction|(apply Ob.mk;(try simp only[ag,ak,aa.ae])<;>(try dsimp only)<;>omega))
  all_goals first
   |(refine bu.base ⟨_,[],hK,trivial,rfl,?_⟩;(repeat'((conv=>whnf);(first|apply And.intro|intro _)));all_goals first|rfl|trivial)
   |exact⟨hL⟩
   |exact⟨hB⟩
 |some x=>
  obtain⟨C,n⟩:=x;rw[hF]at hK;dsimp only at hK;obtain⟨hin,aAa⟩:=atn hF;have ax1:C.length<=1000000:=by have:=hB.Kg;omega
  have hs:(x6 f (l-t) (l+t) L).isSome=true:=by rw[hF];rfl
  repeat'((conv=>whnf);first|apply And.intro|exact bA (by subst_vars;assumption)|intro h9)
  all_goals(try(conv=>whnf))<;>(subst_vars;try first|(apply Tk.mk;kernel_rfl)|exact⟨ah rfl⟩|exact⟨rfl⟩|exact⟨trivial⟩|rfl|contradiction|(apply Ob.mk;(try simp only[ag,ak,aa.ae])<;>(try dsimp only)<;>omega))
  all_goals try first|exact⟨hL⟩|exact⟨hB⟩
  all_goals obtain⟨rfl,rfl⟩:=Prod.mk.inj (Option.some.inj (hF.symm.trans ‹x6 f (l-t) (l+t) L=some _›))
  repeat'((conv=>whnf);first|apply And.intro|exact bA (by subst_vars;assumption)|intro h9)
  all_goals(try(conv=>whnf))<;>(subst_vars;try first|(apply Tk.mk;kernel_rfl)|exact⟨ah rfl⟩|exact⟨rfl⟩|exact⟨trivial⟩|rfl|contradiction|(apply Ob.mk;(try simp only[ag,ak,aa.ae])<;>(try dsimp only)<;>omega))
  all_goals try first
   |exact⟨hin⟩
   |exact⟨ax1⟩
   |(refine bu.base ⟨_,[5],hK,⟨rfl,rfl,by simp,trivial⟩,rfl,?_⟩;(repeat'((conv=>whnf);(first|apply And.intro|intro _)));all_goals first|rfl|trivial))
def aoh:au:=anQ (fun L _ _ _=>[(aa.of (L.length<=1000000))]) (fun L l t f=> .bF [.a (vI (if bf L l t f=0 then kG f (l-t+f) (l+t+f) L else 0)),.a (vI (bf L l t f))])
noncomputable def axl:List (Nat×au):=[(54,aBa),(57,alk)]
theorem asu:aR Try.prog Γ axl:=((aR.nil.cons (aj Try.func57 rfl rfl).fn akY).cons (aj Try.func54 rfl rfl).fn fQ)
theorem arN:au.Ok Try.prog Γ 23 aoh:=alq (d:=0) (aP asu bq.nil false 0) (aj Try.func23 rfl rfl) (fun _ _ _ _=>rfl) (by
 intro L l t f ⟨hL,_⟩;simp only[aa.ae]at hL;have hone:=akP L l t f;cases h0:bf L l t f==0
 ·have e0:(lu L [(l,t,f)]!=0)=true:=by rw[hone];unfold bne;rw[h0];rfl
  rw[if_neg (by simpa using h0)]
  repeat'((conv=>whnf);first|apply And.intro|exact bA (by subst_vars;assumption)|intro h9)
  all_goals(try(conv=>whnf))<;>(subst_vars;try first|(apply Tk.mk;kernel_rfl)|exact⟨ah rfl⟩|exact⟨rfl⟩|exact⟨trivial⟩|rfl|contradiction|(apply Ob.mk;(try simp only[ag,ak,aa.ae])<;>(try dsimp only)<;>omega))
  all_goals first|trivial|exact⟨hL⟩
 have e0:(lu L [(l,t,f)]!=0)=false:=by rw[hone];unfold bne;rw[h0];rfl
 have h1:=eq_of_beq h0;obtain⟨hB,hw⟩:=gg h1;obtain⟨hl,ht,hf⟩:=wE hw;have jJ:-1152921504606846976<=l/\l<=1152921504606846976:=by omega
 have UW:0<=t/\t<=1152921504606846976:=by omega
 rw[if_pos h1,h1];repeat'((conv=>whnf);first|apply And.intro|exact bA (by subst_vars;assumption)|intro h9)
 all_goals(try(conv=>whnf))<;>(subst_vars;try first|(apply Tk.mk;kernel_rfl)|exact⟨ah rfl⟩|exact⟨rfl⟩|exact⟨trivial⟩|rfl|contradiction|(apply Ob.mk;(try simp only[ag,ak,aa.ae])<;>(try dsimp only)<;>omega))
 all_goals first|trivial|exact⟨hL⟩|exact⟨hB⟩)
end Go.Proofs.Ytccnimhgjjnmoaa
end
section
namespace Go.Proofs.Ytccnimhgjjnmoaa
open Go Go.Sy Go.dg
variable {Γ:bn}
attribute [local irreducible] ck wN sub e7 ta kG adp aQ aH8
abbrev aoH (L:List Bk) (k:Nat):Sl:=aI 42 [9] [.a (.p 1 [] 0 0)]
noncomputable abbrev aoG (fn:FuncId) (T:Array Value) (dd:Nat):Loop:=ac5 Try.f36 0 fn T dd
structure ary (tt:Tr) (fr:List Sl):Prop where
 hd:∀ is m n,(∀ r,r<10->rn is r=r)->10<=m->10<=n->wM is m n tt tt
 tl:∀ is m n,(∀ r,r<10->rn is r=r)->10<=m->10<=n->NU is m n fr fr
 km:∀ k,Tr.gY (Tm.mapA (At.kill true true 10)) tt k<->k tt
 kl:∀ k,fD (Sl.gY (At.kill true true 10)) fr k<->k fr
theorem ary.push {tn:Nat} {tt:Tr} {fr:List Sl} (h:ary tt fr) {s:Tr} (hs:∀ is m n,(∀ r,r<10->rn is r=r)->10<=m->10<=n->wM is m n s s) (hk:∀ k,Tr.gY (Tm.mapA (At.kill true true 10)) s k<->k s):ary s (⟨tn,tt⟩::fr):=
 ⟨hs,fun is m n h1 h2 h3=>⟨⟨rfl,h.hd is m n h1 h2 h3⟩,h.tl is m n h1 h2 h3⟩,hk,fun k=>(h.km _).trans (h.kl _)⟩
def ay8 (id:Nat):Option (Nat×OT):=match Nat.beq id 7 with|true=>some (14,(.take 0 (.take 1 (.take 2 (.take 3 (.take 4 (.take 5 (.take 6 (.take 7 (.take 8 (.take 9 (.take 10 (.take 11 (.take 12 (.take 13 .fin)))))))))))))))|false=>none
noncomputable def axn:List (Nat×au):=[(54,aBa),(67,gK),(69,aey),(70,adP)]
theorem awf:aR Try.prog Γ axn:=((((aR.nil.cons (aj Try.func70 rfl rfl).fn ad0).cons (aj Try.func69 rfl rfl).fn aez).cons (aj Try.func67 rfl rfl).fn fw).cons (aj Try.func54 rfl rfl).fn fQ)
noncomputable def avD:List (Nat×Body):=[(68,bo Try.f68),(97,bo Try.f97),(98,bo Try.f98)]
theorem auv:bq Try.prog avD:=(((bq.nil.cons (cg Try.func98 rfl rfl)).cons (cg Try.func97 rfl rfl)).cons (cg Try.func68 rfl rfl))
noncomputable def as8:Env:={jV.env axn avD false 0 with htr:=ay8}
theorem as9:aL Try.prog Γ as8:=(aP awf auv false 0).NA _
noncomputable def l9:Env:={as8 with cut:=fun t=>match Nat.beq t 2007 with|true=>true|false=>(match Nat.beq t 1002 with|true=>true|false=>Nat.beq t 3000)}
theorem auJ:aL Try.prog Γ l9:=as9.aBf _
section
variable (f:Int) (L:List Bk) (k l0:Nat) (fn:FuncId) (T:Array Value) (dd:Nat)
def anz (m:Nat) (cl:Cl):Prop:=∀ (n i:Nat) (zn zi s:Int) (A acc:List Int) (tn:Nat) (tt:Tr) (fr:List Sl) (Kc:Tm->St->Prop),
 zn=n->zi=i->n+m=k->i<=L.length->A.length=k->0<=s->s<=n*56294996342131->(acc++aH8 f L m (L.length-i) i s).length<=2000000->ary tt fr->
 (∀ A',A'.length=k->A'.take n=A.take n->Kc (.a .tt) ⟨⟨tn,tt⟩,fr,[.arr 67 kK L false false,.box true [.sl 10 [] 0 ((acc++aH8 f L m (L.length-i) i s)).length],.box true [.sl 0 [] 0 L.length],.box true [vI f],.box true [vI k],.lp l0 (aoH L k) (aoG fn T dd) .ready none,.box true [.yl 5],.arr 3 kI A' true true,.box true [.sl 7 [] 0 k],.box true [.fn 98 [4,6,8,3,2,9]],.arr 3 kI (acc++aH8 f L m (L.length-i) i s) true true]⟩)->
 cl (bo Try.f98) [.a (vI zn),.a (vI zi),.a (vI s),.a (.p 4 [] 0 0),.a (.p 6 [] 0 0),.a (.p 8 [] 0 0),.a (.p 3 [] 0 0),.a (.p 2 [] 0 0),.a (.p 9 [] 0 0)] ⟨⟨tn,tt⟩,fr,[.arr 67 kK L false false,.box true [.sl 10 [] 0 (acc).length],.box true [.sl 0 [] 0 L.length],.box true [vI f],.box true [vI k],.lp l0 (aoH L k) (aoG fn T dd) .ready none,.box true [.yl 5],.arr 3 kI A true true,.box true [.sl 7 [] 0 k],.box true [.fn 98 [4,6,8,3,2,9]],.arr 3 kI acc true true]⟩ Kc
variable {f} {L} {k l0} {fn} {T} {dd}
theorem asa (hf:0<=f/\f<=1000000) (hk:k<=20) (e:Nat) (cl:Cl):
 anz f L k l0 fn T dd 0 (GG l9 (jD l9 cl (wF (MC l9 (e+1))) none)):=by
 intro n i zn zi s A acc tn tt fr Kc alw amD hn hi hA fK xX hacc hfr iB;have hkk:(zn==(k:Int))=true:=by rw[alw,show n=k by omega];exact beq_self_eq_true _
 have e0:aH8 f L 0 (L.length-i) i s=[s-f]:=by unfold aH8;rfl
 have hK:=iB A hA rfl;rw[e0]at hK hacc;have pT:s<=1125919926842620:=by omega
 have aoT:acc.length+1<=2000000:=by rw[List.length_append,List.length_singleton]at hacc;exact hacc
 have ZR:(acc++[s-f]).length=acc.length+1:=by rw[List.length_append,List.length_singleton]
 have hap:acc++[s-f]=acc++[s-f]:=rfl;rw[ZR]at hK;replace hA:=And.intro hA trivial;clear amD hn iB e0 hacc;repeat'((conv=>whnf);first|apply And.intro|exact bA (by subst_vars;assumption)|intro h9)
 all_goals(try(conv=>whnf))<;>(subst_vars;try first|(apply Tk.mk;kernel_rfl)|exact⟨ah rfl⟩|exact⟨rfl⟩|exact⟨trivial⟩|rfl|contradiction|(apply Ob.mk;(try simp only[ag,ak,aa.ae])<;>(try dsimp only)<;>omega))
 refine⟨Unit,fun _=>True,fun _=>⟨aI 55 [12] [.a .tt],⟨tn,tt⟩::fr,[.arr 67 kK L false false,.box true [.sl 10 [] 0 (acc.length+1)],.box true [.sl 0 [] 0 L.length],.box true [vI f],.box true [vI k],.lp l0 (aoH L k) (aoG fn T dd) .ready none,.box true [.yl 5],.arr 3 kI A true true,.box true [.sl 7 [] 0 k],.box true [.fn 98 [4,6,8,3,2,9]],.arr 3 kI (acc++[s-f]) true true]⟩,?_,?_⟩
 ·repeat'((conv=>whnf);first|apply And.intro|exact bA (by subst_vars;assumption)|intro h9)
  all_goals(try(conv=>whnf))<;>(subst_vars;try first|(apply Tk.mk;kernel_rfl)|exact⟨ah rfl⟩|exact⟨rfl⟩|exact⟨trivial⟩|rfl|contradiction|(apply Ob.mk;(try simp only[ag,ak,aa.ae])<;>(try dsimp only)<;>omega))
  all_goals try first|exact⟨Nat.zero_add _⟩|exact⟨show(acc.length+1)*1<=1099511627776 by omega⟩
  refine(hfr.km _).mpr ?_;repeat'((conv=>whnf);first|apply And.intro|exact bA (by subst_vars;assumption)|intro h9)
  all_goals(try(conv=>whnf))<;>(subst_vars;try first|(apply Tk.mk;kernel_rfl)|exact⟨ah rfl⟩|exact⟨rfl⟩|exact⟨trivial⟩|rfl|contradiction|(apply Ob.mk;(try simp only[ag,ak,aa.ae])<;>(try dsimp only)<;>omega))
  refine(hfr.kl _).mpr ?_;repeat'((conv=>whnf);first|apply And.intro|exact bA (by subst_vars;assumption)|intro h9)
  all_goals(try(conv=>whnf))<;>(subst_vars;try first|(apply Tk.mk;kernel_rfl)|exact⟨ah rfl⟩|exact⟨rfl⟩|exact⟨trivial⟩|rfl|contradiction|(apply Ob.mk;(try simp only[ag,ak,aa.ae])<;>(try dsimp only)<;>omega))
  refine⟨(),[0,1,2,3,4,5,6,7,8,9,10],trivial,?_⟩;repeat'((conv=>whnf);(first|apply And.intro|intro _))
  all_goals first|rfl|trivial|exact ah rfl|exact⟨rfl,rfl,rfl⟩|exact⟨rfl,rfl⟩|exact hfr.hd _ _ _ (by decide) (ah rfl) (ah rfl)|exact hfr.tl _ _ _ (by decide) (ah rfl) (ah rfl)|exact hA.1|exact hA.1.symm|exact ZR|exact ZR.symm|exact⟨rfl,rfl,hap⟩|(rename_i r9 bx;revert r9;decide)
 rintro _ _;repeat'((conv=>whnf);first|apply And.intro|exact bA (by subst_vars;assumption)|intro h9)
 all_goals(try(conv=>whnf))<;>(subst_vars;try first|(apply Tk.mk;kernel_rfl)|exact⟨ah rfl⟩|exact⟨rfl⟩|exact⟨trivial⟩|rfl|contradiction|(apply Ob.mk;(try simp only[ag,ak,aa.ae])<;>(try dsimp only)<;>omega))
 all_goals try first|trivial
 all_goals exact hK
theorem ar9 (hB:gb L) (hf:0<=f/\f<=1000000) (hk:k<=20) (m:Nat) (cl:Cl) (rd:Rd) (IH:anz f L k l0 fn T dd m cl):
 anz f L k l0 fn T dd (m+1) (GG l9 (jD l9 cl rd none)):=by
 intro n i zn zi s A acc tn tt fr Kc alw amD hn hi hA fK xX hacc hfr iB;have hN:=hB.Kg;obtain rfl:=alw;obtain rfl:=amD;have hkk:((n:Int)==(k:Int))=false:=beq_eq_false_iff_ne.2 (by omega)
 have hnk:n+m+1<=k/\k<=n+m+1:=by omega
 replace hA:=And.intro hA trivial;clear hn;repeat'((conv=>whnf);first|apply And.intro|exact bA (by subst_vars;assumption)|intro h9)
 all_goals(try(conv=>whnf))<;>(subst_vars;try first|(apply Tk.mk;kernel_rfl)|exact⟨ah rfl⟩|exact⟨rfl⟩|exact⟨trivial⟩|rfl|contradiction|(apply Ob.mk;(try simp only[ag,ak,aa.ae])<;>(try dsimp only)<;>omega))
 refine⟨Nat×List Int×List Int,fun x=>(i<=x.1/\x.1<=L.length)/\(x.2.1.length=k/\x.2.1.take n=A.take n)/\acc++aH8 f L (m+1) (L.length-i) i s=x.2.2++aH8 f L (m+1) (L.length-x.1) x.1 s,fun|(j,A,acc)=>⟨aI 55 [0,2,3,4,5,6,7,8,13] [.a (vI n),.a (vI s),.a (.p 4 [] 0 0),.a (.p 6 [] 0 0),.a (.p 8 [] 0 0),.a (.p 3 [] 0 0),.a (.p 2 [] 0 0),.a (.p 9 [] 0 0),.a (vI j)],⟨tn,tt⟩::fr,[.arr 67 kK L false false,.box true [.sl 10 [] 0 (acc).length],.box true [.sl 0 [] 0 L.length],.box true [vI f],.box true [vI k],.lp l0 (aoH L k) (aoG fn T dd) .ready none,.box true [.yl 5],.arr 3 kI A true true,.box true [.sl 7 [] 0 k],.box true [.fn 98 [4,6,8,3,2,9]],.arr 3 kI acc true true]⟩,fun x=>L.length+1-x.1,(i,A,acc),[0,1,2,3,4,5,6,7,8,9,10],⟨⟨Nat.le_refl _,hi⟩,⟨hA.1,rfl⟩,rfl⟩,?_,?_⟩
 ·repeat'((conv=>whnf);(first|apply And.intro|intro _))
  all_goals first|rfl|trivial|exact ah rfl|exact⟨rfl,rfl,rfl⟩|exact⟨rfl,rfl⟩|exact hfr.hd _ _ _ (by decide) (ah rfl) (ah rfl)|exact hfr.tl _ _ _ (by decide) (ah rfl) (ah rfl)|(rename_i r9 bx;revert r9;decide)
 rintro⟨j,B,alI⟩ ⟨⟨aoU,hj⟩,⟨akA,amy⟩,hsrc⟩;dsimp only at aoU hj akA amy hsrc;replace akA:=And.intro akA trivial;by_cases Ho:j+(m+1)<=L.length
 ·have p0:decide ((j:Int)<=(L.length:Int)-((k:Int)-(n:Int)))=true:=decide_eq_true (by omega)
  have akD:j<L.length:=by omega
  have hlen:=hB.len (show bk L j∈L by rw[akX akD];exact List.getElem_mem akD)
  rw[<-tb L j]at hlen;have jK:=And.intro (show(B.set (0+Int.toNat (n:Int)) (j:Int)).length=k by rw[List.length_set];exact akA.1) trivial
  have vg:(B.set (0+Int.toNat (n:Int)) (j:Int)).take (n+1)=A.take n++[(j:Int)]:=by
   rw[Nat.zero_add,Int.toNat_natCast,<-amy];exact take_set (by omega)
  have hidx:0+Int.toNat (n:Int)<B.length:=by omega
  have r1:ak .i64 (s+(gr L j).2):=by simp only[ak];omega
  have r2:ak .i64 (s+(gr L j).2+f):=by simp only[ak];omega
  have hst:=asN (f:=f) (L:=L) (m:=m) (s:=s) akD;rw[show bk L j=gr L j from(tb L j).symm]at hst;have api:(alI++aH8 f L m (L.length-(j+1)) (j+1) (s+(gr L j).2+f)).length<=2000000:=by
   rw[hsrc,hst,<-List.append_assoc,List.length_append]at hacc;omega
  repeat'((conv=>whnf);first|apply And.intro|exact bA (by subst_vars;assumption)|intro h9)
  all_goals(try(conv=>whnf))<;>(subst_vars;try first|(apply Tk.mk;kernel_rfl)|exact⟨ah rfl⟩|exact⟨rfl⟩|exact⟨trivial⟩|rfl|contradiction|(apply Ob.mk;(try simp only[ag,ak,aa.ae])<;>(try dsimp only)<;>omega))
  all_goals try first|exact⟨hidx⟩
  refine⟨List Int×List Int,fun x=>x.1.length=k/\x.1.take n=A.take n/\x.2=alI++aH8 f L m (L.length-(j+1)) (j+1) (s+(gr L j).2+f),fun|(A,acc)=>⟨aI 55 [0,2,3,4,5,6,7,8,13,54] [.a (vI n),.a (vI s),.a (.p 4 [] 0 0),.a (.p 6 [] 0 0),.a (.p 8 [] 0 0),.a (.p 3 [] 0 0),.a (.p 2 [] 0 0),.a (.p 9 [] 0 0),.a (vI j),.a .ff],⟨tn,tt⟩::fr,[.arr 67 kK L false false,.box true [.sl 10 [] 0 (acc).length],.box true [.sl 0 [] 0 L.length],.box true [vI f],.box true [vI k],.lp l0 (aoH L k) (aoG fn T dd) .ready none,.box true [.yl 5],.arr 3 kI A true true,.box true [.sl 7 [] 0 k],.box true [.fn 98 [4,6,8,3,2,9]],.arr 3 kI acc true true]⟩,?_,?_⟩
  ·repeat'((conv=>whnf);first|apply And.intro|exact bA (by subst_vars;assumption)|intro h9)
   all_goals(try(conv=>whnf))<;>(subst_vars;try first|(apply Tk.mk;kernel_rfl)|exact⟨ah rfl⟩|exact⟨rfl⟩|exact⟨trivial⟩|rfl|contradiction|(apply Ob.mk;(try simp only[ag,ak,aa.ae])<;>(try dsimp only)<;>omega))
   all_goals try first|exact⟨r1⟩|exact⟨r2⟩|exact⟨show 0+Int.toNat (j:Int)<L.length by omega⟩
   refine IH (n+1) (j+1) _ _ (s+(gr L j).2+f) _ alI _ _ _ _ rfl rfl (by omega) (by omega) jK.1 (by omega) (by omega) api (hfr.push ?_ ?_) ?_
   ·intro is m n h1 h2 h3;repeat'((conv=>whnf);(first|apply And.intro|intro _))
    all_goals first|rfl|trivial|omega|(rw[h1 _ (by omega)];done)|(rw[h1 _ (by omega)];omega)|(simp only[List.map_cons,List.map_nil];rw[h1 4 (by decide),h1 6 (by decide),h1 8 (by decide),h1 3 (by decide),h1 2 (by decide),h1 9 (by decide)];done)|(have h7:=(show ∀ r∈[4,6,8,3,2,9],r<10 by decide) _ ‹_›;first|omega|(rw[h1 _ h7];omega))
   ·intro k;exact Iff.rfl
   ·intro A' nu acz;replace acz:A'.take (n+1)=(B.set (0+Int.toNat (n:Int)) (j:Int)).take (n+1):=acz;rw[vg]at acz;have atr:A'.take n=A.take n:=anq (by omega) acz
    replace nu:=And.intro nu trivial;repeat'((conv=>whnf);first|apply And.intro|exact bA (by subst_vars;assumption)|intro h9)
    all_goals(try(conv=>whnf))<;>(subst_vars;try first|(apply Tk.mk;kernel_rfl)|exact⟨ah rfl⟩|exact⟨rfl⟩|exact⟨trivial⟩|rfl|contradiction|(apply Ob.mk;(try simp only[ag,ak,aa.ae])<;>(try dsimp only)<;>omega))
    refine⟨(A',alI++aH8 f L m (L.length-(j+1)) (j+1) (s+(gr L j).2+f)),[0,1,2,3,4,5,6,7,8,9,10],⟨nu.1,atr,rfl⟩,?_⟩;repeat'((conv=>whnf);(first|apply And.intro|intro _))
    all_goals first|rfl|trivial|exact ah rfl|exact⟨rfl,rfl,rfl⟩|exact⟨rfl,rfl⟩|exact hfr.hd _ _ _ (by decide) (ah rfl) (ah rfl)|exact hfr.tl _ _ _ (by decide) (ah rfl) (ah rfl)|(rename_i r9 bx;revert r9;decide)
  rintro⟨A',aun⟩ ⟨alu,acz,h0⟩;dsimp only at alu acz h0;replace alu:=And.intro alu trivial;replace h0:=And.intro h0 trivial;repeat'((conv=>whnf);first|apply And.intro|exact bA (by subst_vars;assumption)|intro h9)
  all_goals(try(conv=>whnf))<;>(subst_vars;try first|(apply Tk.mk;kernel_rfl)|exact⟨ah rfl⟩|exact⟨rfl⟩|exact⟨trivial⟩|rfl|contradiction|(apply Ob.mk;(try simp only[ag,ak,aa.ae])<;>(try dsimp only)<;>omega))
  refine⟨(j+1,A',aun),[0,1,2,3,4,5,6,7,8,9,10],⟨⟨by dsimp only;omega,akD⟩,⟨alu.1,acz⟩,by dsimp only;rw[hsrc,hst,h0.1,List.append_assoc]⟩,?_,by show L.length+1-(j+1)<L.length+1-j;omega⟩
  repeat'((conv=>whnf);(first|apply And.intro|intro _))
  all_goals first|rfl|trivial|exact ah rfl|exact⟨rfl,rfl,rfl⟩|exact⟨rfl,rfl⟩|exact hfr.hd _ _ _ (by decide) (ah rfl) (ah rfl)|exact hfr.tl _ _ _ (by decide) (ah rfl) (ah rfl)|(rename_i r9 bx;revert r9;decide)
 have p0:decide ((j:Int)<=(L.length:Int)-((k:Int)-(n:Int)))=false:=decide_eq_false (by omega)
 have hK:=iB B akA.1 amy;rw[hsrc,ana (m:=m+1) (r:=L.length-j) (by omega),List.append_nil]at hK
 repeat'((conv=>whnf);first|apply And.intro|exact bA (by subst_vars;assumption)|intro h9)
 all_goals(try(conv=>whnf))<;>(subst_vars;try first|(apply Tk.mk;kernel_rfl)|exact⟨ah rfl⟩|exact⟨rfl⟩|exact⟨trivial⟩|rfl|contradiction|(apply Ob.mk;(try simp only[ag,ak,aa.ae])<;>(try dsimp only)<;>omega))
 all_goals try first|trivial
 all_goals exact hK
end
end Go.Proofs.Ytccnimhgjjnmoaa
end
