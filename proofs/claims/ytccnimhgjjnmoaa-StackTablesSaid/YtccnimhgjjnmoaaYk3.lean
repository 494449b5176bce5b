/-
  Texts of the claims: Yk3. No condition: lemmas and contracts.
-/
import Derived.Test.YtccnimhgjjnmoaaYk2
import Derived.Test.YtccnimhgjjnmoaaPl1
set_option linter.all false
set_option maxRecDepth 100000
set_option maxHeartbeats 40000000
section
namespace Go.Proofs.Ytccnimhgjjnmoaa
open Go Go.Sy Go.dg
variable {Γ:bn}
def axO (D:List Bk->List Int->List aa) (R:List Bk->List Int->cM):au:=.new fun args rg K=>match args with
 |[.a x0,.a x1]=>(match ac1 67 kK rg x0,ac1 3 kI rg x1 with|some (q0,L0),some (q1,L1)=>aBP false (q0++(q1++(D L0 L1))) (K (R L0 L1))|_,_=>False)
 |_=>False
theorem awJ {f:FuncId} {b:Body} {E:Env} {d:Nat} (hP:aL Try.prog Γ E) (hb:bQ Try.prog f b) {D:List Bk->List Int->List aa} {R:List Bk->List Int->cM}
 (H:∀ (L0:List Bk) (L1:List Int) (K:cM->Prop),bW (D L0 L1)->K (R L0 L1)->cQ E d b [.a (.sl 0 [] 0 L0.length),.a (.sl 1 [] 0 L1.length)] [.arr 67 kK L0 false false,.arr 3 kI L1 false false] (bu K)):au.Ok Try.prog Γ f (axO D R):=au.fM (d:=d) hP hb (by
 intro args rg K hF;split at hF;next x0 x1=>
  split at hF;next q0 L0 q1 L1 hx0 cO=>
   rw[aV,aH,aH]at hF;obtain⟨⟨dm,gk,hD⟩,hK⟩:=hF;obtain⟨e0,Vn⟩:=bP (by simp[kK]) hx0 dm
   obtain⟨e1,iO⟩:=bP (by simp[kI]) cO gk
   obtain⟨p0,r0⟩:=Vn [e0,e1] 0 2 rfl (by omega)
   obtain⟨p1,r1⟩:=iO [e0,e1] 1 2 rfl (by omega)
   refine⟨[e0,e1],[.a (.sl 0 [] 0 L0.length),.a (.sl 1 [] 0 L1.length)],[.arr 67 kK L0 false false,.arr 3 kI L1 false false],⟨⟨p0,p1,trivial⟩,fun r g hg=>?_⟩,bu K,H _ _ K hD hK,fun x st h=>h⟩
   match r,hg with
   |0,hg=>obtain rfl:=Option.some.inj hg;exact r0
   |1,hg=>obtain rfl:=Option.some.inj hg;exact r1
  next=>exact hF.elim
 next=>exact hF.elim)
def asi (D:List Bk->Int->Int->Int->List aa) (Rk:List Bk->Int->Int->Int->(cM->Prop)->Prop):au:=.new fun args rg K=>match args with
 |[.a x0,.agg [.v (.int .i64 n0),.v (.int .i64 n1),.v (.int .i64 n2)]]=>(match ac1 67 kK rg x0 with|some (q0,L0)=>aBP false (q0++(D L0 n0 n1 n2)) (Rk L0 n0 n1 n2 K)|_=>False)
 |_=>False
theorem avf {f:FuncId} {D:List Bk->Int->Int->Int->List aa} {R:List Bk->Int->Int->Int->cM} {Rk:List Bk->Int->Int->Int->(cM->Prop)->Prop} (h:au.Ok Try.prog Γ f (al5 D R)) (hk:∀ (L0:List Bk) (n0:Int) (n1:Int) (n2:Int) K,Rk L0 n0 n1 n2 K->K (R L0 n0 n1 n2)):au.Ok Try.prog Γ f (asi D Rk):=by
 intro args rg K hC;refine h args rg K ?_
 (try unfold asi at hC)
 (try unfold al5)
 (try dsimp only at hC ⊢)
 split at hC;next x0 n0 n1 n2=>
  split at hC;next q0 L0 hx0=>
   (try dsimp only)
   (try simp only[hx0])
   rw[aV]at hC ⊢;exact⟨hC.1,hk _ _ _ _ K hC.2⟩
  next=>exact hC.elim
 next=>exact hC.elim
attribute [local irreducible] ck gi wN sub e7 ta kG adp y4 aQ x6 Q2 alr
def pw (L:List Bk) (C:List Int):List Int:=C.map (fun i=>(gr L i).1)
theorem au9 (L:List Bk) {C:List Int} {i:Nat} (h:i<C.length):pw L (C.take (i+1))=pw L (C.take i)++[(gr L (iA C i)).1]:=by
 unfold pw;rw[map_take h,ala h]
theorem aq9 (L:List Bk) (C:List Int):(pw L C).length=C.length:=List.length_map _
attribute [local irreducible] pw
def are (L:List Bk) (C:List Int):Prop:=∀ i∈C,0<=i/\i<(L.length:Int)
instance (L:List Bk) (C:List Int):Decidable (are L C):=by unfold are;infer_instance
def ayq (L:List Bk) (C:List Int):cM:=⟨[.arr 3 kI (pw L C) true true],.a (.sl 0 [] 0 (pw L C).length)⟩
def apd:au:=axO (fun L C=>[(aa.of (C.length<=1000000)),(aa.of (are L C))]) ayq
theorem anb:au.Ok Try.prog Γ 56 apd:=awJ (d:=0) (aP aR.nil bq.nil false 0) (aj Try.func56 rfl rfl) (by
 intro L C K ⟨hC,hin,_⟩ hK;simp only[aa.ae]at hC hin;unfold ayq at hK;have h0:pw L (C.take 0)=[]:=by unfold pw;rfl
 have DG:∀ i,i<=C.length->(pw L (C.take i)).length=i:=fun i hi=>by rw[aq9,List.length_take,Nat.min_eq_left hi]
 repeat'((conv=>whnf);first|apply And.intro|exact bA (by subst_vars;assumption)|intro h9)
 all_goals(try(conv=>whnf))<;>(subst_vars;try first|(apply Tk.mk;kernel_rfl)|exact⟨ah rfl⟩|exact⟨rfl⟩|exact⟨trivial⟩|rfl|contradiction|(apply Ob.mk;(try simp only[ag,ak,aa.ae])<;>(try dsimp only)<;>omega))
 refine⟨Nat,fun i=>i<=C.length,fun i=>⟨aI 24 [0,5,8,9,10] [.a (.sl 0 [] 0 L.length),.a (.sl 2 [] 0 i),.a (.sl 1 [] 0 C.length),.a (vI C.length),.a (vI i)],[],[.arr 67 kK L false false,.arr 3 kI C false false,.arr 3 kI (pw L (C.take i)) true true]⟩,fun i=>C.length-i,0,[0,1,1000],Nat.zero_le _,?_,?_⟩
 ·repeat'((conv=>whnf)<;>first|apply And.intro|intro _|rfl|trivial|exact ah rfl|exact aS ‹_› rfl|exact aT ‹_› rfl|((repeat' first|rfl|constructor);done)|exact h0)
 rintro i hi;have hl:=DG i hi;by_cases hi1:i<C.length
 ·have p0:decide ((i:Int)<(C.length:Int))=true:=decide_eq_true (by omega)
  have hst:=au9 L hi1;have hci:=hin _ (List.getElem_mem hi1);rw[<-ala hi1]at hci;have cO:0+Int.toNat (iA C i)<L.length:=by omega
  repeat'((conv=>whnf);first|apply And.intro|exact bA (by subst_vars;assumption)|intro h9)
  all_goals(try(conv=>whnf))<;>(subst_vars;try first|(apply Tk.mk;kernel_rfl)|exact⟨ah rfl⟩|exact⟨rfl⟩|exact⟨trivial⟩|rfl|contradiction|(apply Ob.mk;(try simp only[ag,ak,aa.ae])<;>(try dsimp only)<;>omega))
  all_goals try first|exact⟨cO⟩|exact⟨show 0+i=(pw L (C.take i)).length by omega⟩|exact⟨show 0+Int.toNat (i:Int)<C.length by omega⟩|exact⟨show(i+1)*1<=1099511627776 by omega⟩
  refine⟨i+1,[0,1,2],hi1,?_,by show C.length-(i+1)<C.length-i;omega⟩
  repeat'((conv=>whnf)<;>first|apply And.intro|intro _|rfl|trivial|exact ah rfl|exact aS ‹_› rfl|exact aT ‹_› rfl|((repeat' first|rfl|constructor);done)|exact⟨rfl,rfl,hst.symm⟩)
 have p0:decide ((i:Int)<(C.length:Int))=false:=decide_eq_false (by omega)
 have ajV:=And.intro (show i=(pw L C).length by rw[aq9];omega) trivial
 have ht:pw L C=pw L (C.take i):=by rw[List.take_of_length_le (by omega)]
 rw[<-ajV.1,ht]at hK;repeat'((conv=>whnf);first|apply And.intro|exact bA (by subst_vars;assumption)|intro h9)
 all_goals(try(conv=>whnf))<;>(subst_vars;try first|(apply Tk.mk;kernel_rfl)|exact⟨ah rfl⟩|exact⟨rfl⟩|exact⟨trivial⟩|rfl|contradiction|(apply Ob.mk;(try simp only[ag,ak,aa.ae])<;>(try dsimp only)<;>omega))
 refine bu.base ⟨_,[2],hK,⟨rfl,rfl,by simp,trivial⟩,rfl,?_⟩
 repeat'((conv=>whnf)<;>first|apply And.intro|intro _|rfl|trivial))
theorem amE:∀ (r i u:Nat),∀ z∈idx r i u,(i:Int)<=z/\z<((i+r:Nat):Int)
 |0,_,_,z,h=>by cases h
 |r+1,i,u,z,h=>by
  rw[idx]at h;split at h
  ·rcases List.mem_cons.1 h with rfl|h
   ·omega
   ·have:=amE r (i+1) (u / 2) z h;omega
  ·have:=amE r (i+1) (u / 2) z h;omega
theorem atn {f lo hi:Int} {L:List Bk} {C:List Int} {n:Int} (h:x6 f lo hi L=some (C,n)):are L C/\C.length<=L.length:=by
 rw[amO]at h;cases hf:(AL L.length).find? (fun u=>aQ (wN f L u-f) lo hi)with
 |none=>rw[hf]at h;cases h
 |some u=>
  rw[hf]at h;have h:=(Prod.mk.inj (Option.some.inj h)).1;subst h;refine⟨fun z hz=>by have:=amE _ _ _ z hz;omega,by rw[alT];exact ajs _ _⟩
def aot:au:=asi (fun L l t f=>[apv L,(aa.of (0<=f/\f<=1000000)),(aa.of (0<=l/\l<=1152921504606846976)),(aa.of (0<=t/\t<=1152921504606846976))]) (fun L l t f K=>((x6 f (l-t) (l+t) L).isSome=false->K apk)/\((x6 f (l-t) (l+t) L).isSome=true->∀ C n,x6 f (l-t) (l+t) L=some (C,n)->K ⟨[.arr 3 kI C true true],.bF [.agg [.sl 0 [] 0 C.length,vI n],.a .tt]⟩))
theorem an3:au.Ok Try.prog Γ 55 aot:=avf arR (by
 intro L l t f K ⟨h1,h2⟩;unfold auY;cases hF:x6 f (l-t) (l+t) L with
 |none=>exact h1 (by rw[hF];rfl)
 |some x=>
  obtain⟨C,n⟩:=x;exact h2 (by rw[hF];rfl) C n hF)
def akH (e:Int):cM:=⟨[],.bF [.a (.v (.slice none 0 0)),.a (vI e)]⟩
def ayB (L:List Bk) (l t f:Int):cM:=match bf L l t f==0 with
 |false=>akH (bf L l t f)
 |true=>match x6 f (l-t) (l+t) L with
  |none=>akH 5
  |some (C,_)=>⟨[.arr 3 kI (pw L C) true true],.bF [.a (.sl 0 [] 0 (pw L C).length),.a (vI 0)]⟩
def axC:au:=al5 (fun L _ _ _=>[(aa.of (L.length<=1000000))]) ayB
noncomputable def ayX:List (Nat×au):=[(54,aBa),(55,aot),(56,apd)]
theorem auf:aR Try.prog Γ ayX:=(((aR.nil.cons (aj Try.func56 rfl rfl).fn anb).cons (aj Try.func55 rfl rfl).fn an3).cons (aj Try.func54 rfl rfl).fn fQ)
theorem asT:au.Ok Try.prog Γ 22 axC:=amN (d:=0) (aP auf bq.nil false 0) (aj Try.func22 rfl rfl) (by
 intro L l t f K ⟨hL,_⟩ hK;simp only[aa.ae]at hL;have hone:=akP L l t f;unfold ayB at hK;cases h0:bf L l t f==0
 ·rw[h0]at hK;dsimp only[akH]at hK;have e0:(lu L [(l,t,f)]!=0)=true:=by rw[hone];unfold bne;rw[h0];rfl
  rw[<-hone]at hK;repeat'((conv=>whnf);first|apply And.intro|exact bA (by subst_vars;assumption)|intro h9)
  all_goals(try(conv=>whnf))<;>(subst_vars;try first|(apply Tk.mk;kernel_rfl)|exact⟨ah rfl⟩|exact⟨rfl⟩|exact⟨trivial⟩|rfl|contradiction|(apply Ob.mk;(try simp only[ag,ak,aa.ae])<;>(try dsimp only)<;>omega))
  all_goals first
   |(refine bu.base ⟨_,[],hK,trivial,rfl,?_⟩;(repeat'((conv=>whnf);(first|apply And.intro|intro _)));all_goals first|rfl|trivial)
   |exact⟨hL⟩
 rw[h0]at hK;dsimp only at hK;have e0:(lu L [(l,t,f)]!=0)=false:=by rw[hone];unfold bne;rw[h0];rfl
 obtain⟨hB,hw⟩:=gg (eq_of_beq h0);obtain⟨hl,ht,hf⟩:=wE hw;have jJ:0<=l/\l<=1152921504606846976:=by omega
 have UW:0<=t/\t<=1152921504606846976:=by omega
 cases hF:x6 f (l-t) (l+t) L with
 |none=>
  rw[hF]at hK;dsimp only[akH]at hK;have hs:(x6 f (l-t) (l+t) L).isSome=false:=by rw[hF];rfl
  repeat'((conv=>whnf);first|apply And.intro|exact bA (by subst_vars;assumption)|intro h9)
  all_goals(try(conv=>whnf))<;>(subst_vars;try first|(apply Tk.mk;kernel_rfl)|exact⟨ah rfl⟩|exact⟨rfl⟩|exact⟨trivial⟩|rfl|contradiction|(apply Ob.mk;(try simp only[ag,ak,aa.ae])<;>(try dsimp only)<;>omega))
  all_goals first
   |(refine bu.base ⟨_,[],hK,trivial,rfl,?_⟩;(repeat'((conv=>whnf);(first|apply And.intro|intro _)));all_goals first|rfl|trivial)
   |exact⟨hL⟩
   |exact⟨hB⟩
 |some x=>
  obtain⟨C,n⟩:=x;rw[hF]at hK;dsimp only at hK;obtain⟨hin,aAa⟩:=atn hF;have ax1:C.length<=1000000:=by have:=hB.Kg;omega
  have hs:(x6 f (l-t) (l+t) L).isSome=true:=by rw[hF];rfl
  repeat'((conv=>whnf);first|apply And.intro|exact bA (by subst_vars;assumption)|intro h9)
  all_goals(try(conv=>whnf))<;>(subst_vars;try first|(apply Tk.mk;kernel_rfl)|exact⟨ah rfl⟩|exact⟨rfl⟩|exact⟨trivial⟩|rfl|contradiction|(apply Ob.mk;(try simp only[ag,ak,aa.ae])<;>(try dsimp only)<;>omega))
  all_goals try first|exact⟨hL⟩|exact⟨hB⟩
  all_goals obtain⟨rfl,rfl⟩:=Prod.mk.inj (Option.some.inj (hF.symm.trans ‹x6 f (l-t) (l+t) L=some _›))
  repeat'((conv=>whnf);first|apply And.intro|exact bA (by subst_vars;assumption)|intro h9)
  all_goals(try(conv=>whnf))<;>(subst_vars;try first|(apply Tk.mk;kernel_rfl)|exact⟨ah rfl⟩|exact⟨rfl⟩|exact⟨trivial⟩|rfl|contradiction|(apply Ob.mk;(try simp only[ag,ak,aa.ae])<;>(try dsimp only)<;>omega))
  all_goals try first
   |exact⟨hin⟩
   |exact⟨ax1⟩
   |(refine bu.base ⟨_,[5],hK,⟨rfl,rfl,by simp,trivial⟩,rfl,?_⟩;(repeat'((conv=>whnf);(first|apply And.intro|intro _)));all_goals first|rfl|trivial))
def aoh:au:=anQ (fun L _ _ _=>[(aa.of (L.length<=1000000))]) (fun L l t f=> .bF [.a (vI (if bf L l t f=0 then kG f (l-t+f) (l+t+f) L else 0)),.a (vI (bf L l t f))])
noncomputable def axl:List (Nat×au):=[(54,aBa),(57,alk)]
theorem asu:aR Try.prog Γ axl:=((aR.nil.cons (aj Try.func57 rfl rfl).fn akY).cons (aj Try.func54 rfl rfl).fn fQ)
theorem arN:au.Ok Try.prog Γ 23 aoh:=alq (d:=0) (aP asu bq.nil false 0) (aj Try.func23 rfl rfl) (fun _ _ _ _=>rfl) (by
 intro L l t f ⟨hL,_⟩;simp only[aa.ae]at hL;have hone:=akP L l t f;cases h0:bf L l t f==0
 ·have e0:(lu L [(l,t,f)]!=0)=true:=by rw[hone];unfold bne;rw[h0];rfl
  rw[if_neg (by simpa using h0)]
  repeat'((conv=>whnf);first|apply And.intro|exact bA (by subst_vars;assumption)|intro h9)
  all_goals(try(conv=>whnf))<;>(subst_vars;try first|(apply Tk.mk;kernel_rfl)|exact⟨ah rfl⟩|exact⟨rfl⟩|exact⟨trivial⟩|rfl|contradiction|(apply Ob.mk;(try simp only[ag,ak,aa.ae])<;>(try dsimp only)<;>omega))
  all_goals first|trivial|exact⟨hL⟩
 have e0:(lu L [(l,t,f)]!=0)=false:=by rw[hone];unfold bne;rw[h0];rfl
 have h1:=eq_of_beq h0;obtain⟨hB,hw⟩:=gg h1;obtain⟨hl,ht,hf⟩:=wE hw;have jJ:-1152921504606846976<=l/\l<=1152921504606846976:=by omega
 have UW:0<=t/\t<=1152921504606846976:=by omega
 rw[if_pos h1,h1];repeat'((conv=>whnf);first|apply And.intro|exact bA (by subst_vars;assumption)|intro h9)
 all_goals(try(conv=>whnf))<;>(subst_vars;try first|(apply Tk.mk;kernel_rfl)|exact⟨ah rfl⟩|exact⟨rfl⟩|exact⟨trivial⟩|rfl|contradiction|(apply Ob.mk;(try simp only[ag,ak,aa.ae])<;>(try dsimp only)<;>omega))
 all_goals first|trivial|exact⟨hL⟩|exact⟨hB⟩)
end Go.Proofs.Ytccnimhgjjnmoaa
end
section
namespace Go.Proofs.Ytccnimhgjjnmoaa
open Go Go.Sy Go.dg
variable {Γ:bn}
attribute [local irreducible] ck gi wN sub e7 ta kG adp aQ x5
abbrev aoH (L:List Bk) (k:Nat):Sl:=aI 42 [9] [.a (.p 1 [] 0 0)]
noncomputable abbrev aoG (fn:FuncId) (T:Array Value) (dd:Nat):Loop:=ac5 Try.f36 0 fn T dd
structure ary (tt:Tr) (fr:List Sl):Prop where
 hd:∀ is m n,(∀ r,r<10->rn is r=r)->10<=m->10<=n->wM is m n tt tt
 tl:∀ is m n,(∀ r,r<10->rn is r=r)->10<=m->10<=n->NU is m n fr fr
 km:∀ k,Tr.gY (Tm.mapA (At.kill true true 10)) tt k<->k tt
 kl:∀ k,fD (Sl.gY (At.kill true true 10)) fr k<->k fr
theorem ary.push {tn:Nat} {tt:Tr} {fr:List Sl} (h:ary tt fr) {s:Tr} (hs:∀ is m n,(∀ r,r<10->rn is r=r)->10<=m->10<=n->wM is m n s s) (hk:∀ k,Tr.gY (Tm.mapA (At.kill true true 10)) s k<->k s):ary s (⟨tn,tt⟩::fr):=
 ⟨hs,fun is m n h1 h2 h3=>⟨⟨rfl,h.hd is m n h1 h2 h3⟩,h.tl is m n h1 h2 h3⟩,hk,fun k=>(h.km _).trans (h.kl _)⟩
def ay8 (id:Nat):Option (Nat×OT):=match Nat.beq id 7 with|true=>some (14,(.take 0 (.take 1 (.take 2 (.take 3 (.take 4 (.take 5 (.take 6 (.take 7 (.take 8 (.take 9 (.take 10 (.take 11 (.take 12 (.take 13 .fin)))))))))))))))|false=>none
noncomputable def axn:List (Nat×au):=[(54,aBa),(67,gK),(69,aey),(70,adP)]
theorem awf:aR Try.prog Γ axn:=((((aR.nil.cons (aj Try.func70 rfl rfl).fn ad0).cons (aj Try.func69 rfl rfl).fn aez).cons (aj Try.func67 rfl rfl).fn fw).cons (aj Try.func54 rfl rfl).fn fQ)
noncomputable def avD:List (Nat×Body):=[(68,bo Try.f68),(97,bo Try.f97),(98,bo Try.f98)]
theorem auv:bq Try.prog avD:=(((bq.nil.cons (cg Try.func98 rfl rfl)).cons (cg Try.func97 rfl rfl)).cons (cg Try.func68 rfl rfl))
noncomputable def as8:Env:={jV.env axn avD false 0 with htr:=ay8}
theorem as9:aL Try.prog Γ as8:=(aP awf auv false 0).NA _
noncomputable def l9:Env:={as8 with cut:=fun t=>match Nat.beq t 2007 with|true=>true|false=>(match Nat.beq t 1002 with|true=>true|false=>Nat.beq t 3000)}
theorem auJ:aL Try.prog Γ l9:=as9.aBf _
section
variable (f:Int) (L:List Bk) (k l0:Nat) (fn:FuncId) (T:Array Value) (dd:Nat)
def anz (m:Nat) (cl:Cl):Prop:=∀ (n i:Nat) (zn zi s:Int) (A acc:List Int) (tn:Nat) (tt:Tr) (fr:List Sl) (Kc:Tm->St->Prop),
 zn=n->zi=i->n+m=k->i<=L.length->A.length=k->0<=s->s<=n*56294996342131->(acc++x5 f L m (L.length-i) i s).length<=2000000->ary tt fr->
 (∀ A',A'.length=k->A'.take n=A.take n->Kc (.a .tt) ⟨⟨tn,tt⟩,fr,[.arr 67 kK L false false,.box true [.sl 10 [] 0 ((acc++x5 f L m (L.length-i) i s)).length],.box true [.sl 0 [] 0 L.length],.box true [vI f],.box true [vI k],.lp l0 (aoH L k) (aoG fn T dd) .ready none,.box true [.yl 5],.arr 3 kI A' true true,.box true [.sl 7 [] 0 k],.box true [.fn 98 [4,6,8,3,2,9]],.arr 3 kI (acc++x5 f L m (L.length-i) i s) true true]⟩)->
 cl (bo Try.f98) [.a (vI zn),.a (vI zi),.a (vI s),.a (.p 4 [] 0 0),.a (.p 6 [] 0 0),.a (.p 8 [] 0 0),.a (.p 3 [] 0 0),.a (.p 2 [] 0 0),.a (.p 9 [] 0 0)] ⟨⟨tn,tt⟩,fr,[.arr 67 kK L false false,.box true [.sl 10 [] 0 (acc).length],.box true [.sl 0 [] 0 L.length],.box true [vI f],.box true [vI k],.lp l0 (aoH L k) (aoG fn T dd) .ready none,.box true [.yl 5],.arr 3 kI A true true,.box true [.sl 7 [] 0 k],.box true [.fn 98 [4,6,8,3,2,9]],.arr 3 kI acc true true]⟩ Kc
variable {f} {L} {k l0} {fn} {T} {dd}
theorem asa (hf:0<=f/\f<=1000000) (hk:k<=20) (e:Nat) (cl:Cl):
 anz f L k l0 fn T dd 0 (GG l9 (jD l9 cl (wF (MC l9 (e+1))) none)):=by
 intro n i zn zi s A acc tn tt fr Kc alw amD hn hi hA fK xX hacc hfr iB;have hkk:(zn==(k:Int))=true:=by rw[alw,show n=k by omega];exact beq_self_eq_true _
 have e0:x5 f L 0 (L.length-i) i s=[s-f]:=by unfold x5;rfl
 have hK:=iB A hA rfl;rw[e0]at hK hacc;have pT:s<=1125919926842620:=by omega
 have aoT:acc.length+1<=2000000:=by rw[List.length_append,List.length_singleton]at hacc;exact hacc
 have ZR:(acc++[s-f]).length=acc.length+1:=by rw[List.length_append,List.length_singleton]
 have hap:acc++[s-f]=acc++[s-f]:=rfl;rw[ZR]at hK;replace hA:=And.intro hA trivial;clear amD hn iB e0 hacc;repeat'((conv=>whnf);first|apply And.intro|exact bA (by subst_vars;assumption)|intro h9)
 all_goals(try(conv=>whnf))<;>(subst_vars;try first|(apply Tk.mk;kernel_rfl)|exact⟨ah rfl⟩|exact⟨rfl⟩|exact⟨trivial⟩|rfl|contradiction|(apply Ob.mk;(try simp only[ag,ak,aa.ae])<;>(try dsimp only)<;>omega))
 refine⟨Unit,fun _=>True,fun _=>⟨aI 55 [12] [.a .tt],⟨tn,tt⟩::fr,[.arr 67 kK L false false,.box true [.sl 10 [] 0 (acc.length+1)],.box true [.sl 0 [] 0 L.length],.box true [vI f],.box true [vI k],.lp l0 (aoH L k) (aoG fn T dd) .ready none,.box true [.yl 5],.arr 3 kI A true true,.box true [.sl 7 [] 0 k],.box true [.fn 98 [4,6,8,3,2,9]],.arr 3 kI (acc++[s-f]) true true]⟩,?_,?_⟩
 ·repeat'((conv=>whnf);first|apply And.intro|exact bA (by subst_vars;assumption)|intro h9)
  all_goals(try(conv=>whnf))<;>(subst_vars;try first|(apply Tk.mk;kernel_rfl)|exact⟨ah rfl⟩|exact⟨rfl⟩|exact⟨trivial⟩|rfl|contradiction|(apply Ob.mk;(try simp only[ag,ak,aa.ae])<;>(try dsimp only)<;>omega))
  all_goals try first|exact⟨Nat.zero_add _⟩|exact⟨show(acc.length+1)*1<=1099511627776 by omega⟩
  refine(hfr.km _).mpr ?_;repeat'((conv=>whnf);first|apply And.intro|exact bA (by subst_vars;assumption)|intro h9)
  all_goals(try(conv=>whnf))<;>(subst_vars;try first|(apply Tk.mk;kernel_rfl)|exact⟨ah rfl⟩|exact⟨rfl⟩|exact⟨trivial⟩|rfl|contradiction|(apply Ob.mk;(try simp only[ag,ak,aa.ae])<;>(try dsimp only)<;>omega))
  refine(hfr.kl _).mpr ?_;repeat'((conv=>whnf);first|apply And.intro|exact bA (by subst_vars;assumption)|intro h9)
  all_goals(try(conv=>whnf))<;>(subst_vars;try first|(apply Tk.mk;kernel_rfl)|exact⟨ah rfl⟩|exact⟨rfl⟩|exact⟨trivial⟩|rfl|contradiction|(apply Ob.mk;(try simp only[ag,ak,aa.ae])<;>(try dsimp only)<;>omega))
  refine⟨(),[0,1,2,3,4,5,6,7,8,9,10],trivial,?_⟩;repeat'((conv=>whnf);(first|apply And.intro|intro _))
  all_goals first|rfl|trivial|exact ah rfl|exact⟨rfl,rfl,rfl⟩|exact⟨rfl,rfl⟩|exact hfr.hd _ _ _ (by decide) (ah rfl) (ah rfl)|exact hfr.tl _ _ _ (by decide) (ah rfl) (ah rfl)|exact hA.1|exact hA.1.symm|exact ZR|exact ZR.symm|exact⟨rfl,rfl,hap⟩|(rename_i r9 bx;revert r9;decide)
 rintro _ _;repeat'((conv=>whnf);first|apply And.intro|exact bA (by subst_vars;assumption)|intro h9)
 all_goals(try(conv=>whnf))<;>(subst_vars;try first|(apply Tk.mk;kernel_rfl)|exact⟨ah rfl⟩|exact⟨rfl⟩|exact⟨trivial⟩|rfl|contradiction|(apply Ob.mk;(try simp only[ag,ak,aa.ae])<;>(try dsimp only)<;>omega))
 all_goals try first|trivial
 all_goals exact hK
theorem ar9 (hB:gb L) (hf:0<=f/\f<=1000000) (hk:k<=20) (m:Nat) (cl:Cl) (rd:Rd) (IH:anz f L k l0 fn T dd m cl):
 anz f L k l0 fn T dd (m+1) (GG l9 (jD l9 cl rd none)):=by
 intro n i zn zi s A acc tn tt fr Kc alw amD hn hi hA fK xX hacc hfr iB;have hN:=hB.Kg;obtain rfl:=alw;obtain rfl:=amD;have hkk:((n:Int)==(k:Int))=false:=beq_eq_false_iff_ne.2 (by omega)
 have hnk:n+m+1<=k/\k<=n+m+1:=by omega
 replace hA:=And.intro hA trivial;clear hn;repeat'((conv=>whnf);first|apply And.intro|exact bA (by subst_vars;assumption)|intro h9)
 all_goals(try(conv=>whnf))<;>(subst_vars;try first|(apply Tk.mk;kernel_rfl)|exact⟨ah rfl⟩|exact⟨rfl⟩|exact⟨trivial⟩|rfl|contradiction|(apply Ob.mk;(try simp only[ag,ak,aa.ae])<;>(try dsimp only)<;>omega))
 refine⟨Nat×List Int×List Int,fun x=>(i<=x.1/\x.1<=L.length)/\(x.2.1.length=k/\x.2.1.take n=A.take n)/\acc++x5 f L (m+1) (L.length-i) i s=x.2.2++x5 f L (m+1) (L.length-x.1) x.1 s,fun|(j,A,acc)=>⟨aI 55 [0,2,3,4,5,6,7,8,13] [.a (vI n),.a (vI s),.a (.p 4 [] 0 0),.a (.p 6 [] 0 0),.a (.p 8 [] 0 0),.a (.p 3 [] 0 0),.a (.p 2 [] 0 0),.a (.p 9 [] 0 0),.a (vI j)],⟨tn,tt⟩::fr,[.arr 67 kK L false false,.box true [.sl 10 [] 0 (acc).length],.box true [.sl 0 [] 0 L.length],.box true [vI f],.box true [vI k],.lp l0 (aoH L k) (aoG fn T dd) .ready none,.box true [.yl 5],.arr 3 kI A true true,.box true [.sl 7 [] 0 k],.box true [.fn 98 [4,6,8,3,2,9]],.arr 3 kI acc true true]⟩,fun x=>L.length+1-x.1,(i,A,acc),[0,1,2,3,4,5,6,7,8,9,10],⟨⟨Nat.le_refl _,hi⟩,⟨hA.1,rfl⟩,rfl⟩,?_,?_⟩
 ·repeat'((conv=>whnf);(first|apply And.intro|intro _))
  all_goals first|rfl|trivial|exact ah rfl|exact⟨rfl,rfl,rfl⟩|exact⟨rfl,rfl⟩|exact hfr.hd _ _ _ (by decide) (ah rfl) (ah rfl)|exact hfr.tl _ _ _ (by decide) (ah rfl) (ah rfl)|(rename_i r9 bx;revert r9;decide)
 rintro⟨j,B,alI⟩ ⟨⟨aoU,hj⟩,⟨akA,amy⟩,hsrc⟩;dsimp only at aoU hj akA amy hsrc;replace akA:=And.intro akA trivial;by_cases Ho:j+(m+1)<=L.length
 ·have p0:decide ((j:Int)<=(L.length:Int)-((k:Int)-(n:Int)))=true:=decide_eq_true (by omega)
  have akD:j<L.length:=by omega
  have hlen:=hB.len (show bk L j∈L by rw[akX akD];exact List.getElem_mem akD)
  rw[<-tb L j]at hlen;have jK:=And.intro (show(B.set (0+Int.toNat (n:Int)) (j:Int)).length=k by rw[List.length_set];exact akA.1) trivial
  have vg:(B.set (0+Int.toNat (n:Int)) (j:Int)).take (n+1)=A.take n++[(j:Int)]:=by
   rw[Nat.zero_add,Int.toNat_natCast,<-amy];exact take_set (by omega)
  have hidx:0+Int.toNat (n:Int)<B.length:=by omega
  have r1:ak .i64 (s+(gr L j).2):=by simp only[ak];omega
  have r2:ak .i64 (s+(gr L j).2+f):=by simp only[ak];omega
  have hst:=asN (f:=f) (L:=L) (m:=m) (s:=s) akD;rw[show bk L j=gr L j from(tb L j).symm]at hst;have api:(alI++x5 f L m (L.length-(j+1)) (j+1) (s+(gr L j).2+f)).length<=2000000:=by
   rw[hsrc,hst,<-List.append_assoc,List.length_append]at hacc;omega
  repeat'((conv=>whnf);first|apply And.intro|exact bA (by subst_vars;assumption)|intro h9)
  all_goals(try(conv=>whnf))<;>(subst_vars;try first|(apply Tk.mk;kernel_rfl)|exact⟨ah rfl⟩|exact⟨rfl⟩|exact⟨trivial⟩|rfl|contradiction|(apply Ob.mk;(try simp only[ag,ak,aa.ae])<;>(try dsimp only)<;>omega))
  all_goals try first|exact⟨hidx⟩
  refine⟨List Int×List Int,fun x=>x.1.length=k/\x.1.take n=A.take n/\x.2=alI++x5 f L m (L.length-(j+1)) (j+1) (s+(gr L j).2+f),fun|(A,acc)=>⟨aI 55 [0,2,3,4,5,6,7,8,13,54] [.a (vI n),.a (vI s),.a (.p 4 [] 0 0),.a (.p 6 [] 0 0),.a (.p 8 [] 0 0),.a (.p 3 [] 0 0),.a (.p 2 [] 0 0),.a (.p 9 [] 0 0),.a (vI j),.a .ff],⟨tn,tt⟩::fr,[.arr 67 kK L false false,.box true [.sl 10 [] 0 (acc).length],.box true [.sl 0 [] 0 L.length],.box true [vI f],.box true [vI k],.lp l0 (aoH L k) (aoG fn T dd) .ready none,.box true [.yl 5],.arr 3 kI A true true,.box true [.sl 7 [] 0 k],.box true [.fn 98 [4,6,8,3,2,9]],.arr 3 kI acc true true]⟩,?_,?_⟩
  ·repeat'((conv=>whnf);first|apply And.intro|exact bA (by subst_vars;assumption)|intro h9)
   all_goals(try(conv=>whnf))<;>(subst_vars;try first|(apply Tk.mk;kernel_rfl)|exact⟨ah rfl⟩|exact⟨rfl⟩|exact⟨trivial⟩|rfl|contradiction|(apply Ob.mk;(try simp only[ag,ak,aa.ae])<;>(try dsimp only)<;>omega))
   all_goals try first|exact⟨r1⟩|exact⟨r2⟩|exact⟨show 0+Int.toNat (j:Int)<L.length by omega⟩
   refine IH (n+1) (j+1) _ _ (s+(gr L j).2+f) _ alI _ _ _ _ rfl rfl (by omega) (by omega) jK.1 (by omega) (by omega) api (hfr.push ?_ ?_) ?_
   ·intro is m n h1 h2 h3;repeat'((conv=>whnf);(first|apply And.intro|intro _))
    all_goals first|rfl|trivial|omega|(rw[h1 _ (by omega)];done)|(rw[h1 _ (by omega)];omega)|(simp only[List.map_cons,List.map_nil];rw[h1 4 (by decide),h1 6 (by decide),h1 8 (by decide),h1 3 (by decide),h1 2 (by decide),h1 9 (by decide)];done)|(have h7:=(show ∀ r∈[4,6,8,3,2,9],r<10 by decide) _ ‹_›;first|omega|(rw[h1 _ h7];omega))
   ·intro k;exact Iff.rfl
   ·intro A' nu acz;replace acz:A'.take (n+1)=(B.set (0+Int.toNat (n:Int)) (j:Int)).take (n+1):=acz;rw[vg]at acz;have atr:A'.take n=A.take n:=anq (by omega) acz
    replace nu:=And.intro nu trivial;repeat'((conv=>whnf);first|apply And.intro|exact bA (by subst_vars;assumption)|intro h9)
    all_goals(try(conv=>whnf))<;>(subst_vars;try first|(apply Tk.mk;kernel_rfl)|exact⟨ah rfl⟩|exact⟨rfl⟩|exact⟨trivial⟩|rfl|contradiction|(apply Ob.mk;(try simp only[ag,ak,aa.ae])<;>(try dsimp only)<;>omega))
    refine⟨(A',alI++x5 f L m (L.length-(j+1)) (j+1) (s+(gr L j).2+f)),[0,1,2,3,4,5,6,7,8,9,10],⟨nu.1,atr,rfl⟩,?_⟩;repeat'((conv=>whnf);(first|apply And.intro|intro _))
    all_goals first|rfl|trivial|exact ah rfl|exact⟨rfl,rfl,rfl⟩|exact⟨rfl,rfl⟩|exact hfr.hd _ _ _ (by decide) (ah rfl) (ah rfl)|exact hfr.tl _ _ _ (by decide) (ah rfl) (ah rfl)|(rename_i r9 bx;revert r9;decide)
  rintro⟨A',aun⟩ ⟨alu,acz,h0⟩;dsimp only at alu acz h0;replace alu:=And.intro alu trivial;replace h0:=And.intro h0 trivial;repeat'((conv=>whnf);first|apply And.intro|exact bA (by subst_vars;assumption)|intro h9)
  all_goals(try(conv=>whnf))<;>(subst_vars;try first|(apply Tk.mk;kernel_rfl)|exact⟨ah rfl⟩|exact⟨rfl⟩|exact⟨trivial⟩|rfl|contradiction|(apply Ob.mk;(try simp only[ag,ak,aa.ae])<;>(try dsimp only)<;>omega))
  refine⟨(j+1,A',aun),[0,1,2,3,4,5,6,7,8,9,10],⟨⟨by dsimp only;omega,akD⟩,⟨alu.1,acz⟩,by dsimp only;rw[hsrc,hst,h0.1,List.append_assoc]⟩,?_,by show L.length+1-(j+1)<L.length+1-j;omega⟩
  repeat'((conv=>whnf);(first|apply And.intro|intro _))
  all_goals first|rfl|trivial|exact ah rfl|exact⟨rfl,rfl,rfl⟩|exact⟨rfl,rfl⟩|exact hfr.hd _ _ _ (by decide) (ah rfl) (ah rfl)|exact hfr.tl _ _ _ (by decide) (ah rfl) (ah rfl)|(rename_i r9 bx;revert r9;decide)
 have p0:decide ((j:Int)<=(L.length:Int)-((k:Int)-(n:Int)))=false:=decide_eq_false (by omega)
 have hK:=iB B akA.1 amy;rw[hsrc,ana (m:=m+1) (r:=L.length-j) (by omega),List.append_nil]at hK
 repeat'((conv=>whnf);first|apply And.intro|exact bA (by subst_vars;assumption)|intro h9)
 all_goals(try(conv=>whnf))<;>(subst_vars;try first|(apply Tk.mk;kernel_rfl)|exact⟨ah rfl⟩|exact⟨rfl⟩|exact⟨trivial⟩|rfl|contradiction|(apply Ob.mk;(try simp only[ag,ak,aa.ae])<;>(try dsimp only)<;>omega))
 all_goals try first|trivial
 all_goals exact hK
end
end Go.Proofs.Ytccnimhgjjnmoaa
end
section
namespace Go.Proofs.Ytccnimhgjjnmoaa
open Go Go.Sy Go.dg
variable {Γ:bn}
def apg (D:List Bk->Int->Int->List aa) (R:List Bk->Int->Int->cM):au:=.new fun args rg K=>match args with
 |[.a x0,.a (.v (.int .i64 n0)),.a (.v (.int .i64 n1))]=>(match ac1 67 kK rg x0 with|some (q0,L0)=>aBP false (q0++(D L0 n0 n1)) (K (R L0 n0 n1))|_=>False)
 |_=>False
theorem auR {f:FuncId} {b:Body} {E:Env} {d:Nat} (hP:aL Try.prog Γ E) (hb:bQ Try.prog f b) {D:List Bk->Int->Int->List aa} {R:List Bk->Int->Int->cM}
 (H:∀ (L0:List Bk) (n0:Int) (n1:Int) (K:cM->Prop),bW (D L0 n0 n1)->K (R L0 n0 n1)->cQ E d b [.a (.sl 0 [] 0 L0.length),.a (vI n0),.a (vI n1)] [.arr 67 kK L0 false false] (bu K)):au.Ok Try.prog Γ f (apg D R):=au.fM (d:=d) hP hb (by
 intro args rg K hF;split at hF;next x0 n0 n1=>
  split at hF;next q0 L0 hx0=>
   rw[aV,aH]at hF;obtain⟨⟨dm,hD⟩,hK⟩:=hF;obtain⟨e0,Vn⟩:=bP (by simp[kK]) hx0 dm
   obtain⟨p0,r0⟩:=Vn [e0] 0 1 rfl (by omega)
   refine⟨[e0],[.a (.sl 0 [] 0 L0.length),.a (vI n0),.a (vI n1)],[.arr 67 kK L0 false false],⟨⟨p0,rfl,rfl,trivial⟩,fun r g hg=>?_⟩,bu K,H _ _ _ K hD hK,fun x st h=>h⟩
   match r,hg with
   |0,hg=>obtain rfl:=Option.some.inj hg;exact r0
  next=>exact hF.elim
 next=>exact hF.elim)
attribute [local irreducible] ck gi wN sub e7 ta kG adp aQ x5 x4
theorem av6 {f:Int} {L:List Bk} {k l0:Nat} {fn:FuncId} {T:Array Value} {dd:Nat} (hB:gb L) (hf:0<=f/\f<=1000000) (hk:k<=20) (e:Nat):∀ m,anz f L k l0 fn T dd m (GG l9 (MC l9 (e+2+m) none))
 |0=>asa hf hk e _
 |m+1=>ar9 hB hf hk m _ _ (av6 hB hf hk e m)
def asK (f:Int) (L:List Bk) (k:Nat) (cl:Cl):Prop:=∀ (l0:Nat) (fn:FuncId) (T:Array Value) (dd:Nat) (tn:Nat) (tt:Tr) (fr:List Sl) (sn:Nat) (st:Tr) (Kc:Tm->St->Prop),
 (∀ is m n,(∀ r,r<5->rn is r=r)->5<=m->5<=n->wM is m n tt tt)->(∀ is m n,(∀ r,r<5->rn is r=r)->5<=m->5<=n->NU is m n fr fr)->
 (∀ k,Tr.gY (Tm.mapA (At.kill true true 10)) tt k<->k tt)->(∀ k,fD (Sl.gY (At.kill true true 10)) fr k<->k fr)->sn=42->
 (∀ is m n,(∀ r,r<5->rn is r=r)->5<=m->5<=n->wM is m n st (aoH L k).t)->
 (∀ A',A'.length=k->Kc (.bF []) ⟨⟨tn,tt⟩,fr,[.arr 67 kK L false false,.box true [.sl 10 [] 0 ((x4 f L k)).length],.box true [.sl 0 [] 0 L.length],.box true [vI f],.box true [vI k],.lp l0 (aoH L k) (aoG fn T dd) .ready none,.box true [.yl 5],.arr 3 kI A' true true,.box true [.sl 7 [] 0 k],.box true [.fn 98 [4,6,8,3,2,9]],.arr 3 kI (x4 f L k) true true]⟩)->
 cl (bo Try.f97) [.a (.yl 5),.a (.p 4 [] 0 0),.a (.p 3 [] 0 0),.a (.p 2 [] 0 0)] ⟨⟨tn,tt⟩,fr,[.arr 67 kK L false false,.box true [.v (.slice none 0 0)],.box true [.sl 0 [] 0 L.length],.box true [vI f],.box true [vI k],.lp l0 ⟨sn,st⟩ (aoG fn T dd) .ready none]⟩ Kc
theorem ayH {f:Int} {L:List Bk} {k:Nat} (cB:1<=k) (hk:k<=20) (hN:L.length<=20) (cl:Cl) (rd:Rd) (hS:∀ (l0:Nat) (fn:FuncId) (T:Array Value) (dd:Nat),anz f L k l0 fn T dd k cl):asK f L k (GG l9 (jD l9 cl rd none)):=by
 intro l0 fn T dd tn tt fr sn st Kc hd tl km kl PS hs iB;have p1:decide ((k:Int)>=1)=true:=decide_eq_true (by omega)
 have att:=And.intro (show(List.replicate k (0:Int)).length=k from List.length_replicate) trivial;have Np:(([]:List Int)++x5 f L k (L.length-0) 0 0).length<=2000000:=by
  rw[List.nil_append];show(x5 f L k L.length 0 0).length<=2000000;rw[amL k L.length 0 0 (by omega),List.length_map]
  have h1:=anu k L.length;have h2:=akO hN;omega
 subst PS;repeat'((conv=>whnf);first|apply And.intro|exact bA (by subst_vars;assumption)|intro h9)
 all_goals(try(conv=>whnf))<;>(subst_vars;try first|(apply Tk.mk;kernel_rfl)|exact⟨ah rfl⟩|exact⟨rfl⟩|exact⟨trivial⟩|rfl|contradiction|(apply Ob.mk;(try simp only[ag,ak,aa.ae])<;>(try dsimp only)<;>omega))
 all_goals try first|exact⟨show(k:Int)*1<=16777216 by omega⟩
 refine⟨Unit,fun _=>True,fun _=>⟨aI 14 [1,2,3,4,5,6] [.a (.p 4 [] 0 0),.a (.p 3 [] 0 0),.a (.p 2 [] 0 0),.a (.p 6 [] 0 0),.a (.p 8 [] 0 0),.a (.p 9 [] 0 0)],⟨tn,tt⟩::fr,[.arr 67 kK L false false,.box true [.sl 10 [] 0 0],.box true [.sl 0 [] 0 L.length],.box true [vI f],.box true [vI k],.lp l0 (aoH L k) (aoG fn T dd) .ready none,.box true [.yl 5],.arr 3 kI (List.replicate k (0:Int)) true true,.box true [.sl 7 [] 0 k],.box true [.any],.arr 3 kI [] true true]⟩,?_,?_⟩
 ·repeat'((conv=>whnf);first|apply And.intro|exact bA (by subst_vars;assumption)|intro h9)
  all_goals(try(conv=>whnf))<;>(subst_vars;try first|(apply Tk.mk;kernel_rfl)|exact⟨ah rfl⟩|exact⟨rfl⟩|exact⟨trivial⟩|rfl|contradiction|(apply Ob.mk;(try simp only[ag,ak,aa.ae])<;>(try dsimp only)<;>omega))
  refine⟨(),[0,1,2,3,4,5,6,7,8,9,1000],trivial,?_⟩;repeat'((conv=>whnf);(first|apply And.intro|intro _))
  all_goals first|rfl|trivial|exact ah rfl|exact⟨rfl,rfl,rfl⟩|exact⟨rfl,rfl⟩|exact hs _ _ _ (by decide) (ah rfl) (ah rfl)|exact hd _ _ _ (by decide) (ah rfl) (ah rfl)|exact tl _ _ _ (by decide) (ah rfl) (ah rfl)|(rename_i r9 bx;revert r9;decide)
 rintro _ _;repeat'((conv=>whnf);first|apply And.intro|exact bA (by subst_vars;assumption)|intro h9)
 all_goals(try(conv=>whnf))<;>(subst_vars;try first|(apply Tk.mk;kernel_rfl)|exact⟨ah rfl⟩|exact⟨rfl⟩|exact⟨trivial⟩|rfl|contradiction|(apply Ob.mk;(try simp only[ag,ak,aa.ae])<;>(try dsimp only)<;>omega))
 refine hS l0 fn T dd 0 0 _ _ _ _ [] _ _ _ _ rfl rfl (by omega) (by omega) att.1 (by omega) (by omega) Np ⟨?_,?_,?_,?_⟩ ?_
 ·intro is m n h1 h2 h3;repeat'((conv=>whnf);(first|apply And.intro|intro _))
  all_goals first|rfl|trivial|omega|(rw[h1 _ (by omega)];done)|(rw[h1 _ (by omega)];omega)|(simp only[List.map_cons,List.map_nil];rw[h1 4 (by decide),h1 6 (by decide),h1 8 (by decide),h1 3 (by decide),h1 2 (by decide),h1 9 (by decide)];done)|(have h7:=(show ∀ r∈[4,6,8,3,2,9],r<10 by decide) _ ‹_›;first|omega|(rw[h1 _ h7];omega))
 ·intro is m n h1 h2 h3;exact⟨⟨rfl,hd is m n (fun r hr=>h1 r (by omega)) (by omega) (by omega)⟩,tl is m n (fun r hr=>h1 r (by omega)) (by omega) (by omega)⟩
 ·intro k;exact Iff.rfl
 ·intro k;exact(km _).trans (kl _)
 ·intro A' nu _;replace nu:=And.intro nu trivial;have hK:=iB A' nu.1;unfold x4 at hK;repeat'((conv=>whnf);first|apply And.intro|exact bA (by subst_vars;assumption)|intro h9)
  all_goals(try(conv=>whnf))<;>(subst_vars;try first|(apply Tk.mk;kernel_rfl)|exact⟨ah rfl⟩|exact⟨rfl⟩|exact⟨trivial⟩|rfl|contradiction|(apply Ob.mk;(try simp only[ag,ak,aa.ae])<;>(try dsimp only)<;>omega))
  all_goals try first|trivial
  all_goals exact hK
theorem aoo {E:Env} {n:Nat} {b:Body} {args:List Tm} {rg:List az} {K:Tm->St->Prop}
 (h:∀ K':Ex->St->Prop,(∀ e an,(match e with
   | .exit _=>False
   |_=>(match nl E an b.rs with
    |some (q,x)=>aBP E.aN q (K x an)
    |none=>False))->K' e an)->qJ b.n args (fun s=>fD ou rg (fun rg=>jD E (GG E (MC E n none)) (wF (MC E n)) none b.code ⟨s,[],rg⟩ K'))):cQ E (n+1) b args rg K:=h _ (fun _ _ h=>h)
noncomputable def azH:Code:=lc (rc (rc (rc (rc (bo Try.f36).code))))
def asM (cl:Cl):Prop:=∀ (f:Int) (L:List Bk) (k:Int) (tm:Sl) (fr:List Sl) (g0 g1:az) (Kc:Tm->St->Prop),
 Kc (.a (.fn 97 [4,3,2])) ⟨tm,fr,[g0,g1,.box true [.sl 0 [] 0 L.length],.box true [vI f],.box true [vI k]]⟩->
 cl (bo Try.f68) [.a (.sl 0 [] 0 L.length),.a (vI f),.a (vI k)] ⟨tm,fr,[g0,g1]⟩ Kc
theorem atP {cl:Cl} {rd:Rd}:asM (GG l9 (jD l9 cl rd none)):=by
 intro f L k tm fr g0 g1 Kc hK;repeat'((conv=>whnf);first|apply And.intro|exact bA (by subst_vars;assumption)|intro h9)
 all_goals(try(conv=>whnf))<;>(subst_vars;try first|(apply Tk.mk;kernel_rfl)|exact⟨ah rfl⟩|exact⟨rfl⟩|exact⟨trivial⟩|rfl|contradiction|(apply Ob.mk;(try simp only[ag,ak,aa.ae])<;>(try dsimp only)<;>omega))
 all_goals try first|trivial
 all_goals exact hK
def ak8 (e:Int):cM:=⟨[],.bF [.a (.v (.slice none 0 0)),.a (vI e)]⟩
def y7 (f:Int) (L:List Bk) (k:Nat):List Int:=Lib.compact (adp (x4 f L k))
def avh (L:List Bk) (f k:Int):cM:=match (ck L).1==0,aQ f 0 1000000&&aQ k 1 20 with
 |false,_=>ak8 (ck L).1
 |true,false=>ak8 1
 |true,true=>match decide ((y7 f L k.toNat).length<=1000)with
  |true=>⟨[.arr 3 kI (y7 f L k.toNat) true true],.bF [.a (.sl 0 [] 0 (y7 f L k.toNat).length),.a (vI 0)]⟩
  |false=>ak8 2
theorem awn (L:List Bk):lu L []=(ck L).1:=by
 unfold lu;by_cases h:(ck L).1=0
 ·rw[if_pos h,h];rfl
 ·rw[if_neg h]
def asS:au:=apg (fun L _ _=>[(aa.of (L.length<=1000000))]) avh
theorem apy:au.Ok Try.prog Γ 36 asS:=auR (d:=26+1) auJ (aj Try.func36 rfl rfl) (by
 intro L f k K ⟨hL,_⟩ hK;simp only[aa.ae]at hL;refine aoo (n:=26) ?_;intro K' anV;have hQ:=atP (cl:=GG l9 (MC l9 25 none)) (rd:=wF (MC l9 25));replace hQ:asM (GG l9 (MC l9 26 none)):=hQ;have hP:∀ (hB:gb L) (hf:0<=f/\f<=1000000) (k:Nat),1<=k->k<=20->asK f L k (GG l9 (MC l9 26 none)):=fun hB hf k h1 h2=>ayH h1 h2 hB.Kg (GG l9 (MC l9 25 none)) (wF (MC l9 25)) (fun l0 fn T dd=>by
  have:=av6 (f:=f) (L:=L) (k:=k) (l0:=l0) (fn:=fn) (T:=T) (dd:=dd) hB hf h2 (23-k) k;rwa[show 23-k+2+k=25 by omega]at this)
 generalize GG l9 (MC l9 26 none)=cl at*;generalize wF (MC l9 26)=rd;have hone:=awn L;unfold avh at hK;repeat'((conv=>whnf);first|apply And.intro|exact bA (by subst_vars;assumption)|intro h9)
 all_goals(try(conv=>whnf))<;>(subst_vars;try first|(apply Tk.mk;kernel_rfl)|exact⟨ah rfl⟩|exact⟨rfl⟩|exact⟨trivial⟩|rfl|contradiction|(apply Ob.mk;(try simp only[ag,ak,aa.ae])<;>(try dsimp only)<;>omega))
 all_goals try first|exact⟨hL⟩
 refine⟨Unit,fun _=>True,fun _=>⟨aI 42 [0,1,2,8,14] [.a (.sl 0 [] 0 L.length),.a (vI f),.a (vI k),.a (vI (lu L [])),.a (.v (.bool (lu L []!=0)))],[],[.arr 67 kK L false false]⟩,?_,?_⟩
 ·repeat'((conv=>whnf);first|apply And.intro|exact bA (by subst_vars;assumption)|intro h9)
  all_goals(try(conv=>whnf))<;>(subst_vars;try first|(apply Tk.mk;kernel_rfl)|exact⟨ah rfl⟩|exact⟨rfl⟩|exact⟨trivial⟩|rfl|contradiction|(apply Ob.mk;(try simp only[ag,ak,aa.ae])<;>(try dsimp only)<;>omega))
  refine⟨(),[0],trivial,?_⟩;repeat'((conv=>whnf)<;>first|apply And.intro|intro _|rfl|trivial|exact ah rfl|exact aS ‹_› rfl|exact aT ‹_› rfl|((repeat' first|rfl|constructor);done))
 rintro _ _;cases h0:(ck L).1==0
 ·rw[h0]at hK;dsimp only[ak8]at hK;have e0:(lu L []!=0)=true:=by rw[hone];unfold bne;rw[h0];rfl
  rw[<-hone]at hK;repeat'((conv=>whnf);first|apply And.intro|exact bA (by subst_vars;assumption)|intro h9)
  all_goals(try(conv=>whnf))<;>(subst_vars;try first|(apply Tk.mk;kernel_rfl)|exact⟨ah rfl⟩|exact⟨rfl⟩|exact⟨trivial⟩|rfl|contradiction|(apply Ob.mk;(try simp only[ag,ak,aa.ae])<;>(try dsimp only)<;>omega))
  refine anV _ _ ?_;repeat'((conv=>whnf);first|apply And.intro|exact bA (by subst_vars;assumption)|intro h9)
  all_goals(try(conv=>whnf))<;>(subst_vars;try first|(apply Tk.mk;kernel_rfl)|exact⟨ah rfl⟩|exact⟨rfl⟩|exact⟨trivial⟩|rfl|contradiction|(apply Ob.mk;(try simp only[ag,ak,aa.ae])<;>(try dsimp only)<;>omega))
  all_goals first
   |(refine bu.base ⟨_,[],hK,trivial,rfl,?_⟩;(repeat'((conv=>whnf);(first|apply And.intro|intro _)));all_goals first|rfl|trivial)
 rw[h0]at hK;have e0:(lu L []!=0)=false:=by rw[hone];unfold bne;rw[h0];rfl
 have hB:=amq (eq_of_beq h0);cases w1:aQ f 0 1000000
 ·have f1:(!aQ f 0 1000000)=true:=by rw[w1];rfl
  rw[w1]at hK;rw[Bool.false_and]at hK;dsimp only[ak8]at hK;repeat'((conv=>whnf);first|apply And.intro|exact bA (by subst_vars;assumption)|intro h9)
  all_goals(try(conv=>whnf))<;>(subst_vars;try first|(apply Tk.mk;kernel_rfl)|exact⟨ah rfl⟩|exact⟨rfl⟩|exact⟨trivial⟩|rfl|contradiction|(apply Ob.mk;(try simp only[ag,ak,aa.ae])<;>(try dsimp only)<;>omega))
  refine anV _ _ ?_;repeat'((conv=>whnf);first|apply And.intro|exact bA (by subst_vars;assumption)|intro h9)
  all_goals(try(conv=>whnf))<;>(subst_vars;try first|(apply Tk.mk;kernel_rfl)|exact⟨ah rfl⟩|exact⟨rfl⟩|exact⟨trivial⟩|rfl|contradiction|(apply Ob.mk;(try simp only[ag,ak,aa.ae])<;>(try dsimp only)<;>omega))
  all_goals first
   |(refine bu.base ⟨_,[],hK,trivial,rfl,?_⟩;(repeat'((conv=>whnf);(first|apply And.intro|intro _)));all_goals first|rfl|trivial)
 have f1:(!aQ f 0 1000000)=false:=by rw[w1];rfl
 cases w2:aQ k 1 20
 ·have f2:(!aQ k 1 20)=true:=by rw[w2];rfl
  rw[w1,w2]at hK;rw[Bool.true_and]at hK;dsimp only[ak8]at hK;repeat'((conv=>whnf);first|apply And.intro|exact bA (by subst_vars;assumption)|intro h9)
  all_goals(try(conv=>whnf))<;>(subst_vars;try first|(apply Tk.mk;kernel_rfl)|exact⟨ah rfl⟩|exact⟨rfl⟩|exact⟨trivial⟩|rfl|contradiction|(apply Ob.mk;(try simp only[ag,ak,aa.ae])<;>(try dsimp only)<;>omega))
  refine anV _ _ ?_;repeat'((conv=>whnf);first|apply And.intro|exact bA (by subst_vars;assumption)|intro h9)
  all_goals(try(conv=>whnf))<;>(subst_vars;try first|(apply Tk.mk;kernel_rfl)|exact⟨ah rfl⟩|exact⟨rfl⟩|exact⟨trivial⟩|rfl|contradiction|(apply Ob.mk;(try simp only[ag,ak,aa.ae])<;>(try dsimp only)<;>omega))
  all_goals first
   |(refine bu.base ⟨_,[],hK,trivial,rfl,?_⟩;(repeat'((conv=>whnf);(first|apply And.intro|intro _)));all_goals first|rfl|trivial)
 have f2:(!aQ k 1 20)=false:=by rw[w2];rfl
 have hf:=akk.1 w1;have hk:=akk.1 w2;rw[w1,w2]at hK;rw[Bool.true_and]at hK;obtain⟨k,rfl⟩:∃ m:Nat,k=(m:Int):=⟨k.toNat,by omega⟩
 rw[Int.toNat_natCast]at hK;replace hP:=hP hB hf;repeat'((conv=>whnf);first|apply And.intro|exact bA (by subst_vars;assumption)|intro h9)
 all_goals(try(conv=>whnf))<;>(subst_vars;try first|(apply Tk.mk;kernel_rfl)|exact⟨ah rfl⟩|exact⟨rfl⟩|exact⟨trivial⟩|rfl|contradiction|(apply Ob.mk;(try simp only[ag,ak,aa.ae])<;>(try dsimp only)<;>omega))
 refine⟨Unit,fun _=>True,fun _=>⟨aI 42 [9] [.a (.p 1 [] 0 0)],[],[.arr 67 kK L false false,.box true [.sl 2 [] 0 (x4 f L k).length],.arr 3 kI (x4 f L k) true true]⟩,?_,?_⟩
 ·refine aqa ?_;intro an K3 hst amz;show jD l9 cl rd none (.seq (lc azH) (rc azH)) an K3;refine akL (E:=l9) (cl:=cl) (rd:=rd) (rn:=none) ?_ ?_
  ·rfl
  intro K1 am3 _;subst hst;repeat'((conv=>whnf);first|apply And.intro|exact bA (by subst_vars;assumption)|intro h9)
  all_goals(try(conv=>whnf))<;>(subst_vars;try first|(apply Tk.mk;kernel_rfl)|exact⟨ah rfl⟩|exact⟨rfl⟩|exact⟨trivial⟩|rfl|contradiction|(apply Ob.mk;(try simp only[ag,ak,aa.ae])<;>(try dsimp only)<;>omega))
  refine hQ f L k _ _ _ _ _ ?_;repeat'((conv=>whnf);first|apply And.intro|exact bA (by subst_vars;assumption)|intro h9)
  all_goals(try(conv=>whnf))<;>(subst_vars;try first|(apply Tk.mk;kernel_rfl)|exact⟨ah rfl⟩|exact⟨rfl⟩|exact⟨trivial⟩|rfl|contradiction|(apply Ob.mk;(try simp only[ag,ak,aa.ae])<;>(try dsimp only)<;>omega))
  refine am3 _ ?_;repeat'((conv=>whnf);first|apply And.intro|exact bA (by subst_vars;assumption)|intro h9)
  all_goals(try(conv=>whnf))<;>(subst_vars;try first|(apply Tk.mk;kernel_rfl)|exact⟨ah rfl⟩|exact⟨rfl⟩|exact⟨trivial⟩|rfl|contradiction|(apply Ob.mk;(try simp only[ag,ak,aa.ae])<;>(try dsimp only)<;>omega))
  all_goals try first|trivial
  rename_i l0 fn T;rename Nat=>dd
  refine hP k (by omega) (by omega) l0 fn T dd _ _ _ _ _ _ ?_ ?_ ?_ ?_ rfl ?_ ?_
  ·intro is m n h1 h2 h3;repeat'((conv=>whnf);(first|apply And.intro|intro _))
   all_goals first|rfl|trivial|omega|(rw[h1 _ (by omega)];done)|(rw[h1 _ (by omega)];omega)|(simp only[List.map_cons,List.map_nil];rw[h1 4 (by decide),h1 3 (by decide),h1 2 (by decide)];done)|(have h7:=(show ∀ r∈[4,3,2],r<5 by decide) _ ‹_›;first|omega|(rw[h1 _ h7];omega))
  ·intro is m n h1 h2 h3;repeat'((conv=>whnf);(first|apply And.intro|intro _))
   all_goals first|rfl|trivial|omega|(rw[h1 _ (by omega)];done)|(rw[h1 _ (by omega)];omega)|(simp only[List.map_cons,List.map_nil];rw[h1 4 (by decide),h1 3 (by decide),h1 2 (by decide)];done)|(have h7:=(show ∀ r∈[4,3,2],r<5 by decide) _ ‹_›;first|omega|(rw[h1 _ h7];omega))
  ·intro k;exact Iff.rfl
  ·intro k;exact Iff.rfl
  ·intro is m n h1 h2 h3;repeat'((conv=>whnf);(first|apply And.intro|intro _))
   all_goals first|rfl|trivial|omega|(rw[h1 _ (by omega)];done)|(rw[h1 _ (by omega)];omega)|(simp only[List.map_cons,List.map_nil];rw[h1 4 (by decide),h1 3 (by decide),h1 2 (by decide)];done)|(have h7:=(show ∀ r∈[4,3,2],r<5 by decide) _ ‹_›;first|omega|(rw[h1 _ h7];omega))
  ·intro A' nu;replace nu:=And.intro nu trivial;repeat'((conv=>whnf);first|apply And.intro|exact bA (by subst_vars;assumption)|intro h9)
   all_goals(try(conv=>whnf))<;>(subst_vars;try first|(apply Tk.mk;kernel_rfl)|exact⟨ah rfl⟩|exact⟨rfl⟩|exact⟨trivial⟩|rfl|contradiction|(apply Ob.mk;(try simp only[ag,ak,aa.ae])<;>(try dsimp only)<;>omega))
   refine amz _ _ ?_;refine⟨(),[0,1,10],trivial,?_⟩;repeat'((conv=>whnf)<;>first|apply And.intro|intro _|rfl|trivial|exact ah rfl|exact aS ‹_› rfl|exact aT ‹_› rfl|((repeat' first|rfl|constructor);done))
 rintro _ _;have dZ:=adO (x4 f L k);have AF:=afl (adp (x4 f L k));have nv:(x4 f L k).length<=1048576:=by
  rw[ap6,List.length_map];have h1:=anu k L.length;have h2:=akO hB.Kg;omega
 by_cases h3:(y7 f L k).length<=1000
 ·have p3:decide (((Lib.compact (adp (x4 f L k))).length:Int)>1000)=false:=decide_eq_false (by unfold y7 at h3;omega)
  rw[decide_eq_true h3]at hK;dsimp only[y7]at hK;repeat'((conv=>whnf);first|apply And.intro|exact bA (by subst_vars;assumption)|intro h9)
  all_goals(try(conv=>whnf))<;>(subst_vars;try first|(apply Tk.mk;kernel_rfl)|exact⟨ah rfl⟩|exact⟨rfl⟩|exact⟨trivial⟩|rfl|contradiction|(apply Ob.mk;(try simp only[ag,ak,aa.ae])<;>(try dsimp only)<;>omega))
  all_goals try first|exact⟨⟨rfl,show(x4 f L k).length<=1500000 by omega⟩⟩
  refine anV _ _ ?_;repeat'((conv=>whnf);first|apply And.intro|exact bA (by subst_vars;assumption)|intro h9)
  all_goals(try(conv=>whnf))<;>(subst_vars;try first|(apply Tk.mk;kernel_rfl)|exact⟨ah rfl⟩|exact⟨rfl⟩|exact⟨trivial⟩|rfl|contradiction|(apply Ob.mk;(try simp only[ag,ak,aa.ae])<;>(try dsimp only)<;>omega))
  all_goals try first
   |(refine bu.base ⟨_,[3],hK,⟨rfl,rfl,by simp,trivial⟩,rfl,?_⟩;(repeat'((conv=>whnf);(first|apply And.intro|intro _)));all_goals first|rfl|trivial)
 have p3:decide (((Lib.compact (adp (x4 f L k))).length:Int)>1000)=true:=decide_eq_true (by unfold y7 at h3;omega)
 rw[decide_eq_false h3]at hK;dsimp only[ak8]at hK;repeat'((conv=>whnf);first|apply And.intro|exact bA (by subst_vars;assumption)|intro h9)
 all_goals(try(conv=>whnf))<;>(subst_vars;try first|(apply Tk.mk;kernel_rfl)|exact⟨ah rfl⟩|exact⟨rfl⟩|exact⟨trivial⟩|rfl|contradiction|(apply Ob.mk;(try simp only[ag,ak,aa.ae])<;>(try dsimp only)<;>omega))
 all_goals try first|exact⟨⟨rfl,show(x4 f L k).length<=1500000 by omega⟩⟩
 refine anV _ _ ?_;repeat'((conv=>whnf);first|apply And.intro|exact bA (by subst_vars;assumption)|intro h9)
 all_goals(try(conv=>whnf))<;>(subst_vars;try first|(apply Tk.mk;kernel_rfl)|exact⟨ah rfl⟩|exact⟨rfl⟩|exact⟨trivial⟩|rfl|contradiction|(apply Ob.mk;(try simp only[ag,ak,aa.ae])<;>(try dsimp only)<;>omega))
 all_goals try first
  |(refine bu.base ⟨_,[],hK,trivial,rfl,?_⟩;(repeat'((conv=>whnf);(first|apply And.intro|intro _)));all_goals first|rfl|trivial))
end Go.Proofs.Ytccnimhgjjnmoaa
end
section
namespace Go.Proofs.Ytccnimhgjjnmoaa
open Go Go.Sy Go.dg
variable {Γ:bn}
def axW (D:List Int->List Int->List aa) (F:List Int->List Int->Tm):au:=.fn fun args rg=>match args with
 |[.agg [],.a x0,.a x1]=>(match ac1 3 kI rg x0,ac1 3 kI rg x1 with|some (q0,L0),some (q1,L1)=>some (q0++(q1++(D L0 L1)),F L0 L1)|_,_=>none)
 |_=>none
theorem awO {f:FuncId} {b:Body} {E:Env} {d:Nat} (hP:aL Try.prog Γ E) (hb:bQ Try.prog f b) {D:List Int->List Int->List aa} {F:List Int->List Int->Tm} (hp:∀ (L0:List Int) (L1:List Int),(F L0 L1).plain=true)
 (H:∀ (L0:List Int) (L1:List Int),bW (D L0 L1)->cQ E d b [.agg [],.a (.sl 0 [] 0 L0.length),.a (.sl 1 [] 0 L1.length)] [.arr 3 kI L0 false false,.arr 3 kI L1 false false] (fun x _=>iL x (F L0 L1))):au.Ok Try.prog Γ f (axW D F):=au.aBp (d:=d) hP hb (by
 intro args rg q t hF hq;split at hF;next x0 x1=>
  split at hF;next q0 L0 q1 L1 hx0 cO=>
   obtain⟨rfl,rfl⟩:=Prod.mk.inj (Option.some.inj hF);clear hF;rw[aH,aH]at hq;obtain⟨dm,gk,hD⟩:=hq;obtain⟨e0,Vn⟩:=bP (by simp[kI]) hx0 dm
   obtain⟨e1,iO⟩:=bP (by simp[kI]) cO gk
   obtain⟨p0,r0⟩:=Vn [e0,e1] 0 2 rfl (by omega)
   obtain⟨p1,r1⟩:=iO [e0,e1] 1 2 rfl (by omega)
   refine⟨hp _ _,[e0,e1],[.agg [],.a (.sl 0 [] 0 L0.length),.a (.sl 1 [] 0 L1.length)],[.arr 3 kI L0 false false,.arr 3 kI L1 false false],⟨⟨trivial,p0,p1,trivial⟩,fun r g hg=>?_⟩,H _ _ hD⟩
   match r,hg with
   |0,hg=>obtain rfl:=Option.some.inj hg;exact r0
   |1,hg=>obtain rfl:=Option.some.inj hg;exact r1
  next=>cases hF
 next=>cases hF)
attribute [local irreducible] bJ td
abbrev ca (L:List Int) (i:Int):Int:=@Ar.get ⟨3,kI,L⟩ (0+Int.toNat i)
theorem alf {L:List Int} {i:Nat} (h:i<L.length):ca L i=L[i]:=amo (tg:=kI) h
def aqN:au:=fN (fun _=>[]) (fun _=>bl false)
theorem arU:au.Ok Try.prog Γ 127 aqN:=y9 (d:=0) (aP aR.nil bq.nil false 0) (aj Try.func127 rfl rfl) (fun _=>rfl) (by
 intro n _;have e0:(n !=n)=false:=by simp
 repeat'((conv=>whnf);first|apply And.intro|exact bA (by subst_vars;assumption)|intro h9)
 all_goals(try(conv=>whnf))<;>(subst_vars;try first|(apply Tk.mk;kernel_rfl)|exact⟨ah rfl⟩|exact⟨rfl⟩|exact⟨trivial⟩|rfl|contradiction|(apply Ob.mk;(try simp only[ag,ak,aa.ae])<;>(try dsimp only)<;>omega))
 all_goals first|trivial)
def avK:au:=Kf (fun _ _=>[]) (fun x y=> .a (vI (bJ x y)))
noncomputable def Mg:List (Nat×au):=[(127,aqN)]
theorem KU:aR Try.prog Γ Mg:=(aR.nil.cons (aj Try.func127 rfl rfl).fn arU)
theorem auD:au.Ok Try.prog Γ 121 avK:=An (d:=0) (aP KU bq.nil false 0) (aj Try.func121 rfl rfl) (fun _ _=>rfl) (by
 intro x y _;by_cases h1:x<y
 ·have p0:decide (x<y)=true:=decide_eq_true h1;rw[show bJ x y=-1 by unfold bJ;rw[if_pos h1]]
  repeat'((conv=>whnf);first|apply And.intro|exact bA (by subst_vars;assumption)|intro h9)
  all_goals(try(conv=>whnf))<;>(subst_vars;try first|(apply Tk.mk;kernel_rfl)|exact⟨ah rfl⟩|exact⟨rfl⟩|exact⟨trivial⟩|rfl|contradiction|(apply Ob.mk;(try simp only[ag,ak,aa.ae])<;>(try dsimp only)<;>omega))
 have p0:decide (x<y)=false:=decide_eq_false h1;by_cases h2:x>y
 ·have p1:decide (x>y)=true:=decide_eq_true h2;rw[show bJ x y=1 by unfold bJ;rw[if_neg h1,if_pos h2]]
  repeat'((conv=>whnf);first|apply And.intro|exact bA (by subst_vars;assumption)|intro h9)
  all_goals(try(conv=>whnf))<;>(subst_vars;try first|(apply Tk.mk;kernel_rfl)|exact⟨ah rfl⟩|exact⟨rfl⟩|exact⟨trivial⟩|rfl|contradiction|(apply Ob.mk;(try simp only[ag,ak,aa.ae])<;>(try dsimp only)<;>omega))
 have p1:decide (x>y)=false:=decide_eq_false h2;rw[show bJ x y=0 by unfold bJ;rw[if_neg h1,if_neg h2]]
 repeat'((conv=>whnf);first|apply And.intro|exact bA (by subst_vars;assumption)|intro h9)
 all_goals(try(conv=>whnf))<;>(subst_vars;try first|(apply Tk.mk;kernel_rfl)|exact⟨ah rfl⟩|exact⟨rfl⟩|exact⟨trivial⟩|rfl|contradiction|(apply Ob.mk;(try simp only[ag,ak,aa.ae])<;>(try dsimp only)<;>omega)))
def aoJ:au:=PA (fun L M=>[(aa.of (L.length<=1000000)),(aa.of (M.length<=1000000))]) (fun L M=> .a (vI (td L M)))
noncomputable def aud:List (Nat×au):=[(121,avK)]
theorem aqq:aR Try.prog Γ aud:=(aR.nil.cons (aj Try.func121 rfl rfl).fn auD)
theorem apx:au.Ok Try.prog Γ 105 aoJ:=MK (d:=0) (aP aqq bq.nil false 0) (aj Try.func105 rfl rfl) (fun _ _=>rfl) (by
 intro L M ⟨hL,hM,_⟩;simp only[aa.ae]at hL hM;repeat'((conv=>whnf);first|apply And.intro|exact bA (by subst_vars;assumption)|intro h9)
 all_goals(try(conv=>whnf))<;>(subst_vars;try first|(apply Tk.mk;kernel_rfl)|exact⟨ah rfl⟩|exact⟨rfl⟩|exact⟨trivial⟩|rfl|contradiction|(apply Ob.mk;(try simp only[ag,ak,aa.ae])<;>(try dsimp only)<;>omega))
 refine⟨Nat,fun i=>(i<=L.length/\i<=M.length)/\td L M=td (L.drop i) (M.drop i),fun i=>⟨aI 36 [0,1,9,10,11] [.a (.sl 0 [] 0 L.length),.a (.sl 1 [] 0 M.length),.a (.sl 0 [] 0 L.length),.a (vI L.length),.a (vI i)],[],[.arr 3 kI L false false,.arr 3 kI M false false]⟩,fun i=>L.length-i,0,[0,1],⟨⟨Nat.zero_le _,Nat.zero_le _⟩,rfl⟩,?_,?_⟩
 ·repeat'((conv=>whnf)<;>first|apply And.intro|intro _|rfl|trivial|exact ah rfl|exact aS ‹_› rfl|exact aT ‹_› rfl|((repeat' first|rfl|constructor);done))
 rintro i ⟨⟨hi,hi'⟩,hc⟩;by_cases hi1:i<L.length
 ·have p0:decide ((i:Int)<(L.length:Int))=true:=decide_eq_true (by omega)
  have hd:=List.drop_eq_getElem_cons hi1;rw[<-alf hi1]at hd;by_cases hi2:i<M.length
  ·have p1:decide ((i:Int)>=(M.length:Int))=false:=decide_eq_false (by omega)
   have hm:=List.drop_eq_getElem_cons hi2;rw[<-alf hi2]at hm;rw[hd,hm]at hc;by_cases hz:bJ (ca L i) (ca M i)=0
   ·have e1:(bJ (ca L i) (ca M i)!=0)=false:=by rw[hz];rfl
    have xS:td L M=td (L.drop (i+1)) (M.drop (i+1)):=by rw[hc];exact awt hz
    repeat'((conv=>whnf);first|apply And.intro|exact bA (by subst_vars;assumption)|intro h9)
    all_goals(try(conv=>whnf))<;>(subst_vars;try first|(apply Tk.mk;kernel_rfl)|exact⟨ah rfl⟩|exact⟨rfl⟩|exact⟨trivial⟩|rfl|contradiction|(apply Ob.mk;(try simp only[ag,ak,aa.ae])<;>(try dsimp only)<;>omega))
    all_goals try first|(refine Ob.mk ?_;show 0+Int.toNat (i:Int)<L.length;omega)|(refine Ob.mk ?_;show 0+Int.toNat (i:Int)<M.length;omega)
    all_goals
     refine⟨i+1,[0,1],⟨⟨hi1,hi2⟩,xS⟩,?_,by show L.length-(i+1)<L.length-i;omega⟩
     repeat'((conv=>whnf)<;>first|apply And.intro|intro _|rfl|trivial|exact ah rfl|exact aS ‹_› rfl|exact aT ‹_› rfl|((repeat' first|rfl|constructor);done))
   have e1:(bJ (ca L i) (ca M i)!=0)=true:=by simpa using hz
   rw[show td L M=bJ (ca L i) (ca M i) by rw[hc];exact awu hz]
   repeat'((conv=>whnf);first|apply And.intro|exact bA (by subst_vars;assumption)|intro h9)
   all_goals(try(conv=>whnf))<;>(subst_vars;try first|(apply Tk.mk;kernel_rfl)|exact⟨ah rfl⟩|exact⟨rfl⟩|exact⟨trivial⟩|rfl|contradiction|(apply Ob.mk;(try simp only[ag,ak,aa.ae])<;>(try dsimp only)<;>omega))
   all_goals first|(refine Ob.mk ?_;show 0+Int.toNat (i:Int)<L.length;omega)|(refine Ob.mk ?_;show 0+Int.toNat (i:Int)<M.length;omega)
  have p1:decide ((i:Int)>=(M.length:Int))=true:=decide_eq_true (by omega)
  rw[show td L M=1 by rw[hc,hd,List.drop_eq_nil_of_le (by omega:M.length<=i)];exact aww]
  repeat'((conv=>whnf);first|apply And.intro|exact bA (by subst_vars;assumption)|intro h9)
  all_goals(try(conv=>whnf))<;>(subst_vars;try first|(apply Tk.mk;kernel_rfl)|exact⟨ah rfl⟩|exact⟨rfl⟩|exact⟨trivial⟩|rfl|contradiction|(apply Ob.mk;(try simp only[ag,ak,aa.ae])<;>(try dsimp only)<;>omega))
  all_goals first|(refine Ob.mk ?_;show 0+Int.toNat (i:Int)<L.length;omega)
 have p0:decide ((i:Int)<(L.length:Int))=false:=decide_eq_false (by omega)
 rw[List.drop_eq_nil_of_le (by omega:L.length<=i)]at hc
 by_cases hi2:i<M.length
 ·have p1:decide ((L.length:Int)<(M.length:Int))=true:=decide_eq_true (by omega)
  rw[show td L M=-1 by rw[hc,List.drop_eq_getElem_cons hi2];exact auE]
  repeat'((conv=>whnf);first|apply And.intro|exact bA (by subst_vars;assumption)|intro h9)
  all_goals(try(conv=>whnf))<;>(subst_vars;try first|(apply Tk.mk;kernel_rfl)|exact⟨ah rfl⟩|exact⟨rfl⟩|exact⟨trivial⟩|rfl|contradiction|(apply Ob.mk;(try simp only[ag,ak,aa.ae])<;>(try dsimp only)<;>omega))
 have p1:decide ((L.length:Int)<(M.length:Int))=false:=decide_eq_false (by omega)
 rw[show td L M=0 by rw[hc,List.drop_eq_nil_of_le (by omega:M.length<=i)];exact awv]
 repeat'((conv=>whnf);first|apply And.intro|exact bA (by subst_vars;assumption)|intro h9)
 all_goals(try(conv=>whnf))<;>(subst_vars;try first|(apply Tk.mk;kernel_rfl)|exact⟨ah rfl⟩|exact⟨rfl⟩|exact⟨trivial⟩|rfl|contradiction|(apply Ob.mk;(try simp only[ag,ak,aa.ae])<;>(try dsimp only)<;>omega)))
def ams:au:=axW (fun L M=>[(aa.of (L.length<=1000000)),(aa.of (M.length<=1000000))]) (fun L M=> .a (vI (Pn L M)))
noncomputable def auh:List (Nat×au):=[(105,aoJ)]
theorem aqs:aR Try.prog Γ auh:=(aR.nil.cons (aj Try.func105 rfl rfl).fn apx)
theorem amt:au.Ok Try.prog Γ 94 ams:=awO (d:=0) (aP aqs bq.nil false 0) (aj Try.func94 rfl rfl) (fun _ _=>rfl) (by
 intro L M ⟨hL,hM,_⟩;simp only[aa.ae]at hL hM;by_cases h:L.length=M.length
 ·have e0:((L.length:Int)!=(M.length:Int))=false:=by rw[h];simp
  rw[show Pn L M=td L M by unfold Pn;rw[if_pos h]]
  repeat'((conv=>whnf);first|apply And.intro|exact bA (by subst_vars;assumption)|intro h9)
  all_goals(try(conv=>whnf))<;>(subst_vars;try first|(apply Tk.mk;kernel_rfl)|exact⟨ah rfl⟩|exact⟨rfl⟩|exact⟨trivial⟩|rfl|contradiction|(apply Ob.mk;(try simp only[ag,ak,aa.ae])<;>(try dsimp only)<;>omega))
  all_goals first|exact⟨hL⟩|exact⟨hM⟩
 have e0:((L.length:Int)!=(M.length:Int))=true:=by simp;omega
 rw[show Pn L M=(L.length:Int)-(M.length:Int) by unfold Pn;rw[if_neg h]]
 repeat'((conv=>whnf);first|apply And.intro|exact bA (by subst_vars;assumption)|intro h9)
 all_goals(try(conv=>whnf))<;>(subst_vars;try first|(apply Tk.mk;kernel_rfl)|exact⟨ah rfl⟩|exact⟨rfl⟩|exact⟨trivial⟩|rfl|contradiction|(apply Ob.mk;(try simp only[ag,ak,aa.ae])<;>(try dsimp only)<;>omega)))
end Go.Proofs.Ytccnimhgjjnmoaa
end
