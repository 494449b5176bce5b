/-
  Texts of the claims: Yk10. No condition: lemmas and contracts.
-/
import Derived.Test.YtccnimhgjjnmoaaYk1
import Derived.Test.YtccnimhgjjnmoaaPl1
import Derived.Test.YtccnimhgjjnmoaaYk9
set_option linter.all false
set_option maxRecDepth 100000
set_option maxHeartbeats 40000000
section
namespace Go.Proofs.Ytccnimhgjjnmoaa
open Go Go.Sy Go.dg
variable {Γ:bn}
def arT:au:=Kf (fun s k=>[(aa.of (0<=s/\s<4611686018427387904)),(aa.of (0<=k/\k<=62))]) (fun s k=>bl (gi k.toNat s.toNat))
theorem aoj:au.Ok Try.prog Γ 59 arT:=An (d:=0) (aP aR.nil bq.nil false 0) (aj Try.func59 rfl rfl) (fun _ _=>rfl) (by
 intro s k ⟨hs,hk,_⟩;simp only[aa.ae]at hs hk;obtain⟨s,rfl⟩:∃ m:Nat,s=(m:Int):=⟨s.toNat,by omega⟩
 obtain⟨k,rfl⟩:∃ m:Nat,k=(m:Int):=⟨k.toNat,by omega⟩
 have h1:=avk (show k<=62 by omega)
 have h2:=awo (s:=s) (k:=k);have h3:((s:Int).tdiv (1*2^k)).tmod 2=0\/((s:Int).tdiv (1*2^k)).tmod 2=1:=by
  rw[show(1*2^k:Int)=((2^k:Nat):Int) by simp,<-Int.ofNat_tdiv,show(2:Int)=((2:Nat):Int)from rfl,<-Int.ofNat_tmod]
  omega
 obtain⟨q,h4,h5⟩:∃ q:Nat,(s:Int).tdiv (1*2^k)=(q:Int)/\q<=s:=⟨s / 2^k,by rw[show(1*2^k:Int)=((2^k:Nat):Int) by simp,<-Int.ofNat_tdiv],Nat.div_le_self _ _⟩
 have h6:(1*2^k:Int)≠0:=by omega
 have h7:ak .i64 ((s:Int).tdiv (1*2^Int.toNat (k:Int))):=by rw[Int.toNat_natCast,h4];simp only[ak];omega
 repeat'((conv=>whnf);first|apply And.intro|exact bA (by subst_vars;assumption)|intro h9)
 all_goals(try(conv=>whnf))<;>(subst_vars;try first|(apply Tk.mk;kernel_rfl)|exact⟨ah rfl⟩|exact⟨rfl⟩|exact⟨trivial⟩|rfl|contradiction|(apply Ob.mk;(try simp only[ag,ak,aa.ae])<;>(try dsimp only)<;>omega))
 all_goals first|exact⟨h7⟩|exact⟨show(k:Int)<=64 by omega⟩|exact⟨h6⟩|(refine Ob.mk ?_;show(ag .i64 _).p;simp only[ag,ak,aa.ae];simp only[Int.toNat_natCast];omega)|(simp only[Int.toNat_natCast];exact h2))
def aoI (L:List Bk):aa:=⟨gb L,(ck L).1==0,by rw[beq_iff_eq];exact⟨amq,fun h=>by rw[atO h]⟩⟩
attribute [local irreducible] ck gi wN sub blk akv
def apC:au:=axV (fun a b L s f=>[(aa.of (a+b<=L.length)),aoI L,(aa.of (0<=s/\s<4611686018427387904)),(aa.of (0<=f/\f<=1000000))]) (fun a b L s f=> .a (vI (wN f (sub L a b) s.toNat)))
noncomputable def awi:List (Nat×au):=[(59,arT)]
theorem arC:aR Try.prog Γ awi:=(aR.nil.cons (aj Try.func59 rfl rfl).fn aoj)
theorem aqy:au.Ok Try.prog Γ 81 apC:=awN (d:=0) (aP arC bq.nil false 0) (aj Try.func81 rfl rfl) (fun _ _ _ _ _=>rfl) (by
 intro a b L s f ⟨hab,hB,hs,hf,_⟩;simp only[aa.ae]at hab hs hf;replace hB:gb L:=hB;obtain⟨s,rfl⟩:∃ m:Nat,s=(m:Int):=⟨s.toNat,by omega⟩
 have hl:=hB.Kg;have hle:=hB.sub_le hab hf.1 hf.2;have dZ:=wk hab;have Kt:(0:Int)=wN f ((sub L a b).take 0) s:=by rw[List.take_zero];unfold wN;rfl
 repeat'((conv=>whnf);first|apply And.intro|exact bA (by subst_vars;assumption)|intro h9)
 all_goals(try(conv=>whnf))<;>(subst_vars;try first|(apply Tk.mk;kernel_rfl)|exact⟨ah rfl⟩|exact⟨rfl⟩|exact⟨trivial⟩|rfl|contradiction|(apply Ob.mk;(try simp only[ag,ak,aa.ae])<;>(try dsimp only)<;>omega))
 refine⟨Nat,fun i=>i<=b,fun i=>⟨aI 28 [0,1,2,7,8] [.a (.sl 0 [] a b),.a (vI s),.a (vI f),.a (vI (wN f ((sub L a b).take i) s)),.a (vI i)],[],[.arr 67 kK L false false]⟩,fun i=>b-i,0,[0],Nat.zero_le _,?_,?_⟩
 ·repeat'((conv=>whnf)<;>first|apply And.intro|intro _|rfl|trivial|exact ah rfl|exact aS ‹_› rfl|exact aT ‹_› rfl|((repeat' first|rfl|constructor);done)|exact Kt)
 rintro i hi;have hw:=hle i s;by_cases hi1:i<b
 ·have p0:decide ((i:Int)<(b:Int))=true:=decide_eq_true (by omega)
  have hst:=axg f (show i<(sub L a b).length by omega) s
  have apX:bk (sub L a b) i=@Ar.get ⟨67,kK,L⟩ (a+Int.toNat (i:Int)):=by
   rw[arp hi1,Int.toNat_natCast];rfl
  have mL:=hle (i+1) s;have hmem:bk (sub L a b) i∈L:=by rw[akX (by omega)];exact aoz (List.getElem_mem _)
  have hlen:=hB.len hmem;rw[apX]at hst hlen;cases hb:gi (Int.toNat (i:Int)) (Int.toNat (s:Int))
  ·have hb':gi i s=false:=by simpa using hb
   rw[hb']at hst;simp only[Bool.false_eq_true,if_false]at hst;repeat'((conv=>whnf);first|apply And.intro|exact bA (by subst_vars;assumption)|intro h9)
   all_goals(try(conv=>whnf))<;>(subst_vars;try first|(apply Tk.mk;kernel_rfl)|exact⟨ah rfl⟩|exact⟨rfl⟩|exact⟨trivial⟩|rfl|contradiction|(apply Ob.mk;(try simp only[ag,ak,aa.ae])<;>(try dsimp only)<;>omega))
   all_goals
    refine⟨i+1,[0],hi1,?_,by show b-(i+1)<b-i;omega⟩
    dsimp only;rw[hst];repeat'((conv=>whnf)<;>first|apply And.intro|intro _|rfl|trivial|exact ah rfl|exact aS ‹_› rfl|exact aT ‹_› rfl|((repeat' first|rfl|constructor);done))
  have hb':gi i s=true:=by simpa using hb
  rw[hb']at hst;simp only[if_true]at hst;rw[hst]at mL;repeat'((conv=>whnf);first|apply And.intro|exact bA (by subst_vars;assumption)|intro h9)
  all_goals(try(conv=>whnf))<;>(subst_vars;try first|(apply Tk.mk;kernel_rfl)|exact⟨ah rfl⟩|exact⟨rfl⟩|exact⟨trivial⟩|rfl|contradiction|(apply Ob.mk;(try simp only[ag,ak,aa.ae])<;>(try dsimp only)<;>omega))
  all_goals try first|exact⟨show a+Int.toNat (i:Int)<L.length by omega⟩
  all_goals
   refine⟨i+1,[0],hi1,?_,by show b-(i+1)<b-i;omega⟩
   dsimp only;rw[hst];repeat'((conv=>whnf)<;>first|apply And.intro|intro _|rfl|trivial|exact ah rfl|exact aS ‹_› rfl|exact aT ‹_› rfl|((repeat' first|rfl|constructor);done))
 have p0:decide ((i:Int)<(b:Int))=false:=decide_eq_false (by omega)
 obtain rfl:i=b:=by omega
 have ht:wN f ((sub L a i).take i) s=wN f (sub L a i) (Int.toNat (s:Int)):=by rw[List.take_of_length_le (by omega)];rfl
 repeat'((conv=>whnf);first|apply And.intro|exact bA (by subst_vars;assumption)|intro h9)
 all_goals(try(conv=>whnf))<;>(subst_vars;try first|(apply Tk.mk;kernel_rfl)|exact⟨ah rfl⟩|exact⟨rfl⟩|exact⟨trivial⟩|rfl|contradiction|(apply Ob.mk;(try simp only[ag,ak,aa.ae])<;>(try dsimp only)<;>omega))
 all_goals first|trivial)
def alJ:au:=auP (fun L s f=>[aoI L,(aa.of (0<=s/\s<4611686018427387904)),(aa.of (0<=f/\f<=1000000))]) (fun L s f=> .a (vI (wN f L s.toNat-f)))
noncomputable def arD:List (Nat×au):=[(81,apC)]
theorem ao5:aR Try.prog Γ arD:=(aR.nil.cons (aj Try.func81 rfl rfl).fn aqy)
theorem alP:au.Ok Try.prog Γ 50 alJ:=aqW (d:=0) (aP ao5 bq.nil false 0) (aj Try.func50 rfl rfl) (fun _ _ _=>rfl) (by
 intro L s f ⟨hB,hs,hf,_⟩;simp only[aa.ae]at hs hf;replace hB:gb L:=hB;have hle:=hB.sub_le (a:=0) (b:=L.length) (by omega) hf.1 hf.2 L.length s.toNat
 rw[alV,List.take_length]at hle;have hab:0+L.length<=L.length:=by omega
 have aym:wN f (sub L 0 L.length) s.toNat-f=wN f L s.toNat-f:=by rw[alV]
 have hr:ak .i64 (wN f (sub L 0 L.length) s.toNat-f):=by rw[aym];simp only[ak];omega
 repeat'((conv=>whnf);first|apply And.intro|exact bA (by subst_vars;assumption)|intro h9)
 all_goals(try(conv=>whnf))<;>(subst_vars;try first|(apply Tk.mk;kernel_rfl)|exact⟨ah rfl⟩|exact⟨rfl⟩|exact⟨trivial⟩|rfl|contradiction|(apply Ob.mk;(try simp only[ag,ak,aa.ae])<;>(try dsimp only)<;>omega))
 all_goals first|trivial|exact⟨hr⟩|exact⟨hB⟩|exact⟨hab⟩)
def aoM:au:=axN (fun L l t f s=>[aoI L,(aa.of (0<=s/\s<4611686018427387904)),(aa.of (0<=f/\f<=1000000)),(aa.of (-1152921504606846976<=l/\l<=1152921504606846976)),(aa.of (-1152921504606846976<=t/\t<=1152921504606846976))]) (fun L l t f s=>bl (akv l t f L s.toNat))
noncomputable def auk:List (Nat×au):=[(50,alJ)]
theorem aqt:aR Try.prog Γ auk:=(aR.nil.cons (aj Try.func50 rfl rfl).fn alP)
theorem apF:au.Ok Try.prog Γ 51 aoM:=awI (d:=0) (aP aqt bq.nil false 0) (aj Try.func51 rfl rfl) (fun _ _ _ _ _=>rfl) (by
 intro L l t f s ⟨hB,hs,hf,hl,ht,_⟩;simp only[aa.ae]at hs hf hl ht;replace hB:gb L:=hB;have hle:=hB.sub_le (a:=0) (b:=L.length) (by omega) hf.1 hf.2 L.length s.toNat
 rw[alV,List.take_length]at hle;have gd:=amx (l:=l) (t:=t) (f:=f) (L:=L) (s:=s.toNat);generalize akv l t f L s.toNat=g at*;generalize hw:wN f L s.toNat=w at*;have r1:ak .i64 (l-t):=by simp only[ak];omega
 have r2:ak .i64 (l+t):=by simp only[ak];omega
 by_cases h1:s>0
 ·have p1:decide (s>0)=true:=decide_eq_true h1;by_cases h2:wN f L s.toNat-f>=l-t
  ·have p2:decide (wN f L s.toNat-f>=l-t)=true:=decide_eq_true h2;have e:decide (wN f L s.toNat-f<=l+t)=g:=by rw[Bool.eq_iff_iff,gd,decide_eq_true_eq];rw[hw]at h2 ⊢;omega
   repeat'((conv=>whnf);first|apply And.intro|exact bA (by subst_vars;assumption)|intro h9)
   all_goals(try(conv=>whnf))<;>(subst_vars;try first|(apply Tk.mk;kernel_rfl)|exact⟨ah rfl⟩|exact⟨rfl⟩|exact⟨trivial⟩|rfl|contradiction|(apply Ob.mk;(try simp only[ag,ak,aa.ae])<;>(try dsimp only)<;>omega))
   all_goals first|exact⟨hB⟩
  have p2:decide (wN f L s.toNat-f>=l-t)=false:=decide_eq_false h2;have e:g=false:=by rw[Bool.eq_false_iff];intro h;have:=gd.1 h;rw[hw]at h2;omega
  repeat'((conv=>whnf);first|apply And.intro|exact bA (by subst_vars;assumption)|intro h9)
  all_goals(try(conv=>whnf))<;>(subst_vars;try first|(apply Tk.mk;kernel_rfl)|exact⟨ah rfl⟩|exact⟨rfl⟩|exact⟨trivial⟩|rfl|contradiction|(apply Ob.mk;(try simp only[ag,ak,aa.ae])<;>(try dsimp only)<;>omega))
  all_goals first|exact⟨hB⟩
 have p1:decide (s>0)=false:=decide_eq_false h1;have e:g=false:=by rw[Bool.eq_false_iff];intro h;have:=gd.1 h;omega
 repeat'((conv=>whnf);first|apply And.intro|exact bA (by subst_vars;assumption)|intro h9)
 all_goals(try(conv=>whnf))<;>(subst_vars;try first|(apply Tk.mk;kernel_rfl)|exact⟨ah rfl⟩|exact⟨rfl⟩|exact⟨trivial⟩|rfl|contradiction|(apply Ob.mk;(try simp only[ag,ak,aa.ae])<;>(try dsimp only)<;>omega))
 all_goals first|exact⟨hB⟩)
end Go.Proofs.Ytccnimhgjjnmoaa
end
section
namespace Go.Proofs.Ytccnimhgjjnmoaa
open Go Go.Sy Go.dg
variable {Γ:bn}
attribute [local irreducible] blk
def apw:au:=fN (fun s=>[(aa.of (0<=s/\s<4611686018427387904))]) (fun s=> .a (vI (blk s.toNat)))
theorem aqw:au.Ok Try.prog Γ 66 apw:=y9 (d:=0) (aP aR.nil bq.nil false 0) (aj Try.func66 rfl rfl) (fun _=>rfl) (by
 intro s ⟨hs,_⟩;simp only[aa.ae]at hs;obtain⟨s,rfl⟩:∃ m:Nat,s=(m:Int):=⟨s.toNat,by omega⟩
 rw[Int.toNat_natCast];have Hg:=axy;have aAE:=azg;repeat'((conv=>whnf);first|apply And.intro|exact bA (by subst_vars;assumption)|intro h9)
 all_goals(try(conv=>whnf))<;>(subst_vars;try first|(apply Tk.mk;kernel_rfl)|exact⟨ah rfl⟩|exact⟨rfl⟩|exact⟨trivial⟩|rfl|contradiction|(apply Ob.mk;(try simp only[ag,ak,aa.ae])<;>(try dsimp only)<;>omega))
 refine⟨Nat×Nat,fun x=>x.1+blk x.2=blk s/\x.2<=s,fun x=>⟨aI 13 [0,3] [.a (vI x.2),.a (vI x.1)],[],[]⟩,fun x=>x.2,(0,s),[],⟨Nat.zero_add _,Nat.le_refl _⟩,?_,?_⟩
 ·repeat'((conv=>whnf)<;>first|apply And.intro|intro _|rfl|trivial|exact ah rfl|exact aS ‹_› rfl|exact aT ‹_› rfl|((repeat' first|rfl|constructor);done))
 rintro⟨n,t⟩ ⟨h1,h2⟩;dsimp only at h1 h2;have hn:n<=62:=by have:=Hg s;omega
 by_cases h0:0<t
 ·have p0:decide ((t:Int)>0)=true:=decide_eq_true (by omega)
  have hst:=aut (s:=t) (by omega)
  have e1:(n:Int)+(t:Int).tmod 2=((n+t%2:Nat):Int):=by rw[show(2:Int)=((2:Nat):Int)from rfl,<-Int.ofNat_tmod];omega
  have e2:(t:Int).tdiv 2=((t / 2:Nat):Int):=by rw[show(2:Int)=((2:Nat):Int)from rfl,<-Int.ofNat_tdiv]
  repeat'((conv=>whnf);first|apply And.intro|exact bA (by subst_vars;assumption)|intro h9)
  all_goals(try(conv=>whnf))<;>(subst_vars;try first|(apply Tk.mk;kernel_rfl)|exact⟨ah rfl⟩|exact⟨rfl⟩|exact⟨trivial⟩|rfl|contradiction|(apply Ob.mk;(try simp only[ag,ak,aa.ae])<;>(try dsimp only)<;>omega))
  refine⟨(n+t%2,t / 2),[],⟨by dsimp only;omega,by dsimp only;omega⟩,?_,by show t / 2<t;omega⟩
  dsimp only;rw[<-e1,<-e2];repeat'((conv=>whnf)<;>first|apply And.intro|intro _|rfl|trivial|exact ah rfl|exact aS ‹_› rfl|exact aT ‹_› rfl|((repeat' first|rfl|constructor);done))
 have p0:decide ((t:Int)>0)=false:=decide_eq_false (by omega)
 obtain rfl:t=0:=by omega
 have xW:n=blk s:=by rw[auu]at h1;omega
 subst xW;repeat'((conv=>whnf);first|apply And.intro|exact bA (by subst_vars;assumption)|intro h9)
 all_goals(try(conv=>whnf))<;>(subst_vars;try first|(apply Tk.mk;kernel_rfl)|exact⟨ah rfl⟩|exact⟨rfl⟩|exact⟨trivial⟩|rfl|contradiction|(apply Ob.mk;(try simp only[ag,ak,aa.ae])<;>(try dsimp only)<;>omega)))
end Go.Proofs.Ytccnimhgjjnmoaa
end
section
namespace Go.Proofs.Ytccnimhgjjnmoaa
open Go Go.Sy Go.dg
variable {Γ:bn}
def axP (D:List Bk->Int->List aa) (R:List Bk->Int->cM):au:=.new fun args rg K=>match args with
 |[.a x0,.a (.v (.int .i64 n0))]=>(match ac1 67 kK rg x0 with|some (q0,L0)=>aBP false (q0++(D L0 n0)) (K (R L0 n0))|_=>False)
 |_=>False
theorem awK {f:FuncId} {b:Body} {E:Env} {d:Nat} (hP:aL Try.prog Γ E) (hb:bQ Try.prog f b) {D:List Bk->Int->List aa} {R:List Bk->Int->cM}
 (H:∀ (L0:List Bk) (n0:Int) (K:cM->Prop),bW (D L0 n0)->K (R L0 n0)->cQ E d b [.a (.sl 0 [] 0 L0.length),.a (vI n0)] [.arr 67 kK L0 false false] (bu K)):au.Ok Try.prog Γ f (axP D R):=au.fM (d:=d) hP hb (by
 intro args rg K hF;split at hF;next x0 n0=>
  split at hF;next q0 L0 hx0=>
   rw[aV,aH]at hF;obtain⟨⟨dm,hD⟩,hK⟩:=hF;obtain⟨e0,Vn⟩:=bP (by simp[kK]) hx0 dm
   obtain⟨p0,r0⟩:=Vn [e0] 0 1 rfl (by omega)
   refine⟨[e0],[.a (.sl 0 [] 0 L0.length),.a (vI n0)],[.arr 67 kK L0 false false],⟨⟨p0,rfl,trivial⟩,fun r g hg=>?_⟩,bu K,H _ _ K hD hK,fun x st h=>h⟩
   match r,hg with
   |0,hg=>obtain rfl:=Option.some.inj hg;exact r0
  next=>exact hF.elim
 next=>exact hF.elim)
def avN (D:List Bk->Int->Int->Int->List aa) (R:List Bk->Int->Int->Int->cM):au:=.new fun args rg K=>match args with
 |[.a x0,.agg [.v (.int .i64 n0),.v (.int .i64 n1),.v (.int .i64 n2)]]=>(match ac1 67 kK rg x0 with|some (q0,L0)=>aBP false (q0++(D L0 n0 n1 n2)) (K (R L0 n0 n1 n2))|_=>False)
 |_=>False
theorem auS {f:FuncId} {b:Body} {E:Env} {d:Nat} (hP:aL Try.prog Γ E) (hb:bQ Try.prog f b) {D:List Bk->Int->Int->Int->List aa} {R:List Bk->Int->Int->Int->cM}
 (H:∀ (L0:List Bk) (n0:Int) (n1:Int) (n2:Int) (K:cM->Prop),bW (D L0 n0 n1 n2)->K (R L0 n0 n1 n2)->cQ E d b [.a (.sl 0 [] 0 L0.length),.agg [vI n0,vI n1,vI n2]] [.arr 67 kK L0 false false] (bu K)):au.Ok Try.prog Γ f (avN D R):=au.fM (d:=d) hP hb (by
 intro args rg K hF;split at hF;next x0 n0 n1 n2=>
  split at hF;next q0 L0 hx0=>
   rw[aV,aH]at hF;obtain⟨⟨dm,hD⟩,hK⟩:=hF;obtain⟨e0,Vn⟩:=bP (by simp[kK]) hx0 dm
   obtain⟨p0,r0⟩:=Vn [e0] 0 1 rfl (by omega)
   refine⟨[e0],[.a (.sl 0 [] 0 L0.length),.agg [vI n0,vI n1,vI n2]],[.arr 67 kK L0 false false],⟨⟨p0,⟨rfl,rfl,rfl,trivial⟩,trivial⟩,fun r g hg=>?_⟩,bu K,H _ _ _ _ K hD hK,fun x st h=>h⟩
   match r,hg with
   |0,hg=>obtain rfl:=Option.some.inj hg;exact r0
  next=>exact hF.elim
 next=>exact hF.elim)
def azk (D:List Bk->List Int->List aa) (F:List Bk->List Int->Tm):au:=.fn fun args rg=>match args with
 |[.a x0,.a x1]=>(match ac1 67 kK rg x0,ac1 3 kI rg x1 with|some (q0,L0),some (q1,L1)=>some (q0++(q1++(D L0 L1)),F L0 L1)|_,_=>none)
 |_=>none
theorem axK {f:FuncId} {b:Body} {E:Env} {d:Nat} (hP:aL Try.prog Γ E) (hb:bQ Try.prog f b) {D:List Bk->List Int->List aa} {F:List Bk->List Int->Tm} (hp:∀ (L0:List Bk) (L1:List Int),(F L0 L1).plain=true)
 (H:∀ (L0:List Bk) (L1:List Int),bW (D L0 L1)->cQ E d b [.a (.sl 0 [] 0 L0.length),.a (.sl 1 [] 0 L1.length)] [.arr 67 kK L0 false false,.arr 3 kI L1 false false] (fun x _=>iL x (F L0 L1))):au.Ok Try.prog Γ f (azk D F):=au.aBp (d:=d) hP hb (by
 intro args rg q t hF hq;split at hF;next x0 x1=>
  split at hF;next q0 L0 q1 L1 hx0 cO=>
   obtain⟨rfl,rfl⟩:=Prod.mk.inj (Option.some.inj hF);clear hF;rw[aH,aH]at hq;obtain⟨dm,gk,hD⟩:=hq;obtain⟨e0,Vn⟩:=bP (by simp[kK]) hx0 dm
   obtain⟨e1,iO⟩:=bP (by simp[kI]) cO gk
   obtain⟨p0,r0⟩:=Vn [e0,e1] 0 2 rfl (by omega)
   obtain⟨p1,r1⟩:=iO [e0,e1] 1 2 rfl (by omega)
   refine⟨hp _ _,[e0,e1],[.a (.sl 0 [] 0 L0.length),.a (.sl 1 [] 0 L1.length)],[.arr 67 kK L0 false false,.arr 3 kI L1 false false],⟨⟨p0,p1,trivial⟩,fun r g hg=>?_⟩,H _ _ hD⟩
   match r,hg with
   |0,hg=>obtain rfl:=Option.some.inj hg;exact r0
   |1,hg=>obtain rfl:=Option.some.inj hg;exact r1
  next=>cases hF
 next=>cases hF)
attribute [local irreducible] ck gi wN sub blk akv eg
def ayr (L:List Bk) (s:Int):cM:=⟨[.arr 3 kI (eg L s.toNat) true true],.a (.sl 0 [] 0 (eg L s.toNat).length)⟩
def avI:au:=axP (fun L s=>[aoI L,(aa.of (0<=s/\s<4611686018427387904))]) ayr
noncomputable def azJ:List (Nat×au):=[(59,arT)]
theorem awe:aR Try.prog Γ azJ:=(aR.nil.cons (aj Try.func59 rfl rfl).fn aoj)
theorem auA:au.Ok Try.prog Γ 29 avI:=awK (d:=0) (aP awe bq.nil false 0) (aj Try.func29 rfl rfl) (by
 intro L s K ⟨hB,hs,_⟩ hK;simp only[aa.ae]at hs;replace hB:gb L:=hB;obtain⟨s,rfl⟩:∃ m:Nat,s=(m:Int):=⟨s.toNat,by omega⟩
 have hl:=hB.Kg;unfold ayr at hK;have h0:eg (L.take 0) s=[]:=by rw[List.take_zero];unfold eg;rfl
 have az7:(0:Nat)=(eg (L.take 0) s).length:=by rw[h0];rfl
 repeat'((conv=>whnf);first|apply And.intro|exact bA (by subst_vars;assumption)|intro h9)
 all_goals(try(conv=>whnf))<;>(subst_vars;try first|(apply Tk.mk;kernel_rfl)|exact⟨ah rfl⟩|exact⟨rfl⟩|exact⟨trivial⟩|rfl|contradiction|(apply Ob.mk;(try simp only[ag,ak,aa.ae])<;>(try dsimp only)<;>omega))
 refine⟨Nat,fun i=>i<=L.length,fun i=>⟨aI 25 [0,1,5,6] [.a (.sl 0 [] 0 L.length),.a (vI s),.a (.sl 1 [] 0 (eg (L.take i) s).length),.a (vI i)],[],[.arr 67 kK L false false,.arr 3 kI (eg (L.take i) s) true true]⟩,fun i=>L.length-i,0,[0,1000],Nat.zero_le _,?_,?_⟩
 ·repeat'((conv=>whnf)<;>first|apply And.intro|intro _|rfl|trivial|exact ah rfl|exact aS ‹_› rfl|exact aT ‹_› rfl|((repeat' first|rfl|constructor);done)|exact h0|exact az7.symm)
 rintro i hi;have DG:(eg (L.take i) s).length<=20:=by have:=arb (L.take i) s;rw[List.length_take]at this;omega
 by_cases hi1:i<L.length
 ·have p0:decide ((i:Int)<(L.length:Int))=true:=decide_eq_true (by omega)
  have hst:=ava hi1 s;rw[show bk L i=gr L i from(tb L i).symm]at hst;cases hb:gi (Int.toNat (i:Int)) (Int.toNat (s:Int))
  ·have hb':gi i s=false:=by simpa using hb
   rw[hb']at hst;simp only[Bool.false_eq_true,if_false]at hst;repeat'((conv=>whnf);first|apply And.intro|exact bA (by subst_vars;assumption)|intro h9)
   all_goals(try(conv=>whnf))<;>(subst_vars;try first|(apply Tk.mk;kernel_rfl)|exact⟨ah rfl⟩|exact⟨rfl⟩|exact⟨trivial⟩|rfl|contradiction|(apply Ob.mk;(try simp only[ag,ak,aa.ae])<;>(try dsimp only)<;>omega))
   all_goals
    refine⟨i+1,[0,1],hi1,?_,by show L.length-(i+1)<L.length-i;omega⟩
    dsimp only;rw[hst];repeat'((conv=>whnf)<;>first|apply And.intro|intro _|rfl|trivial|exact ah rfl|exact aS ‹_› rfl|exact aT ‹_› rfl|((repeat' first|rfl|constructor);done))
  have hb':gi i s=true:=by simpa using hb
  rw[hb']at hst;simp only[if_true]at hst;have amC:=congrArg List.length hst;rw[List.length_append,List.length_singleton]at amC;repeat'((conv=>whnf);first|apply And.intro|exact bA (by subst_vars;assumption)|intro h9)
  all_goals(try(conv=>whnf))<;>(subst_vars;try first|(apply Tk.mk;kernel_rfl)|exact⟨ah rfl⟩|exact⟨rfl⟩|exact⟨trivial⟩|rfl|contradiction|(apply Ob.mk;(try simp only[ag,ak,aa.ae])<;>(try dsimp only)<;>omega))
  all_goals try first|exact⟨show 0+Int.toNat (i:Int)<L.length by omega⟩|exact⟨Nat.zero_add _⟩|exact⟨show((eg (L.take i) s).length+1)*1<=1099511627776 by omega⟩
  all_goals
   refine⟨i+1,[0,1],hi1,?_,by show L.length-(i+1)<L.length-i;omega⟩
   repeat'((conv=>whnf)<;>first|apply And.intro|intro _|rfl|trivial|exact ah rfl|exact aS ‹_› rfl|exact aT ‹_› rfl|((repeat' first|rfl|constructor);done)|exact amC.symm|exact⟨rfl,rfl,hst.symm⟩)
 have p0:decide ((i:Int)<(L.length:Int))=false:=decide_eq_false (by omega)
 have ht:eg L s=eg (L.take i) s:=by rw[List.take_of_length_le (by omega)]
 rw[Int.toNat_natCast,ht]at hK;repeat'((conv=>whnf);first|apply And.intro|exact bA (by subst_vars;assumption)|intro h9)
 all_goals(try(conv=>whnf))<;>(subst_vars;try first|(apply Tk.mk;kernel_rfl)|exact⟨ah rfl⟩|exact⟨rfl⟩|exact⟨trivial⟩|rfl|contradiction|(apply Ob.mk;(try simp only[ag,ak,aa.ae])<;>(try dsimp only)<;>omega))
 refine bu.base ⟨_,[1],hK,⟨rfl,rfl,by simp,trivial⟩,rfl,?_⟩
 repeat'((conv=>whnf)<;>first|apply And.intro|intro _|rfl|trivial))
end Go.Proofs.Ytccnimhgjjnmoaa
end
section
namespace Go.Proofs.Ytccnimhgjjnmoaa
open Go Go.Sy Go.dg
variable {Γ:bn}
attribute [local irreducible] ck gi wN sub blk akv eg RK eA l7 kB akM
def axY (L:List Bk) (l t f:Int):cM:=⟨[.arr 3 kI (gf l t f L) true true],.a (.sl 0 [] 0 (gf l t f L).length)⟩
def aqK:au:=avN (fun L l t f=>[aoI L,(aa.of (0<=f/\f<=1000000)),(aa.of (-1152921504606846976<=l/\l<=1152921504606846976)),(aa.of (-1152921504606846976<=t/\t<=1152921504606846976))]) axY
noncomputable def axm:List (Nat×au):=[(51,aoM)]
theorem asv:aR Try.prog Γ axm:=(aR.nil.cons (aj Try.func51 rfl rfl).fn apF)
theorem arO:au.Ok Try.prog Γ 27 aqK:=auS (d:=0) (aP asv bq.nil false 0) (aj Try.func27 rfl rfl) (by
 intro L l t f K ⟨hB,hf,hl,ht,_⟩ hK;simp only[aa.ae]at hf hl ht;replace hB:gb L:=hB;have hn:=hB.Kg;have hp:=akO hn;have hsh:=atY L.length;have ayk:=Nat.two_pow_pos L.length;have xX:ak .i64 (1*2^Int.toNat (L.length:Int)):=by rw[Int.toNat_natCast,hsh];simp only[ak];omega
 have az8:(RK l t f L 1).length=0:=by rw[apS];rfl
 unfold axY at hK;repeat'((conv=>whnf);first|apply And.intro|exact bA (by subst_vars;assumption)|intro h9)
 all_goals(try(conv=>whnf))<;>(subst_vars;try first|(apply Tk.mk;kernel_rfl)|exact⟨ah rfl⟩|exact⟨rfl⟩|exact⟨trivial⟩|rfl|contradiction|(apply Ob.mk;(try simp only[ag,ak,aa.ae])<;>(try dsimp only)<;>omega))
 refine⟨Nat,fun i=>1<=i/\i<=2^L.length,fun i=>⟨aI 23 [0,3,5,6] [.a (.sl 0 [] 0 L.length),.a (.p 1 [] 0 0),.a (.sl 2 [] 0 (RK l t f L i).length),.a (vI i)],[],[.arr 67 kK L false false,.box true [vI l,vI t,vI f],.arr 3 kI (RK l t f L i) true true]⟩,fun i=>2^L.length-i,1,[0,1,1000],⟨Nat.le_refl _,ayk⟩,?_,?_⟩
 ·repeat'((conv=>whnf)<;>first|apply And.intro|intro _|rfl|trivial|exact ah rfl|exact aS ‹_› rfl|exact aT ‹_› rfl|((repeat' first|rfl|constructor);done)|exact apS|exact az8)
 rintro i ⟨hi0,hi⟩;have DG:=apR (l:=l) (t:=t) (f:=f) (L:=L) i;by_cases hi1:i<2^L.length
 ·have p0:decide ((i:Int)<1*2^Int.toNat (L.length:Int))=true:=decide_eq_true (by rw[Int.toNat_natCast,hsh];omega)
  have hst:=atp (l:=l) (t:=t) (f:=f) (L:=L) i;cases hb:akv l t f L (Int.toNat (i:Int))
  ·have hb':akv l t f L i=false:=by simpa using hb
   rw[hb']at hst;simp only[Bool.false_eq_true,if_false]at hst;repeat'((conv=>whnf);first|apply And.intro|exact bA (by subst_vars;assumption)|intro h9)
   all_goals(try(conv=>whnf))<;>(subst_vars;try first|(apply Tk.mk;kernel_rfl)|exact⟨ah rfl⟩|exact⟨rfl⟩|exact⟨trivial⟩|rfl|contradiction|(apply Ob.mk;(try simp only[ag,ak,aa.ae])<;>(try dsimp only)<;>omega))
   all_goals try first|exact⟨hB⟩|exact⟨xX⟩|exact⟨show(L.length:Int)<=64 by omega⟩
   all_goals
    refine⟨i+1,[0,1,2],⟨by omega,hi1⟩,?_,by show 2^L.length-(i+1)<2^L.length-i;omega⟩
    dsimp only;rw[hst];repeat'((conv=>whnf)<;>first|apply And.intro|intro _|rfl|trivial|exact ah rfl|exact aS ‹_› rfl|exact aT ‹_› rfl|((repeat' first|rfl|constructor);done))
  have hb':akv l t f L i=true:=by simpa using hb
  rw[hb']at hst;simp only[if_true]at hst;have amC:=congrArg List.length hst;rw[List.length_append,List.length_singleton]at amC;repeat'((conv=>whnf);first|apply And.intro|exact bA (by subst_vars;assumption)|intro h9)
  all_goals(try(conv=>whnf))<;>(subst_vars;try first|(apply Tk.mk;kernel_rfl)|exact⟨ah rfl⟩|exact⟨rfl⟩|exact⟨trivial⟩|rfl|contradiction|(apply Ob.mk;(try simp only[ag,ak,aa.ae])<;>(try dsimp only)<;>omega))
  all_goals try first|exact⟨hB⟩|exact⟨xX⟩|exact⟨show(L.length:Int)<=64 by omega⟩|exact⟨Nat.zero_add _⟩|exact⟨show((RK l t f L i).length+1)*1<=1099511627776 by omega⟩
  all_goals
   refine⟨i+1,[0,1,2],⟨by omega,hi1⟩,?_,by show 2^L.length-(i+1)<2^L.length-i;omega⟩
   repeat'((conv=>whnf)<;>first|apply And.intro|intro _|rfl|trivial|exact ah rfl|exact aS ‹_› rfl|exact aT ‹_› rfl|((repeat' first|rfl|constructor);done)|exact amC.symm|exact⟨rfl,rfl,hst.symm⟩)
 have p0:decide ((i:Int)<1*2^Int.toNat (L.length:Int))=false:=decide_eq_false (by rw[Int.toNat_natCast,hsh];omega)
 have hg:gf l t f L=RK l t f L i:=by unfold gf;rw[show 2^L.length=i by omega]
 rw[hg]at hK;repeat'((conv=>whnf);first|apply And.intro|exact bA (by subst_vars;assumption)|intro h9)
 all_goals(try(conv=>whnf))<;>(subst_vars;try first|(apply Tk.mk;kernel_rfl)|exact⟨ah rfl⟩|exact⟨rfl⟩|exact⟨trivial⟩|rfl|contradiction|(apply Ob.mk;(try simp only[ag,ak,aa.ae])<;>(try dsimp only)<;>omega))
 all_goals try first|exact⟨xX⟩|exact⟨show(L.length:Int)<=64 by omega⟩
 refine bu.base ⟨_,[2],hK,⟨rfl,rfl,by simp,trivial⟩,rfl,?_⟩
 repeat'((conv=>whnf)<;>first|apply And.intro|intro _|rfl|trivial))
def aoe:au:=auP (fun L a b=>[aoI L,(aa.of (0<=a/\a.toNat<2^L.length)),(aa.of (0<=b/\b.toNat<2^L.length))]) (fun L a b=>bl (eA L.length a.toNat b.toNat))
noncomputable def axk:List (Nat×au):=[(59,arT),(66,apw)]
theorem ass:aR Try.prog Γ axk:=((aR.nil.cons (aj Try.func66 rfl rfl).fn aqw).cons (aj Try.func59 rfl rfl).fn aoj)
theorem anD:au.Ok Try.prog Γ 60 aoe:=aqW (d:=0) (aP ass bq.nil false 0) (aj Try.func60 rfl rfl) (fun _ _ _=>rfl) (by
 intro L a b ⟨hB,ha,hb,_⟩;simp only[aa.ae]at ha hb;replace hB:gb L:=hB;have hn:=hB.Kg;obtain⟨a,rfl⟩:∃ m:Nat,a=(m:Int):=⟨a.toNat,by omega⟩
 obtain⟨b,rfl⟩:∃ m:Nat,b=(m:Int):=⟨b.toNat,by omega⟩
 rw[Int.toNat_natCast]at ha hb;have a1:=ap9 hn ha.2;have b1:=ap9 hn hb.2;obtain h|h:((blk (Int.toNat (a:Int)):Int)!=(blk (Int.toNat (b:Int)):Int))=true\/((blk (Int.toNat (a:Int)):Int)!=(blk (Int.toNat (b:Int)):Int))=false:=by cases((blk (Int.toNat (a:Int)):Int)!=(blk (Int.toNat (b:Int)):Int))<;>simp
 ·have e:=(aup (n:=L.length) (by omega) ha.2 hb.2 h).symm
  repeat'((conv=>whnf);first|apply And.intro|exact bA (by subst_vars;assumption)|intro h9)
  all_goals(try(conv=>whnf))<;>(subst_vars;try first|(apply Tk.mk;kernel_rfl)|exact⟨ah rfl⟩|exact⟨rfl⟩|exact⟨trivial⟩|rfl|contradiction|(apply Ob.mk;(try simp only[ag,ak,aa.ae])<;>(try dsimp only)<;>omega))
  all_goals first|trivial
 have e:=auo (n:=L.length) (by omega) ha.2 hb.2 h
 rw[Int.toNat_natCast,Int.toNat_natCast,e];have hz:∀ x:Nat,x / 2^0=x:=fun x=>by simp
 repeat'((conv=>whnf);first|apply And.intro|exact bA (by subst_vars;assumption)|intro h9)
 all_goals(try(conv=>whnf))<;>(subst_vars;try first|(apply Tk.mk;kernel_rfl)|exact⟨ah rfl⟩|exact⟨rfl⟩|exact⟨trivial⟩|rfl|contradiction|(apply Ob.mk;(try simp only[ag,ak,aa.ae])<;>(try dsimp only)<;>omega))
 refine⟨Nat,fun i=>i<=L.length/\l7 L.length a b=l7 (L.length-i) (a / 2^i) (b / 2^i),fun i=>⟨aI 36 [0,1,2,9] [.a (.sl 0 [] 0 L.length),.a (vI a),.a (vI b),.a (vI i)],[],[.arr 67 kK L false false]⟩,fun i=>L.length-i,0,[0],⟨Nat.zero_le _,by rw[hz,hz];rfl⟩,?_,?_⟩
 ·repeat'((conv=>whnf)<;>first|apply And.intro|intro _|rfl|trivial|exact ah rfl|exact aS ‹_› rfl|exact aT ‹_› rfl|((repeat' first|rfl|constructor);done))
 rintro i ⟨hi,hd⟩;by_cases hi1:i<L.length
 ·have p0:decide ((i:Int)<(L.length:Int))=true:=decide_eq_true (by omega)
  have hst:=as6 (a:=a) (b:=b) hi1;by_cases hq:gi i a=gi i b
  ·have e1:(!(gi (Int.toNat (i:Int)) (Int.toNat (a:Int))==gi (Int.toNat (i:Int)) (Int.toNat (b:Int))))=false:=by rw[Int.toNat_natCast,Int.toNat_natCast,Int.toNat_natCast,hq];simp
   rw[if_pos hq]at hst;repeat'((conv=>whnf);first|apply And.intro|exact bA (by subst_vars;assumption)|intro h9)
   all_goals(try(conv=>whnf))<;>(subst_vars;try first|(apply Tk.mk;kernel_rfl)|exact⟨ah rfl⟩|exact⟨rfl⟩|exact⟨trivial⟩|rfl|contradiction|(apply Ob.mk;(try simp only[ag,ak,aa.ae])<;>(try dsimp only)<;>omega))
   all_goals
    refine⟨i+1,[0],⟨hi1,hd.trans hst⟩,?_,by show L.length-(i+1)<L.length-i;omega⟩
    repeat'((conv=>whnf)<;>first|apply And.intro|intro _|rfl|trivial|exact ah rfl|exact aS ‹_› rfl|exact aT ‹_› rfl|((repeat' first|rfl|constructor);done))
  have e1:(!(gi (Int.toNat (i:Int)) (Int.toNat (a:Int))==gi (Int.toNat (i:Int)) (Int.toNat (b:Int))))=true:=by rw[Int.toNat_natCast,Int.toNat_natCast,Int.toNat_natCast];simpa using hq
  rw[if_neg hq]at hst;have e2:gi (Int.toNat (i:Int)) (Int.toNat (a:Int))=l7 L.length a b:=(hd.trans hst).symm;repeat'((conv=>whnf);first|apply And.intro|exact bA (by subst_vars;assumption)|intro h9)
  all_goals(try(conv=>whnf))<;>(subst_vars;try first|(apply Tk.mk;kernel_rfl)|exact⟨ah rfl⟩|exact⟨rfl⟩|exact⟨trivial⟩|rfl|contradiction|(apply Ob.mk;(try simp only[ag,ak,aa.ae])<;>(try dsimp only)<;>omega))
  all_goals first|trivial
 have p0:decide ((i:Int)<(L.length:Int))=false:=decide_eq_false (by omega)
 have e2:l7 L.length a b=false:=by rw[hd,show L.length-i=0 by omega];unfold l7;rfl
 rw[e2];repeat'((conv=>whnf);first|apply And.intro|exact bA (by subst_vars;assumption)|intro h9)
 all_goals(try(conv=>whnf))<;>(subst_vars;try first|(apply Tk.mk;kernel_rfl)|exact⟨ah rfl⟩|exact⟨rfl⟩|exact⟨trivial⟩|rfl|contradiction|(apply Ob.mk;(try simp only[ag,ak,aa.ae])<;>(try dsimp only)<;>omega)))
end Go.Proofs.Ytccnimhgjjnmoaa
end
section
namespace Go.Proofs.Ytccnimhgjjnmoaa
open Go Go.Sy Go.dg
variable {Γ:bn}
attribute [local irreducible] ck gi wN eA E2 akM ak2 alK
instance (n:Nat) (l:List Int):Decidable (amI n l):=by unfold amI;infer_instance
theorem Sp (n:Int):akV n=dst n:=aqU n
def anJ:au:=azk (fun L l=>[aoI L,(aa.of (amI L.length l)),(aa.of (l.length<=2000000))]) (fun L l=> .a (vI (kB L.length (l.map Int.toNat))))
noncomputable def asF:List (Nat×au):=[(60,aoe)]
theorem apt:aR Try.prog Γ asF:=(aR.nil.cons (aj Try.func60 rfl rfl).fn anD)
theorem ao9:au.Ok Try.prog Γ 30 anJ:=axK (d:=0) (aP apt bq.nil false 0) (aj Try.func30 rfl rfl) (fun _ _=>rfl) (by
 intro L l ⟨hB,hs,Np,_⟩;simp only[aa.ae]at hs Np;replace hB:gb L:=hB;have abw:(0:Int)=(E2 L.length l 0:Nat):=by unfold E2;rfl
 repeat'((conv=>whnf);first|apply And.intro|exact bA (by subst_vars;assumption)|intro h9)
 all_goals(try(conv=>whnf))<;>(subst_vars;try first|(apply Tk.mk;kernel_rfl)|exact⟨ah rfl⟩|exact⟨rfl⟩|exact⟨trivial⟩|rfl|contradiction|(apply Ob.mk;(try simp only[ag,ak,aa.ae])<;>(try dsimp only)<;>omega))
 refine⟨Nat,fun i=>i<=l.length,fun i=>⟨aI 29 [0,1,5,6] [.a (.sl 0 [] 0 L.length),.a (.sl 1 [] 0 l.length),.a (vI (E2 L.length l i:Nat)),.a (vI i)],[],[.arr 67 kK L false false,.arr 3 kI l false false]⟩,fun i=>l.length-i,0,[0,1],Nat.zero_le _,?_,?_⟩
 ·repeat'((conv=>whnf)<;>first|apply And.intro|intro _|rfl|trivial|exact ah rfl|exact aS ‹_› rfl|exact aT ‹_› rfl|((repeat' first|rfl|constructor);done)|exact abw)
 rintro i hi;have Hg:=aqY hs hi;by_cases hi1:i<l.length
 ·have p0:decide ((i:Int)<(l.length:Int))=true:=decide_eq_true (by omega)
  have hx:=hs _ (List.getElem_mem hi1);rw[<-ala hi1]at hx;have hst:=aoR (n:=L.length) hi1;rw[<-ala hi1]at hst;have azA:iA l i=(((iA l i).toNat:Nat):Int):=by omega
  have hidx:0+Int.toNat (i:Int)<l.length:=by omega
  have azu:0<=iA l i/\(iA l i).toNat<2^L.length:=hx;have hdb:0<=((E2 L.length l i:Nat):Int)/\Int.toNat ((E2 L.length l i:Nat):Int)<2^L.length:=⟨by omega,by rw[Int.toNat_natCast];exact Hg⟩
  by_cases hb:E2 L.length l i=0
  ·have p1:(((E2 L.length l i:Nat):Int)==0)=true:=by rw[hb];rfl
   have hn:iA l i=(E2 L.length l (i+1):Nat):=by rw[hst];unfold akM;rw[if_pos (.inl hb)];exact azA
   replace hb:=And.intro hb trivial;repeat'((conv=>whnf);first|apply And.intro|exact bA (by subst_vars;assumption)|intro h9)
   all_goals(try(conv=>whnf))<;>(subst_vars;try first|(apply Tk.mk;kernel_rfl)|exact⟨ah rfl⟩|exact⟨rfl⟩|exact⟨trivial⟩|rfl|contradiction|(apply Ob.mk;(try simp only[ag,ak,aa.ae])<;>(try dsimp only)<;>omega))
   all_goals try first|exact⟨hidx⟩
   refine⟨i+1,[0,1],hi1,?_,by show l.length-(i+1)<l.length-i;omega⟩
   repeat'((conv=>whnf)<;>first|apply And.intro|intro _|rfl|trivial|exact ah rfl|exact aS ‹_› rfl|exact aT ‹_› rfl|((repeat' first|rfl|constructor);done)|exact hn)
  have p1:(((E2 L.length l i:Nat):Int)==0)=false:=by rw[beq_eq_false_iff_ne];omega
  cases ha:eA L.length (iA l i).toNat (Int.toNat ((E2 L.length l i:Nat):Int))
  ·have ax8:¬eA L.length (iA l i).toNat (E2 L.length l i)=true:=by rw[Int.toNat_natCast]at ha;rw[ha];simp
   have hn:((E2 L.length l i:Nat):Int)=(E2 L.length l (i+1):Nat):=by rw[hst];unfold akM;rw[if_neg (fun h=>by rcases h with h|h;exact hb h;exact ax8 h)]
   repeat'((conv=>whnf);first|apply And.intro|exact bA (by subst_vars;assumption)|intro h9)
   all_goals(try(conv=>whnf))<;>(subst_vars;try first|(apply Tk.mk;kernel_rfl)|exact⟨ah rfl⟩|exact⟨rfl⟩|exact⟨trivial⟩|rfl|contradiction|(apply Ob.mk;(try simp only[ag,ak,aa.ae])<;>(try dsimp only)<;>omega))
   all_goals try first|exact⟨hB⟩|exact⟨hdb⟩|exact⟨azu⟩|exact⟨hidx⟩
   refine⟨i+1,[0,1],hi1,?_,by show l.length-(i+1)<l.length-i;omega⟩
   repeat'((conv=>whnf)<;>first|apply And.intro|intro _|rfl|trivial|exact ah rfl|exact aS ‹_› rfl|exact aT ‹_› rfl|((repeat' first|rfl|constructor);done)|exact hn)
  have ax8:eA L.length (iA l i).toNat (E2 L.length l i)=true:=by rw[Int.toNat_natCast]at ha;exact ha
  have hn:iA l i=(E2 L.length l (i+1):Nat):=by rw[hst];unfold akM;rw[if_pos (.inr ax8)];exact azA
  repeat'((conv=>whnf);first|apply And.intro|exact bA (by subst_vars;assumption)|intro h9)
  all_goals(try(conv=>whnf))<;>(subst_vars;try first|(apply Tk.mk;kernel_rfl)|exact⟨ah rfl⟩|exact⟨rfl⟩|exact⟨trivial⟩|rfl|contradiction|(apply Ob.mk;(try simp only[ag,ak,aa.ae])<;>(try dsimp only)<;>omega))
  all_goals try first|exact⟨hB⟩|exact⟨hdb⟩|exact⟨azu⟩|exact⟨hidx⟩
  refine⟨i+1,[0,1],hi1,?_,by show l.length-(i+1)<l.length-i;omega⟩
  repeat'((conv=>whnf)<;>first|apply And.intro|intro _|rfl|trivial|exact ah rfl|exact aS ‹_› rfl|exact aT ‹_› rfl|((repeat' first|rfl|constructor);done)|exact hn)
 have p0:decide ((i:Int)<(l.length:Int))=false:=decide_eq_false (by omega)
 have ajV:E2 L.length l i=kB L.length (l.map Int.toNat):=by unfold E2 kB;rw[List.take_of_length_le (by omega)]
 rw[<-ajV];repeat'((conv=>whnf);first|apply And.intro|exact bA (by subst_vars;assumption)|intro h9)
 all_goals(try(conv=>whnf))<;>(subst_vars;try first|(apply Tk.mk;kernel_rfl)|exact⟨ah rfl⟩|exact⟨rfl⟩|exact⟨trivial⟩|rfl|contradiction|(apply Ob.mk;(try simp only[ag,ak,aa.ae])<;>(try dsimp only)<;>omega)))
abbrev kS (f l:Int) (L:List Bk) (s:Nat):Int:=wN f L s-f-l
abbrev nI (f l:Int) (L:List Bk) (i:Nat):Nat×Int:=ak2 L.length (kS f l L) i
def amu:au:=anQ (fun L l t f=>[aoI L,(aa.of (0<=f/\f<=1000000)),(aa.of (0<=l/\l<=1125899906842624))]) (fun L l t f=> .bF [.a (vI (gm L.length (kS f l L)).1),.a (vI (gm L.length (kS f l L)).2)])
noncomputable def aqu:List (Nat×au):=[(50,alJ),(61,avJ),(60,aoe)]
theorem aoc:aR Try.prog Γ aqu:=(((aR.nil.cons (aj Try.func60 rfl rfl).fn anD).cons (aj Try.func61 rfl rfl).fn auC).cons (aj Try.func50 rfl rfl).fn alP)
theorem anK:au.Ok Try.prog Γ 31 amu:=alq (d:=0) (aP aoc bq.nil false 0) (aj Try.func31 rfl rfl) (fun _ _ _ _=>rfl) (by
 intro L l t f ⟨hB,hf,hl,_⟩;simp only[aa.ae]at hf hl;replace hB:gb L:=hB;have hn:=hB.Kg;have hp:=akO hn;have hsh:=atY L.length;have ayk:=Nat.two_pow_pos L.length;have xX:ak .i64 (1*2^Int.toNat (L.length:Int)):=by rw[Int.toNat_natCast,hsh];simp only[ak];omega
 have atz:∀ s,0<=wN f L s/\wN f L s<=1125899926842620:=fun s=>by
  have:=hB.sub_le (a:=0) (b:=L.length) (by omega) hf.1 hf.2 L.length s
  rwa[alV,List.take_length]at this
 have azS:(0:Int)=((nI f l L 1).1:Nat):=by rw[show nI f l L 1=(0,0)from anl _ _];rfl
 have azT:(0:Int)=(nI f l L 1).2:=by rw[show nI f l L 1=(0,0)from anl _ _]
 repeat'((conv=>whnf);first|apply And.intro|exact bA (by subst_vars;assumption)|intro h9)
 all_goals(try(conv=>whnf))<;>(subst_vars;try first|(apply Tk.mk;kernel_rfl)|exact⟨ah rfl⟩|exact⟨rfl⟩|exact⟨trivial⟩|rfl|contradiction|(apply Ob.mk;(try simp only[ag,ak,aa.ae])<;>(try dsimp only)<;>omega))
 refine⟨Nat,fun i=>1<=i/\i<=2^L.length,fun i=>⟨aI 51 [0,3,6,7,8] [.a (.sl 0 [] 0 L.length),.a (.p 1 [] 0 0),.a (vI ((nI f l L i).1:Nat)),.a (vI (nI f l L i).2),.a (vI i)],[],[.arr 67 kK L false false,.box true [vI l,vI t,vI f]]⟩,fun i=>2^L.length-i,1,[0,1],⟨Nat.le_refl _,ayk⟩,?_,?_⟩
 ·repeat'((conv=>whnf)<;>first|apply And.intro|intro _|rfl|trivial|exact ah rfl|exact aS ‹_› rfl|exact aT ‹_› rfl|((repeat' first|rfl|constructor);done)|exact azS|exact azT)
 rintro i ⟨hi0,hi⟩;obtain⟨AE,azv,hmn⟩:=ark (n:=L.length) (x:=kS f l L) hi0 hi;replace AE:(nI f l L i).1<i:=AE;have hm:-1152921504606846976<=(nI f l L i).2/\(nI f l L i).2<=1152921504606846976:=by
  by_cases e:(nI f l L i).1=0
  ·rw[azv e];omega
  ·have:=atz (nI f l L i).1;rw[hmn e];show -1152921504606846976<=wN f L (nI f l L i).1-f-l/\wN f L (nI f l L i).1-f-l<=1152921504606846976;omega
 clear azv hmn;by_cases hi1:i<2^L.length
 ·have p0:decide ((i:Int)<1*2^Int.toNat (L.length:Int))=true:=decide_eq_true (by rw[Int.toNat_natCast,hsh];omega)
  have hw:=atz (Int.toNat (i:Int));have hst:=ao0 (n:=L.length) (x:=kS f l L) hi0;have r1:ak .i64 (wN f L (Int.toNat (i:Int))-f-l):=by simp only[ak];omega
  have cq:-1152921504606846976<=wN f L (Int.toNat (i:Int))-f-l/\wN f L (Int.toNat (i:Int))-f-l<=1152921504606846976:=by omega
  have azt:0<=(i:Int)/\Int.toNat (i:Int)<2^L.length:=⟨by omega,by rw[Int.toNat_natCast];exact hi1⟩
  have hdb:0<=(((nI f l L i).1:Nat):Int)/\Int.toNat (((nI f l L i).1:Nat):Int)<2^L.length:=⟨by omega,by rw[Int.toNat_natCast];omega⟩
  have aAL:kS f l L i=wN f L (Int.toNat (i:Int))-f-l:=rfl;have ni:(nI f l L i).1=0\/dst (kS f l L i)<dst (nI f l L i).2\/(dst (kS f l L i)=dst (nI f l L i).2/\eA L.length i (nI f l L i).1=true)->(i:Int)=((nI f l L (i+1)).1:Nat)/\wN f L (Int.toNat (i:Int))-f-l=(nI f l L (i+1)).2:=fun h=>by
   have:nI f l L (i+1)=(i,kS f l L i):=hst.trans (by unfold alK;exact if_pos h)
   rw[this];exact⟨rfl,rfl⟩
  have no:¬((nI f l L i).1=0\/dst (kS f l L i)<dst (nI f l L i).2\/(dst (kS f l L i)=dst (nI f l L i).2/\eA L.length i (nI f l L i).1=true))->(((nI f l L i).1:Nat):Int)=((nI f l L (i+1)).1:Nat)/\(nI f l L i).2=(nI f l L (i+1)).2:=fun h=>by
   have:nI f l L (i+1)=nI f l L i:=hst.trans (by unfold alK;exact if_neg h)
   rw[this];exact⟨rfl,rfl⟩
  clear hst;by_cases c1:(nI f l L i).1=0
  ·have p1:((((nI f l L i).1:Nat):Int)==0)=true:=by rw[c1];rfl
   have hN:=ni (.inl c1);replace c1:=And.intro c1 trivial;repeat'((conv=>whnf);first|apply And.intro|exact bA (by subst_vars;assumption)|intro h9)
   all_goals(try(conv=>whnf))<;>(subst_vars;try first|(apply Tk.mk;kernel_rfl)|exact⟨ah rfl⟩|exact⟨rfl⟩|exact⟨trivial⟩|rfl|contradiction|(apply Ob.mk;(try simp only[ag,ak,aa.ae])<;>(try dsimp only)<;>omega))
   all_goals try first|exact⟨hB⟩|exact⟨xX⟩|exact⟨r1⟩|exact⟨show(L.length:Int)<=64 by omega⟩
   refine⟨i+1,[0,1],⟨by omega,hi1⟩,?_,by show 2^L.length-(i+1)<2^L.length-i;omega⟩
   repeat'((conv=>whnf)<;>first|apply And.intro|intro _|rfl|trivial|exact ah rfl|exact aS ‹_› rfl|exact aT ‹_› rfl|((repeat' first|rfl|constructor);done)|exact hN.1|exact hN.2)
  have p1:((((nI f l L i).1:Nat):Int)==0)=false:=by rw[beq_eq_false_iff_ne];omega
  by_cases c2:akV (wN f L (Int.toNat (i:Int))-f-l)<akV (nI f l L i).2
  ·have p2:decide (akV (wN f L (Int.toNat (i:Int))-f-l)<akV (nI f l L i).2)=true:=decide_eq_true c2;have hN:=ni (.inr (.inl (by rw[Sp,Sp]at c2;exact c2)))
   repeat'((conv=>whnf);first|apply And.intro|exact bA (by subst_vars;assumption)|intro h9)
   all_goals(try(conv=>whnf))<;>(subst_vars;try first|(apply Tk.mk;kernel_rfl)|exact⟨ah rfl⟩|exact⟨rfl⟩|exact⟨trivial⟩|rfl|contradiction|(apply Ob.mk;(try simp only[ag,ak,aa.ae])<;>(try dsimp only)<;>omega))
   all_goals try first|exact⟨hB⟩|exact⟨xX⟩|exact⟨r1⟩|exact⟨cq⟩|exact⟨show(L.length:Int)<=64 by omega⟩
   refine⟨i+1,[0,1],⟨by omega,hi1⟩,?_,by show 2^L.length-(i+1)<2^L.length-i;omega⟩
   repeat'((conv=>whnf)<;>first|apply And.intro|intro _|rfl|trivial|exact ah rfl|exact aS ‹_› rfl|exact aT ‹_› rfl|((repeat' first|rfl|constructor);done)|exact hN.1|exact hN.2)
  have p2:decide (akV (wN f L (Int.toNat (i:Int))-f-l)<akV (nI f l L i).2)=false:=decide_eq_false c2;by_cases c3:akV (wN f L (Int.toNat (i:Int))-f-l)=akV (nI f l L i).2
  ·have p3:(akV (wN f L (Int.toNat (i:Int))-f-l)==akV (nI f l L i).2)=true:=beq_iff_eq.2 c3;cases c4:eA L.length (Int.toNat (i:Int)) (Int.toNat (((nI f l L i).1:Nat):Int))
   ·have hN:=no (fun h=>by
     rcases h with h|h|h
     ·exact c1 h
     ·rw[Sp,Sp]at c2;exact c2 h
     ·rw[Int.toNat_natCast,Int.toNat_natCast,h.2]at c4;cases c4)
    repeat'((conv=>whnf);first|apply And.intro|exact bA (by subst_vars;assumption)|intro h9)
    all_goals(try(conv=>whnf))<;>(subst_vars;try first|(apply Tk.mk;kernel_rfl)|exact⟨ah rfl⟩|exact⟨rfl⟩|exact⟨trivial⟩|rfl|contradiction|(apply Ob.mk;(try simp only[ag,ak,aa.ae])<;>(try dsimp only)<;>omega))
    all_goals try first|exact⟨hB⟩|exact⟨xX⟩|exact⟨r1⟩|exact⟨cq⟩|exact⟨azt⟩|exact⟨hdb⟩|exact⟨show(L.length:Int)<=64 by omega⟩
    refine⟨i+1,[0,1],⟨by omega,hi1⟩,?_,by show 2^L.length-(i+1)<2^L.length-i;omega⟩
    repeat'((conv=>whnf)<;>first|apply And.intro|intro _|rfl|trivial|exact ah rfl|exact aS ‹_› rfl|exact aT ‹_› rfl|((repeat' first|rfl|constructor);done)|exact hN.1|exact hN.2)
   have hN:=ni (.inr (.inr ⟨by rw[Sp,Sp]at c3;exact c3,by rw[Int.toNat_natCast,Int.toNat_natCast]at c4;exact c4⟩))
   repeat'((conv=>whnf);first|apply And.intro|exact bA (by subst_vars;assumption)|intro h9)
   all_goals(try(conv=>whnf))<;>(subst_vars;try first|(apply Tk.mk;kernel_rfl)|exact⟨ah rfl⟩|exact⟨rfl⟩|exact⟨trivial⟩|rfl|contradiction|(apply Ob.mk;(try simp only[ag,ak,aa.ae])<;>(try dsimp only)<;>omega))
   all_goals try first|exact⟨hB⟩|exact⟨xX⟩|exact⟨r1⟩|exact⟨cq⟩|exact⟨azt⟩|exact⟨hdb⟩|exact⟨show(L.length:Int)<=64 by omega⟩
   refine⟨i+1,[0,1],⟨by omega,hi1⟩,?_,by show 2^L.length-(i+1)<2^L.length-i;omega⟩
   repeat'((conv=>whnf)<;>first|apply And.intro|intro _|rfl|trivial|exact ah rfl|exact aS ‹_› rfl|exact aT ‹_› rfl|((repeat' first|rfl|constructor);done)|exact hN.1|exact hN.2)
  have p3:(akV (wN f L (Int.toNat (i:Int))-f-l)==akV (nI f l L i).2)=false:=beq_eq_false_iff_ne.2 c3;have hN:=no (fun h=>by
   rcases h with h|h|h
   ·exact c1 h
   ·rw[Sp,Sp]at c2;exact c2 h
   ·rw[Sp,Sp]at c3;exact c3 h.1)
  repeat'((conv=>whnf);first|apply And.intro|exact bA (by subst_vars;assumption)|intro h9)
  all_goals(try(conv=>whnf))<;>(subst_vars;try first|(apply Tk.mk;kernel_rfl)|exact⟨ah rfl⟩|exact⟨rfl⟩|exact⟨trivial⟩|rfl|contradiction|(apply Ob.mk;(try simp only[ag,ak,aa.ae])<;>(try dsimp only)<;>omega))
  all_goals try first|exact⟨hB⟩|exact⟨xX⟩|exact⟨r1⟩|exact⟨cq⟩|exact⟨show(L.length:Int)<=64 by omega⟩
  refine⟨i+1,[0,1],⟨by omega,hi1⟩,?_,by show 2^L.length-(i+1)<2^L.length-i;omega⟩
  repeat'((conv=>whnf)<;>first|apply And.intro|intro _|rfl|trivial|exact ah rfl|exact aS ‹_› rfl|exact aT ‹_› rfl|((repeat' first|rfl|constructor);done)|exact hN.1|exact hN.2)
 have p0:decide ((i:Int)<1*2^Int.toNat (L.length:Int))=false:=decide_eq_false (by rw[Int.toNat_natCast,hsh];omega)
 have ajV:gm L.length (kS f l L)=nI f l L i:=by show _=ak2 L.length (kS f l L) i;unfold ak2;rw[show i=2^L.length by omega];rfl
 rw[ajV];repeat'((conv=>whnf);first|apply And.intro|exact bA (by subst_vars;assumption)|intro h9)
 all_goals(try(conv=>whnf))<;>(subst_vars;try first|(apply Tk.mk;kernel_rfl)|exact⟨ah rfl⟩|exact⟨rfl⟩|exact⟨trivial⟩|rfl|contradiction|(apply Ob.mk;(try simp only[ag,ak,aa.ae])<;>(try dsimp only)<;>omega))
 all_goals first|trivial|exact⟨xX⟩|exact⟨show(L.length:Int)<=64 by omega⟩)
end Go.Proofs.Ytccnimhgjjnmoaa
end
section
namespace Go.Proofs.Ytccnimhgjjnmoaa
open Go Go.Sy Go.dg
variable {Γ:bn}
def alg (L:List Bk):Bool:=decide ((L.length:Int)<=12)||(decide ((L.length:Int)>20)&&decide ((L.length:Int)<=30))
def Df:au:=fB (fun _=>[]) (fun L=>bl (alg L))
theorem EJ:au.Ok Try.prog Γ 20 Df:=apf (d:=0) (aP aR.nil bq.nil false 0) (aj Try.func20 rfl rfl) (fun _=>rfl) (by
 intro L _;cases h1:decide ((L.length:Int)<=12)
 ·cases h2:decide ((L.length:Int)>20)
  ·rw[show alg L=false by unfold alg;rw[h1,h2];rfl]
   repeat'((conv=>whnf);first|apply And.intro|exact bA (by subst_vars;assumption)|intro h9)
   all_goals(try(conv=>whnf))<;>(subst_vars;try first|(apply Tk.mk;kernel_rfl)|exact⟨ah rfl⟩|exact⟨rfl⟩|exact⟨trivial⟩|rfl|contradiction|(apply Ob.mk;(try simp only[ag,ak,aa.ae])<;>(try dsimp only)<;>omega))
  ·cases h3:decide ((L.length:Int)<=30)
   ·rw[show alg L=false by unfold alg;rw[h1,h2,h3];rfl]
    repeat'((conv=>whnf);first|apply And.intro|exact bA (by subst_vars;assumption)|intro h9)
    all_goals(try(conv=>whnf))<;>(subst_vars;try first|(apply Tk.mk;kernel_rfl)|exact⟨ah rfl⟩|exact⟨rfl⟩|exact⟨trivial⟩|rfl|contradiction|(apply Ob.mk;(try simp only[ag,ak,aa.ae])<;>(try dsimp only)<;>omega))
    all_goals first|trivial
   ·rw[show alg L=true by unfold alg;rw[h1,h2,h3];rfl]
    repeat'((conv=>whnf);first|apply And.intro|exact bA (by subst_vars;assumption)|intro h9)
    all_goals(try(conv=>whnf))<;>(subst_vars;try first|(apply Tk.mk;kernel_rfl)|exact⟨ah rfl⟩|exact⟨rfl⟩|exact⟨trivial⟩|rfl|contradiction|(apply Ob.mk;(try simp only[ag,ak,aa.ae])<;>(try dsimp only)<;>omega))
    all_goals first|trivial
 ·rw[show alg L=true by unfold alg;rw[h1];rfl]
  repeat'((conv=>whnf);first|apply And.intro|exact bA (by subst_vars;assumption)|intro h9)
  all_goals(try(conv=>whnf))<;>(subst_vars;try first|(apply Tk.mk;kernel_rfl)|exact⟨ah rfl⟩|exact⟨rfl⟩|exact⟨trivial⟩|rfl|contradiction|(apply Ob.mk;(try simp only[ag,ak,aa.ae])<;>(try dsimp only)<;>omega)))
theorem ayO {L:List Bk} (h:alg L=true):L.length<=1000000:=by
 unfold alg at h;rw[Bool.or_eq_true,Bool.and_eq_true,decide_eq_true_eq,decide_eq_true_eq,decide_eq_true_eq]at h;omega
theorem ayN {L:List Bk} (h:alg L=true) (hB:gb L):L.length<=12:=by
 unfold alg at h;have:=hB.Kg;rw[Bool.or_eq_true,Bool.and_eq_true,decide_eq_true_eq,decide_eq_true_eq,decide_eq_true_eq]at h;omega
noncomputable def az5:List (Nat×au):=[(20,Df),(21,tC),(22,ap3),(23,alU),(24,amG),(25,aoi),(26,anH),(27,aqK),(29,avI),(30,anJ),(28,uA),(31,amu)]
theorem axo:aR Try.prog Γ az5:=((((((((((((aR.nil.cons (aj Try.func31 rfl rfl).fn anK).cons (aj Try.func28 rfl rfl).fn yG).cons (aj Try.func30 rfl rfl).fn ao9).cons (aj Try.func29 rfl rfl).fn auA).cons (aj Try.func27 rfl rfl).fn arO).cons (aj Try.func26 rfl rfl).fn ao7).cons (aj Try.func25 rfl rfl).fn anG).cons (aj Try.func24 rfl rfl).fn amH).cons (aj Try.func23 rfl rfl).fn an2).cons (aj Try.func22 rfl rfl).fn aoY).cons (aj Try.func21 rfl rfl).fn sW).cons (aj Try.func20 rfl rfl).fn EJ)
theorem ays (L:List Bk) (l t f:Int):decide (eg L (aku l t f L)=eg L (Int.toNat (kB L.length ((gf l t f L).map Int.toNat):Nat)))=true:=decide_eq_true (by rw[Int.toNat_natCast];rfl)
theorem atE (L:List Bk) (l f:Int):decide (eg L (x9 l f L)=eg L (Int.toNat ((gm L.length (kS f l L)).1:Nat)))=true:=decide_eq_true (by rw[Int.toNat_natCast];rfl)
theorem ara {L:List Bk} (h:L.length<=12) (u:Nat):(eg L u).length<=1000000:=by
 rw[ew];exact Nat.le_trans (ajs _ _) (by omega)
theorem ay7 {l t f:Int} {L:List Bk} (h:gf l t f L≠[]):kB L.length ((gf l t f L).map Int.toNat)<2^L.length:=(aop h).1.lt
structure azL (L:List Bk) (l t f:Int):Prop where
 off:(wN f L (x9 l f L)-f-l==(gm L.length (kS f l L)).2)=true
 wid:((Cn L l t f).1==if 0-(gm L.length (kS f l L)).2>(gm L.length (kS f l L)).2 then 0-(gm L.length (kS f l L)).2 else(gm L.length (kS f l L)).2)=true
 err:((Cn L l t f).2==0)=true
 neg:(ag .i64 (0-(gm L.length (kS f l L)).2)).p
 lt:(gm L.length (kS f l L)).1<2^L.length
theorem arj {L:List Bk} {l t f:Int} (h:bf L l t f=0) (hne:L≠[]):azL L l t f:=by
 obtain⟨hB,hw⟩:=gg h;obtain⟨hl,ht,hf⟩:=wE hw;obtain⟨n3,n4,n5,n6,n7⟩:=atN (l:=l) hf.1 hB.lens hne;have e1:(gm L.length (kS f l L)).2=wN f L (x9 l f L)-f-l:=by show(gm L.length (fun s=>wN f L s-f-l)).2=_;rw[n6]
 have e2:(gm L.length (kS f l L)).1=x9 l f L:=rfl;have h1:=alH hf.1 hB.lens (x9 l f L);have h2:=hB.asr hf.1 hf.2 (x9 l f L);refine⟨by rw[e1];exact beq_self_eq_true _,?_,?_,?_,by rw[e2];exact n3⟩
 ·rw[e1,aqU];unfold Cn;rw[if_pos h,if_neg hne];show(wL f (l+f) L==_)=true;rw[n7];exact beq_self_eq_true _
 ·unfold Cn;rw[if_pos h,if_neg hne];rfl
 ·rw[e1];simp only[ag,ak,aa.ae];omega
attribute [local irreducible] alg bf ck gf aku x9 eg wN Cn kB gm
theorem azf {n:Nat} (h:n<=12):2^n<=4096:=Nat.pow_le_pow_right (by omega) h
def apB:au:=anQ (fun _ _ _ _=>[]) (fun _ _ _ _=>bl true)
theorem anF:au.Ok Try.prog Γ 3 apB:=alq (d:=0) (aP axo bq.nil false 0) (aj Try.func3 rfl rfl) (fun _ _ _ _=>rfl) (by
 intro L l t f _;have z0:((0:Int)==0)=true:=rfl;have z1:((0:Int)+0==0)=true:=rfl;have z2:((5:Int)!=5)=false:=rfl;have z3:((5:Int)==5)=true:=rfl;cases hs:alg L
 ·have w0:(!alg L)=true:=by rw[hs];rfl
  repeat'((conv=>whnf);first|apply And.intro|exact bA (by subst_vars;assumption)|intro h9)
  all_goals(try(conv=>whnf))<;>(subst_vars;try first|(apply Tk.mk;kernel_rfl)|exact⟨ah rfl⟩|exact⟨rfl⟩|exact⟨trivial⟩|rfl|contradiction|(apply Ob.mk;(try simp only[ag,ak,aa.ae])<;>(try dsimp only)<;>omega))
 have hL:=ayO hs;have w0:(!alg L)=false:=by rw[hs];rfl
 cases h0:bf L l t f==0
 ·have a1:(bf L l t f !=0)=true:=by unfold bne;rw[h0];rfl
  have a2:(bf L l t f==bf L l t f)=true:=beq_self_eq_true _;have hn:¬bf L l t f=0:=fun e=>by rw[e]at h0;cases h0
  have a3:((if bf L l t f=0 then(gN l t f L:Int)else 0)==0)=true:=by rw[if_neg hn];rfl
  have a4:((Cn L l t f).2==bf L l t f)=true:=by unfold Cn;rw[if_neg hn];exact a2
  have a5:((Cn L l t f).1==0)=true:=by unfold Cn;rw[if_neg hn];rfl
  repeat'((conv=>whnf);first|apply And.intro|exact bA (by subst_vars;assumption)|intro h9)
  all_goals(try(conv=>whnf))<;>(subst_vars;try first|(apply Tk.mk;kernel_rfl)|exact⟨ah rfl⟩|exact⟨rfl⟩|exact⟨trivial⟩|rfl|contradiction|(apply Ob.mk;(try simp only[ag,ak,aa.ae])<;>(try dsimp only)<;>omega))
  all_goals try first|trivial|exact⟨hL⟩
 have ha:=eq_of_beq h0;obtain⟨hB,hw⟩:=gg ha;obtain⟨hl,ht,hf⟩:=wE hw;have h12:=ayN hs hB;have hp:=azf h12;have i1:=ara h12 (aku l t f L);have i2:=ara h12 (x9 l f L);have nv:(gf l t f L).length<=2000000:=Nat.le_trans (awR l t f L) (by omega)
 have anX:=atq l t f L;have jJ:-1152921504606846976<=l/\l<=1152921504606846976:=by omega
 have UW:-1152921504606846976<=t/\t<=1152921504606846976:=by omega
 have a1:(bf L l t f !=0)=false:=by unfold bne;rw[h0];rfl
 have a3:((if bf L l t f=0 then(gN l t f L:Int)else 0)!=((gf l t f L).length:Int))=false:=by rw[if_pos ha];exact bne_self_eq_false _
 have n1:((0:Int)>0)=False:=by simp
 have n2:decide ((0:Int)>0)=false:=rfl;cases hg:((gN l t f L:Int)==0)
 ·have g1:(((gf l t f L).length:Int)==0)=false:=hg;have g2:decide (((gf l t f L).length:Int)>0)=true:=decide_eq_true (by
   have:¬((gf l t f L).length:Int)=0:=by simpa using hg
   omega)
  have hne:L≠[]:=fun e=>amP hg (by
   subst e;exact List.eq_nil_of_length_eq_zero (by
    have:=(aop (amP hg)).1;have h1:=this.lt;have h2:=this.ne;simp at h1;omega))
  have k0:((L.length:Int)==0)=false:=by
   have:=List.length_pos_iff.2 hne;exact beq_eq_false_iff_ne.2 (by omega)
  obtain⟨q3,q4,q5,am5,hnl⟩:=arj (t:=t) ha hne;have q2:=atE L l f;have hfl:kB L.length ((gf l t f L).map Int.toNat)<2^L.length:=ay7 (amP hg);have q1:(!decide (eg L (aku l t f L)=eg L (Int.toNat (kB L.length ((gf l t f L).map Int.toNat):Nat))))=false:=by rw[ays];rfl
  repeat'((conv=>whnf);first|apply And.intro|exact bA (by subst_vars;assumption)|intro h9)
  all_goals(try(conv=>whnf))<;>(subst_vars;try first|(apply Tk.mk;kernel_rfl)|exact⟨ah rfl⟩|exact⟨rfl⟩|exact⟨trivial⟩|rfl|contradiction|(apply Ob.mk;(try simp only[ag,ak,aa.ae])<;>(try dsimp only)<;>omega))
  all_goals try first|trivial|exact⟨hL⟩|exact⟨hB⟩|exact⟨nv⟩|exact⟨anX⟩|exact⟨am5⟩|exact⟨i1⟩|exact⟨i2⟩|exact⟨⟨by show(0:Int)<=(kB L.length ((gf l t f L).map Int.toNat):Nat);omega,by show((kB L.length ((gf l t f L).map Int.toNat):Nat):Int)<_;omega⟩⟩|exact⟨⟨by show(0:Int)<=((gm L.length (kS f l L)).1:Nat);omega,by show(((gm L.length (kS f l L)).1:Nat):Int)<_;omega⟩⟩
 ·have g1:(((gf l t f L).length:Int)==0)=true:=hg;have g2:decide (((gf l t f L).length:Int)>0)=false:=decide_eq_false (by
   have:((gf l t f L).length:Int)=0:=eq_of_beq hg;omega)
  cases k0:((L.length:Int)==0)
  ·have hne:L≠[]:=fun e=>by subst e;cases k0
   obtain⟨q3,q4,q5,am5,hnl⟩:=arj (t:=t) ha hne;have q2:=atE L l f;repeat'((conv=>whnf);first|apply And.intro|exact bA (by subst_vars;assumption)|intro h9)
   all_goals(try(conv=>whnf))<;>(subst_vars;try first|(apply Tk.mk;kernel_rfl)|exact⟨ah rfl⟩|exact⟨rfl⟩|exact⟨trivial⟩|rfl|contradiction|(apply Ob.mk;(try simp only[ag,ak,aa.ae])<;>(try dsimp only)<;>omega))
   all_goals try first|trivial|exact⟨hL⟩|exact⟨hB⟩|exact⟨am5⟩|exact⟨i2⟩|exact⟨⟨by show(0:Int)<=((gm L.length (kS f l L)).1:Nat);omega,by show(((gm L.length (kS f l L)).1:Nat):Int)<_;omega⟩⟩
  ·have he:L=[]:=List.eq_nil_of_length_eq_zero (by have:(L.length:Int)=0:=eq_of_beq k0;omega)
   have q3:((Cn L l t f).2==5)=true:=by unfold Cn;rw[if_pos ha,if_pos he];rfl
   have q4:((Cn L l t f).1==0)=true:=by unfold Cn;rw[if_pos ha,if_pos he];rfl
   repeat'((conv=>whnf);first|apply And.intro|exact bA (by subst_vars;assumption)|intro h9)
   all_goals(try(conv=>whnf))<;>(subst_vars;try first|(apply Tk.mk;kernel_rfl)|exact⟨ah rfl⟩|exact⟨rfl⟩|exact⟨trivial⟩|rfl|contradiction|(apply Ob.mk;(try simp only[ag,ak,aa.ae])<;>(try dsimp only)<;>omega))
   all_goals try first|trivial|exact⟨hL⟩|exact⟨hB⟩)
end Go.Proofs.Ytccnimhgjjnmoaa
end
