/-
  Texts of the claims: Yka12z. No condition: lemmas and contracts.
-/
import Derived.Test.YtccnimhgjjnmoaaSya1z
import Derived.Test.YtccnimhgjjnmoaaSya2z
import Derived.Test.YtccnimhgjjnmoaaSya3z
import Derived.Test.YtccnimhgjjnmoaaSya4z
import Derived.Test.YtccnimhgjjnmoaaSya5z
import Derived.Test.YtccnimhgjjnmoaaPla6z
import Derived.Test.YtccnimhgjjnmoaaYka7z
import Derived.Test.YtccnimhgjjnmoaaYka8z
import Derived.Test.YtccnimhgjjnmoaaYka9z
import Derived.Test.YtccnimhgjjnmoaaYka10z
import Derived.Test.YtccnimhgjjnmoaaYka11z
set_option linter.all false
set_option maxRecDepth 100000
set_option maxHeartbeats 40000000
section
namespace Go.Proofs.Ytccnimhgjjnmoaa
open Go Go.Sy Go.dg
variable {Γ:bn}
def avO (D:List Bk->Int->Int->Int->List aa) (R:List Bk->Int->Int->Int->cM):au:=.new fun args rg K=>match args with
 |[.a x0,.agg [.v (.int .i64 n0),.v (.int .i64 n1),.v (.int .i64 n2)]]=>(match ac1 67 kK rg x0 with|some (q0,L0)=>aBP false (q0++(D L0 n0 n1 n2)) (K (R L0 n0 n1 n2))|_=>False)
 |_=>False
theorem auT {f:FuncId} {b:Body} {E:Env} {d:Nat} (hP:aL Try.prog Γ E) (hb:bQ Try.prog f b) {D:List Bk->Int->Int->Int->List aa} {R:List Bk->Int->Int->Int->cM}
 (H:∀ (L0:List Bk) (n0:Int) (n1:Int) (n2:Int) (K:cM->Prop),bW (D L0 n0 n1 n2)->K (R L0 n0 n1 n2)->cQ E d b [.a (.sl 0 [] 0 L0.length),.agg [vI n0,vI n1,vI n2]] [.arr 67 kK L0 false false] (bu K)):au.Ok Try.prog Γ f (avO D R):=au.fM (d:=d) hP hb (by
 intro args rg K hF;split at hF;next x0 n0 n1 n2=>
  split at hF;next q0 L0 hx0=>
   rw[aV,aH]at hF;obtain⟨⟨aIh,hD⟩,hK⟩:=hF;obtain⟨e0,Vn⟩:=bP (by simp[kK]) hx0 aIh
   obtain⟨p0,r0⟩:=Vn [e0] 0 1 rfl (by omega)
   refine⟨[e0],[.a (.sl 0 [] 0 L0.length),.agg [vI n0,vI n1,vI n2]],[.arr 67 kK L0 false false],⟨⟨p0,⟨rfl,rfl,rfl,trivial⟩,trivial⟩,fun r g hg=>?_⟩,bu K,H _ _ _ _ K hD hK,fun x st h=>h⟩
   match r,hg with
   |0,hg=>obtain rfl:=Option.some.inj hg;exact r0
  next=>exact hF.elim
 next=>exact hF.elim)
attribute [local irreducible] ck wN sub e7 ta kG adp aQ jP Pn
theorem av7 {l t f:Int} {L:List Bk} {q k l0:Nat} {fn:FuncId} {T:Array Value} {dd:Nat} (hB:gb L) (hf:0<=f/\f<=1000000) (hl:-1152921504606846976<=l/\l<=1152921504606846976) (ht:-1152921504606846976<=t/\t<=1152921504606846976) (hk:k<=20) (e:Nat):∀ m,anA l t f L q k l0 fn T dd m (GG gL (MC gL (e+2+m) none))
 |0=>asc hB hf hl ht hk e _
 |m+1=>asb hB hf hk m _ _ (av7 hB hf hl ht hk e m)
def asL (l t f:Int) (L:List Bk) (q k:Nat) (cl:Cl):Prop:=∀ (l0:Nat) (fn:FuncId) (T:Array Value) (dd:Nat) (acc:List (List Int)) (tn:Nat) (tt:Tr) (fr:List Sl) (sn:Nat) (st:Tr) (Kc:Tm->St->Prop),
 acc.length<=100000->(∀ is m n,(∀ r,r<7->rn is r=r)->7<=m->7<=n->wM is m n tt tt)->(∀ is m n,(∀ r,r<7->rn is r=r)->7<=m->7<=n->NU is m n fr fr)->
 (∀ k,Tr.gY (Tm.mapA (At.kill true true 3)) tt k<->k tt)->(∀ k,fD (Sl.gY (At.kill true true 3)) fr k<->k fr)->sn=36->
 (∀ is m n,(∀ r,r<7->rn is r=r)->7<=m->7<=n->wM is m n st (anw L q).t)->
 (∀ A',A'.length=k->Kc (.bF []) ⟨⟨tn,tt⟩,fr,[.arr 67 kK L false false,.box true [vI l,vI t,vI f],.box true [.sl 3 [] 0 ((acc++jP f (l-t) (l+t) L k L.length 0 0 [])).length],.arr 27 kT (acc++jP f (l-t) (l+t) L k L.length 0 0 []) true true,.box true [.sl 0 [] 0 L.length],.box true [vI f],.box true [vI k],.lp l0 (anw L q) (ans fn T dd) .ready none,.box true [.yl 7],.arr 3 kI A' true true,.box true [.sl 9 [] 0 k],.box true [.fn 98 [6,8,10,5,4,11]]]⟩)->
 cl (bo Try.f97) [.a (.yl 7),.a (.p 6 [] 0 0),.a (.p 5 [] 0 0),.a (.p 4 [] 0 0)] ⟨⟨tn,tt⟩,fr,[.arr 67 kK L false false,.box true [vI l,vI t,vI f],.box true [.sl 3 [] 0 (acc).length],.arr 27 kT acc true true,.box true [.sl 0 [] 0 L.length],.box true [vI f],.box true [vI k],.lp l0 ⟨sn,st⟩ (ans fn T dd) .ready none]⟩ Kc
theorem ayI {l t f:Int} {L:List Bk} {q k:Nat} (cB:1<=k) (hk:k<=20) (hN:L.length<=10) (cl:Cl) (rd:Rd) (hS:∀ (l0:Nat) (fn:FuncId) (T:Array Value) (dd:Nat),anA l t f L q k l0 fn T dd k cl):asL l t f L q k (GG gL (jD gL cl rd none)):=by
 intro l0 fn T dd acc tn tt fr sn st Kc hac hd tl km kl PS hs iB;have p1:decide ((k:Int)>=1)=true:=decide_eq_true (by omega)
 have att:=And.intro (show(List.replicate k (0:Int)).length=k from List.length_replicate) trivial;have Np:(acc++jP f (l-t) (l+t) L k (L.length-0) 0 0 ((List.replicate k (0:Int)).take 0)).length<=2000000:=by
  rw[List.length_append];have h1:=ame (f:=f) (lo:=l-t) (hi:=l+t) (L:=L) k (L.length-0) 0 0 ((List.replicate k (0:Int)).take 0);have h2:2^(L.length-0)<=1048576:=akO (by omega)
  omega
 subst PS;repeat'((conv=>whnf);first|apply And.intro|exact bA (by subst_vars;assumption)|intro h9)
 all_goals(try(conv=>whnf))<;>(subst_vars;try first|(apply Tk.mk;kernel_rfl)|exact⟨ah rfl⟩|exact⟨rfl⟩|exact⟨trivial⟩|rfl|contradiction|(apply Ob.mk;(try simp only[ag,ak,aa.ae])<;>(try dsimp only)<;>omega))
 all_goals try first|exact⟨show(k:Int)*1<=16777216 by omega⟩
 refine⟨Unit,fun _=>True,fun _=>⟨aI 14 [1,2,3,4,5,6] [.a (.p 6 [] 0 0),.a (.p 5 [] 0 0),.a (.p 4 [] 0 0),.a (.p 8 [] 0 0),.a (.p 10 [] 0 0),.a (.p 11 [] 0 0)],⟨tn,tt⟩::fr,[.arr 67 kK L false false,.box true [vI l,vI t,vI f],.box true [.sl 3 [] 0 (acc).length],.arr 27 kT acc true true,.box true [.sl 0 [] 0 L.length],.box true [vI f],.box true [vI k],.lp l0 (anw L q) (ans fn T dd) .ready none,.box true [.yl 7],.arr 3 kI (List.replicate k (0:Int)) true true,.box true [.sl 9 [] 0 k],.box true [.any]]⟩,?_,?_⟩
 ·repeat'((conv=>whnf);first|apply And.intro|exact bA (by subst_vars;assumption)|intro h9)
  all_goals(try(conv=>whnf))<;>(subst_vars;try first|(apply Tk.mk;kernel_rfl)|exact⟨ah rfl⟩|exact⟨rfl⟩|exact⟨trivial⟩|rfl|contradiction|(apply Ob.mk;(try simp only[ag,ak,aa.ae])<;>(try dsimp only)<;>omega))
  refine⟨(),[0,1,2,3,4,5,6,7,8,9,10,11],trivial,?_⟩;repeat'((conv=>whnf);(first|apply And.intro|intro _))
  all_goals first|rfl|trivial|exact ah rfl|exact⟨rfl,rfl,rfl⟩|exact⟨rfl,rfl⟩|exact hs _ _ _ (by decide) (ah rfl) (ah rfl)|exact hd _ _ _ (by decide) (ah rfl) (ah rfl)|exact tl _ _ _ (by decide) (ah rfl) (ah rfl)|(rename_i r9 bx;revert r9;decide)
 rintro _ _;repeat'((conv=>whnf);first|apply And.intro|exact bA (by subst_vars;assumption)|intro h9)
 all_goals(try(conv=>whnf))<;>(subst_vars;try first|(apply Tk.mk;kernel_rfl)|exact⟨ah rfl⟩|exact⟨rfl⟩|exact⟨trivial⟩|rfl|contradiction|(apply Ob.mk;(try simp only[ag,ak,aa.ae])<;>(try dsimp only)<;>omega))
 refine hS l0 fn T dd 0 0 _ _ _ _ acc _ _ _ _ rfl rfl (by omega) (by omega) att.1 (by omega) (by omega) Np ⟨?_,?_,?_,?_⟩ ?_
 ·intro is m n h1 h2 h3;repeat'((conv=>whnf);(first|apply And.intro|intro _))
  all_goals first|rfl|trivial|omega|(rw[h1 _ (by omega)];done)|(rw[h1 _ (by omega)];omega)|(simp only[List.map_cons,List.map_nil];rw[h1 6 (by decide),h1 8 (by decide),h1 10 (by decide),h1 5 (by decide),h1 4 (by decide),h1 11 (by decide)];done)|(have h7:=(show ∀ r∈[6,8,10,5,4,11],r<12 by decide) _ ‹_›;first|omega|(rw[h1 _ h7];omega))
 ·intro is m n h1 h2 h3;exact⟨⟨rfl,hd is m n (fun r hr=>h1 r (by omega)) (by omega) (by omega)⟩,tl is m n (fun r hr=>h1 r (by omega)) (by omega) (by omega)⟩
 ·intro k;exact Iff.rfl
 ·intro k;exact(km _).trans (kl _)
 ·intro A' nu _;replace nu:=And.intro nu trivial;have hK:=iB A' nu.1;repeat'((conv=>whnf);first|apply And.intro|exact bA (by subst_vars;assumption)|intro h9)
  all_goals(try(conv=>whnf))<;>(subst_vars;try first|(apply Tk.mk;kernel_rfl)|exact⟨ah rfl⟩|exact⟨rfl⟩|exact⟨trivial⟩|rfl|contradiction|(apply Ob.mk;(try simp only[ag,ak,aa.ae])<;>(try dsimp only)<;>omega))
  all_goals try first|trivial
  all_goals exact hK
theorem atU {st:St} {d:Option Nat} {x:Tm} {k0:St->Prop} (h:∀ k,(∀ st,k0 st->k st)->St.aBS st d x k):St.aBS st d x k0:=h k0 (fun _ h=>h)
abbrev azM (L:List Bk) (q:Nat):Sl:=⟨36,.node (.a (.sl 0 [] 0 L.length)) (.node (.a .any) (.node (.a (.p 1 [] 0 0)) (IA 3) (IA 3)) (.node (.a (.p 2 [] 0 0)) (.node (.a (vI L.length)) (IA 2) (IA 2)) (IA 3))) (.node (.a .any) (IA 4) (.node (.a .any) (.node (.a (vI q)) (IA 2) (IA 2)) (IA 3)))⟩
noncomputable def aqh:Code:=bc (bc (rc (lc (rc (rc (bo Try.f62).code)))))
noncomputable def av8:Code:=bc (lc (rc (rc aqh)))
theorem atQ {cl:Cl} {rd:Rd}:apb (GG gL (jD gL cl rd none)):=by
 intro f L k tm fr g0 g1 g2 g3 Kc hK;repeat'((conv=>whnf);first|apply And.intro|exact bA (by subst_vars;assumption)|intro h9)
 all_goals(try(conv=>whnf))<;>(subst_vars;try first|(apply Tk.mk;kernel_rfl)|exact⟨ah rfl⟩|exact⟨rfl⟩|exact⟨trivial⟩|rfl|contradiction|(apply Ob.mk;(try simp only[ag,ak,aa.ae])<;>(try dsimp only)<;>omega))
 all_goals try first|trivial
 all_goals exact hK
theorem aqf {f lo hi:Int} {L:List Bk}:∀ k,(dg.Og f lo hi L k).length<=k*2^L.length
 |0=>Nat.zero_le _
 |k+1=>by
  have h1:=aqf (f:=f) (lo:=lo) (hi:=hi) (L:=L) k;have h2:=ame (f:=f) (lo:=lo) (hi:=hi) (L:=L) (k+1) L.length 0 0 [];rw[dg.Og,List.length_append,Nat.add_mul];omega
theorem amf {f lo hi:Int} {L:List Bk}:∀ {k:Nat} {c:List Int},c∈dg.Og f lo hi L k->1<=c.length/\c.length<=k
 |0,c,h=>by cases h
 |k+1,c,h=>by
  rw[dg.Og,List.mem_append]at h;rcases h with h|h
  ·have:=amf h;omega
  ·have:=ann _ _ _ _ _ _ h;simp at this;omega
theorem ano {f lo hi:Int} {L:List Bk} {k:Nat} (hk:k<=10) (hL:L.length<=10):(dg.Og f lo hi L k).length<=100000:=by
 have h1:=aqf (f:=f) (lo:=lo) (hi:=hi) (L:=L) k;have h2:2^L.length<=2^10:=Nat.pow_le_pow_right (by omega) hL
 have h3:k*2^L.length<=10*2^10:=Nat.mul_le_mul hk h2;omega
theorem aw8 {f lo hi:Int} {L:List Bk} (hL:L.length<=10):Uf (dg.Og f lo hi L L.length):=
 ⟨Nat.le_trans (ano hL hL) (by omega),fun x hx=>by have:=amf hx;omega,avs _⟩
theorem atX {f lo hi:Int} {L:List Bk} (k:Nat):dg.Og f lo hi L k++jP f lo hi L (k+1) L.length 0 0 []=dg.Og f lo hi L (k+1):=rfl
attribute [local irreducible] dg.Og
abbrev als (l t f:Int) (L:List Bk):List (List Int):=dg.Og f (l-t) (l+t) L L.length
def avR (L:List Bk) (l t f:Int):cM:=⟨[.arr 27 kT (als l t f L) true true],.a (.sl 0 [] 0 (als l t f L).length)⟩
def aqM:au:=avO (fun L l t f=>[apv L,(aa.of (L.length<=10)),(aa.of (0<=f/\f<=1000000)),(aa.of (-1152921504606846976<=l/\l<=1152921504606846976)),(aa.of (-1152921504606846976<=t/\t<=1152921504606846976))]) avR
theorem arS:au.Ok Try.prog Γ 62 aqM:=auT (d:=26+1) auM (aj Try.func62 rfl rfl) (by
 intro L l t f K ⟨hB,hN,hf,hl,ht,_⟩ hK;simp only[aa.ae]at hN hf hl ht;replace hB:gb L:=hB;unfold avR at hK;refine aoo (n:=26) ?_;intro K' anV;have hQ:=atQ (cl:=GG gL (MC gL 25 none)) (rd:=wF (MC gL 25));replace hQ:apb (GG gL (MC gL 26 none)):=hQ;have hP:∀ (q k:Nat),1<=k->k<=20->asL l t f L q k (GG gL (MC gL 26 none)):=fun q k h1 h2=>ayI h1 h2 hN (GG gL (MC gL 25 none)) (wF (MC gL 25)) (fun l0 fn T dd=>by
  have:=av7 (l:=l) (t:=t) (f:=f) (L:=L) (q:=q) (k:=k) (l0:=l0) (fn:=fn) (T:=T) (dd:=dd) hB hf hl ht h2 (23-k) k;rwa[show 23-k+2+k=25 by omega]at this)
 generalize GG gL (MC gL 26 none)=cl at*;generalize wF (MC gL 26)=rd;have hz:(dg.Og f (l-t) (l+t) L 0).length=0:=by unfold dg.Og;rfl
 have Td:dg.Og f (l-t) (l+t) L 0=[]:=by unfold dg.Og;rfl
 repeat'((conv=>whnf);first|apply And.intro|exact bA (by subst_vars;assumption)|intro h9)
 all_goals(try(conv=>whnf))<;>(subst_vars;try first|(apply Tk.mk;kernel_rfl)|exact⟨ah rfl⟩|exact⟨rfl⟩|exact⟨trivial⟩|rfl|contradiction|(apply Ob.mk;(try simp only[ag,ak,aa.ae])<;>(try dsimp only)<;>omega))
 refine⟨Unit,fun _=>True,fun _=>⟨aI 36 [0,3,5,9,10] [.a (.sl 0 [] 0 L.length),.a (.p 1 [] 0 0),.a (.p 2 [] 0 0),.a (vI L.length),.a (vI 0)],[],[.arr 67 kK L false false,.box true [vI l,vI t,vI f],.box true [.v (.slice none 0 0)]]⟩,?_,?_⟩
 ·repeat'((conv=>whnf);first|apply And.intro|exact bA (by subst_vars;assumption)|intro h9)
  all_goals(try(conv=>whnf))<;>(subst_vars;try first|(apply Tk.mk;kernel_rfl)|exact⟨ah rfl⟩|exact⟨rfl⟩|exact⟨trivial⟩|rfl|contradiction|(apply Ob.mk;(try simp only[ag,ak,aa.ae])<;>(try dsimp only)<;>omega))
  refine⟨(),[0,1,2],trivial,?_⟩;repeat'((conv=>whnf);(first|apply And.intro|intro _))
  all_goals first|rfl|trivial|exact ah rfl|exact⟨rfl,rfl,rfl⟩|exact⟨rfl,rfl⟩|(rename_i r9 bx;revert r9;decide)
 rintro _ _;repeat'((conv=>whnf);first|apply And.intro|exact bA (by subst_vars;assumption)|intro h9)
 all_goals(try(conv=>whnf))<;>(subst_vars;try first|(apply Tk.mk;kernel_rfl)|exact⟨ah rfl⟩|exact⟨rfl⟩|exact⟨trivial⟩|rfl|contradiction|(apply Ob.mk;(try simp only[ag,ak,aa.ae])<;>(try dsimp only)<;>omega))
 refine⟨Nat,fun q=>q<=L.length,fun q=>⟨azM L q,[],[.arr 67 kK L false false,.box true [vI l,vI t,vI f],.box true [.sl 3 [] 0 (dg.Og f (l-t) (l+t) L q).length],.arr 27 kT (dg.Og f (l-t) (l+t) L q) true true]⟩,fun q=>L.length-q,0,[0,1,2,1000],Nat.zero_le _,?_,?_⟩
 ·repeat'((conv=>whnf);(first|apply And.intro|intro _))
  all_goals first|rfl|trivial|exact ah rfl|exact⟨rfl,rfl,rfl⟩|exact⟨rfl,rfl⟩|(rename_i r9 bx;revert r9;decide)|exact hz|exact Td|exact⟨rfl,rfl,Td⟩
 rintro q hq;by_cases gk:q<L.length
 ·have p0:decide ((q:Int)<(L.length:Int))=true:=decide_eq_true (by omega)
  have azz:dg.Og f (l-t) (l+t) L q++jP f (l-t) (l+t) L (q+1) L.length 0 0 []=dg.Og f (l-t) (l+t) L (q+1):=atX q;have aAn:(dg.Og f (l-t) (l+t) L q++jP f (l-t) (l+t) L (q+1) L.length 0 0 []).length=(dg.Og f (l-t) (l+t) L (q+1)).length:=by rw[azz]
  refine aqa ?_;intro an KL hst aAf;show jD gL cl rd none (.seq (lc aqh) (rc aqh)) an KL;refine akL (E:=gL) (cl:=cl) (rd:=rd) (rn:=none) rfl ?_;intro K1 am3 _;subst hst;repeat'((conv=>whnf);first|apply And.intro|exact bA (by subst_vars;assumption)|intro h9)
  all_goals(try(conv=>whnf))<;>(subst_vars;try first|(apply Tk.mk;kernel_rfl)|exact⟨ah rfl⟩|exact⟨rfl⟩|exact⟨trivial⟩|rfl|contradiction|(apply Ob.mk;(try simp only[ag,ak,aa.ae])<;>(try dsimp only)<;>omega))
  refine am3 _ ?_;show jD gL cl rd none (.seq (lc (rc aqh)) (rc (rc aqh))) _ KL;refine akL (E:=gL) (cl:=cl) (rd:=rd) (rn:=none) rfl ?_;intro K2 afI _;repeat'((conv=>whnf);first|apply And.intro|exact bA (by subst_vars;assumption)|intro h9)
  all_goals(try(conv=>whnf))<;>(subst_vars;try first|(apply Tk.mk;kernel_rfl)|exact⟨ah rfl⟩|exact⟨rfl⟩|exact⟨trivial⟩|rfl|contradiction|(apply Ob.mk;(try simp only[ag,ak,aa.ae])<;>(try dsimp only)<;>omega))
  refine afI _ ?_;show jD gL cl rd none (.seq (lc (rc (rc aqh))) (rc (rc (rc aqh)))) _ KL;refine akL (E:=gL) (cl:=cl) (rd:=rd) (rn:=none) rfl ?_;intro K3 amz _;show jD gL cl rd none (.block 1 (.seq (lc av8) (rc av8))) _ K3;refine anP ?_;intro K4 avS;refine akL (E:=gL) (cl:=cl) (rd:=rd) (rn:=none) rfl ?_;intro K5 aAd _;repeat'((conv=>whnf);first|apply And.intro|exact bA (by subst_vars;assumption)|intro h9)
  all_goals(try(conv=>whnf))<;>(subst_vars;try first|(apply Tk.mk;kernel_rfl)|exact⟨ah rfl⟩|exact⟨rfl⟩|exact⟨trivial⟩|rfl|contradiction|(apply Ob.mk;(try simp only[ag,ak,aa.ae])<;>(try dsimp only)<;>omega))
  refine aAd _ ?_;show jD gL cl rd none (.seq (lc (rc av8)) (rc (rc av8))) _ K4;refine akL (E:=gL) (cl:=cl) (rd:=rd) (rn:=none) rfl ?_;intro K6 aAe _;repeat'((conv=>whnf);first|apply And.intro|exact bA (by subst_vars;assumption)|intro h9)
  all_goals try(apply Ob.mk;show(ag .i64 _).p;simp only[ag,ak,aa.ae];omega)
  refine atU ?_;intro k9 aAk
  (conv=>whnf)
  refine aAk _ ?_;repeat'((conv=>whnf);first|apply And.intro|exact bA (by subst_vars;assumption)|intro h9)
  all_goals(try(conv=>whnf))<;>(subst_vars;try first|(apply Tk.mk;kernel_rfl)|exact⟨ah rfl⟩|exact⟨rfl⟩|exact⟨trivial⟩|rfl|contradiction|(apply Ob.mk;(try simp only[ag,ak,aa.ae])<;>(try dsimp only)<;>omega))
  refine hQ f L (q+1) _ _ _ _ _ _ _ ?_;repeat'((conv=>whnf);first|apply And.intro|exact bA (by subst_vars;assumption)|intro h9)
  all_goals(try(conv=>whnf))<;>(subst_vars;try first|(apply Tk.mk;kernel_rfl)|exact⟨ah rfl⟩|exact⟨rfl⟩|exact⟨trivial⟩|rfl|contradiction|(apply Ob.mk;(try simp only[ag,ak,aa.ae])<;>(try dsimp only)<;>omega))
  refine aAe _ ?_;repeat'((conv=>whnf);first|apply And.intro|exact bA (by subst_vars;assumption)|intro h9)
  all_goals(try(conv=>whnf))<;>(subst_vars;try first|(apply Tk.mk;kernel_rfl)|exact⟨ah rfl⟩|exact⟨rfl⟩|exact⟨trivial⟩|rfl|contradiction|(apply Ob.mk;(try simp only[ag,ak,aa.ae])<;>(try dsimp only)<;>omega))
  all_goals try first|trivial
  rename_i l0 fn T;rename Nat=>dd
  refine hP q (q+1) (by omega) (by omega) l0 fn T dd _ _ _ _ _ _ _ (ano (by omega) hN) ?_ ?_ ?_ ?_ rfl ?_ ?_
  ·intro is m n h1 h2 h3;repeat'((conv=>whnf);(first|apply And.intro|intro _))
   all_goals first|rfl|trivial|omega|(rw[h1 _ (by omega)];done)|(rw[h1 _ (by omega)];omega)|(simp only[List.map_cons,List.map_nil];rw[h1 6 (by decide),h1 5 (by decide),h1 4 (by decide)];done)|(have h7:=(show ∀ r∈[6,5,4],r<7 by decide) _ ‹_›;first|omega|(rw[h1 _ h7];omega))
  ·intro is m n h1 h2 h3;repeat'((conv=>whnf);(first|apply And.intro|intro _))
   all_goals first|rfl|trivial|omega|(rw[h1 _ (by omega)];done)|(rw[h1 _ (by omega)];omega)|(simp only[List.map_cons,List.map_nil];rw[h1 6 (by decide),h1 5 (by decide),h1 4 (by decide)];done)|(have h7:=(show ∀ r∈[6,5,4],r<7 by decide) _ ‹_›;first|omega|(rw[h1 _ h7];omega))
  ·intro k;exact Iff.rfl
  ·intro k;exact Iff.rfl
  ·intro is m n h1 h2 h3;repeat'((conv=>whnf);(first|apply And.intro|intro _))
   all_goals first|rfl|trivial|omega|(rw[h1 _ (by omega)];done)|(rw[h1 _ (by omega)];omega)|(simp only[List.map_cons,List.map_nil];rw[h1 6 (by decide),h1 5 (by decide),h1 4 (by decide)];done)|(have h7:=(show ∀ r∈[6,5,4],r<7 by decide) _ ‹_›;first|omega|(rw[h1 _ h7];omega))
  ·intro A' nu;replace nu:=And.intro nu trivial;repeat'((conv=>whnf);first|apply And.intro|exact bA (by subst_vars;assumption)|intro h9)
   all_goals(try(conv=>whnf))<;>(subst_vars;try first|(apply Tk.mk;kernel_rfl)|exact⟨ah rfl⟩|exact⟨rfl⟩|exact⟨trivial⟩|rfl|contradiction|(apply Ob.mk;(try simp only[ag,ak,aa.ae])<;>(try dsimp only)<;>omega))
   refine avS _ _ (amz _ ?_);repeat'((conv=>whnf);first|apply And.intro|exact bA (by subst_vars;assumption)|intro h9)
   all_goals(try(conv=>whnf))<;>(subst_vars;try first|(apply Tk.mk;kernel_rfl)|exact⟨ah rfl⟩|exact⟨rfl⟩|exact⟨trivial⟩|rfl|contradiction|(apply Ob.mk;(try simp only[ag,ak,aa.ae])<;>(try dsimp only)<;>omega))
   refine aAf _ _ ?_;refine⟨q+1,[0,1,2,3],gk,?_,by show L.length-(q+1)<L.length-q;omega⟩
   repeat'((conv=>whnf);(first|apply And.intro|intro _))
   all_goals first|rfl|trivial|exact ah rfl|exact⟨rfl,rfl,rfl⟩|exact⟨rfl,rfl⟩|(rename_i r9 bx;revert r9;decide)|exact aAn|exact⟨rfl,rfl,azz⟩
 have p0:decide ((q:Int)<(L.length:Int))=false:=decide_eq_false (by omega)
 obtain rfl:q=L.length:=by omega
 have hO:Uf (als l t f L):=aw8 hN;repeat'((conv=>whnf);first|apply And.intro|exact bA (by subst_vars;assumption)|intro h9)
 all_goals(try(conv=>whnf))<;>(subst_vars;try first|(apply Tk.mk;kernel_rfl)|exact⟨ah rfl⟩|exact⟨rfl⟩|exact⟨trivial⟩|rfl|contradiction|(apply Ob.mk;(try simp only[ag,ak,aa.ae])<;>(try dsimp only)<;>omega))
 all_goals try first|exact⟨hO⟩|exact⟨⟨rfl,rfl,rfl⟩⟩
 refine anV _ _ ?_;repeat'((conv=>whnf);first|apply And.intro|exact bA (by subst_vars;assumption)|intro h9)
 all_goals(try(conv=>whnf))<;>(subst_vars;try first|(apply Tk.mk;kernel_rfl)|exact⟨ah rfl⟩|exact⟨rfl⟩|exact⟨trivial⟩|rfl|contradiction|(apply Ob.mk;(try simp only[ag,ak,aa.ae])<;>(try dsimp only)<;>omega))
 refine bu.base ⟨_,[3],hK,⟨rfl,rfl,by simp,trivial⟩,rfl,?_⟩
 repeat'((conv=>whnf)<;>first|apply And.intro|intro _|rfl|trivial))
end Go.Proofs.Ytccnimhgjjnmoaa
end
section
namespace Go.Proofs.Ytccnimhgjjnmoaa
open Go Go.Sy Go.dg
variable {Γ:bn}
def axR (D:List Int->Int->List aa) (F:List Int->Int->Tm):au:=.fn fun args rg=>match args with
 |[.a x0,.a (.v (.int .i64 n0))]=>(match ac1 3 kI rg x0 with|some (q0,L0)=>some (q0++(D L0 n0),F L0 n0)|_=>none)
 |_=>none
theorem ath {f:FuncId} {b:Body} {E:Env} {d:Nat} (hP:aL Try.prog Γ E) (hb:bQ Try.prog f b) {D:List Int->Int->List aa} {F:List Int->Int->Tm} (hp:∀ (L0:List Int) (n0:Int),(F L0 n0).plain=true)
 (H:∀ (L0:List Int) (n0:Int),bW (D L0 n0)->cQ E d b [.a (.sl 0 [] 0 L0.length),.a (vI n0)] [.arr 3 kI L0 false false] (fun x _=>iL x (F L0 n0))):au.Ok Try.prog Γ f (axR D F):=au.aBp (d:=d) hP hb (by
 intro args rg q t hF hq;split at hF;next x0 n0=>
  split at hF;next q0 L0 hx0=>
   obtain⟨rfl,rfl⟩:=Prod.mk.inj (Option.some.inj hF);clear hF;rw[aH]at hq;obtain⟨aIh,hD⟩:=hq;obtain⟨e0,Vn⟩:=bP (by simp[kI]) hx0 aIh
   obtain⟨p0,r0⟩:=Vn [e0] 0 1 rfl (by omega)
   refine⟨hp _ _,[e0],[.a (.sl 0 [] 0 L0.length),.a (vI n0)],[.arr 3 kI L0 false false],⟨⟨p0,rfl,trivial⟩,fun r g hg=>?_⟩,H _ _ hD⟩
   match r,hg with
   |0,hg=>obtain rfl:=Option.some.inj hg;exact r0
  next=>cases hF
 next=>cases hF)
attribute [local irreducible] bJ td Pn ck wN
def an1 (I:List Int) (n:Int):Int:=match I.findIdx? (fun x=>n==x)with|some j=>(j:Int)|none=>-1
theorem aza {I:List Int} {n:Int} {j:Nat} (hj:j<I.length) (h:ca I j=n) (h0:∀ i,i<j->ca I i≠n):an1 I n=j:=by
 unfold an1;have:I.findIdx? (fun x=>n==x)=some j:=by
  rw[List.findIdx?_eq_some_iff_getElem];refine⟨hj,?_,fun i hi=>?_⟩
  ·rw[<-alf hj,h];simp
  ·have:=h0 i hi;rw[alf (by omega)]at this;simpa using fun e=>this e.symm
 rw[this]
theorem azb {I:List Int} {n:Int} (h0:∀ i,i<I.length->ca I i≠n):an1 I n=-1:=by
 unfold an1;have:I.findIdx? (fun x=>n==x)=none:=by
  rw[List.findIdx?_eq_none_iff];intro x hx;obtain⟨i,hi,rfl⟩:=List.mem_iff_getElem.1 hx;have:=h0 i hi;rw[alf hi]at this;simpa using fun e=>this e.symm
 rw[this]
theorem ayy (I:List Int) (n:Int):decide (an1 I n>=0)=I.contains n:=by
 unfold an1;cases h:I.findIdx? (fun x=>n==x)with
 |some j=>
  rw[List.findIdx?_eq_some_iff_getElem]at h;obtain⟨hj,h1,-⟩:=h;have e:n=I[j]:=by simpa using h1
  show decide ((j:Int)>=0)=_;rw[decide_eq_true (by omega),eq_comm,List.contains_iff_mem,e];exact List.getElem_mem hj
 |none=>
  rw[List.findIdx?_eq_none_iff]at h;show decide ((-1:Int)>=0)=_;rw[decide_eq_false (by omega),eq_comm,Bool.eq_false_iff]
  intro hc;rw[List.contains_iff_mem]at hc;simpa using h n hc
attribute [local irreducible] an1
def aqL:au:=axR (fun I _=>[(aa.of (I.length<=1000000))]) (fun I n=> .a (vI (an1 I n)))
theorem arP:au.Ok Try.prog Γ 96 aqL:=ath (d:=0) (aP aR.nil bq.nil false 0) (aj Try.func96 rfl rfl) (fun _ _=>rfl) (by
 intro I n ⟨hI,_⟩;simp only[aa.ae]at hI;repeat'((conv=>whnf);first|apply And.intro|exact bA (by subst_vars;assumption)|intro h9)
 all_goals(try(conv=>whnf))<;>(subst_vars;try first|(apply Tk.mk;kernel_rfl)|exact⟨ah rfl⟩|exact⟨rfl⟩|exact⟨trivial⟩|rfl|contradiction|(apply Ob.mk;(try simp only[ag,ak,aa.ae])<;>(try dsimp only)<;>omega))
 refine⟨Nat,fun i=>i<=I.length/\∀ j,j<i->ca I j≠n,fun i=>⟨aI 19 [0,1,6,7,8] [.a (.sl 0 [] 0 I.length),.a (vI n),.a (.sl 0 [] 0 I.length),.a (vI I.length),.a (vI i)],[],[.arr 3 kI I false false]⟩,fun i=>I.length-i,0,[0],⟨Nat.zero_le _,fun j h=>absurd h (Nat.not_lt_zero j)⟩,?_,?_⟩
 ·repeat'((conv=>whnf)<;>first|apply And.intro|intro _|rfl|trivial|exact ah rfl|exact aS ‹_› rfl|exact aT ‹_› rfl|((repeat' first|rfl|constructor);done))
 rintro i ⟨hi,hj⟩;by_cases hi1:i<I.length
 ·have p0:decide ((i:Int)<(I.length:Int))=true:=decide_eq_true (by omega)
  by_cases hw:ca I i=n
  ·have e1:(n==ca I i)=true:=by rw[hw];simp
   rw[aza hi1 hw hj];repeat'((conv=>whnf);first|apply And.intro|exact bA (by subst_vars;assumption)|intro h9)
   all_goals(try(conv=>whnf))<;>(subst_vars;try first|(apply Tk.mk;kernel_rfl)|exact⟨ah rfl⟩|exact⟨rfl⟩|exact⟨trivial⟩|rfl|contradiction|(apply Ob.mk;(try simp only[ag,ak,aa.ae])<;>(try dsimp only)<;>omega))
   all_goals first|exact⟨show 0+Int.toNat (i:Int)<I.length by omega⟩
  have e1:(n==ca I i)=false:=beq_eq_false_iff_ne.2 (fun e=>hw e.symm)
  repeat'((conv=>whnf);first|apply And.intro|exact bA (by subst_vars;assumption)|intro h9)
  all_goals(try(conv=>whnf))<;>(subst_vars;try first|(apply Tk.mk;kernel_rfl)|exact⟨ah rfl⟩|exact⟨rfl⟩|exact⟨trivial⟩|rfl|contradiction|(apply Ob.mk;(try simp only[ag,ak,aa.ae])<;>(try dsimp only)<;>omega))
  all_goals try first|exact⟨show 0+Int.toNat (i:Int)<I.length by omega⟩
  all_goals
   refine⟨i+1,[0],⟨hi1,fun j hj'=>by rcases Nat.lt_succ_iff_lt_or_eq.1 hj' with h|rfl;exact hj j h;exact hw⟩,?_,by show I.length-(i+1)<I.length-i;omega⟩
   repeat'((conv=>whnf)<;>first|apply And.intro|intro _|rfl|trivial|exact ah rfl|exact aS ‹_› rfl|exact aT ‹_› rfl|((repeat' first|rfl|constructor);done))
 have p0:decide ((i:Int)<(I.length:Int))=false:=decide_eq_false (by omega)
 rw[azb (fun j hj'=>hj j (by omega))]
 repeat'((conv=>whnf);first|apply And.intro|exact bA (by subst_vars;assumption)|intro h9)
 all_goals(try(conv=>whnf))<;>(subst_vars;try first|(apply Tk.mk;kernel_rfl)|exact⟨ah rfl⟩|exact⟨rfl⟩|exact⟨trivial⟩|rfl|contradiction|(apply Ob.mk;(try simp only[ag,ak,aa.ae])<;>(try dsimp only)<;>omega)))
def anE:au:=axR (fun I _=>[(aa.of (I.length<=1000000))]) (fun I n=>bl (I.contains n))
noncomputable def ast:List (Nat×au):=[(96,aqL)]
theorem apo:aR Try.prog Γ ast:=(aR.nil.cons (aj Try.func96 rfl rfl).fn arP)
theorem ao6:au.Ok Try.prog Γ 65 anE:=ath (d:=0) (aP apo bq.nil false 0) (aj Try.func65 rfl rfl) (fun _ _=>rfl) (by
 intro I n ⟨hI,_⟩;simp only[aa.ae]at hI;have hh:=ayy I n;repeat'((conv=>whnf);first|apply And.intro|exact bA (by subst_vars;assumption)|intro h9)
 all_goals(try(conv=>whnf))<;>(subst_vars;try first|(apply Tk.mk;kernel_rfl)|exact⟨ah rfl⟩|exact⟨rfl⟩|exact⟨trivial⟩|rfl|contradiction|(apply Ob.mk;(try simp only[ag,ak,aa.ae])<;>(try dsimp only)<;>omega))
 all_goals first|trivial|exact⟨hI⟩)
end Go.Proofs.Ytccnimhgjjnmoaa
end
section
namespace Go.Proofs.Ytccnimhgjjnmoaa
open Go Go.Sy Go.dg
variable {Γ:bn}
def aph (D:List Bk->Int->Int->Int->Int->Int->Int->List aa) (R:List Bk->Int->Int->Int->Int->Int->Int->cM):au:=.new fun args rg K=>match args with
 |[.a x0,.agg [.v (.int .i64 n0),.v (.int .i64 n1),.v (.int .i64 n2)],.agg [.v (.int .i64 n3),.v (.int .i64 n4),.v (.int .i64 n5)]]=>(match ac1 67 kK rg x0 with|some (q0,L0)=>aBP false (q0++(D L0 n0 n1 n2 n3 n4 n5)) (K (R L0 n0 n1 n2 n3 n4 n5))|_=>False)
 |_=>False
theorem auU {f:FuncId} {b:Body} {E:Env} {d:Nat} (hP:aL Try.prog Γ E) (hb:bQ Try.prog f b) {D:List Bk->Int->Int->Int->Int->Int->Int->List aa} {R:List Bk->Int->Int->Int->Int->Int->Int->cM}
 (H:∀ (L0:List Bk) (n0:Int) (n1:Int) (n2:Int) (n3:Int) (n4:Int) (n5:Int) (K:cM->Prop),bW (D L0 n0 n1 n2 n3 n4 n5)->K (R L0 n0 n1 n2 n3 n4 n5)->cQ E d b [.a (.sl 0 [] 0 L0.length),.agg [vI n0,vI n1,vI n2],.agg [vI n3,vI n4,vI n5]] [.arr 67 kK L0 false false] (bu K)):au.Ok Try.prog Γ f (aph D R):=au.fM (d:=d) hP hb (by
 intro args rg K hF;split at hF;next x0 n0 n1 n2 n3 n4 n5=>
  split at hF;next q0 L0 hx0=>
   rw[aV,aH]at hF;obtain⟨⟨aIh,hD⟩,hK⟩:=hF;obtain⟨e0,Vn⟩:=bP (by simp[kK]) hx0 aIh
   obtain⟨p0,r0⟩:=Vn [e0] 0 1 rfl (by omega)
   refine⟨[e0],[.a (.sl 0 [] 0 L0.length),.agg [vI n0,vI n1,vI n2],.agg [vI n3,vI n4,vI n5]],[.arr 67 kK L0 false false],⟨⟨p0,⟨rfl,rfl,rfl,trivial⟩,⟨rfl,rfl,rfl,trivial⟩,trivial⟩,fun r g hg=>?_⟩,bu K,H _ _ _ _ _ _ _ K hD hK,fun x st h=>h⟩
   match r,hg with
   |0,hg=>obtain rfl:=Option.some.inj hg;exact r0
  next=>exact hF.elim
 next=>exact hF.elim)
attribute [local irreducible] bJ td Pn ck wN an1 pw pe dg.Og
def am8 (T1 T2:List (List Int)) (b:Option (Nat×Nat)):Option (List Int×List Int):=b.map fun p=>(bh T1 p.1,bh T2 p.2)
def arq (T1 T2:List (List Int)) (i:Nat):Option (List Int×List Int):=aoC (T1.take i) T2
theorem alz {T1 T2:List (List Int)} {i:Nat} (h:i<T1.length):arq T1 T2 (i+1)=aly (bh T1 i) (arq T1 T2 i) T2:=by
 unfold arq aoC;rw[List.take_add_one,List.getElem?_eq_getElem h,List.foldl_append,wV h];rfl
theorem aqT {p q:List Int} {u:Nat} (hu:u<p.length) (h:q.contains (ca p u)=true):anf p q=false:=by
 unfold anf;rw[Bool.not_eq_false',List.any_eq_true];exact⟨p[u],List.getElem_mem hu,by rw[<-alf hu];exact h⟩
theorem apJ {p q:List Int} (h:∀ w,w<p.length->q.contains (ca p w)=false):anf p q=true:=by
 unfold anf;rw[Bool.not_eq_true',List.any_eq_false];intro x hx;obtain⟨w,hw,rfl⟩:=List.mem_iff_getElem.1 hx;have:=h w hw;rw[alf hw]at this;rw[this];simp
structure aml (L:List Bk) (T:List (List Int)):Prop where
 Kg:T.length<=1000000
 row:∀ x∈T,1<=x.length/\x.length<=10/\are L x
theorem aml.len {L:List Bk} {T:List (List Int)} (h:aml L T) {i:Nat} (hi:i<T.length):1<=(bh T i).length/\(bh T i).length<=10/\are L (bh T i):=by
 rw[wV hi];exact h.row _ (List.getElem_mem hi)
theorem arn {f lo hi:Int} {L:List Bk} (hL:L.length<=10):aml L (dg.Og f lo hi L L.length):=
 ⟨Nat.le_trans (ano hL hL) (by omega),fun x hx=>by
   have:=amf hx;refine⟨this.1,by omega,fun z hz=>?_⟩
   rw[dg.D6]at hx;obtain⟨u,-,rfl⟩:=List.mem_map.1 hx;have:=amE _ _ _ z hz;omega⟩
def akW (L:List Bk) (l t f l' t' f':Int):Int:=lu L [(l,t,f),(l',t',f')]
def ak9 (e:Int):cM:=⟨[],.bF [.a (.v (.slice none 0 0)),.a (.v (.slice none 0 0)),.a (vI e)]⟩
def ars (L:List Bk) (l t f l' t' f':Int):Option (List Int×List Int):=aoC (als l t f L) (als l' t' f' L)
def ayR (L:List Bk) (l t f l' t' f':Int):cM:=match akW L l t f l' t' f'==0,decide ((L.length:Int)>10),ars L l t f l' t' f' with
 |false,_,_=>ak9 (akW L l t f l' t' f')
 |true,true,_=>ak9 2
 |true,false,none=>ak9 5
 |true,false,some (p,q)=>⟨[.arr 3 kI (pw L p) true true,.arr 3 kI (pw L q) true true],.bF [.a (.sl 0 [] 0 (pw L p).length),.a (.sl 1 [] 0 (pw L q).length),.a (vI 0)]⟩
theorem awm {L:List Bk} {l t f l' t' f':Int} (h:akW L l t f l' t' f'=0):gb L/\pe l t f=true/\pe l' t' f'=true:=by
 unfold akW lu at h;by_cases h1:(ck L).1=0
 ·rw[if_pos h1]at h;refine⟨amq h1,?_⟩;by_cases h2:List.all [(l,t,f),(l',t',f')] ald=true
  ·simpa[ald]using h2
  ·rw[if_neg h2]at h;cases h
 ·rw[if_neg h1]at h;exact absurd h h1
def azd (id:Nat):Option (List Nat):=match Nat.beq id 6 with|true=>some [0,1,3,4,2,5]|false=>none
def ay2:au:=aph (fun L _ _ _ _ _ _=>[(aa.of (L.length<=1000000))]) ayR
noncomputable def axp:List (Nat×au):=[(54,aBa),(62,aqM),(56,apd),(65,anE)]
theorem awh:aR Try.prog Γ axp:=((((aR.nil.cons (aj Try.func65 rfl rfl).fn ao6).cons (aj Try.func56 rfl rfl).fn anb).cons (aj Try.func62 rfl rfl).fn arS).cons (aj Try.func54 rfl rfl).fn fQ)
noncomputable def avE:List (Nat×Body):=[(63,bo Try.f63),(95,bo Try.f95),(64,bo Try.f64)]
theorem auw:bq Try.prog avE:=(((bq.nil.cons (cg Try.func64 rfl rfl)).cons (cg Try.func95 rfl rfl)).cons (cg Try.func63 rfl rfl))
noncomputable def ay5:Env:={jV.env axp avE false 0 with ord:=azd}
theorem auK:aL Try.prog Γ ay5:=(aP awh auw false 0).Ju _
theorem auB:au.Ok Try.prog Γ 32 ay2:=auU (d:=4) auK (aj Try.func32 rfl rfl) (by
 intro L l t f l' t' f' K ⟨hL,_⟩ hK;simp only[aa.ae]at hL;have hone:lu L [(l,t,f),(l',t',f')]=akW L l t f l' t' f':=rfl;unfold ayR at hK;cases h0:akW L l t f l' t' f'==0
 ·rw[h0]at hK;dsimp only[ak9]at hK;have e0:(lu L [(l,t,f),(l',t',f')]!=0)=true:=by rw[hone];unfold bne;rw[h0];rfl
  rw[<-hone]at hK;clear hone;repeat'((conv=>whnf);first|apply And.intro|exact bA (by subst_vars;assumption)|intro h9)
  all_goals(try(conv=>whnf))<;>(subst_vars;try first|(apply Tk.mk;kernel_rfl)|exact⟨ah rfl⟩|exact⟨rfl⟩|exact⟨trivial⟩|rfl|contradiction|(apply Ob.mk;(try simp only[ag,ak,aa.ae])<;>(try dsimp only)<;>omega))
  all_goals first
   |(refine bu.base ⟨_,[],hK,trivial,rfl,?_⟩;(repeat'((conv=>whnf);(first|apply And.intro|intro _)));all_goals first|rfl|trivial)
   |exact⟨hL⟩
 rw[h0]at hK;have e0:(lu L [(l,t,f),(l',t',f')]!=0)=false:=by rw[hone];unfold bne;rw[h0];rfl
 obtain⟨hB,hw,fS⟩:=awm (eq_of_beq h0);obtain⟨hl,ht,hf⟩:=wE hw;obtain⟨hl',ht',aAH⟩:=wE fS;clear hone;by_cases hN:(L.length:Int)>10
 ·have g0:decide ((L.length:Int)>10)=true:=decide_eq_true hN;rw[g0]at hK;dsimp only[ak9]at hK;repeat'((conv=>whnf);first|apply And.intro|exact bA (by subst_vars;assumption)|intro h9)
  all_goals(try(conv=>whnf))<;>(subst_vars;try first|(apply Tk.mk;kernel_rfl)|exact⟨ah rfl⟩|exact⟨rfl⟩|exact⟨trivial⟩|rfl|contradiction|(apply Ob.mk;(try simp only[ag,ak,aa.ae])<;>(try dsimp only)<;>omega))
  all_goals first
   |(refine bu.base ⟨_,[],hK,trivial,rfl,?_⟩;(repeat'((conv=>whnf);(first|apply And.intro|intro _)));all_goals first|rfl|trivial)
   |exact⟨hL⟩
 have g0:decide ((L.length:Int)>10)=false:=decide_eq_false hN;rw[g0]at hK;have ax2:L.length<=10:=by omega
 have jJ:-1152921504606846976<=l/\l<=1152921504606846976:=by omega
 have UW:-1152921504606846976<=t/\t<=1152921504606846976:=by omega
 have oz:-1152921504606846976<=l'/\l'<=1152921504606846976:=by omega
 have aAK:-1152921504606846976<=t'/\t'<=1152921504606846976:=by omega
 have apU:aml L (als l t f L):=arn ax2;have aq1:aml L (als l' t' f' L):=arn ax2;have afI:(match aoC (als l t f L) (als l' t' f' L)with|none=>K (ak9 5)|some (p,q)=>K ⟨[.arr 3 kI (pw L p) true true,.arr 3 kI (pw L q) true true],.bF [.a (.sl 0 [] 0 (pw L p).length),.a (.sl 1 [] 0 (pw L q).length),.a (vI 0)]⟩):=by
  unfold ars at hK;cases h:aoC (als l t f L) (als l' t' f' L)with
  |none=>rw[h]at hK;exact hK
  |some x=>rw[h]at hK;exact hK
 clear hK;obtain⟨T1,atv⟩:∃ T,als l t f L=T:=⟨_,rfl⟩;obtain⟨T2,ZV⟩:∃ T,als l' t' f' L=T:=⟨_,rfl⟩;rw[atv]at apU afI;rw[ZV]at aq1 afI;replace atv:=And.intro atv trivial;replace ZV:=And.intro ZV trivial;have Rl:(als l t f L).length=T1.length:=by rw[atv.1]
 have xS:(als l' t' f' L).length=T2.length:=by rw[ZV.1]
 have aAy:=apU.Kg;have R4:=aq1.Kg;repeat'((conv=>whnf);first|apply And.intro|exact bA (by subst_vars;assumption)|intro h9)
 all_goals(try(conv=>whnf))<;>(subst_vars;try first|(apply Tk.mk;kernel_rfl)|exact⟨ah rfl⟩|exact⟨rfl⟩|exact⟨trivial⟩|rfl|contradiction|(apply Ob.mk;(try simp only[ag,ak,aa.ae])<;>(try dsimp only)<;>omega))
 all_goals try first|exact⟨hL⟩|exact⟨hB⟩|exact⟨ax2⟩
 refine⟨Nat×Option (Nat×Nat),fun x=>x.1<=T1.length/\(∀ p,x.2=some p->p.1<T1.length/\p.2<T2.length)/\am8 T1 T2 x.2=arq T1 T2 x.1,fun|(i,none)=>⟨aI 78 [0,10,11,12,13,35,36,37] [.a (.sl 0 [] 0 L.length),.a (.sl 3 [] 0 T1.length),.a (.sl 4 [] 0 T2.length),.a (.v (.slice none 0 0)),.a (.v (.slice none 0 0)),.a (.sl 3 [] 0 T1.length),.a (vI T1.length),.a (vI i)],[],[.arr 67 kK L false false,.dead,.dead,.arr 27 kT T1 true true,.arr 27 kT T2 true true]⟩|(i,some (bi,bj))=>⟨aI 78 [0,10,11,12,13,35,36,37] [.a (.sl 0 [] 0 L.length),.a (.sl 3 [] 0 T1.length),.a (.sl 4 [] 0 T2.length),.a (.sl 3 [(0+Int.toNat (bi:Int),0)] 0 (bh T1 bi).length),.a (.sl 4 [(0+Int.toNat (bj:Int),0)] 0 (bh T2 bj).length),.a (.sl 3 [] 0 T1.length),.a (vI T1.length),.a (vI i)],[],[.arr 67 kK L false false,.dead,.dead,.arr 27 kT T1 true true,.arr 27 kT T2 true true]⟩,fun x=>T1.length-x.1,(0,none),[0,1,2,4,5],⟨Nat.zero_le _,(fun p hp=>by cases hp),rfl⟩,?_,?_⟩
 ·repeat'((conv=>whnf)<;>first|apply And.intro|intro _|rfl|trivial|exact ah rfl|exact aS ‹_› rfl|exact aT ‹_› rfl|((repeat' first|rfl|constructor);done)|exact Rl|exact xS|exact congrArg (fun n:Nat=>(n:Int)) Rl|exact congrArg (fun n:Nat=>(n:Int)) xS|exact⟨rfl,rfl,atv.1⟩|exact⟨rfl,rfl,ZV.1⟩)
 clear Rl xS;rintro⟨i,b⟩ ⟨hi,apX,Nc⟩;dsimp only at hi apX Nc;by_cases hi1:i<T1.length
 ·have p0:decide ((i:Int)<(T1.length:Int))=true:=decide_eq_true (by omega)
  have agM:=apU.len hi1;cases b with
  |none=>
   repeat'((conv=>whnf);first|apply And.intro|exact bA (by subst_vars;assumption)|intro h9)
   all_goals(try(conv=>whnf))<;>(subst_vars;try first|(apply Tk.mk;kernel_rfl)|exact⟨ah rfl⟩|exact⟨rfl⟩|exact⟨trivial⟩|rfl|contradiction|(apply Ob.mk;(try simp only[ag,ak,aa.ae])<;>(try dsimp only)<;>omega))
   all_goals try first|exact⟨show 0+Int.toNat (i:Int)<T1.length by omega⟩
   refine⟨Nat,fun j=>j<=T2.length/\aly (bh T1 i) (am8 T1 T2 (none)) T2=aly (bh T1 i) (am8 T1 T2 (none)) (T2.drop j),fun j=>⟨aI 78 [0,10,11,12,13,15,35,36,37,41,42,43] [.a (.sl 0 [] 0 L.length),.a (.sl 3 [] 0 T1.length),.a (.sl 4 [] 0 T2.length),.a (.v (.slice none 0 0)),.a (.v (.slice none 0 0)),.a (.sl 3 [(0+Int.toNat (i:Int),0)] 0 (bh T1 i).length),.a (.sl 3 [] 0 T1.length),.a (vI T1.length),.a (vI i),.a (.sl 4 [] 0 T2.length),.a (vI T2.length),.a (vI j)],[],[.arr 67 kK L false false,.dead,.dead,.arr 27 kT T1 true true,.arr 27 kT T2 true true]⟩,fun j=>T2.length-j,0,[0,1,2,3,4],⟨Nat.zero_le _,rfl⟩,?_,?_⟩
   ·repeat'((conv=>whnf)<;>first|apply And.intro|intro _|rfl|trivial|exact ah rfl|exact aS ‹_› rfl|exact aT ‹_› rfl|((repeat' first|rfl|constructor);done))
   rintro j ⟨hj,Sk⟩;by_cases Ho:j<T2.length
   ·have q0:decide ((j:Int)<(T2.length:Int))=true:=decide_eq_true (by omega)
    have jJ:=aq1.len Ho;have atw:=List.drop_eq_getElem_cons Ho;rw[<-wV Ho]at atw;rw[atw,aly]at Sk;rw[if_neg (show ¬apl (am8 T1 T2 none) (bh T1 i) (bh T2 j)=true from fun h=>by cases h)]at Sk
    repeat'((conv=>whnf);first|apply And.intro|exact bA (by subst_vars;assumption)|intro h9)
    all_goals(try(conv=>whnf))<;>(subst_vars;try first|(apply Tk.mk;kernel_rfl)|exact⟨ah rfl⟩|exact⟨rfl⟩|exact⟨trivial⟩|rfl|contradiction|(apply Ob.mk;(try simp only[ag,ak,aa.ae])<;>(try dsimp only)<;>omega))
    all_goals try first|exact⟨show 0+Int.toNat (j:Int)<T2.length by omega⟩
    refine⟨Nat,fun u=>u<=(bh T1 i).length/\∀ w,w<u->(bh T2 j).contains (ca (bh T1 i) w)=false,fun u=>⟨aI 19 [0,1,6,7,8] [.a (.sl 3 [(0+Int.toNat (i:Int),0)] 0 (bh T1 i).length),.a (.fn 64 [5]),.a (.sl 3 [(0+Int.toNat (i:Int),0)] 0 (bh T1 i).length),.a (vI (bh T1 i).length),.a (vI u)],[aI 9 [] [],aI 78 [0,10,11,12,13,15,17,35,36,37,41,42,43] [.a (.sl 0 [] 0 L.length),.a (.sl 3 [] 0 T1.length),.a (.sl 4 [] 0 T2.length),.a (.v (.slice none 0 0)),.a (.v (.slice none 0 0)),.a (.sl 3 [(0+Int.toNat (i:Int),0)] 0 (bh T1 i).length),.a (.p 5 [] 0 0),.a (.sl 3 [] 0 T1.length),.a (vI T1.length),.a (vI i),.a (.sl 4 [] 0 T2.length),.a (vI T2.length),.a (vI j)]],[.arr 67 kK L false false,.dead,.dead,.arr 27 kT T1 true true,.arr 27 kT T2 true true,.box true [(.sl 4 [(0+Int.toNat (j:Int),0)] 0 (bh T2 j).length)]]⟩,fun u=>(bh T1 i).length-u,0,[0,1,2,3,4,5],⟨Nat.zero_le _,fun w h=>absurd h (Nat.not_lt_zero w)⟩,?_,?_⟩
    ·repeat'((conv=>whnf)<;>first|apply And.intro|intro _|rfl|trivial|exact ah rfl|exact aS ‹_› rfl|exact aT ‹_› rfl|((repeat' first|rfl|constructor);done))
    rintro u ⟨hu,RM⟩;by_cases NB:u<(bh T1 i).length
    ·have w0:decide ((u:Int)<((bh T1 i).length:Int))=true:=decide_eq_true (by omega)
     cases hc:(bh T2 j).contains (ca (bh T1 i) u)
     ·repeat'((conv=>whnf);first|apply And.intro|exact bA (by subst_vars;assumption)|intro h9)
      all_goals(try(conv=>whnf))<;>(subst_vars;try first|(apply Tk.mk;kernel_rfl)|exact⟨ah rfl⟩|exact⟨rfl⟩|exact⟨trivial⟩|rfl|contradiction|(apply Ob.mk;(try simp only[ag,ak,aa.ae])<;>(try dsimp only)<;>omega))
      all_goals try first|exact⟨show 0+Int.toNat (i:Int)<T1.length by omega⟩|exact⟨show 0+Int.toNat (j:Int)<T2.length by omega⟩|exact⟨show 0+Int.toNat (u:Int)<(bh T1 i).length by omega⟩|exact⟨show(bh T2 j).length<=1000000 by omega⟩
      all_goals
       refine⟨u+1,[0,1,2,3,4,5],⟨NB,fun w hw=>by rcases Nat.lt_succ_iff_lt_or_eq.1 hw with h|rfl;exact RM w h;exact hc⟩,?_,by show(bh T1 i).length-(u+1)<(bh T1 i).length-u;omega⟩
       repeat'((conv=>whnf)<;>first|apply And.intro|intro _|rfl|trivial|exact ah rfl|exact aS ‹_› rfl|exact aT ‹_› rfl|((repeat' first|rfl|constructor);done))
     rw[if_neg (show ¬anf (bh T1 i) (bh T2 j)=true by rw[aqT NB hc];simp)]at Sk
     have z0:(!decide ((u:Int)>=0))=false:=by rw[decide_eq_true (by omega)];rfl
     repeat'((conv=>whnf);first|apply And.intro|exact bA (by subst_vars;assumption)|intro h9)
     all_goals(try(conv=>whnf))<;>(subst_vars;try first|(apply Tk.mk;kernel_rfl)|exact⟨ah rfl⟩|exact⟨rfl⟩|exact⟨trivial⟩|rfl|contradiction|(apply Ob.mk;(try simp only[ag,ak,aa.ae])<;>(try dsimp only)<;>omega))
     all_goals try first|exact⟨show 0+Int.toNat (i:Int)<T1.length by omega⟩|exact⟨show 0+Int.toNat (j:Int)<T2.length by omega⟩|exact⟨show 0+Int.toNat (u:Int)<(bh T1 i).length by omega⟩|exact⟨show(bh T2 j).length<=1000000 by omega⟩
     all_goals
      refine⟨j+1,[0,1,2,3,4],⟨Ho,Sk⟩,?_,by show T2.length-(j+1)<T2.length-j;omega⟩
      repeat'((conv=>whnf)<;>first|apply And.intro|intro _|rfl|trivial|exact ah rfl|exact aS ‹_› rfl|exact aT ‹_› rfl|((repeat' first|rfl|constructor);done))
    have w0:decide ((u:Int)<((bh T1 i).length:Int))=false:=decide_eq_false (by omega)
    rw[if_pos (apJ (fun w hw=>RM w (by omega)))]at Sk
    have z0:(!decide ((-1:Int)>=0))=true:=by decide
    repeat'((conv=>whnf);first|apply And.intro|exact bA (by subst_vars;assumption)|intro h9)
    all_goals(try(conv=>whnf))<;>(subst_vars;try first|(apply Tk.mk;kernel_rfl)|exact⟨ah rfl⟩|exact⟨rfl⟩|exact⟨trivial⟩|rfl|contradiction|(apply Ob.mk;(try simp only[ag,ak,aa.ae])<;>(try dsimp only)<;>omega))
    all_goals
     refine⟨(i+1,some (i,j)),[0,1,2,3,4],⟨hi1,(fun p hp=>by obtain rfl:=Option.some.inj hp;exact⟨hi1,Ho⟩),(by rw[alz hi1,<-Nc,Sk];rfl)⟩,?_,by show T1.length-(i+1)<T1.length-i;omega⟩
     repeat'((conv=>whnf)<;>first|apply And.intro|intro _|rfl|trivial|exact ah rfl|exact aS ‹_› rfl|exact aT ‹_› rfl|((repeat' first|rfl|constructor);done))
   have q0:decide ((j:Int)<(T2.length:Int))=false:=decide_eq_false (by omega)
   rw[List.drop_eq_nil_of_le (by omega),aly]at Sk
   repeat'((conv=>whnf);first|apply And.intro|exact bA (by subst_vars;assumption)|intro h9)
   all_goals(try(conv=>whnf))<;>(subst_vars;try first|(apply Tk.mk;kernel_rfl)|exact⟨ah rfl⟩|exact⟨rfl⟩|exact⟨trivial⟩|rfl|contradiction|(apply Ob.mk;(try simp only[ag,ak,aa.ae])<;>(try dsimp only)<;>omega))
   all_goals
    refine⟨(i+1,none),[0,1,2,3,4],⟨hi1,(fun p hp=>by cases hp),(by rw[alz hi1,<-Nc,Sk])⟩,?_,by show T1.length-(i+1)<T1.length-i;omega⟩
    repeat'((conv=>whnf)<;>first|apply And.intro|intro _|rfl|trivial|exact ah rfl|exact aS ‹_› rfl|exact aT ‹_› rfl|((repeat' first|rfl|constructor);done))
  |some bb=>
   obtain⟨bi,bj⟩:=bb;have amc:=apX _ rfl;dsimp only at amc;repeat'((conv=>whnf);first|apply And.intro|exact bA (by subst_vars;assumption)|intro h9)
   all_goals(try(conv=>whnf))<;>(subst_vars;try first|(apply Tk.mk;kernel_rfl)|exact⟨ah rfl⟩|exact⟨rfl⟩|exact⟨trivial⟩|rfl|contradiction|(apply Ob.mk;(try simp only[ag,ak,aa.ae])<;>(try dsimp only)<;>omega))
   all_goals try first|exact⟨show 0+Int.toNat (i:Int)<T1.length by omega⟩
   refine⟨Nat,fun j=>j<=T2.length/\aly (bh T1 i) (am8 T1 T2 (some (bi,bj))) T2=aly (bh T1 i) (am8 T1 T2 (some (bi,bj))) (T2.drop j),fun j=>⟨aI 78 [0,10,11,12,13,15,35,36,37,41,42,43] [.a (.sl 0 [] 0 L.length),.a (.sl 3 [] 0 T1.length),.a (.sl 4 [] 0 T2.length),.a (.sl 3 [(0+Int.toNat (bi:Int),0)] 0 (bh T1 bi).length),.a (.sl 4 [(0+Int.toNat (bj:Int),0)] 0 (bh T2 bj).length),.a (.sl 3 [(0+Int.toNat (i:Int),0)] 0 (bh T1 i).length),.a (.sl 3 [] 0 T1.length),.a (vI T1.length),.a (vI i),.a (.sl 4 [] 0 T2.length),.a (vI T2.length),.a (vI j)],[],[.arr 67 kK L false false,.dead,.dead,.arr 27 kT T1 true true,.arr 27 kT T2 true true]⟩,fun j=>T2.length-j,0,[0,1,2,3,4],⟨Nat.zero_le _,rfl⟩,?_,?_⟩
   ·repeat'((conv=>whnf)<;>first|apply And.intro|intro _|rfl|trivial|exact ah rfl|exact aS ‹_› rfl|exact aT ‹_› rfl|((repeat' first|rfl|constructor);done))
   rintro j ⟨hj,Sk⟩;by_cases Ho:j<T2.length
   ·have q0:decide ((j:Int)<(T2.length:Int))=true:=decide_eq_true (by omega)
    have jJ:=aq1.len Ho;have atw:=List.drop_eq_getElem_cons Ho;rw[<-wV Ho]at atw;rw[atw,aly]at Sk;have cO:=apU.len amc.1;have cq:=aq1.len amc.2;by_cases azw:(bh T1 bi).length+(bh T2 bj).length<=(bh T1 i).length+(bh T2 j).length
    ·have v0:decide (((bh T1 i).length:Int)+((bh T2 j).length:Int)>=((bh T1 bi).length:Int)+((bh T2 bj).length:Int))=true:=decide_eq_true (by omega)
     rw[if_pos (show apl (am8 T1 T2 (some (bi,bj))) (bh T1 i) (bh T2 j)=true from decide_eq_true azw)]at Sk;repeat'((conv=>whnf);first|apply And.intro|exact bA (by subst_vars;assumption)|intro h9)
     all_goals(try(conv=>whnf))<;>(subst_vars;try first|(apply Tk.mk;kernel_rfl)|exact⟨ah rfl⟩|exact⟨rfl⟩|exact⟨trivial⟩|rfl|contradiction|(apply Ob.mk;(try simp only[ag,ak,aa.ae])<;>(try dsimp only)<;>omega))
     all_goals try first|exact⟨show 0+Int.toNat (j:Int)<T2.length by omega⟩|(refine Ob.mk ?_;show(ag .i64 (((bh T1 i).length:Int)+((bh T2 j).length:Int))).p;simp only[ag,ak,aa.ae];omega)|(exfalso;exact absurd ((‹0<(bh T1 bi).length->(false:Bool)=true›) (by omega)) (by decide))
     all_goals
      refine⟨(i+1,some (bi,bj)),[0,1,2,3,4],⟨hi1,(fun p hp=>by obtain rfl:=Option.some.inj hp;exact amc),(by rw[alz hi1,<-Nc,Sk])⟩,?_,by show T1.length-(i+1)<T1.length-i;omega⟩
      repeat'((conv=>whnf)<;>first|apply And.intro|intro _|rfl|trivial|exact ah rfl|exact aS ‹_› rfl|exact aT ‹_› rfl|((repeat' first|rfl|constructor);done))
    have v0:decide (((bh T1 i).length:Int)+((bh T2 j).length:Int)>=((bh T1 bi).length:Int)+((bh T2 bj).length:Int))=false:=decide_eq_false (by omega)
    rw[if_neg (show ¬apl (am8 T1 T2 (some (bi,bj))) (bh T1 i) (bh T2 j)=true from fun h=>azw (of_decide_eq_true h))]at Sk
    repeat'((conv=>whnf);first|apply And.intro|exact bA (by subst_vars;assumption)|intro h9)
    all_goals(try(conv=>whnf))<;>(subst_vars;try first|(apply Tk.mk;kernel_rfl)|exact⟨ah rfl⟩|exact⟨rfl⟩|exact⟨trivial⟩|rfl|contradiction|(apply Ob.mk;(try simp only[ag,ak,aa.ae])<;>(try dsimp only)<;>omega))
    all_goals try first|exact⟨show 0+Int.toNat (j:Int)<T2.length by omega⟩|(refine Ob.mk ?_;show(ag .i64 (((bh T1 i).length:Int)+((bh T2 j).length:Int))).p;simp only[ag,ak,aa.ae];omega)|(exfalso;exact absurd ((‹0<(bh T1 bi).length->(false:Bool)=true›) (by omega)) (by decide))
    refine⟨Nat,fun u=>u<=(bh T1 i).length/\∀ w,w<u->(bh T2 j).contains (ca (bh T1 i) w)=false,fun u=>⟨aI 19 [0,1,6,7,8] [.a (.sl 3 [(0+Int.toNat (i:Int),0)] 0 (bh T1 i).length),.a (.fn 64 [5]),.a (.sl 3 [(0+Int.toNat (i:Int),0)] 0 (bh T1 i).length),.a (vI (bh T1 i).length),.a (vI u)],[aI 9 [] [],aI 78 [0,10,11,12,13,15,17,35,36,37,41,42,43] [.a (.sl 0 [] 0 L.length),.a (.sl 3 [] 0 T1.length),.a (.sl 4 [] 0 T2.length),.a (.sl 3 [(0+Int.toNat (bi:Int),0)] 0 (bh T1 bi).length),.a (.sl 4 [(0+Int.toNat (bj:Int),0)] 0 (bh T2 bj).length),.a (.sl 3 [(0+Int.toNat (i:Int),0)] 0 (bh T1 i).length),.a (.p 5 [] 0 0),.a (.sl 3 [] 0 T1.length),.a (vI T1.length),.a (vI i),.a (.sl 4 [] 0 T2.length),.a (vI T2.length),.a (vI j)]],[.arr 67 kK L false false,.dead,.dead,.arr 27 kT T1 true true,.arr 27 kT T2 true true,.box true [(.sl 4 [(0+Int.toNat (j:Int),0)] 0 (bh T2 j).length)]]⟩,fun u=>(bh T1 i).length-u,0,[0,1,2,3,4,5],⟨Nat.zero_le _,fun w h=>absurd h (Nat.not_lt_zero w)⟩,?_,?_⟩
    ·repeat'((conv=>whnf)<;>first|apply And.intro|intro _|rfl|trivial|exact ah rfl|exact aS ‹_› rfl|exact aT ‹_› rfl|((repeat' first|rfl|constructor);done))
    rintro u ⟨hu,RM⟩;by_cases NB:u<(bh T1 i).length
    ·have w0:decide ((u:Int)<((bh T1 i).length:Int))=true:=decide_eq_true (by omega)
     cases hc:(bh T2 j).contains (ca (bh T1 i) u)
     ·repeat'((conv=>whnf);first|apply And.intro|exact bA (by subst_vars;assumption)|intro h9)
      all_goals(try(conv=>whnf))<;>(subst_vars;try first|(apply Tk.mk;kernel_rfl)|exact⟨ah rfl⟩|exact⟨rfl⟩|exact⟨trivial⟩|rfl|contradiction|(apply Ob.mk;(try simp only[ag,ak,aa.ae])<;>(try dsimp only)<;>omega))
      all_goals try first|exact⟨show 0+Int.toNat (i:Int)<T1.length by omega⟩|exact⟨show 0+Int.toNat (j:Int)<T2.length by omega⟩|exact⟨show 0+Int.toNat (u:Int)<(bh T1 i).length by omega⟩|exact⟨show(bh T2 j).length<=1000000 by omega⟩
      all_goals
       refine⟨u+1,[0,1,2,3,4,5],⟨NB,fun w hw=>by rcases Nat.lt_succ_iff_lt_or_eq.1 hw with h|rfl;exact RM w h;exact hc⟩,?_,by show(bh T1 i).length-(u+1)<(bh T1 i).length-u;omega⟩
       repeat'((conv=>whnf)<;>first|apply And.intro|intro _|rfl|trivial|exact ah rfl|exact aS ‹_› rfl|exact aT ‹_› rfl|((repeat' first|rfl|constructor);done))
     rw[if_neg (show ¬anf (bh T1 i) (bh T2 j)=true by rw[aqT NB hc];simp)]at Sk
     have z0:(!decide ((u:Int)>=0))=false:=by rw[decide_eq_true (by omega)];rfl
     repeat'((conv=>whnf);first|apply And.intro|exact bA (by subst_vars;assumption)|intro h9)
     all_goals(try(conv=>whnf))<;>(subst_vars;try first|(apply Tk.mk;kernel_rfl)|exact⟨ah rfl⟩|exact⟨rfl⟩|exact⟨trivial⟩|rfl|contradiction|(apply Ob.mk;(try simp only[ag,ak,aa.ae])<;>(try dsimp only)<;>omega))
     all_goals try first|exact⟨show 0+Int.toNat (i:Int)<T1.length by omega⟩|exact⟨show 0+Int.toNat (j:Int)<T2.length by omega⟩|exact⟨show 0+Int.toNat (u:Int)<(bh T1 i).length by omega⟩|exact⟨show(bh T2 j).length<=1000000 by omega⟩
     all_goals
      refine⟨j+1,[0,1,2,3,4],⟨Ho,Sk⟩,?_,by show T2.length-(j+1)<T2.length-j;omega⟩
      repeat'((conv=>whnf)<;>first|apply And.intro|intro _|rfl|trivial|exact ah rfl|exact aS ‹_› rfl|exact aT ‹_› rfl|((repeat' first|rfl|constructor);done))
    have w0:decide ((u:Int)<((bh T1 i).length:Int))=false:=decide_eq_false (by omega)
    rw[if_pos (apJ (fun w hw=>RM w (by omega)))]at Sk
    have z0:(!decide ((-1:Int)>=0))=true:=by decide
    repeat'((conv=>whnf);first|apply And.intro|exact bA (by subst_vars;assumption)|intro h9)
    all_goals(try(conv=>whnf))<;>(subst_vars;try first|(apply Tk.mk;kernel_rfl)|exact⟨ah rfl⟩|exact⟨rfl⟩|exact⟨trivial⟩|rfl|contradiction|(apply Ob.mk;(try simp only[ag,ak,aa.ae])<;>(try dsimp only)<;>omega))
    all_goals
     refine⟨(i+1,some (i,j)),[0,1,2,3,4],⟨hi1,(fun p hp=>by obtain rfl:=Option.some.inj hp;exact⟨hi1,Ho⟩),(by rw[alz hi1,<-Nc,Sk];rfl)⟩,?_,by show T1.length-(i+1)<T1.length-i;omega⟩
     repeat'((conv=>whnf)<;>first|apply And.intro|intro _|rfl|trivial|exact ah rfl|exact aS ‹_› rfl|exact aT ‹_› rfl|((repeat' first|rfl|constructor);done))
   have q0:decide ((j:Int)<(T2.length:Int))=false:=decide_eq_false (by omega)
   rw[List.drop_eq_nil_of_le (by omega),aly]at Sk
   repeat'((conv=>whnf);first|apply And.intro|exact bA (by subst_vars;assumption)|intro h9)
   all_goals(try(conv=>whnf))<;>(subst_vars;try first|(apply Tk.mk;kernel_rfl)|exact⟨ah rfl⟩|exact⟨rfl⟩|exact⟨trivial⟩|rfl|contradiction|(apply Ob.mk;(try simp only[ag,ak,aa.ae])<;>(try dsimp only)<;>omega))
   all_goals
    refine⟨(i+1,some (bi,bj)),[0,1,2,3,4],⟨hi1,(fun p hp=>by obtain rfl:=Option.some.inj hp;exact amc),(by rw[alz hi1,<-Nc,Sk])⟩,?_,by show T1.length-(i+1)<T1.length-i;omega⟩
    repeat'((conv=>whnf)<;>first|apply And.intro|intro _|rfl|trivial|exact ah rfl|exact aS ‹_› rfl|exact aT ‹_› rfl|((repeat' first|rfl|constructor);done))
 have p0:decide ((i:Int)<(T1.length:Int))=false:=decide_eq_false (by omega)
 have aAo:arq T1 T2 i=aoC T1 T2:=by unfold arq;rw[List.take_of_length_le (by omega)]
 rw[<-aAo,<-Nc]at afI;cases b with
 |none=>
  dsimp only[am8,Option.map_none,ak9]at afI;repeat'((conv=>whnf);first|apply And.intro|exact bA (by subst_vars;assumption)|intro h9)
  all_goals(try(conv=>whnf))<;>(subst_vars;try first|(apply Tk.mk;kernel_rfl)|exact⟨ah rfl⟩|exact⟨rfl⟩|exact⟨trivial⟩|rfl|contradiction|(apply Ob.mk;(try simp only[ag,ak,aa.ae])<;>(try dsimp only)<;>omega))
  all_goals first
   |(refine bu.base ⟨_,[],afI,trivial,rfl,?_⟩;(repeat'((conv=>whnf);(first|apply And.intro|intro _)));all_goals first|rfl|trivial)
 |some bb=>
  obtain⟨bi,bj⟩:=bb;have amc:=apX _ rfl;dsimp only at amc;dsimp only[am8,Option.map_some]at afI;have cO:=apU.len amc.1;have cq:=aq1.len amc.2;repeat'((conv=>whnf);first|apply And.intro|exact bA (by subst_vars;assumption)|intro h9)
  all_goals(try(conv=>whnf))<;>(subst_vars;try first|(apply Tk.mk;kernel_rfl)|exact⟨ah rfl⟩|exact⟨rfl⟩|exact⟨trivial⟩|rfl|contradiction|(apply Ob.mk;(try simp only[ag,ak,aa.ae])<;>(try dsimp only)<;>omega))
  all_goals first
   |(refine bu.base ⟨_,[5,6],afI,⟨rfl,rfl,by simp,rfl,rfl,by simp,trivial⟩,rfl,?_⟩;(repeat'((conv=>whnf);(first|apply And.intro|intro _)));all_goals first|rfl|trivial)
   |exact⟨cO.2.2⟩
   |exact⟨cq.2.2⟩
   |exact⟨show 0+Int.toNat (bi:Int)<T1.length by omega⟩
   |exact⟨show 0+Int.toNat (bj:Int)<T2.length by omega⟩
   |exact⟨show(bh T1 bi).length<=1000000 by omega⟩
   |exact⟨show(bh T2 bj).length<=1000000 by omega⟩
   |(exfalso;exact absurd ((‹0<(bh T1 bi).length->(true:Bool)=false›) (by omega)) (by decide)))
end Go.Proofs.Ytccnimhgjjnmoaa
end
section
namespace Go.Proofs.Ytccnimhgjjnmoaa
open Go Go.Sy Go.dg
variable {Γ:bn}
def cw (W:List Int) (i:Int):Int:=W.getD i.toNat 0
def aqP:au:=.fn fun args rg=>match args with
 |[.a (.v (.int .i64 a)),.a (.v (.int .i64 b)),.a (.p rb [] 0 0)]=>(match rg.getD rb .dead with
  | .box _ [x]=>(match ac1 3 kI rg x with
    |some (q,W)=>some (q++[(aa.of (0<=a/\a<W.length)),(aa.of (0<=b/\b<W.length)),(aa.of (0<=cw W a/\cw W a<=1152921504606846976)),(aa.of (0<=cw W b/\cw W b<=1152921504606846976))],.a (vI (cw W a-cw W b)))
    |none=>none)
  |_=>none)
 |_=>none
theorem ak3 {W:List Int} {i:Int}:@Ar.get ⟨3,kI,W⟩ (0+Int.toNat i)=cw W i:=by unfold cw;rw[Nat.zero_add];rfl
theorem arW:au.Ok Try.prog Γ 102 aqP:=au.aBp (d:=0) (aP aR.nil bq.nil false 0) (aj Try.func102 rfl rfl) (by
 intro args rg q t hF hq;split at hF;next a b rb=>
  split at hF;next o x Rj=>
   split at hF;next q0 W hx=>
    obtain⟨rfl,rfl⟩:=Prod.mk.inj (Option.some.inj hF);clear hF;rw[aH]at hq;obtain⟨aIh,ha,hb,wa,wb,_⟩:=hq;simp only[aa.ae]at ha hb wa wb;obtain⟨e,he⟩:=bP (by simp[kI]) hx aIh
    obtain⟨p0,r0⟩:=he [some (rb,[]),e] 1 2 rfl (by omega)
    have hg:rg[rb]?=some (.box o [x]):=by
     rw[List.getD_eq_getElem?_getD]at Rj;cases h:rg[rb]? with
     |none=>rw[h]at Rj;cases Rj
     |some g=>rw[h]at Rj;simpa using Rj
    refine⟨rfl,[some (rb,[]),e],[.a (vI a),.a (vI b),.a (.p 0 [] 0 0)],[.box false [.sl 1 [] 0 W.length],.arr 3 kI W false false],⟨⟨rfl,rfl,⟨rb,[],rfl,Nat.zero_lt_succ _,rfl⟩,trivial⟩,fun r g lh=>?_⟩,?_⟩
    ·match r,lh with
     |0,lh=>obtain rfl:=Option.some.inj lh;exact⟨rfl,rb,o,[x],rfl,hg,p0,trivial⟩
     |1,lh=>obtain rfl:=Option.some.inj lh;exact r0
    ·have ia:0+Int.toNat a<W.length:=by omega
     have ib:0+Int.toNat b<W.length:=by omega
     have ea:@Ar.get ⟨3,kI,W⟩ (0+Int.toNat a)=cw W a:=ak3;have eb:@Ar.get ⟨3,kI,W⟩ (0+Int.toNat b)=cw W b:=ak3;rw[<-ea]at wa;rw[<-eb]at wb;show cQ _ _ _ _ _ (fun x _=>iL x (.a (vI (cw W a-cw W b))))
     rw[<-ea,<-eb];clear ea eb;repeat'((conv=>whnf);first|apply And.intro|exact bA (by subst_vars;assumption)|intro h9)
     all_goals(try(conv=>whnf))<;>(subst_vars;try first|(apply Tk.mk;kernel_rfl)|exact⟨ah rfl⟩|exact⟨rfl⟩|exact⟨trivial⟩|rfl|contradiction|(apply Ob.mk;(try simp only[ag,ak,aa.ae])<;>(try dsimp only)<;>omega))
   next=>cases hF
  next=>cases hF
 next=>cases hF)
end Go.Proofs.Ytccnimhgjjnmoaa
end
