/-
  Texts of the claims: Ykp2z. No condition: lemmas and contracts.
-/
import Derived.Test.YtccnimhgjjnmoaaSya1z
import Derived.Test.YtccnimhgjjnmoaaSya2z
import Derived.Test.YtccnimhgjjnmoaaSya3z
import Derived.Test.YtccnimhgjjnmoaaSya4z
import Derived.Test.YtccnimhgjjnmoaaSya5z
import Derived.Test.YtccnimhgjjnmoaaPla6z
import Derived.Test.YtccnimhgjjnmoaaYka7z
import Derived.Test.YtccnimhgjjnmoaaPld1z
import Derived.Test.YtccnimhgjjnmoaaPlp1z
set_option linter.all false
set_option maxRecDepth 100000
set_option maxHeartbeats 40000000
section
namespace Go.Proofs.Ytccnimhgjjnmoaa
open Go Go.Sy Go.dg
variable {Γ:bn}
def auP (D:List Bk->Int->Int->List aa) (F:List Bk->Int->Int->Tm):au:=.fn fun args rg=>match args with
 |[.a x0,.a (.v (.int .i64 n0)),.a (.v (.int .i64 n1))]=>(match ac1 67 kK rg x0 with|some (q0,L0)=>some (q0++(D L0 n0 n1),F L0 n0 n1)|_=>none)
 |_=>none
theorem aqW {f:FuncId} {b:Body} {E:Env} {d:Nat} (hP:aL Try.prog Γ E) (hb:bQ Try.prog f b) {D:List Bk->Int->Int->List aa} {F:List Bk->Int->Int->Tm} (hp:∀ (L0:List Bk) (n0:Int) (n1:Int),(F L0 n0 n1).plain=true)
 (H:∀ (L0:List Bk) (n0:Int) (n1:Int),bW (D L0 n0 n1)->cQ E d b [.a (.sl 0 [] 0 L0.length),.a (vI n0),.a (vI n1)] [.arr 67 kK L0 false false] (fun x _=>iL x (F L0 n0 n1))):au.Ok Try.prog Γ f (auP D F):=au.aBp (d:=d) hP hb (by
 intro args rg q t hF hq;split at hF;next x0 n0 n1=>
  split at hF;next q0 L0 hx0=>
   obtain⟨rfl,rfl⟩:=Prod.mk.inj (Option.some.inj hF);clear hF;rw[aH]at hq;obtain⟨aIh,hD⟩:=hq;obtain⟨e0,Vn⟩:=bP (by simp[kK]) hx0 aIh
   obtain⟨p0,r0⟩:=Vn [e0] 0 1 rfl (by omega)
   refine⟨hp _ _ _,[e0],[.a (.sl 0 [] 0 L0.length),.a (vI n0),.a (vI n1)],[.arr 67 kK L0 false false],⟨⟨p0,rfl,rfl,trivial⟩,fun r g hg=>?_⟩,H _ _ _ hD⟩
   match r,hg with
   |0,hg=>obtain rfl:=Option.some.inj hg;exact r0
  next=>cases hF
 next=>cases hF)
def axN (D:List Bk->Int->Int->Int->Int->List aa) (F:List Bk->Int->Int->Int->Int->Tm):au:=.fn fun args rg=>match args with
 |[.a x0,.agg [.v (.int .i64 n0),.v (.int .i64 n1),.v (.int .i64 n2)],.a (.v (.int .i64 n3))]=>(match ac1 67 kK rg x0 with|some (q0,L0)=>some (q0++(D L0 n0 n1 n2 n3),F L0 n0 n1 n2 n3)|_=>none)
 |_=>none
theorem awI {f:FuncId} {b:Body} {E:Env} {d:Nat} (hP:aL Try.prog Γ E) (hb:bQ Try.prog f b) {D:List Bk->Int->Int->Int->Int->List aa} {F:List Bk->Int->Int->Int->Int->Tm} (hp:∀ (L0:List Bk) (n0:Int) (n1:Int) (n2:Int) (n3:Int),(F L0 n0 n1 n2 n3).plain=true)
 (H:∀ (L0:List Bk) (n0:Int) (n1:Int) (n2:Int) (n3:Int),bW (D L0 n0 n1 n2 n3)->cQ E d b [.a (.sl 0 [] 0 L0.length),.agg [vI n0,vI n1,vI n2],.a (vI n3)] [.arr 67 kK L0 false false] (fun x _=>iL x (F L0 n0 n1 n2 n3))):au.Ok Try.prog Γ f (axN D F):=au.aBp (d:=d) hP hb (by
 intro args rg q t hF hq;split at hF;next x0 n0 n1 n2 n3=>
  split at hF;next q0 L0 hx0=>
   obtain⟨rfl,rfl⟩:=Prod.mk.inj (Option.some.inj hF);clear hF;rw[aH]at hq;obtain⟨aIh,hD⟩:=hq;obtain⟨e0,Vn⟩:=bP (by simp[kK]) hx0 aIh
   obtain⟨p0,r0⟩:=Vn [e0] 0 1 rfl (by omega)
   refine⟨hp _ _ _ _ _,[e0],[.a (.sl 0 [] 0 L0.length),.agg [vI n0,vI n1,vI n2],.a (vI n3)],[.arr 67 kK L0 false false],⟨⟨p0,⟨rfl,rfl,rfl,trivial⟩,rfl,trivial⟩,fun r g hg=>?_⟩,H _ _ _ _ _ hD⟩
   match r,hg with
   |0,hg=>obtain rfl:=Option.some.inj hg;exact r0
  next=>cases hF
 next=>cases hF)
def axV (D:Nat->Nat->List Bk->Int->Int->List aa) (F:Nat->Nat->List Bk->Int->Int->Tm):au:=.fn fun args rg=>match args with
 |[.a x0,.a (.v (.int .i64 n0)),.a (.v (.int .i64 n1))]=>(match amp 67 kK rg x0 with|some (q0,a0,b0,L0)=>some (q0++(D a0 b0 L0 n0 n1),F a0 b0 L0 n0 n1)|_=>none)
 |_=>none
theorem awN {f:FuncId} {b:Body} {E:Env} {d:Nat} (hP:aL Try.prog Γ E) (hb:bQ Try.prog f b) {D:Nat->Nat->List Bk->Int->Int->List aa} {F:Nat->Nat->List Bk->Int->Int->Tm} (hp:∀ (a0:Nat) (b0:Nat) (L0:List Bk) (n0:Int) (n1:Int),(F a0 b0 L0 n0 n1).plain=true)
 (H:∀ (a0:Nat) (b0:Nat) (L0:List Bk) (n0:Int) (n1:Int),bW (D a0 b0 L0 n0 n1)->cQ E d b [.a (.sl 0 [] a0 b0),.a (vI n0),.a (vI n1)] [.arr 67 kK L0 false false] (fun x _=>iL x (F a0 b0 L0 n0 n1))):au.Ok Try.prog Γ f (axV D F):=au.aBp (d:=d) hP hb (by
 intro args rg q t hF hq;split at hF;next x0 n0 n1=>
  split at hF;next q0 a0 b0 L0 hx0=>
   obtain⟨rfl,rfl⟩:=Prod.mk.inj (Option.some.inj hF);clear hF;rw[aH]at hq;obtain⟨aIh,hD⟩:=hq;obtain⟨e0,Vn⟩:=aov (by simp[kK]) hx0 aIh
   obtain⟨p0,r0⟩:=Vn [e0] 0 1 rfl (by omega)
   refine⟨hp _ _ _ _ _,[e0],[.a (.sl 0 [] a0 b0),.a (vI n0),.a (vI n1)],[.arr 67 kK L0 false false],⟨⟨p0,rfl,rfl,trivial⟩,fun r g hg=>?_⟩,H _ _ _ _ _ hD⟩
   match r,hg with
   |0,hg=>obtain rfl:=Option.some.inj hg;exact r0
  next=>cases hF
 next=>cases hF)
end Go.Proofs.Ytccnimhgjjnmoaa
end
section
namespace Go.Proofs.Ytccnimhgjjnmoaa
open Go Go.Sy Go.dg
variable {Γ:bn}
def aoN:au:=fW (fun _ _ _=>[]) (fun l t f=>bl (pe l t f))
theorem apG:au.Ok Try.prog Γ 33 aoN:=avQ (d:=0) (aP aR.nil bq.nil false 0) (aj Try.func33 rfl rfl) (fun _ _ _=>rfl) (by
 intro l t f _;repeat'((conv=>whnf);(first|apply And.intro|intro _))
 all_goals try(conv=>whnf)
 all_goals try exact Tk.mk (by kernel_rfl)
 all_goals subst_vars
 all_goals(simp_all [pe,aQ]<;>omega))
attribute [local irreducible] ck aQ
def uE:au:=fB (fun L=>[(aa.of (L.length<=1000000))]) (fun L=> .bF [.a (vI (ck L).1),.a (vI (ck L).2)])
theorem yI:au.Ok Try.prog Γ 71 uE:=apf (d:=0) (aP aR.nil bq.nil false 0) (aj Try.func71 rfl rfl) (fun _=>rfl) (by
 intro L ⟨hL,_⟩;simp only[aa.ae]at hL;by_cases h3:20<L.length
 ·have e3:decide ((L.length:Int)>20)=true:=decide_eq_true (by omega)
  rw[anc h3];repeat'((conv=>whnf);first|apply And.intro|exact bA (by subst_vars;assumption)|intro h9)
  all_goals(try(conv=>whnf))<;>(subst_vars;try first|(apply Tk.mk;kernel_rfl)|exact⟨ah rfl⟩|exact⟨rfl⟩|exact⟨trivial⟩|rfl|contradiction|(apply Ob.mk;(try simp only[ag,ak,aa.ae])<;>(try dsimp only)<;>omega))
  all_goals first|trivial
 have e3:decide ((L.length:Int)>20)=false:=decide_eq_false (by omega)
 repeat'((conv=>whnf);first|apply And.intro|exact bA (by subst_vars;assumption)|intro h9)
 all_goals(try(conv=>whnf))<;>(subst_vars;try first|(apply Tk.mk;kernel_rfl)|exact⟨ah rfl⟩|exact⟨rfl⟩|exact⟨trivial⟩|rfl|contradiction|(apply Ob.mk;(try simp only[ag,ak,aa.ae])<;>(try dsimp only)<;>omega))
 refine⟨Nat,fun i=>i<=L.length/\∀ j,j<i->l5 L j=0,fun i=>⟨aI 52 [0,4] [.a (.sl 0 [] 0 L.length),.a (vI i)],[],[.arr 67 kK L false false]⟩,fun i=>L.length-i,0,[0],⟨Nat.zero_le _,fun j h=>absurd h (Nat.not_lt_zero j)⟩,?_,?_⟩
 ·repeat'((conv=>whnf)<;>first|apply And.intro|intro _|rfl|trivial|exact ah rfl|exact aS ‹_› rfl|exact aT ‹_› rfl|((repeat' first|rfl|constructor);done))
 rintro i ⟨hi,hj⟩;by_cases hi1:i<L.length
 ·have p0:decide ((i:Int)<(L.length:Int))=true:=decide_eq_true (by omega)
  cases w1:aQ (gr L i).1 1 1099511627776
  ·have he:l5 L i=1:=by unfold l5;rw[<-tb];simp only[alB,w1,Bool.false_and,if_true]
   rw[alQ h3 hi1 he (by omega) hj]
   by_cases v1:(gr L i).1<1
   ·have f1:decide ((gr L i).1<1)=true:=decide_eq_true v1;repeat'((conv=>whnf);first|apply And.intro|exact bA (by subst_vars;assumption)|intro h9)
    all_goals(try(conv=>whnf))<;>(subst_vars;try first|(apply Tk.mk;kernel_rfl)|exact⟨ah rfl⟩|exact⟨rfl⟩|exact⟨trivial⟩|rfl|contradiction|(apply Ob.mk;(try simp only[ag,ak,aa.ae])<;>(try dsimp only)<;>omega))
    all_goals first|trivial|exact⟨show 0+Int.toNat (i:Int)<L.length by omega⟩
   have f1:decide ((gr L i).1<1)=false:=decide_eq_false v1;have v2:(gr L i).1>1099511627776:=by simp only[aQ,Bool.and_eq_false_iff,decide_eq_false_iff_not]at w1;omega
   have f2:decide ((gr L i).1>1099511627776)=true:=decide_eq_true v2;repeat'((conv=>whnf);first|apply And.intro|exact bA (by subst_vars;assumption)|intro h9)
   all_goals(try(conv=>whnf))<;>(subst_vars;try first|(apply Tk.mk;kernel_rfl)|exact⟨ah rfl⟩|exact⟨rfl⟩|exact⟨trivial⟩|rfl|contradiction|(apply Ob.mk;(try simp only[ag,ak,aa.ae])<;>(try dsimp only)<;>omega))
   all_goals first|trivial|exact⟨show 0+Int.toNat (i:Int)<L.length by omega⟩
  have u1:=akk.1 w1;have f1:decide ((gr L i).1<1)=false:=decide_eq_false (by omega)
  have f2:decide ((gr L i).1>1099511627776)=false:=decide_eq_false (by omega)
  cases w2:aQ (gr L i).2 1 56294995342131
  ·have he:l5 L i=1:=by unfold l5;rw[<-tb];simp only[alB,w2,Bool.and_false,if_true]
   rw[alQ h3 hi1 he (by omega) hj]
   by_cases v1:(gr L i).2<1
   ·have f3:decide ((gr L i).2<1)=true:=decide_eq_true v1;repeat'((conv=>whnf);first|apply And.intro|exact bA (by subst_vars;assumption)|intro h9)
    all_goals(try(conv=>whnf))<;>(subst_vars;try first|(apply Tk.mk;kernel_rfl)|exact⟨ah rfl⟩|exact⟨rfl⟩|exact⟨trivial⟩|rfl|contradiction|(apply Ob.mk;(try simp only[ag,ak,aa.ae])<;>(try dsimp only)<;>omega))
    all_goals first|trivial|exact⟨show 0+Int.toNat (i:Int)<L.length by omega⟩
   have f3:decide ((gr L i).2<1)=false:=decide_eq_false v1;have v2:(gr L i).2>56294995342131:=by simp only[aQ,Bool.and_eq_false_iff,decide_eq_false_iff_not]at w2;omega
   have f4:decide ((gr L i).2>56294995342131)=true:=decide_eq_true v2;repeat'((conv=>whnf);first|apply And.intro|exact bA (by subst_vars;assumption)|intro h9)
   all_goals(try(conv=>whnf))<;>(subst_vars;try first|(apply Tk.mk;kernel_rfl)|exact⟨ah rfl⟩|exact⟨rfl⟩|exact⟨trivial⟩|rfl|contradiction|(apply Ob.mk;(try simp only[ag,ak,aa.ae])<;>(try dsimp only)<;>omega))
   all_goals first|trivial|exact⟨show 0+Int.toNat (i:Int)<L.length by omega⟩
  have u2:=akk.1 w2;have f3:decide ((gr L i).2<1)=false:=decide_eq_false (by omega)
  have f4:decide ((gr L i).2>56294995342131)=false:=decide_eq_false (by omega)
  have g1:alB (bk L i)=true:=by rw[<-tb];simp only[alB,w1,w2,Bool.and_true]
  by_cases h0:0<i
  ·have p1:decide ((i:Int)>0)=true:=decide_eq_true (by omega)
   by_cases h4:(gr L i).1<=(gr L ((i:Int)-1)).1
   ·have p2:decide ((gr L i).1<=(gr L ((i:Int)-1)).1)=true:=decide_eq_true h4;have he:l5 L i=6:=by unfold l5;rw[g1];rw[tb,al1 h0]at h4;rw[if_neg (by decide),if_pos ⟨h0,h4⟩]
    rw[alQ h3 hi1 he (by omega) hj]
    repeat'((conv=>whnf);first|apply And.intro|exact bA (by subst_vars;assumption)|intro h9)
    all_goals(try(conv=>whnf))<;>(subst_vars;try first|(apply Tk.mk;kernel_rfl)|exact⟨ah rfl⟩|exact⟨rfl⟩|exact⟨trivial⟩|rfl|contradiction|(apply Ob.mk;(try simp only[ag,ak,aa.ae])<;>(try dsimp only)<;>omega))
    all_goals first|trivial|exact⟨show 0+Int.toNat (i:Int)<L.length by omega⟩|exact⟨show 0+Int.toNat ((i:Int)-1)<L.length by omega⟩
   have p2:decide ((gr L i).1<=(gr L ((i:Int)-1)).1)=false:=decide_eq_false h4;have he:l5 L i=0:=ak7.2 ⟨g1,fun h=>h4 (by rw[tb,al1 h0];exact h.2)⟩
   repeat'((conv=>whnf);first|apply And.intro|exact bA (by subst_vars;assumption)|intro h9)
   all_goals(try(conv=>whnf))<;>(subst_vars;try first|(apply Tk.mk;kernel_rfl)|exact⟨ah rfl⟩|exact⟨rfl⟩|exact⟨trivial⟩|rfl|contradiction|(apply Ob.mk;(try simp only[ag,ak,aa.ae])<;>(try dsimp only)<;>omega))
   all_goals try first|exact⟨show 0+Int.toNat (i:Int)<L.length by omega⟩|exact⟨show 0+Int.toNat ((i:Int)-1)<L.length by omega⟩
   all_goals
    refine⟨i+1,[0],⟨hi1,fun j hj'=>by rcases Nat.lt_succ_iff_lt_or_eq.1 hj' with h|rfl;exact hj j h;exact he⟩,?_,by show L.length-(i+1)<L.length-i;omega⟩
    repeat'((conv=>whnf)<;>first|apply And.intro|intro _|rfl|trivial|exact ah rfl|exact aS ‹_› rfl|exact aT ‹_› rfl|((repeat' first|rfl|constructor);done))
  have p1:decide ((i:Int)>0)=false:=decide_eq_false (by omega)
  have he:l5 L i=0:=ak7.2 ⟨g1,fun h=>h0 h.1⟩
  repeat'((conv=>whnf);first|apply And.intro|exact bA (by subst_vars;assumption)|intro h9)
  all_goals(try(conv=>whnf))<;>(subst_vars;try first|(apply Tk.mk;kernel_rfl)|exact⟨ah rfl⟩|exact⟨rfl⟩|exact⟨trivial⟩|rfl|contradiction|(apply Ob.mk;(try simp only[ag,ak,aa.ae])<;>(try dsimp only)<;>omega))
  all_goals try first|exact⟨show 0+Int.toNat (i:Int)<L.length by omega⟩
  all_goals
   refine⟨i+1,[0],⟨hi1,fun j hj'=>by rcases Nat.lt_succ_iff_lt_or_eq.1 hj' with h|rfl;exact hj j h;exact he⟩,?_,by show L.length-(i+1)<L.length-i;omega⟩
   repeat'((conv=>whnf)<;>first|apply And.intro|intro _|rfl|trivial|exact ah rfl|exact aS ‹_› rfl|exact aT ‹_› rfl|((repeat' first|rfl|constructor);done))
 have p0:decide ((i:Int)<(L.length:Int))=false:=decide_eq_false (by omega)
 rw[aol h3 (fun j hj'=>hj j (by omega))]
 repeat'((conv=>whnf);first|apply And.intro|exact bA (by subst_vars;assumption)|intro h9)
 all_goals(try(conv=>whnf))<;>(subst_vars;try first|(apply Tk.mk;kernel_rfl)|exact⟨ah rfl⟩|exact⟨rfl⟩|exact⟨trivial⟩|rfl|contradiction|(apply Ob.mk;(try simp only[ag,ak,aa.ae])<;>(try dsimp only)<;>omega))
 all_goals first|trivial)
end Go.Proofs.Ytccnimhgjjnmoaa
end
section
namespace Go.Proofs.Ytccnimhgjjnmoaa
open Go Go.Sy Go.dg
variable {Γ:bn}
attribute [local irreducible] ck
def anI:au:=fB (fun L=>[(aa.of (L.length<=1000000))]) (fun L=> .a (vI (ck L).1))
noncomputable def asE:List (Nat×au):=[(71,uE)]
theorem aps:aR Try.prog Γ asE:=(aR.nil.cons (aj Try.func71 rfl rfl).fn yI)
theorem ao8:au.Ok Try.prog Γ 37 anI:=apf (d:=0) (aP aps bq.nil false 0) (aj Try.func37 rfl rfl) (fun _=>rfl) (by
 intro L ⟨hL,_⟩;simp only[aa.ae]at hL;repeat'((conv=>whnf);first|apply And.intro|exact bA (by subst_vars;assumption)|intro h9)
 all_goals(try(conv=>whnf))<;>(subst_vars;try first|(apply Tk.mk;kernel_rfl)|exact⟨ah rfl⟩|exact⟨rfl⟩|exact⟨trivial⟩|rfl|contradiction|(apply Ob.mk;(try simp only[ag,ak,aa.ae])<;>(try dsimp only)<;>omega))
 all_goals first|exact⟨hL⟩)
def anH:au:=anQ (fun L l t f=>[(aa.of (L.length<=1000000))]) (fun L l t f=> .a (vI (bf L l t f)))
noncomputable def asD:List (Nat×au):=[(37,anI),(33,aoN)]
theorem apr:aR Try.prog Γ asD:=((aR.nil.cons (aj Try.func33 rfl rfl).fn apG).cons (aj Try.func37 rfl rfl).fn ao8)
theorem ao7:au.Ok Try.prog Γ 26 anH:=alq (d:=0) (aP apr bq.nil false 0) (aj Try.func26 rfl rfl) (fun _ _ _ _=>rfl) (by
 intro L l t f ⟨hL,_⟩;simp only[aa.ae]at hL;by_cases h0:(ck L).1=0
 ·have e0:((ck L).1==0)=true:=by rw[h0];rfl
  cases hw:pe l t f
  ·have e1:(!pe l t f)=true:=by rw[hw];rfl
   rw[show bf L l t f=1 by unfold bf;rw[if_pos h0,hw];rfl]
   repeat'((conv=>whnf);first|apply And.intro|exact bA (by subst_vars;assumption)|intro h9)
   all_goals(try(conv=>whnf))<;>(subst_vars;try first|(apply Tk.mk;kernel_rfl)|exact⟨ah rfl⟩|exact⟨rfl⟩|exact⟨trivial⟩|rfl|contradiction|(apply Ob.mk;(try simp only[ag,ak,aa.ae])<;>(try dsimp only)<;>omega))
   all_goals first|exact⟨hL⟩
  have e1:(!pe l t f)=false:=by rw[hw];rfl
  have e2:(ck L).1=bf L l t f:=by unfold bf;rw[if_pos h0,hw,h0];rfl
  repeat'((conv=>whnf);first|apply And.intro|exact bA (by subst_vars;assumption)|intro h9)
  all_goals(try(conv=>whnf))<;>(subst_vars;try first|(apply Tk.mk;kernel_rfl)|exact⟨ah rfl⟩|exact⟨rfl⟩|exact⟨trivial⟩|rfl|contradiction|(apply Ob.mk;(try simp only[ag,ak,aa.ae])<;>(try dsimp only)<;>omega))
  all_goals first|trivial|exact⟨hL⟩
 have e0:((ck L).1==0)=false:=by simpa using h0
 have e2:(ck L).1=bf L l t f:=by unfold bf;rw[if_neg h0]
 repeat'((conv=>whnf);first|apply And.intro|exact bA (by subst_vars;assumption)|intro h9)
 all_goals(try(conv=>whnf))<;>(subst_vars;try first|(apply Tk.mk;kernel_rfl)|exact⟨ah rfl⟩|exact⟨rfl⟩|exact⟨trivial⟩|rfl|contradiction|(apply Ob.mk;(try simp only[ag,ak,aa.ae])<;>(try dsimp only)<;>omega))
 all_goals first|trivial|exact⟨hL⟩)
end Go.Proofs.Ytccnimhgjjnmoaa
end
section
namespace Go.Proofs.Ytccnimhgjjnmoaa
open Go Go.Sy Go.dg
variable {Γ:bn}
def arT:au:=Kf (fun s k=>[(aa.of (0<=s/\s<4611686018427387904)),(aa.of (0<=k/\k<=62))]) (fun s k=>bl (gi k.toNat s.toNat))
theorem aoj:au.Ok Try.prog Γ 59 arT:=An (d:=0) (aP aR.nil bq.nil false 0) (aj Try.func59 rfl rfl) (fun _ _=>rfl) (by
 intro s k ⟨hs,hk,_⟩;simp only[aa.ae]at hs hk;obtain⟨s,rfl⟩:∃ m:Nat,s=(m:Int):=⟨s.toNat,by omega⟩
 obtain⟨k,rfl⟩:∃ m:Nat,k=(m:Int):=⟨k.toNat,by omega⟩
 have h1:=avk (show k<=62 by omega)
 have h2:=awo (s:=s) (k:=k);have h3:((s:Int).tdiv (1*2^k)).tmod 2=0\/((s:Int).tdiv (1*2^k)).tmod 2=1:=by
  rw[show(1*2^k:Int)=((2^k:Nat):Int) by simp,<-Int.ofNat_tdiv,show(2:Int)=((2:Nat):Int)from rfl,<-Int.ofNat_tmod]
  omega
 obtain⟨q,h4,h5⟩:∃ q:Nat,(s:Int).tdiv (1*2^k)=(q:Int)/\q<=s:=⟨s / 2^k,by rw[show(1*2^k:Int)=((2^k:Nat):Int) by simp,<-Int.ofNat_tdiv],Nat.div_le_self _ _⟩
 have h6:(1*2^k:Int)≠0:=by omega
 have h7:ak .i64 ((s:Int).tdiv (1*2^Int.toNat (k:Int))):=by rw[Int.toNat_natCast,h4];simp only[ak];omega
 repeat'((conv=>whnf);first|apply And.intro|exact bA (by subst_vars;assumption)|intro h9)
 all_goals(try(conv=>whnf))<;>(subst_vars;try first|(apply Tk.mk;kernel_rfl)|exact⟨ah rfl⟩|exact⟨rfl⟩|exact⟨trivial⟩|rfl|contradiction|(apply Ob.mk;(try simp only[ag,ak,aa.ae])<;>(try dsimp only)<;>omega))
 all_goals first|exact⟨h7⟩|exact⟨show(k:Int)<=64 by omega⟩|exact⟨h6⟩|(refine Ob.mk ?_;show(ag .i64 _).p;simp only[ag,ak,aa.ae];simp only[Int.toNat_natCast];omega)|(simp only[Int.toNat_natCast];exact h2))
def aoI (L:List Bk):aa:=⟨gb L,(ck L).1==0,by rw[beq_iff_eq];exact⟨amq,fun h=>by rw[atO h]⟩⟩
attribute [local irreducible] ck gi wN sub blk akv
def apC:au:=axV (fun a b L s f=>[(aa.of (a+b<=L.length)),aoI L,(aa.of (0<=s/\s<4611686018427387904)),(aa.of (0<=f/\f<=1000000))]) (fun a b L s f=> .a (vI (wN f (sub L a b) s.toNat)))
noncomputable def awi:List (Nat×au):=[(59,arT)]
theorem arC:aR Try.prog Γ awi:=(aR.nil.cons (aj Try.func59 rfl rfl).fn aoj)
theorem aqy:au.Ok Try.prog Γ 81 apC:=awN (d:=0) (aP arC bq.nil false 0) (aj Try.func81 rfl rfl) (fun _ _ _ _ _=>rfl) (by
 intro a b L s f ⟨hab,hB,hs,hf,_⟩;simp only[aa.ae]at hab hs hf;replace hB:gb L:=hB;obtain⟨s,rfl⟩:∃ m:Nat,s=(m:Int):=⟨s.toNat,by omega⟩
 have hl:=hB.Kg;have hle:=hB.sub_le hab hf.1 hf.2;have dZ:=wk hab;have Kt:(0:Int)=wN f ((sub L a b).take 0) s:=by rw[List.take_zero];unfold wN;rfl
 repeat'((conv=>whnf);first|apply And.intro|exact bA (by subst_vars;assumption)|intro h9)
 all_goals(try(conv=>whnf))<;>(subst_vars;try first|(apply Tk.mk;kernel_rfl)|exact⟨ah rfl⟩|exact⟨rfl⟩|exact⟨trivial⟩|rfl|contradiction|(apply Ob.mk;(try simp only[ag,ak,aa.ae])<;>(try dsimp only)<;>omega))
 refine⟨Nat,fun i=>i<=b,fun i=>⟨aI 28 [0,1,2,7,8] [.a (.sl 0 [] a b),.a (vI s),.a (vI f),.a (vI (wN f ((sub L a b).take i) s)),.a (vI i)],[],[.arr 67 kK L false false]⟩,fun i=>b-i,0,[0],Nat.zero_le _,?_,?_⟩
 ·repeat'((conv=>whnf)<;>first|apply And.intro|intro _|rfl|trivial|exact ah rfl|exact aS ‹_› rfl|exact aT ‹_› rfl|((repeat' first|rfl|constructor);done)|exact Kt)
 rintro i hi;have hw:=hle i s;by_cases hi1:i<b
 ·have p0:decide ((i:Int)<(b:Int))=true:=decide_eq_true (by omega)
  have hst:=axg f (show i<(sub L a b).length by omega) s
  have apX:bk (sub L a b) i=@Ar.get ⟨67,kK,L⟩ (a+Int.toNat (i:Int)):=by
   rw[arp hi1,Int.toNat_natCast];rfl
  have mL:=hle (i+1) s;have hmem:bk (sub L a b) i∈L:=by rw[akX (by omega)];exact aoz (List.getElem_mem _)
  have hlen:=hB.len hmem;rw[apX]at hst hlen;cases hb:gi (Int.toNat (i:Int)) (Int.toNat (s:Int))
  ·have hb':gi i s=false:=by simpa using hb
   rw[hb']at hst;simp only[Bool.false_eq_true,if_false]at hst;repeat'((conv=>whnf);first|apply And.intro|exact bA (by subst_vars;assumption)|intro h9)
   all_goals(try(conv=>whnf))<;>(subst_vars;try first|(apply Tk.mk;kernel_rfl)|exact⟨ah rfl⟩|exact⟨rfl⟩|exact⟨trivial⟩|rfl|contradiction|(apply Ob.mk;(try simp only[ag,ak,aa.ae])<;>(try dsimp only)<;>omega))
   all_goals
    refine⟨i+1,[0],hi1,?_,by show b-(i+1)<b-i;omega⟩
    dsimp only;rw[hst];repeat'((conv=>whnf)<;>first|apply And.intro|intro _|rfl|trivial|exact ah rfl|exact aS ‹_› rfl|exact aT ‹_› rfl|((repeat' first|rfl|constructor);done))
  have hb':gi i s=true:=by simpa using hb
  rw[hb']at hst;simp only[if_true]at hst;rw[hst]at mL;repeat'((conv=>whnf);first|apply And.intro|exact bA (by subst_vars;assumption)|intro h9)
  all_goals(try(conv=>whnf))<;>(subst_vars;try first|(apply Tk.mk;kernel_rfl)|exact⟨ah rfl⟩|exact⟨rfl⟩|exact⟨trivial⟩|rfl|contradiction|(apply Ob.mk;(try simp only[ag,ak,aa.ae])<;>(try dsimp only)<;>omega))
  all_goals try first|exact⟨show a+Int.toNat (i:Int)<L.length by omega⟩
  all_goals
   refine⟨i+1,[0],hi1,?_,by show b-(i+1)<b-i;omega⟩
   dsimp only;rw[hst];repeat'((conv=>whnf)<;>first|apply And.intro|intro _|rfl|trivial|exact ah rfl|exact aS ‹_› rfl|exact aT ‹_› rfl|((repeat' first|rfl|constructor);done))
 have p0:decide ((i:Int)<(b:Int))=false:=decide_eq_false (by omega)
 obtain rfl:i=b:=by omega
 have ht:wN f ((sub L a i).take i) s=wN f (sub L a i) (Int.toNat (s:Int)):=by rw[List.take_of_length_le (by omega)];rfl
 repeat'((conv=>whnf);first|apply And.intro|exact bA (by subst_vars;assumption)|intro h9)
 all_goals(try(conv=>whnf))<;>(subst_vars;try first|(apply Tk.mk;kernel_rfl)|exact⟨ah rfl⟩|exact⟨rfl⟩|exact⟨trivial⟩|rfl|contradiction|(apply Ob.mk;(try simp only[ag,ak,aa.ae])<;>(try dsimp only)<;>omega))
 all_goals first|trivial)
def alJ:au:=auP (fun L s f=>[aoI L,(aa.of (0<=s/\s<4611686018427387904)),(aa.of (0<=f/\f<=1000000))]) (fun L s f=> .a (vI (wN f L s.toNat-f)))
noncomputable def arD:List (Nat×au):=[(81,apC)]
theorem ao5:aR Try.prog Γ arD:=(aR.nil.cons (aj Try.func81 rfl rfl).fn aqy)
theorem alP:au.Ok Try.prog Γ 50 alJ:=aqW (d:=0) (aP ao5 bq.nil false 0) (aj Try.func50 rfl rfl) (fun _ _ _=>rfl) (by
 intro L s f ⟨hB,hs,hf,_⟩;simp only[aa.ae]at hs hf;replace hB:gb L:=hB;have hle:=hB.sub_le (a:=0) (b:=L.length) (by omega) hf.1 hf.2 L.length s.toNat
 rw[alV,List.take_length]at hle;have hab:0+L.length<=L.length:=by omega
 have aym:wN f (sub L 0 L.length) s.toNat-f=wN f L s.toNat-f:=by rw[alV]
 have hr:ak .i64 (wN f (sub L 0 L.length) s.toNat-f):=by rw[aym];simp only[ak];omega
 repeat'((conv=>whnf);first|apply And.intro|exact bA (by subst_vars;assumption)|intro h9)
 all_goals(try(conv=>whnf))<;>(subst_vars;try first|(apply Tk.mk;kernel_rfl)|exact⟨ah rfl⟩|exact⟨rfl⟩|exact⟨trivial⟩|rfl|contradiction|(apply Ob.mk;(try simp only[ag,ak,aa.ae])<;>(try dsimp only)<;>omega))
 all_goals first|trivial|exact⟨hr⟩|exact⟨hB⟩|exact⟨hab⟩)
def aoM:au:=axN (fun L l t f s=>[aoI L,(aa.of (0<=s/\s<4611686018427387904)),(aa.of (0<=f/\f<=1000000)),(aa.of (-1152921504606846976<=l/\l<=1152921504606846976)),(aa.of (-1152921504606846976<=t/\t<=1152921504606846976))]) (fun L l t f s=>bl (akv l t f L s.toNat))
noncomputable def auk:List (Nat×au):=[(50,alJ)]
theorem aqt:aR Try.prog Γ auk:=(aR.nil.cons (aj Try.func50 rfl rfl).fn alP)
theorem apF:au.Ok Try.prog Γ 51 aoM:=awI (d:=0) (aP aqt bq.nil false 0) (aj Try.func51 rfl rfl) (fun _ _ _ _ _=>rfl) (by
 intro L l t f s ⟨hB,hs,hf,hl,ht,_⟩;simp only[aa.ae]at hs hf hl ht;replace hB:gb L:=hB;have hle:=hB.sub_le (a:=0) (b:=L.length) (by omega) hf.1 hf.2 L.length s.toNat
 rw[alV,List.take_length]at hle;have gd:=amx (l:=l) (t:=t) (f:=f) (L:=L) (s:=s.toNat);generalize akv l t f L s.toNat=g at*;generalize hw:wN f L s.toNat=w at*;have r1:ak .i64 (l-t):=by simp only[ak];omega
 have r2:ak .i64 (l+t):=by simp only[ak];omega
 by_cases h1:s>0
 ·have p1:decide (s>0)=true:=decide_eq_true h1;by_cases h2:wN f L s.toNat-f>=l-t
  ·have p2:decide (wN f L s.toNat-f>=l-t)=true:=decide_eq_true h2;have e:decide (wN f L s.toNat-f<=l+t)=g:=by rw[Bool.eq_iff_iff,gd,decide_eq_true_eq];rw[hw]at h2 ⊢;omega
   repeat'((conv=>whnf);first|apply And.intro|exact bA (by subst_vars;assumption)|intro h9)
   all_goals(try(conv=>whnf))<;>(subst_vars;try first|(apply Tk.mk;kernel_rfl)|exact⟨ah rfl⟩|exact⟨rfl⟩|exact⟨trivial⟩|rfl|contradiction|(apply Ob.mk;(try simp only[ag,ak,aa.ae])<;>(try dsimp only)<;>omega))
   all_goals first|exact⟨hB⟩
  have p2:decide (wN f L s.toNat-f>=l-t)=false:=decide_eq_false h2;have e:g=false:=by rw[Bool.eq_false_iff];intro h;have:=gd.1 h;rw[hw]at h2;omega
  repeat'((conv=>whnf);first|apply And.intro|exact bA (by subst_vars;assumption)|intro h9)
  all_goals(try(conv=>whnf))<;>(subst_vars;try first|(apply Tk.mk;kernel_rfl)|exact⟨ah rfl⟩|exact⟨rfl⟩|exact⟨trivial⟩|rfl|contradiction|(apply Ob.mk;(try simp only[ag,ak,aa.ae])<;>(try dsimp only)<;>omega))
  all_goals first|exact⟨hB⟩
 have p1:decide (s>0)=false:=decide_eq_false h1;have e:g=false:=by rw[Bool.eq_false_iff];intro h;have:=gd.1 h;omega
 repeat'((conv=>whnf);first|apply And.intro|exact bA (by subst_vars;assumption)|intro h9)
 all_goals(try(conv=>whnf))<;>(subst_vars;try first|(apply Tk.mk;kernel_rfl)|exact⟨ah rfl⟩|exact⟨rfl⟩|exact⟨trivial⟩|rfl|contradiction|(apply Ob.mk;(try simp only[ag,ak,aa.ae])<;>(try dsimp only)<;>omega))
 all_goals first|exact⟨hB⟩)
end Go.Proofs.Ytccnimhgjjnmoaa
end
