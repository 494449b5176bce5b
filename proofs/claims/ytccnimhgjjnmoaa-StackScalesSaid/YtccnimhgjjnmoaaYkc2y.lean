/-
  Texts of the claims: Ykc2y. No condition: lemmas and contracts.
-/
import Derived.Test.YtccnimhgjjnmoaaSya1z
import Derived.Test.YtccnimhgjjnmoaaSya2z
import Derived.Test.YtccnimhgjjnmoaaSya3z
import Derived.Test.YtccnimhgjjnmoaaSya4z
import Derived.Test.YtccnimhgjjnmoaaSya5z
import Derived.Test.YtccnimhgjjnmoaaPla6z
import Derived.Test.YtccnimhgjjnmoaaYka7z
import Derived.Test.YtccnimhgjjnmoaaYka8z
import Derived.Test.YtccnimhgjjnmoaaYka9z
import Derived.Test.YtccnimhgjjnmoaaYka10z
import Derived.Test.YtccnimhgjjnmoaaYka11z
import Derived.Test.YtccnimhgjjnmoaaYka12z
import Derived.Test.YtccnimhgjjnmoaaYka13z
import Derived.Test.YtccnimhgjjnmoaaYka14z
import Derived.Test.YtccnimhgjjnmoaaYka15z
import Derived.Test.YtccnimhgjjnmoaaYka16z
import Derived.Test.YtccnimhgjjnmoaaYka17z
import Derived.Test.YtccnimhgjjnmoaaYka18z
import Derived.Test.YtccnimhgjjnmoaaPlb1z
import Derived.Test.YtccnimhgjjnmoaaPlc1z
import Derived.Test.YtccnimhgjjnmoaaPld1z
import Derived.Test.YtccnimhgjjnmoaaPlf1z
import Derived.Test.YtccnimhgjjnmoaaPlg1z
import Derived.Test.YtccnimhgjjnmoaaPlh1z
import Derived.Test.YtccnimhgjjnmoaaYkl1z
import Derived.Test.YtccnimhgjjnmoaaPlp1z
import Derived.Test.YtccnimhgjjnmoaaYkp2z
import Derived.Test.YtccnimhgjjnmoaaPlr1z
import Derived.Test.YtccnimhgjjnmoaaYkr2z
import Derived.Test.YtccnimhgjjnmoaaPla1y
import Derived.Test.YtccnimhgjjnmoaaYka2y
import Derived.Test.YtccnimhgjjnmoaaPlc1y
import Derived.Test.YtccnimhgjjnmoaaRows
import Derived.ProofKit
import Derived.Deep.DeepHandedRow
import Derived.Deep.Slices
import Derived.Lib.LaidTab
import Derived.Lib.SmallJoins
import Derived.Stop.LaidErr
import Derived.Carry
set_option linter.all false
set_option maxRecDepth 100000
set_option maxHeartbeats 40000000
section
namespace Go.Proofs.Ytccnimhgjjnmoaa
open Go Go.Sy Go.ChangeShapes Go.WideShapes Go.RowKit
/-! ### Arguments opened -/
section
variable {H:Type} {enc:TypeId×Value->H} {w:World} {base:Nat} {spare:Nat->Bool} {held:Bool}
theorem aKd {t:TypeId} {k:IntKind} (hu:Try.prog.underlying t=some (.int k)) {r:Reach} {b0:Nat} {v:Value} {d:DataW H} {p:List MemPlace} (hv:Value.okWide Try.prog w r b0 t v) (h:DataW.Trod enc Try.prog w base spare held t v d p):∃ n,v= .int k n/\(Lit.int k n).wf=true:=by
 obtain⟨n,rfl,-,-,hw⟩:=open_int hu hv h;exact⟨n,rfl,hw⟩
end
/-! ### A statement's walk -/
theorem aKn {N:Nat} {ρ:Keys} (k:IntKind) (n:Int):Tm.ok N ρ (.a (.v (.int k n))) (.int k n):=⟨rfl,rfl⟩
end Go.Proofs.Ytccnimhgjjnmoaa
end
section
namespace Go.Proofs.Ytccnimhgjjnmoaa
open Go Go.Sy Go.dg
variable {Γ:bn}
theorem ayN {L:List Bk} (h:alg L=true) (hB:gb L):L.length<=12:=by
 unfold alg at h;have:=hB.Kg;rw[Bool.or_eq_true,Bool.and_eq_true,decide_eq_true_eq,decide_eq_true_eq,decide_eq_true_eq]at h;omega
attribute [local irreducible] alg bf ck gf aku x9 eg wN Cn kB gm
end Go.Proofs.Ytccnimhgjjnmoaa
end
section
namespace Go.Proofs.Ytccnimhgjjnmoaa
open Go Go.Sy Go.dg
variable {Γ:bn}
theorem aEg {L:List Bk} {l t f l' t' f':Int} (h:bf L l t f=0):akW L l t f l' t' f'=if pe l' t' f'=true then 0 else 1:=by
 obtain⟨hB,hw⟩:=gg h;unfold akW lu;rw[atO hB,if_pos rfl];have mL:ald (l,t,f)=true:=hw;cases h2:pe l' t' f'
 ·have lS:ald (l',t',f')=false:=h2;rw[if_neg (by simp[lS])];rfl
 ·have lS:ald (l',t',f')=true:=h2;rw[if_pos (by simp[mL,lS])];rfl
attribute [local irreducible] ck bf akW pe rT ars eg pw
end Go.Proofs.Ytccnimhgjjnmoaa
end
section
namespace Go.Proofs.Ytccnimhgjjnmoaa
open Go Go.Sy Go.dg
variable {Γ:bn}
def aJL (D:List Bk->Int->Int->Int->Int->Int->Int->Int->List aa) (F:List Bk->Int->Int->Int->Int->Int->Int->Int->Tm):au:=.fn fun args rg=>match args with
 |[.a x0,.agg [.v (.int .i64 n0),.v (.int .i64 n1),.v (.int .i64 n2)],.agg [.v (.int .i64 n3),.v (.int .i64 n4),.v (.int .i64 n5)],.a (.v (.int .u8 n6))]=>(match ac1 67 kK rg x0 with|some (q0,L0)=>some (q0++(D L0 n0 n1 n2 n3 n4 n5 n6),F L0 n0 n1 n2 n3 n4 n5 n6)|_=>none)
 |_=>none
theorem aJI {f:FuncId} {b:Body} {E:Env} {d:Nat} (hP:aL Try.prog Γ E) (hb:bQ Try.prog f b) {D:List Bk->Int->Int->Int->Int->Int->Int->Int->List aa} {F:List Bk->Int->Int->Int->Int->Int->Int->Int->Tm} (hp:∀ (L0:List Bk) (n0:Int) (n1:Int) (n2:Int) (n3:Int) (n4:Int) (n5:Int) (n6:Int),(F L0 n0 n1 n2 n3 n4 n5 n6).plain=true)
 (H:∀ (L0:List Bk) (n0:Int) (n1:Int) (n2:Int) (n3:Int) (n4:Int) (n5:Int) (n6:Int),bW (D L0 n0 n1 n2 n3 n4 n5 n6)->cQ E d b [.a (.sl 0 [] 0 L0.length),.agg [vI n0,vI n1,vI n2],.agg [vI n3,vI n4,vI n5],.a (.v (.int .u8 n6))] [.arr 67 kK L0 false false] (fun x _=>iL x (F L0 n0 n1 n2 n3 n4 n5 n6))):au.Ok Try.prog Γ f (aJL D F):=au.aBp (d:=d) hP hb (by
 intro args rg q t hF hq;split at hF;next x0 n0 n1 n2 n3 n4 n5 n6=>
  split at hF;next q0 L0 hx0=>
   obtain⟨rfl,rfl⟩:=Prod.mk.inj (Option.some.inj hF);clear hF;rw[aH]at hq;obtain⟨aIh,hD⟩:=hq;obtain⟨e0,Vn⟩:=bP (by simp[kK]) hx0 aIh
   obtain⟨p0,r0⟩:=Vn [e0] 0 1 rfl (by omega)
   refine⟨hp _ _ _ _ _ _ _ _,[e0],[.a (.sl 0 [] 0 L0.length),.agg [vI n0,vI n1,vI n2],.agg [vI n3,vI n4,vI n5],.a (.v (.int .u8 n6))],[.arr 67 kK L0 false false],⟨⟨p0,⟨rfl,rfl,rfl,trivial⟩,⟨rfl,rfl,rfl,trivial⟩,rfl,trivial⟩,fun r g hg=>?_⟩,H _ _ _ _ _ _ _ _ hD⟩
   match r,hg with
   |0,hg=>obtain rfl:=Option.some.inj hg;exact r0
  next=>cases hF
 next=>cases hF)
noncomputable def aKh:List (Nat×au):=[(20,Df),(21,aIb),(26,anH),(33,aoN),(22,ap3),(23,alU),(44,aCQ),(32,av3),(28,uA)]
theorem aJY:aR Try.prog Γ aKh:=(((((((((aR.nil.cons (aj Try.func28 rfl rfl).fn yG).cons (aj Try.func32 rfl rfl).fn ave).cons (aj Try.func44 rfl rfl).fn aCV).cons (aj Try.func23 rfl rfl).fn an2).cons (aj Try.func22 rfl rfl).fn aoY).cons (aj Try.func33 rfl rfl).fn apG).cons (aj Try.func26 rfl rfl).fn ao7).cons (aj Try.func21 rfl rfl).fn sW).cons (aj Try.func20 rfl rfl).fn EJ)
theorem aJ9 {k l t f l' t' f':Int} (hk:1<=k) (L:List Bk):rT (aIU k L) (k*l) (k*t) (k*f) (k*l') (k*t') (k*f')=rT L l t f l' t' f':=by
 unfold rT aD7;rw[aI2,aI4 hk,aI4 hk]
structure aKt (L:List Bk) (l t f l' t' f' k:Int):Prop where
 s1:(bf L l t f !=bf (aIU k L) (k*l) (k*t) (k*f))=false
 s2:(bf (aIU k L) (k*l) (k*t) (k*f)==0)=true
 s3:((gN (k*l) (k*t) (k*f) (aIU k L):Int)==0)=((gN l t f L:Int)==0)
 s4:((if bf L l t f=0 then(gN l t f L:Int)else 0)!=(if bf (aIU k L) (k*l) (k*t) (k*f)=0 then(gN (k*l) (k*t) (k*f) (aIU k L):Int)else 0))=false
 aKy:(!decide (eg L (aku l t f L)=eg (aIU k L) (aku (k*l) (k*t) (k*f) (aIU k L))))=false
 aKz:gf l t f L≠[]->(!decide (akS (aCd L l t f) L L.length=akS (aCd (aIU k L) (k*l) (k*t) (k*f)) (aIU k L) (aIU k L).length))=false
 aKA:(akW L l t f l' t' f'==0)=true
 aKB:(akW (aIU k L) (k*l) (k*t) (k*f) (k*l') (k*t') (k*f')==0)=true
 aKC:at5 (aIU k L) (k*l) (k*t) (k*f) (k*l') (k*t') (k*f')=at5 L l t f l' t' f'
 t1:at5 L l t f l' t' f'=true->decide (pw L (amK L l t f l' t' f').1=pw (aIU k L) (amK (aIU k L) (k*l) (k*t) (k*f) (k*l') (k*t') (k*f')).1)=true
 t2:at5 L l t f l' t' f'=true->decide (pw L (amK L l t f l' t' f').2=pw (aIU k L) (amK (aIU k L) (k*l) (k*t) (k*f) (k*l') (k*t') (k*f')).2)=true
 n1:(eg L (aku l t f L)).length<=1000000
 n2:(eg (aIU k L) (aku (k*l) (k*t) (k*f) (aIU k L))).length<=1000000
 n3:(akS (aCd L l t f) L L.length).length<=1000000
 n4:(akS (aCd (aIU k L) (k*l) (k*t) (k*f)) (aIU k L) (aIU k L).length).length<=1000000
 n5:at5 L l t f l' t' f'=true->(pw L (amK L l t f l' t' f').1).length<=1000000
 n6:at5 L l t f l' t' f'=true->(pw L (amK L l t f l' t' f').2).length<=1000000
 n7:at5 L l t f l' t' f'=true->(pw (aIU k L) (amK (aIU k L) (k*l) (k*t) (k*f) (k*l') (k*t') (k*f')).1).length<=1000000
 aKv:at5 L l t f l' t' f'=true->(pw (aIU k L) (amK (aIU k L) (k*l) (k*t) (k*f) (k*l') (k*t') (k*f')).2).length<=1000000
theorem aIY {k a m:Int} (hk:1<=k/\k<=100) (ha:0<=a) (h:a<=m):a<=k*a/\k*a<=100*m:=by
 have h1:1*a<=k*a:=Int.mul_le_mul_of_nonneg_right hk.1 ha;have h2:k*a<=100*a:=Int.mul_le_mul_of_nonneg_right hk.2 ha;omega
theorem aKb {L:List Bk} {l t f l' t' f' k:Int} (h12:L.length<=12) (hk:1<=k/\k<=100) (ha:bf L l t f=0) (fS:pe l' t' f'=true) (hl:∀ b∈L,b.2<=1073741824)
 (b1:l<=1099511627776) (b2:t<=1099511627776) (b3:f<=10000) (b4:l'<=1099511627776) (b5:t'<=1099511627776) (b6:f'<=10000):aKt L l t f l' t' f' k:=by
 obtain⟨hB,hw⟩:=gg ha;obtain⟨agM,ht1,Ni⟩:=wE hw;obtain⟨jJ,UW,jH⟩:=wE fS;have aKu:=aJO hk.1 hk.2 hB hl;have w1:pe (k*l) (k*t) (k*f)=true:=by
  have:=aIY hk (show 0<=l by omega) b1
  have:=aIY hk ht1.1 b2;have:=aIY hk Ni.1 b3;unfold pe;rw[Bool.and_eq_true,Bool.and_eq_true,akk,akk,akk];omega
 have w2:pe (k*l') (k*t') (k*f')=true:=by
  have:=aIY hk (show 0<=l' by omega) b4
  have:=aIY hk UW.1 b5;have:=aIY hk jH.1 b6;unfold pe;rw[Bool.and_eq_true,Bool.and_eq_true,akk,akk,akk];omega
 have aJN:bf (aIU k L) (k*l) (k*t) (k*f)=0:=by unfold bf;rw[atO aKu,if_pos rfl,if_pos w1]
 have hg:gf (k*l) (k*t) (k*f) (aIU k L)=gf l t f L:=aI4 hk.1 L;have q1:akW L l t f l' t' f'=0:=by rw[aEg ha,if_pos fS]
 have q2:akW (aIU k L) (k*l) (k*t) (k*f) (k*l') (k*t') (k*f')=0:=by rw[aEg aJN,if_pos w2]
 have dZ:=aI2 k L;have hr:=aJ9 (l:=l) (t:=t) (f:=f) (l':=l') (t':=t') (f':=f') hk.1 L;have h9:at5 (aIU k L) (k*l) (k*t) (k*f) (k*l') (k*t') (k*f')=at5 L l t f l' t' f':=by rw[aEO,aEO,hr]
 have anY:∀ u,(eg L u).length<=1000000:=fun u=>by rw[ew];have:=ajs L.length u;omega
 have e1:eg (aIU k L) (aku (k*l) (k*t) (k*f) (aIU k L))=eg L (aku l t f L):=by rw[aI6,aJS hk.1]
 have hp:at5 L l t f l' t' f'=true->(pw L (amK L l t f l' t' f').1=eg L (Int.toNat (tA (rT L l t f l' t' f')))/\pw L (amK L l t f l' t' f').2=eg L (Int.toNat (tB (rT L l t f l' t' f'))))/\(pw (aIU k L) (amK (aIU k L) (k*l) (k*t) (k*f) (k*l') (k*t') (k*f')).1=eg L (Int.toNat (tA (rT L l t f l' t' f')))/\pw (aIU k L) (amK (aIU k L) (k*l) (k*t) (k*f) (k*l') (k*t') (k*f')).2=eg L (Int.toNat (tB (rT L l t f l' t' f')))):=fun h=>by
  have h1:=aFW (show(rT L l t f l' t' f').isSome=true by rw[<-aEO];exact h)
  have h2:=aFW (show(rT (aIU k L) (k*l) (k*t) (k*f) (k*l') (k*t') (k*f')).isSome=true by rw[<-aEO,h9];exact h)
  rw[hr,aI6,aI6]at h2;exact⟨h1,h2⟩
 refine⟨by rw[ha,aJN];rfl,by rw[aJN];rfl,?_,?_,by rw[e1,decide_eq_true rfl];rfl,fun h=>?_,by rw[q1];rfl,by rw[q2];rfl,h9,fun h=>?_,fun h=>?_,anY _,by rw[e1];exact anY _,aDd h12 _,by refine Nat.le_trans (awX _ _ _) ?_;rw[dZ];omega,fun h=>?_,fun h=>?_,fun h=>?_,fun h=>?_⟩
 ·show(((gf (k*l) (k*t) (k*f) (aIU k L)).length:Int)==0)=(((gf l t f L).length:Int)==0);rw[hg]
 ·rw[if_pos ha,if_pos aJN];show(((gf l t f L).length:Int)!=((gf (k*l) (k*t) (k*f) (aIU k L)).length:Int))=false;rw[hg];exact bne_self_eq_false _
 ·have:=aJJ hk.1 (L:=L) (l:=l) (t:=t) (f:=f) (by omega) h
  have e:akS (aCd L l t f) L L.length=akS (aCd (aIU k L) (k*l) (k*t) (k*f)) (aIU k L) (aIU k L).length:=this.symm;rw[decide_eq_true e];rfl
 ·rw[(hp h).1.1,(hp h).2.1];exact decide_eq_true rfl
 ·rw[(hp h).1.2,(hp h).2.2];exact decide_eq_true rfl
 ·rw[(hp h).1.1];exact anY _
 ·rw[(hp h).1.2];exact anY _
 ·rw[(hp h).2.1];exact anY _
 ·rw[(hp h).2.2];exact anY _
attribute [local irreducible] alg bf ck gf aku eg pe akW ars pw aCd akS aIU
def aKp (id:Nat):Option OT:=match Nat.beq id 10 with|true=>some (.take 0 (.take 1 (.take 2 (.take 3 (.take 4 (.take 6 (.take 7 (.take 8 (.take 9 (.take 10 (.alt 5 (.alt 11 (.alt 12 (.take 13 (.alt 14 (.alt 15 (.take 16 .fin) .fin) .fin)) .fin) .fin) (.alt 11 (.alt 5 (.alt 12 (.take 13 (.alt 14 (.alt 15 (.take 16 .fin) .fin) .fin)) .fin) (.alt 12 (.alt 5 (.take 13 (.alt 14 (.alt 15 (.take 16 .fin) .fin) .fin)) .fin) .fin)) .fin))))))))))))|false=>none
noncomputable def aKm:Env:={jV.env aKh [] false 0 with tree:=aKp}
theorem aJQ:aL Try.prog Γ aKm:=(aP aJY bq.nil false 0).vU _
def aJs:au:=aJL (fun _ _ _ _ _ _ _ u=>[(aa.of (0<=u/\u<=255))]) (fun _ _ _ _ _ _ _ _=>bl true)
theorem aJb:au.Ok Try.prog Γ 11 aJs:=aJI (d:=0) aJQ (aj Try.func11 rfl rfl) (fun _ _ _ _ _ _ _ _=>rfl) (by
 intro L l t f l' t' f' u ⟨hu,_⟩;simp only[aa.ae]at hu;obtain⟨u,rfl⟩:∃ w:Nat,u=(w:Int):=⟨u.toNat,by omega⟩
 have hk:1<=(1+Int.tmod (u:Int) 100)/\(1+Int.tmod (u:Int) 100)<=100:=by
  have:=Int.tmod_lt_of_pos (u:Int) (show(0:Int)<100 by omega)
  have:=Int.tmod_nonneg 100 hu.1;omega
 have z1:((0:Int)!=0)=false:=rfl;have z2:((5:Int)!=5)=false:=rfl;have z3:((0:Int)==0)=true:=rfl;have z4:((5:Int)==5)=true:=rfl;have z5:(!decide (([]:List Int)=[]))=false:=rfl;have z6:decide (([]:List Int)=[])=true:=rfl;cases hs:alg L
 ·have w0:(!alg L)=true:=by rw[hs];rfl
  repeat'((conv=>whnf);first|apply And.intro|exact bA (by subst_vars;assumption)|intro h9)
  all_goals(try(conv=>whnf))<;>(subst_vars;try first|(apply Tk.mk;kernel_rfl)|exact⟨ah rfl⟩|exact⟨rfl⟩|exact⟨trivial⟩|rfl|contradiction|(apply Ob.mk;(try simp only[ag,ak,aa.ae])<;>(try dsimp only)<;>omega))
 have hL:=ayO hs;have w0:(!alg L)=false:=by rw[hs];rfl
 cases h0:bf L l t f==0
 ·have a1:(bf L l t f !=0)=true:=by unfold bne;rw[h0];rfl
  repeat'((conv=>whnf);first|apply And.intro|exact bA (by subst_vars;assumption)|intro h9)
  all_goals(try(conv=>whnf))<;>(subst_vars;try first|(apply Tk.mk;kernel_rfl)|exact⟨ah rfl⟩|exact⟨rfl⟩|exact⟨trivial⟩|rfl|contradiction|(apply Ob.mk;(try simp only[ag,ak,aa.ae])<;>(try dsimp only)<;>omega))
  all_goals try first|exact⟨hL⟩
 have a1:(bf L l t f !=0)=false:=by unfold bne;rw[h0];rfl
 cases fS:pe l' t' f'
 ·have w1:(!pe l' t' f')=true:=by rw[fS];rfl
  repeat'((conv=>whnf);first|apply And.intro|exact bA (by subst_vars;assumption)|intro h9)
  all_goals(try(conv=>whnf))<;>(subst_vars;try first|(apply Tk.mk;kernel_rfl)|exact⟨ah rfl⟩|exact⟨rfl⟩|exact⟨trivial⟩|rfl|contradiction|(apply Ob.mk;(try simp only[ag,ak,aa.ae])<;>(try dsimp only)<;>omega))
  all_goals try first|exact⟨hL⟩
 have w1:(!pe l' t' f')=false:=by rw[fS];rfl
 have ha:=eq_of_beq h0;have hB:=(gg ha).1;have h12:=ayN hs hB;have e0:aIU (1+Int.tmod (u:Int) 100) (L.take 0)=[]:=by rw[List.take_zero];unfold aIU;rfl
 have aJ0:(aIU (1+Int.tmod (u:Int) 100) (L.take 0)).length=0:=by rw[e0];rfl
 have ayg:ak .i64 (1+Int.tmod (u:Int) 100):=by simp only[ak];omega
 repeat'((conv=>whnf);first|apply And.intro|exact bA (by subst_vars;assumption)|intro h9)
 all_goals(try(conv=>whnf))<;>(subst_vars;try first|(apply Tk.mk;kernel_rfl)|exact⟨ah rfl⟩|exact⟨rfl⟩|exact⟨trivial⟩|rfl|contradiction|(apply Ob.mk;(try simp only[ag,ak,aa.ae])<;>(try dsimp only)<;>omega))
 all_goals try first|exact⟨hL⟩
 refine⟨Nat,fun i=>i<=L.length/\∀ b∈L.take i,b.2<=1073741824,fun i=>⟨aI 237 [0,5,6,9,10,11] [.a (.sl 0 [] 0 L.length),.a (.p 1 [] 0 0),.a (.p 2 [] 0 0),.a (vI (1+Int.tmod (u:Int) 100)),.a (.sl 3 [] 0 (aIU (1+Int.tmod (u:Int) 100) (L.take i)).length),.a (vI i)],[],[.arr 67 kK L false false,.box true [vI l,vI t,vI f],.box true [vI l',vI t',vI f'],.arr 67 kK (aIU (1+Int.tmod (u:Int) 100) (L.take i)) true true]⟩,fun i=>L.length-i,0,[0,1,2,1000],⟨Nat.zero_le _,fun b hb=>by rw[List.take_zero]at hb;cases hb⟩,?_,?_⟩
 ·repeat'((conv=>whnf)<;>first|apply And.intro|intro _|rfl|trivial|exact ah rfl|exact aS ‹_› rfl|exact aT ‹_› rfl|((repeat' first|rfl|constructor);done)|exact e0|exact aJ0)
 rintro i ⟨hi,ZL⟩;have dZ:(aIU (1+Int.tmod (u:Int) 100) (L.take i)).length=i:=by rw[aI2,List.length_take];omega
 by_cases hi1:i<L.length
 ·have p0:decide ((i:Int)<(L.length:Int))=true:=decide_eq_true (by omega)
  have apX:=tb L i;by_cases c1:(gr L i).2>1073741824
  ·have d1:decide ((gr L i).2>1073741824)=true:=decide_eq_true c1;repeat'((conv=>whnf);first|apply And.intro|exact bA (by subst_vars;assumption)|intro h9)
   all_goals(try(conv=>whnf))<;>(subst_vars;try first|(apply Tk.mk;kernel_rfl)|exact⟨ah rfl⟩|exact⟨rfl⟩|exact⟨trivial⟩|rfl|contradiction|(apply Ob.mk;(try simp only[ag,ak,aa.ae])<;>(try dsimp only)<;>omega))
   all_goals try first|exact⟨show 0+Int.toNat (i:Int)<L.length by omega⟩
  have d1:decide ((gr L i).2>1073741824)=false:=decide_eq_false c1;have hmem:bk L i∈L:=by rw[akX hi1];exact List.getElem_mem hi1
  have DG:=hB.len hmem;rw[<-apX]at DG;have Kp:=aIY hk (show 0<=(gr L i).2 by omega) (show(gr L i).2<=1073741824 by omega)
  have r1:ak .i64 ((1+Int.tmod (u:Int) 100)*(gr L i).2):=by simp only[ak];omega
  have hst:=aJK (k:=(1+Int.tmod (u:Int) 100)) hi1;rw[<-apX]at hst;have amC:=congrArg List.length hst;rw[List.length_append,List.length_singleton]at amC;have ab5:∀ b∈L.take (i+1),b.2<=1073741824:=fun b hb=>by
   rw[List.take_add_one,List.getElem?_eq_getElem hi1,List.mem_append]at hb;rcases hb with hb|hb
   ·exact ZL b hb
   ·have:b=L[i]:=by simpa using hb
    rw[this,<-akX hi1,<-apX];omega
  clear apX;repeat'((conv=>whnf);first|apply And.intro|exact bA (by subst_vars;assumption)|intro h9)
  all_goals(try(conv=>whnf))<;>(subst_vars;try first|(apply Tk.mk;kernel_rfl)|exact⟨ah rfl⟩|exact⟨rfl⟩|exact⟨trivial⟩|rfl|contradiction|(apply Ob.mk;(try simp only[ag,ak,aa.ae])<;>(try dsimp only)<;>omega))
  all_goals try first|trivial|exact⟨r1⟩|exact⟨show 0+Int.toNat (i:Int)<L.length by omega⟩|exact⟨Nat.zero_add _⟩|exact⟨show((aIU (1+Int.tmod (u:Int) 100) (L.take i)).length+1)*2<=1099511627776 by omega⟩
  all_goals
   refine⟨i+1,[0,1,2,3],⟨hi1,ab5⟩,?_,by show L.length-(i+1)<L.length-i;omega⟩
   repeat'((conv=>whnf)<;>first|apply And.intro|intro _|rfl|trivial|exact ah rfl|exact aS ‹_› rfl|exact aT ‹_› rfl|((repeat' first|rfl|constructor);done)|exact amC.symm|exact⟨rfl,rfl,hst.symm⟩)
 have p0:decide ((i:Int)<(L.length:Int))=false:=decide_eq_false (by omega)
 have pU:L.take i=L:=List.take_of_length_le (by omega)
 rw[pU]at ZL;have hM:aIU (1+Int.tmod (u:Int) 100) L=aIU (1+Int.tmod (u:Int) 100) (L.take i):=by rw[pU]
 clear dZ pU;by_cases c1:l>1099511627776
 ·have d1:decide (l>1099511627776)=true:=decide_eq_true c1;repeat'((conv=>whnf);first|apply And.intro|exact bA (by subst_vars;assumption)|intro h9)
  all_goals(try(conv=>whnf))<;>(subst_vars;try first|(apply Tk.mk;kernel_rfl)|exact⟨ah rfl⟩|exact⟨rfl⟩|exact⟨trivial⟩|rfl|contradiction|(apply Ob.mk;(try simp only[ag,ak,aa.ae])<;>(try dsimp only)<;>omega))
 have d1:decide (l>1099511627776)=false:=decide_eq_false c1;by_cases c2:t>1099511627776
 ·have d2:decide (t>1099511627776)=true:=decide_eq_true c2;repeat'((conv=>whnf);first|apply And.intro|exact bA (by subst_vars;assumption)|intro h9)
  all_goals(try(conv=>whnf))<;>(subst_vars;try first|(apply Tk.mk;kernel_rfl)|exact⟨ah rfl⟩|exact⟨rfl⟩|exact⟨trivial⟩|rfl|contradiction|(apply Ob.mk;(try simp only[ag,ak,aa.ae])<;>(try dsimp only)<;>omega))
 have d2:decide (t>1099511627776)=false:=decide_eq_false c2;by_cases c3:f>10000
 ·have d3:decide (f>10000)=true:=decide_eq_true c3;repeat'((conv=>whnf);first|apply And.intro|exact bA (by subst_vars;assumption)|intro h9)
  all_goals(try(conv=>whnf))<;>(subst_vars;try first|(apply Tk.mk;kernel_rfl)|exact⟨ah rfl⟩|exact⟨rfl⟩|exact⟨trivial⟩|rfl|contradiction|(apply Ob.mk;(try simp only[ag,ak,aa.ae])<;>(try dsimp only)<;>omega))
 have d3:decide (f>10000)=false:=decide_eq_false c3;by_cases c4:l'>1099511627776
 ·have d4:decide (l'>1099511627776)=true:=decide_eq_true c4;repeat'((conv=>whnf);first|apply And.intro|exact bA (by subst_vars;assumption)|intro h9)
  all_goals(try(conv=>whnf))<;>(subst_vars;try first|(apply Tk.mk;kernel_rfl)|exact⟨ah rfl⟩|exact⟨rfl⟩|exact⟨trivial⟩|rfl|contradiction|(apply Ob.mk;(try simp only[ag,ak,aa.ae])<;>(try dsimp only)<;>omega))
 have d4:decide (l'>1099511627776)=false:=decide_eq_false c4;by_cases c5:t'>1099511627776
 ·have d5:decide (t'>1099511627776)=true:=decide_eq_true c5;repeat'((conv=>whnf);first|apply And.intro|exact bA (by subst_vars;assumption)|intro h9)
  all_goals(try(conv=>whnf))<;>(subst_vars;try first|(apply Tk.mk;kernel_rfl)|exact⟨ah rfl⟩|exact⟨rfl⟩|exact⟨trivial⟩|rfl|contradiction|(apply Ob.mk;(try simp only[ag,ak,aa.ae])<;>(try dsimp only)<;>omega))
 have d5:decide (t'>1099511627776)=false:=decide_eq_false c5;by_cases c6:f'>10000
 ·have d6:decide (f'>10000)=true:=decide_eq_true c6;repeat'((conv=>whnf);first|apply And.intro|exact bA (by subst_vars;assumption)|intro h9)
  all_goals(try(conv=>whnf))<;>(subst_vars;try first|(apply Tk.mk;kernel_rfl)|exact⟨ah rfl⟩|exact⟨rfl⟩|exact⟨trivial⟩|rfl|contradiction|(apply Ob.mk;(try simp only[ag,ak,aa.ae])<;>(try dsimp only)<;>omega))
 have d6:decide (f'>10000)=false:=decide_eq_false c6;obtain⟨agM,ht1,Ni⟩:=wE (gg ha).2;obtain⟨jJ,UW,jH⟩:=wE fS;have r1:ak .i64 ((1+Int.tmod (u:Int) 100)*l):=by have:=aIY hk (show 0<=l by omega) (show l<=1099511627776 by omega);simp only[ak];omega
 have r2:ak .i64 ((1+Int.tmod (u:Int) 100)*t):=by have:=aIY hk ht1.1 (show t<=1099511627776 by omega);simp only[ak];omega
 have r3:ak .i64 ((1+Int.tmod (u:Int) 100)*f):=by have:=aIY hk Ni.1 (show f<=10000 by omega);simp only[ak];omega
 have r4:ak .i64 ((1+Int.tmod (u:Int) 100)*l'):=by have:=aIY hk (show 0<=l' by omega) (show l'<=1099511627776 by omega);simp only[ak];omega
 have aKw:ak .i64 ((1+Int.tmod (u:Int) 100)*t'):=by have:=aIY hk UW.1 (show t'<=1099511627776 by omega);simp only[ak];omega
 have aKx:ak .i64 ((1+Int.tmod (u:Int) 100)*f'):=by have:=aIY hk jH.1 (show f'<=10000 by omega);simp only[ak];omega
 obtain⟨s1,s2,s3,s4,aKy,aKz,aKA,aKB,aKC,t1,t2,n1,n2,n3,n4,n5,n6,n7,aKv⟩:=aKb h12 hk ha fS ZL (show l<=1099511627776 by omega) (show t<=1099511627776 by omega) (show f<=10000 by omega) (show l'<=1099511627776 by omega) (show t'<=1099511627776 by omega) (show f'<=10000 by omega)
 have hls:(aIU (1+Int.tmod (u:Int) 100) L).length<=1000000:=by rw[aI2];exact hL
 have Rn:∀ b:Bool,decide ((L.length:Int)>7)=false->decide ((L.length:Int)>10)=false/\decide (((aIU (1+Int.tmod (u:Int) 100) L).length:Int)>10)=false:=fun _ h=>by
  have:=of_decide_eq_false h;rw[aI2];exact⟨decide_eq_false (by omega),decide_eq_false (by omega)⟩
 clear ha;rw[hM]at s1 s2 s3 s4 aKy aKz aKB aKC t1 t2 n2 n4 n7 aKv hls Rn;clear hM;cases hg:((gN l t f L:Int)==0)
 ·have g1:=s3.trans hg;have g2:=aKz (amP hg);clear s3 aKz;cases d7:decide ((L.length:Int)>7)
  ·obtain⟨d8,d9⟩:=Rn true d7;clear Rn;cases hr:at5 L l t f l' t' f'
   ·have g3:=aKC.trans hr;clear aKC;repeat'((conv=>whnf);first|apply And.intro|exact bA (by subst_vars;assumption)|intro h9)
    all_goals(try(conv=>whnf))<;>(subst_vars;try first|(apply Tk.mk;kernel_rfl)|exact⟨ah rfl⟩|exact⟨rfl⟩|exact⟨trivial⟩|rfl|contradiction|(apply Ob.mk;(try simp only[ag,ak,aa.ae])<;>(try dsimp only)<;>omega))
    all_goals try first|exact⟨r1⟩|exact⟨r2⟩|exact⟨r3⟩|exact⟨r4⟩|exact⟨aKw⟩|exact⟨aKx⟩|exact⟨hL⟩|exact⟨hls⟩|exact⟨n1⟩|exact⟨n3⟩
   ·have g3:=aKC.trans hr;have g4:=t1 hr;have g5:=t2 hr;have m5:=n5 hr;have m6:=n6 hr;have m7:=n7 hr;have m8:=aKv hr;clear aKC t1 t2 n5 n6 n7 aKv;repeat'((conv=>whnf);first|apply And.intro|exact bA (by subst_vars;assumption)|intro h9)
    all_goals(try(conv=>whnf))<;>(subst_vars;try first|(apply Tk.mk;kernel_rfl)|exact⟨ah rfl⟩|exact⟨rfl⟩|exact⟨trivial⟩|rfl|contradiction|(apply Ob.mk;(try simp only[ag,ak,aa.ae])<;>(try dsimp only)<;>omega))
    all_goals try first|trivial|exact⟨r1⟩|exact⟨r2⟩|exact⟨r3⟩|exact⟨r4⟩|exact⟨aKw⟩|exact⟨aKx⟩|exact⟨hL⟩|exact⟨hls⟩|exact⟨n1⟩|exact⟨n3⟩|exact⟨m5⟩|exact⟨m6⟩
  ·clear Rn;repeat'((conv=>whnf);first|apply And.intro|exact bA (by subst_vars;assumption)|intro h9)
   all_goals(try(conv=>whnf))<;>(subst_vars;try first|(apply Tk.mk;kernel_rfl)|exact⟨ah rfl⟩|exact⟨rfl⟩|exact⟨trivial⟩|rfl|contradiction|(apply Ob.mk;(try simp only[ag,ak,aa.ae])<;>(try dsimp only)<;>omega))
   all_goals try first|exact⟨r1⟩|exact⟨r2⟩|exact⟨r3⟩|exact⟨r4⟩|exact⟨aKw⟩|exact⟨aKx⟩|exact⟨hL⟩|exact⟨hls⟩|exact⟨n1⟩|exact⟨n3⟩
 ·have g1:=s3.trans hg;clear s3 aKz;cases d7:decide ((L.length:Int)>7)
  ·obtain⟨d8,d9⟩:=Rn true d7;clear Rn;cases hr:at5 L l t f l' t' f'
   ·have g3:=aKC.trans hr;clear aKC;repeat'((conv=>whnf);first|apply And.intro|exact bA (by subst_vars;assumption)|intro h9)
    all_goals(try(conv=>whnf))<;>(subst_vars;try first|(apply Tk.mk;kernel_rfl)|exact⟨ah rfl⟩|exact⟨rfl⟩|exact⟨trivial⟩|rfl|contradiction|(apply Ob.mk;(try simp only[ag,ak,aa.ae])<;>(try dsimp only)<;>omega))
    all_goals try first|exact⟨r1⟩|exact⟨r2⟩|exact⟨r3⟩|exact⟨r4⟩|exact⟨aKw⟩|exact⟨aKx⟩|exact⟨hL⟩|exact⟨hls⟩
   ·have g3:=aKC.trans hr;have g4:=t1 hr;have g5:=t2 hr;have m5:=n5 hr;have m6:=n6 hr;have m7:=n7 hr;have m8:=aKv hr;clear aKC t1 t2 n5 n6 n7 aKv;repeat'((conv=>whnf);first|apply And.intro|exact bA (by subst_vars;assumption)|intro h9)
    all_goals(try(conv=>whnf))<;>(subst_vars;try first|(apply Tk.mk;kernel_rfl)|exact⟨ah rfl⟩|exact⟨rfl⟩|exact⟨trivial⟩|rfl|contradiction|(apply Ob.mk;(try simp only[ag,ak,aa.ae])<;>(try dsimp only)<;>omega))
    all_goals try first|trivial|exact⟨r1⟩|exact⟨r2⟩|exact⟨r3⟩|exact⟨r4⟩|exact⟨aKw⟩|exact⟨aKx⟩|exact⟨hL⟩|exact⟨hls⟩|exact⟨m5⟩|exact⟨m6⟩
  ·clear Rn;repeat'((conv=>whnf);first|apply And.intro|exact bA (by subst_vars;assumption)|intro h9)
   all_goals(try(conv=>whnf))<;>(subst_vars;try first|(apply Tk.mk;kernel_rfl)|exact⟨ah rfl⟩|exact⟨rfl⟩|exact⟨trivial⟩|rfl|contradiction|(apply Ob.mk;(try simp only[ag,ak,aa.ae])<;>(try dsimp only)<;>omega))
   all_goals try first|exact⟨r1⟩|exact⟨r2⟩|exact⟨r3⟩|exact⟨r4⟩|exact⟨aKw⟩|exact⟨aKx⟩|exact⟨hL⟩|exact⟨hls⟩)
end Go.Proofs.Ytccnimhgjjnmoaa
end
