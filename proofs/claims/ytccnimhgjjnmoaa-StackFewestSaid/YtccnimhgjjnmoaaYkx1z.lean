/-
  Texts of the claims: Ykx1z. No condition: lemmas and contracts.
-/
import Derived.Test.YtccnimhgjjnmoaaSya1z
import Derived.Test.YtccnimhgjjnmoaaSya2z
import Derived.Test.YtccnimhgjjnmoaaSya3z
import Derived.Test.YtccnimhgjjnmoaaSya4z
import Derived.Test.YtccnimhgjjnmoaaSya5z
import Derived.Test.YtccnimhgjjnmoaaPla6z
import Derived.Test.YtccnimhgjjnmoaaYka7z
import Derived.Test.YtccnimhgjjnmoaaYka8z
import Derived.Test.YtccnimhgjjnmoaaYka9z
import Derived.Test.YtccnimhgjjnmoaaYka10z
import Derived.Test.YtccnimhgjjnmoaaYka11z
import Derived.Test.YtccnimhgjjnmoaaYka12z
import Derived.Test.YtccnimhgjjnmoaaYka13z
import Derived.Test.YtccnimhgjjnmoaaYka14z
import Derived.Test.YtccnimhgjjnmoaaYka15z
import Derived.Test.YtccnimhgjjnmoaaYka16z
import Derived.Test.YtccnimhgjjnmoaaYka17z
import Derived.Test.YtccnimhgjjnmoaaYka18z
import Derived.Test.YtccnimhgjjnmoaaPlb1z
import Derived.Test.YtccnimhgjjnmoaaPlc1z
import Derived.Test.YtccnimhgjjnmoaaYkc2z
import Derived.Test.YtccnimhgjjnmoaaPld1z
import Derived.Test.YtccnimhgjjnmoaaYke1z
import Derived.Test.YtccnimhgjjnmoaaPlf1z
import Derived.Test.YtccnimhgjjnmoaaPlg1z
import Derived.Test.YtccnimhgjjnmoaaYkg2z
import Derived.Test.YtccnimhgjjnmoaaPlh1z
import Derived.Test.YtccnimhgjjnmoaaYkh2z
import Derived.Test.YtccnimhgjjnmoaaYki1z
import Derived.Test.YtccnimhgjjnmoaaPlj1z
import Derived.Test.YtccnimhgjjnmoaaYkk1z
import Derived.Test.YtccnimhgjjnmoaaYkl1z
import Derived.Test.YtccnimhgjjnmoaaPln1z
import Derived.Test.YtccnimhgjjnmoaaYko1z
import Derived.Test.YtccnimhgjjnmoaaRows
import Derived.ProofKit
import Derived.Deep.DeepHandedRow
import Derived.Deep.Slices
import Derived.Lib.LaidTab
import Derived.Lib.SmallJoins
import Derived.Stop.LaidErr
import Derived.Carry
set_option linter.all false
set_option maxRecDepth 100000
set_option maxHeartbeats 40000000
section
namespace Go.Proofs.Ytccnimhgjjnmoaa
open Go Go.Sy Go.ChangeShapes Go.WideShapes Go.RowKit
/-! ### Arguments opened -/
section
variable {H:Type} {enc:TypeId×Value->H} {w:World} {base:Nat} {spare:Nat->Bool} {held:Bool}
theorem aFI:Try.prog.cellTypes Try.prog.depth 57=some [27,27,27]:=by kernel_rfl
theorem aFY {r:Reach} {b0:Nat} {v:Value} {d:DataW H} {p:List MemPlace} (hv:Value.okWide Try.prog w r b0 57 v) (h:DataW.Trod enc Try.prog w base spare held 57 v d p):
 ∃ (c0 c1 c2:Value) (I0 I1 I2:RI) (x0 x1 x2:List Int),v= .agg #[c0,c1,c2]/\(I0.head 0 x0.length c0/\Er w 3 kI x0 I0)/\(I1.head 0 x1.length c1/\Er w 3 kI x1 I1)/\(I2.head 0 x2.length c2/\Er w 3 kI x2 I2):=by
 have j6:=hv;simp only[Value.okWide,Try.underlying57]at j6;obtain⟨cs,rfl,hsz,ts,hts,-,hrow⟩:=j6;obtain rfl:ts=[27,27,27]:=Option.some.inj (hts.symm.trans aFI);obtain⟨l⟩:=cs;have hl:l.length=3:=hsz.trans (by kernel_rfl)
 match l,hl with
 |[c0,c1,c2],_=>
  obtain⟨fuel,hf⟩:=h;obtain⟨xs,n,_,_,_,hlen,hf⟩:=DataW.trod_struct Try.underlying57 hf
  match xs,hlen with
  |[y0,y1,y2],_=>
   have e':Try.prog.cellsOf 27=1:=by kernel_rfl
   obtain⟨u0,afe,hc0⟩:=hrow 0 c0 rfl;obtain rfl:(27:TypeId)=u0:=Option.some.inj afe;obtain⟨u1,NB,Rl⟩:=hrow 1 c1 rfl;obtain rfl:(27:TypeId)=u1:=Option.some.inj NB;obtain⟨u2,aHU,xS⟩:=hrow 2 c2 rfl;obtain rfl:(27:TypeId)=u2:=Option.some.inj aHU;obtain⟨I0,x0,h1,h2⟩:=KF (t:=27) (te:=3) (tg:=kI) (by simp[kI]) Try.underlying27 (by kernel_rfl) NN (BS Try.underlying27 hc0) (v:=c0) (by simpa[e',Value.cells]using hf 0 _ rfl)
   obtain⟨I1,x1,h3,h4⟩:=KF (t:=27) (te:=3) (tg:=kI) (by simp[kI]) Try.underlying27 (by kernel_rfl) NN (BS Try.underlying27 Rl) (v:=c1) (by simpa[e',Value.cells]using hf 1 _ rfl)
   obtain⟨I2,x2,h5,h6⟩:=KF (t:=27) (te:=3) (tg:=kI) (by simp[kI]) Try.underlying27 (by kernel_rfl) NN (BS Try.underlying27 xS) (v:=c2) (by simpa[e',Value.cells]using hf 2 _ rfl)
   exact⟨c0,c1,c2,I0,I1,I2,x0,x1,x2,rfl,⟨h1,h2⟩,⟨h3,h4⟩,⟨h5,h6⟩⟩
end
/-! ### A statement's walk -/
theorem aGx {N:Nat} {ρ:Keys} {r0 r1 r2 n0 n1 n2:Nat} {c0 c1 c2:Value} (h0:r0<N) (k0:(ρ r0 []).head 0 n0 c0) (h1:r1<N) (k1:(ρ r1 []).head 0 n1 c1) (h2:r2<N) (k2:(ρ r2 []).head 0 n2 c2):Tm.ok N ρ (.agg [.sl r0 [] 0 n0,.sl r1 [] 0 n1,.sl r2 [] 0 n2]) (.agg #[c0,c1,c2]):=⟨[_,_,_],rfl,⟨h0,k0⟩,⟨h1,k1⟩,⟨h2,k2⟩,trivial⟩
end Go.Proofs.Ytccnimhgjjnmoaa
end
section
namespace Go.Proofs.Ytccnimhgjjnmoaa
open Go Go.Sy Go.dg
variable {Γ:bn}
def aGg (D:List Bk->Int->Int->Int->List Int->List Int->List Int->List Int->List aa) (F:List Bk->Int->Int->Int->List Int->List Int->List Int->List Int->Tm):au:=.fn fun args rg=>match args with
 |[.a x0,.agg [.v (.int .i64 n0),.v (.int .i64 n1),.v (.int .i64 n2)],.a x1,.agg [x2,x3,x4]]=>(match ac1 67 kK rg x0,ac1 3 kI rg x1,ac1 3 kI rg x2,ac1 3 kI rg x3,ac1 3 kI rg x4 with|some (q0,L0),some (q1,L1),some (q2,L2),some (q3,L3),some (q4,L4)=>some (q0++(q1++(q2++(q3++(q4++(D L0 n0 n1 n2 L1 L2 L3 L4))))),F L0 n0 n1 n2 L1 L2 L3 L4)|_,_,_,_,_=>none)
 |_=>none
theorem aF2 {f:FuncId} {b:Body} {E:Env} {d:Nat} (hP:aL Try.prog Γ E) (hb:bQ Try.prog f b) {D:List Bk->Int->Int->Int->List Int->List Int->List Int->List Int->List aa} {F:List Bk->Int->Int->Int->List Int->List Int->List Int->List Int->Tm} (hp:∀ (L0:List Bk) (n0:Int) (n1:Int) (n2:Int) (L1:List Int) (L2:List Int) (L3:List Int) (L4:List Int),(F L0 n0 n1 n2 L1 L2 L3 L4).plain=true)
 (H:∀ (L0:List Bk) (n0:Int) (n1:Int) (n2:Int) (L1:List Int) (L2:List Int) (L3:List Int) (L4:List Int),bW (D L0 n0 n1 n2 L1 L2 L3 L4)->cQ E d b [.a (.sl 0 [] 0 L0.length),.agg [vI n0,vI n1,vI n2],.a (.sl 1 [] 0 L1.length),.agg [.sl 2 [] 0 L2.length,.sl 3 [] 0 L3.length,.sl 4 [] 0 L4.length]] [.arr 67 kK L0 false false,.arr 3 kI L1 false false,.arr 3 kI L2 false false,.arr 3 kI L3 false false,.arr 3 kI L4 false false] (fun x _=>iL x (F L0 n0 n1 n2 L1 L2 L3 L4))):au.Ok Try.prog Γ f (aGg D F):=au.aBp (d:=d) hP hb (by
 intro args rg q t hF hq;split at hF;next x0 n0 n1 n2 x1 x2 x3 x4=>
  split at hF;next q0 L0 q1 L1 q2 L2 q3 L3 q4 L4 hx0 cO cq Sq Vi=>
   obtain⟨rfl,rfl⟩:=Prod.mk.inj (Option.some.inj hF);clear hF;rw[aH,aH,aH,aH,aH]at hq;obtain⟨aIh,gk,AM,RG,aHT,hD⟩:=hq;obtain⟨e0,Vn⟩:=bP (by simp[kK]) hx0 aIh
   obtain⟨e1,iO⟩:=bP (by simp[kI]) cO gk
   obtain⟨e2,AH⟩:=bP (by simp[kI]) cq AM
   obtain⟨e3,ayb⟩:=bP (by simp[kI]) Sq RG
   obtain⟨e4,aHR⟩:=bP (by simp[kI]) Vi aHT
   obtain⟨p0,r0⟩:=Vn [e0,e1,e2,e3,e4] 0 5 rfl (by omega)
   obtain⟨p1,r1⟩:=iO [e0,e1,e2,e3,e4] 1 5 rfl (by omega)
   obtain⟨p2,r2⟩:=AH [e0,e1,e2,e3,e4] 2 5 rfl (by omega)
   obtain⟨p3,r3⟩:=ayb [e0,e1,e2,e3,e4] 3 5 rfl (by omega)
   obtain⟨p4,r4⟩:=aHR [e0,e1,e2,e3,e4] 4 5 rfl (by omega)
   refine⟨hp _ _ _ _ _ _ _ _,[e0,e1,e2,e3,e4],[.a (.sl 0 [] 0 L0.length),.agg [vI n0,vI n1,vI n2],.a (.sl 1 [] 0 L1.length),.agg [.sl 2 [] 0 L2.length,.sl 3 [] 0 L3.length,.sl 4 [] 0 L4.length]],[.arr 67 kK L0 false false,.arr 3 kI L1 false false,.arr 3 kI L2 false false,.arr 3 kI L3 false false,.arr 3 kI L4 false false],⟨⟨p0,⟨rfl,rfl,rfl,trivial⟩,p1,⟨p2,p3,p4,trivial⟩,trivial⟩,fun r g hg=>?_⟩,H _ _ _ _ _ _ _ _ hD⟩
   match r,hg with
   |0,hg=>obtain rfl:=Option.some.inj hg;exact r0
   |1,hg=>obtain rfl:=Option.some.inj hg;exact r1
   |2,hg=>obtain rfl:=Option.some.inj hg;exact r2
   |3,hg=>obtain rfl:=Option.some.inj hg;exact r3
   |4,hg=>obtain rfl:=Option.some.inj hg;exact r4
  next=>cases hF
 next=>cases hF)
noncomputable def aHH:List (Nat×au):=[(20,Df),(21,aIb),(23,alU),(22,ap3),(39,asQ),(48,aEn),(40,amZ)]
theorem aGH:aR Try.prog Γ aHH:=(((((((aR.nil.cons (aj Try.func40 rfl rfl).fn aof).cons (aj Try.func48 rfl rfl).fn aEh).cons (aj Try.func39 rfl rfl).fn asR).cons (aj Try.func22 rfl rfl).fn aoY).cons (aj Try.func23 rfl rfl).fn an2).cons (aj Try.func21 rfl rfl).fn sW).cons (aj Try.func20 rfl rfl).fn EJ)
theorem aGP {L:List Bk} {l t f:Int} {F R:List Int} (ha:bf L l t f=0) (hg:((gN l t f L:Int)==0)=true) (hF:Lk (WA f L) F) (hR:Lk (WB f L) R):(am1 L l t f F R (akT (WA f L) (WB f L) R l t f F)==0)=true:=by
 unfold am1;rw[if_pos ha,if_pos (awA (amQ.1 hg) hF hR)];rfl
theorem aGo {L:List Bk} {l t f:Int} {F R S:List Int} (ha:bf L l t f=0) (hg:((gN l t f L:Int)==0)=false):(am1 L l t f F R S==0)=false:=beq_eq_false_iff_ne.2 fun h=>by
 unfold am1 at h;rw[if_pos ha]at h;by_cases hd:akK (WA f L) (WB f L) F R S (l-t+f) (l+t+f)=true
 ·exact amP hg (auH hd)
 ·rw[if_neg hd]at h;cases h
theorem aEd {L:List Bk} {f:Int} {F:List Int} (h:Lk (WA f L) F):F.length<=1000000:=by
 rw[h.len];unfold WA;rw[x7];exact Nat.le_trans (Nat.pow_le_pow_right (by omega) (show _<=10 by unfold pA sub;rw[List.length_take];have h9:gv L.length<=10:=(anC L.length).2.1;omega)) (by decide)
theorem aEG {L:List Bk} {f:Int} {F:List Int} (hn:L.length<=20) (h:Lk (WB f L) F):F.length<=1000000:=by
 rw[h.len];unfold WB;rw[x7];exact Nat.le_trans (Nat.pow_le_pow_right (by omega) (show _<=10 by unfold pB sub;rw[List.length_take];have h9:L.length-gv L.length<=10:=(anC L.length).2.2 hn;omega)) (by decide)
attribute [local irreducible] alg bf ck gf aku eg wN aD1 aD3 am1 akK akT e7 cw
def aEW:au:=aGg (fun _ _ _ _ _ _ _ _=>[]) (fun _ _ _ _ _ _ _ _=>bl true)
theorem aEt:au.Ok Try.prog Γ 15 aEW:=aF2 (d:=0) (aP aGH bq.nil false 0) (aj Try.func15 rfl rfl) (fun _ _ _ _ _ _ _ _=>rfl) (by
 intro L l t f I F R S _;have z0:((0:Int)==0)=true:=rfl;have z1:((0:Int)==5)=false:=rfl;have z2:((5:Int)==5)=true:=rfl;have z3:((5:Int)==0)=false:=rfl;cases hs:alg L
 ·have w0:(!alg L)=true:=by rw[hs];rfl
  repeat'((conv=>whnf);first|apply And.intro|exact bA (by subst_vars;assumption)|intro h9)
  all_goals(try(conv=>whnf))<;>(subst_vars;try first|(apply Tk.mk;kernel_rfl)|exact⟨ah rfl⟩|exact⟨rfl⟩|exact⟨trivial⟩|rfl|contradiction|(apply Ob.mk;(try simp only[ag,ak,aa.ae])<;>(try dsimp only)<;>omega))
 have hL:=ayO hs;have w0:(!alg L)=false:=by rw[hs];rfl
 by_cases g1:I.length>20
 ·have d1:decide ((I.length:Int)>20)=true:=decide_eq_true (by omega)
  repeat'((conv=>whnf);first|apply And.intro|exact bA (by subst_vars;assumption)|intro h9)
  all_goals(try(conv=>whnf))<;>(subst_vars;try first|(apply Tk.mk;kernel_rfl)|exact⟨ah rfl⟩|exact⟨rfl⟩|exact⟨trivial⟩|rfl|contradiction|(apply Ob.mk;(try simp only[ag,ak,aa.ae])<;>(try dsimp only)<;>omega))
 have d1:decide ((I.length:Int)>20)=false:=decide_eq_false (by omega)
 by_cases g2:F.length>1100
 ·have d2:decide ((F.length:Int)>1100)=true:=decide_eq_true (by omega)
  repeat'((conv=>whnf);first|apply And.intro|exact bA (by subst_vars;assumption)|intro h9)
  all_goals(try(conv=>whnf))<;>(subst_vars;try first|(apply Tk.mk;kernel_rfl)|exact⟨ah rfl⟩|exact⟨rfl⟩|exact⟨trivial⟩|rfl|contradiction|(apply Ob.mk;(try simp only[ag,ak,aa.ae])<;>(try dsimp only)<;>omega))
 have d2:decide ((F.length:Int)>1100)=false:=decide_eq_false (by omega)
 by_cases g3:R.length>1100
 ·have d3:decide ((R.length:Int)>1100)=true:=decide_eq_true (by omega)
  repeat'((conv=>whnf);first|apply And.intro|exact bA (by subst_vars;assumption)|intro h9)
  all_goals(try(conv=>whnf))<;>(subst_vars;try first|(apply Tk.mk;kernel_rfl)|exact⟨ah rfl⟩|exact⟨rfl⟩|exact⟨trivial⟩|rfl|contradiction|(apply Ob.mk;(try simp only[ag,ak,aa.ae])<;>(try dsimp only)<;>omega))
 have d3:decide ((R.length:Int)>1100)=false:=decide_eq_false (by omega)
 by_cases g4:S.length>1100
 ·have d4:decide ((S.length:Int)>1100)=true:=decide_eq_true (by omega)
  repeat'((conv=>whnf);first|apply And.intro|exact bA (by subst_vars;assumption)|intro h9)
  all_goals(try(conv=>whnf))<;>(subst_vars;try first|(apply Tk.mk;kernel_rfl)|exact⟨ah rfl⟩|exact⟨rfl⟩|exact⟨trivial⟩|rfl|contradiction|(apply Ob.mk;(try simp only[ag,ak,aa.ae])<;>(try dsimp only)<;>omega))
 have d4:decide ((S.length:Int)>1100)=false:=decide_eq_false (by omega)
 have hI:I.length<=1000:=by omega
 have hF:F.length<=1000000:=by omega
 have hR:R.length<=1000000:=by omega
 have hS:S.length<=1000000:=by omega
 cases h0:bf L l t f==0
 ·have a1:(bf L l t f !=0)=true:=by unfold bne;rw[h0];rfl
  repeat'((conv=>whnf);first|apply And.intro|exact bA (by subst_vars;assumption)|intro h9)
  all_goals(try(conv=>whnf))<;>(subst_vars;try first|(apply Tk.mk;kernel_rfl)|exact⟨ah rfl⟩|exact⟨rfl⟩|exact⟨trivial⟩|rfl|contradiction|(apply Ob.mk;(try simp only[ag,ak,aa.ae])<;>(try dsimp only)<;>omega))
  all_goals try first|exact⟨hL⟩
 have ha:=eq_of_beq h0;obtain⟨hB,hw⟩:=gg ha;have hn:=hB.Kg;have a1:(bf L l t f !=0)=false:=by unfold bne;rw[h0];rfl
 have aFQ:(if bf L l t f=0 then(gN l t f L:Int)else 0)=(gN l t f L:Int):=if_pos ha
 cases hg:((gN l t f L:Int)==0)
 ·have e1:((if bf L l t f=0 then(gN l t f L:Int)else 0)==0)=false:=by rw[aFQ];exact hg
  have f1:(!(((if bf L l t f=0 then(gN l t f L:Int)else 0)==0)==((0:Int)==5)))=false:=by rw[e1];rfl
  have f2:(!(((if bf L l t f=0 then(gN l t f L:Int)else 0)==0)==((5:Int)==0)))=false:=by rw[e1];rfl
  have e2:=aGo (F:=F) (R:=R) (S:=S) ha hg;obtain⟨aHP,aHQ⟩:=aFr (amP hg);obtain⟨i1,i2⟩:=aEk ha aHP aHQ;have e3:((aD1 L l t f (eg L (aku l t f L))).2==0)=true:=beq_iff_eq.2 i1;have n1:(eg L (aku l t f L)).length<=1000:=by rw[ew];have:=ajs L.length (aku l t f L);omega
  clear aFQ ha;cases h1:(aD1 L l t f I).2==0
  ·have e4:((aD1 L l t f I).2!=0)=true:=by unfold bne;rw[h1];rfl
   repeat'((conv=>whnf);first|apply And.intro|exact bA (by subst_vars;assumption)|intro h9)
   all_goals(try(conv=>whnf))<;>(subst_vars;try first|(apply Tk.mk;kernel_rfl)|exact⟨ah rfl⟩|exact⟨rfl⟩|exact⟨trivial⟩|rfl|contradiction|(apply Ob.mk;(try simp only[ag,ak,aa.ae])<;>(try dsimp only)<;>omega))
   all_goals try first|exact⟨hL⟩|exact⟨hI⟩|exact⟨hF⟩|exact⟨hR⟩|exact⟨hS⟩|exact⟨n1⟩
  have e4:((aD1 L l t f I).2!=0)=false:=by unfold bne;rw[h1];rfl
  cases h2:aD3 L l t f I
  ·have e5:(!aD3 L l t f I)=true:=by rw[h2];rfl
   repeat'((conv=>whnf);first|apply And.intro|exact bA (by subst_vars;assumption)|intro h9)
   all_goals(try(conv=>whnf))<;>(subst_vars;try first|(apply Tk.mk;kernel_rfl)|exact⟨ah rfl⟩|exact⟨rfl⟩|exact⟨trivial⟩|rfl|contradiction|(apply Ob.mk;(try simp only[ag,ak,aa.ae])<;>(try dsimp only)<;>omega))
   all_goals try first|exact⟨hL⟩|exact⟨hI⟩|exact⟨hF⟩|exact⟨hR⟩|exact⟨hS⟩|exact⟨n1⟩
  have e5:(!aD3 L l t f I)=false:=by rw[h2];rfl
  have e6:decide ((I.length:Int)>=((eg L (aku l t f L)).length:Int))=true:=decide_eq_true (by
   obtain⟨u,u1,u2,u3⟩:=aEl h2;have:=aFN u1 u2;rw[<-u3,ew,ew];omega)
  repeat'((conv=>whnf);first|apply And.intro|exact bA (by subst_vars;assumption)|intro h9)
  all_goals(try(conv=>whnf))<;>(subst_vars;try first|(apply Tk.mk;kernel_rfl)|exact⟨ah rfl⟩|exact⟨rfl⟩|exact⟨trivial⟩|rfl|contradiction|(apply Ob.mk;(try simp only[ag,ak,aa.ae])<;>(try dsimp only)<;>omega))
  all_goals try first|trivial|exact⟨hL⟩|exact⟨hI⟩|exact⟨hF⟩|exact⟨hR⟩|exact⟨hS⟩|exact⟨n1⟩
 ·have e1:((if bf L l t f=0 then(gN l t f L:Int)else 0)==0)=true:=by rw[aFQ];exact hg
  have f1:(!(((if bf L l t f=0 then(gN l t f L:Int)else 0)==0)==((5:Int)==5)))=false:=by rw[e1];rfl
  have f2:(!(((if bf L l t f=0 then(gN l t f L:Int)else 0)==0)==((0:Int)==0)))=false:=by rw[e1];rfl
  have e2:decide ((if bf L l t f=0 then(gN l t f L:Int)else 0)>0)=false:=decide_eq_false (by rw[aFQ];have:=eq_of_beq hg;omega)
  have h2:aD3 L l t f I=false:=Bool.eq_false_iff.2 fun h2=>by
   obtain⟨u,u1,u2,u3⟩:=aEl h2;exact aEj u1 u2 (amQ.1 hg)
  have e5:(!aD3 L l t f I)=true:=by rw[h2];rfl
  clear aFQ;have hcd:∀ F R,Lk (WA f L) F->Lk (WB f L) R->(am1 L l t f F R (akT (WA f L) (WB f L) R l t f F)==0)=true:=fun F R h1 h2=>aGP ha hg h1 h2
  cases hc:am1 L l t f F R S==0
  ·cases h1:(aD1 L l t f I).2==0
   ·repeat'((conv=>whnf);first|apply And.intro|exact bA (by subst_vars;assumption)|intro h9)
    all_goals(try(conv=>whnf))<;>(subst_vars;try first|(apply Tk.mk;kernel_rfl)|exact⟨ah rfl⟩|exact⟨rfl⟩|exact⟨trivial⟩|rfl|contradiction|(apply Ob.mk;(try simp only[ag,ak,aa.ae])<;>(try dsimp only)<;>omega))
    all_goals try first|exact(hcd _ _ (by assumption) (by assumption)).symm.trans h9|exact⟨hL⟩|exact⟨hI⟩|exact⟨hF⟩|exact⟨hR⟩|exact⟨hS⟩|exact⟨(amS _ _ _ _ _ _ _).symm⟩|exact⟨aEd (by assumption)⟩|exact⟨aEG hn (by assumption)⟩|exact⟨by show(akT _ _ _ _ _ _ _).length<=_;rw[amS];exact aEd (by assumption)⟩
   ·repeat'((conv=>whnf);first|apply And.intro|exact bA (by subst_vars;assumption)|intro h9)
    all_goals(try(conv=>whnf))<;>(subst_vars;try first|(apply Tk.mk;kernel_rfl)|exact⟨ah rfl⟩|exact⟨rfl⟩|exact⟨trivial⟩|rfl|contradiction|(apply Ob.mk;(try simp only[ag,ak,aa.ae])<;>(try dsimp only)<;>omega))
    all_goals try first|exact(hcd _ _ (by assumption) (by assumption)).symm.trans h9|trivial|exact⟨hL⟩|exact⟨hI⟩|exact⟨hF⟩|exact⟨hR⟩|exact⟨hS⟩|exact⟨(amS _ _ _ _ _ _ _).symm⟩|exact⟨aEd (by assumption)⟩|exact⟨aEG hn (by assumption)⟩|exact⟨by show(akT _ _ _ _ _ _ _).length<=_;rw[amS];exact aEd (by assumption)⟩
  ·cases h1:(aD1 L l t f I).2==0
   ·repeat'((conv=>whnf);first|apply And.intro|exact bA (by subst_vars;assumption)|intro h9)
    all_goals(try(conv=>whnf))<;>(subst_vars;try first|(apply Tk.mk;kernel_rfl)|exact⟨ah rfl⟩|exact⟨rfl⟩|exact⟨trivial⟩|rfl|contradiction|(apply Ob.mk;(try simp only[ag,ak,aa.ae])<;>(try dsimp only)<;>omega))
    all_goals try first|exact(hcd _ _ (by assumption) (by assumption)).symm.trans h9|exact⟨hL⟩|exact⟨hI⟩|exact⟨hF⟩|exact⟨hR⟩|exact⟨hS⟩|exact⟨(amS _ _ _ _ _ _ _).symm⟩|exact⟨aEd (by assumption)⟩|exact⟨aEG hn (by assumption)⟩|exact⟨by show(akT _ _ _ _ _ _ _).length<=_;rw[amS];exact aEd (by assumption)⟩
   ·repeat'((conv=>whnf);first|apply And.intro|exact bA (by subst_vars;assumption)|intro h9)
    all_goals(try(conv=>whnf))<;>(subst_vars;try first|(apply Tk.mk;kernel_rfl)|exact⟨ah rfl⟩|exact⟨rfl⟩|exact⟨trivial⟩|rfl|contradiction|(apply Ob.mk;(try simp only[ag,ak,aa.ae])<;>(try dsimp only)<;>omega))
    all_goals try first|exact(hcd _ _ (by assumption) (by assumption)).symm.trans h9|trivial|exact⟨hL⟩|exact⟨hI⟩|exact⟨hF⟩|exact⟨hR⟩|exact⟨hS⟩|exact⟨(amS _ _ _ _ _ _ _).symm⟩|exact⟨aEd (by assumption)⟩|exact⟨aEG hn (by assumption)⟩|exact⟨by show(akT _ _ _ _ _ _ _).length<=_;rw[amS];exact aEd (by assumption)⟩)
end Go.Proofs.Ytccnimhgjjnmoaa
end
