/-
  Texts of the claims: Yky2z. No condition: lemmas and contracts.
-/
import Derived.Test.YtccnimhgjjnmoaaSya1z
import Derived.Test.YtccnimhgjjnmoaaSya2z
import Derived.Test.YtccnimhgjjnmoaaSya3z
import Derived.Test.YtccnimhgjjnmoaaSya4z
import Derived.Test.YtccnimhgjjnmoaaSya5z
import Derived.Test.YtccnimhgjjnmoaaPla6z
import Derived.Test.YtccnimhgjjnmoaaYka7z
import Derived.Test.YtccnimhgjjnmoaaYka8z
import Derived.Test.YtccnimhgjjnmoaaYka9z
import Derived.Test.YtccnimhgjjnmoaaYka10z
import Derived.Test.YtccnimhgjjnmoaaYka11z
import Derived.Test.YtccnimhgjjnmoaaYka12z
import Derived.Test.YtccnimhgjjnmoaaYka13z
import Derived.Test.YtccnimhgjjnmoaaYka14z
import Derived.Test.YtccnimhgjjnmoaaYka15z
import Derived.Test.YtccnimhgjjnmoaaYka16z
import Derived.Test.YtccnimhgjjnmoaaYka17z
import Derived.Test.YtccnimhgjjnmoaaYka18z
import Derived.Test.YtccnimhgjjnmoaaPlb1z
import Derived.Test.YtccnimhgjjnmoaaPlc1z
import Derived.Test.YtccnimhgjjnmoaaYkc2z
import Derived.Test.YtccnimhgjjnmoaaYke1z
import Derived.Test.YtccnimhgjjnmoaaPlg1z
import Derived.Test.YtccnimhgjjnmoaaYkg2z
import Derived.Test.YtccnimhgjjnmoaaYki1z
import Derived.Test.YtccnimhgjjnmoaaPlj1z
import Derived.Test.YtccnimhgjjnmoaaYkk1z
import Derived.Test.YtccnimhgjjnmoaaPln1z
import Derived.Test.YtccnimhgjjnmoaaPlq1z
import Derived.Test.YtccnimhgjjnmoaaYkq2z
import Derived.Test.YtccnimhgjjnmoaaPly1z
import Derived.Test.YtccnimhgjjnmoaaRows
import Derived.ProofKit
import Derived.Deep.DeepHandedRow
import Derived.Deep.Slices
import Derived.Lib.LaidTab
import Derived.Lib.SmallJoins
import Derived.Stop.LaidErr
import Derived.Carry
set_option linter.all false
set_option maxRecDepth 100000
set_option maxHeartbeats 40000000
section
namespace Go.Proofs.Ytccnimhgjjnmoaa
open Go Go.Sy Go.ChangeShapes Go.WideShapes Go.RowKit
/-! ### Arguments opened -/
section
variable {H:Type} {enc:TypeId×Value->H} {w:World} {base:Nat} {spare:Nat->Bool} {held:Bool}
theorem aFJ {r:Reach} {b0:Nat} {v:Value} {d:DataW H} {p:List MemPlace} (hv:Value.okWide Try.prog w r b0 67 v) (h:DataW.Trod enc Try.prog w base spare held 67 v d p):∃ a b:Int,v= .agg #[.int .i64 a,.int .i64 b]:=by
 have j6:=hv;simp only[Value.okWide,Try.underlying67]at j6;obtain⟨cs,rfl,hsz,-⟩:=j6;obtain⟨l⟩:=cs;have hl:l.length=2:=hsz.trans (by kernel_rfl)
 match l,hl with
 |[c0,c1],_=>
  obtain⟨fuel,hf⟩:=h;obtain⟨xs,n,_,_,_,hlen,hf⟩:=DataW.trod_struct Try.underlying67 hf
  match xs,hlen with
  |[y0,y1],_=>
   have e:Try.prog.cellsOf 3=1:=by kernel_rfl
   obtain⟨a,rfl⟩:=kf (c:=c0) (by simpa[e,Value.cells]using hf 0 _ rfl)
   obtain⟨b,rfl⟩:=kf (c:=c1) (by simpa[e,Value.cells]using hf 1 _ rfl)
   exact⟨a,b,rfl⟩
end
/-! ### A statement's walk -/
theorem aGe {N:Nat} {ρ:Keys} (a b:Int):Tm.ok N ρ (.agg [.v (.int .i64 a),.v (.int .i64 b)]) (.agg #[.int .i64 a,.int .i64 b]):=⟨[_,_],rfl,⟨rfl,rfl⟩,⟨rfl,rfl⟩,trivial⟩
end Go.Proofs.Ytccnimhgjjnmoaa
end
section
namespace Go.Proofs.Ytccnimhgjjnmoaa
open Go Go.Sy Go.dg
variable {Γ:bn}
def aGQ (D:List Bk->Int->Int->Int->Int->Int->List aa) (F:List Bk->Int->Int->Int->Int->Int->Tm):au:=.fn fun args rg=>match args with
 |[.a x0,.agg [.v (.int .i64 n0),.v (.int .i64 n1),.v (.int .i64 n2)],.agg [.v (.int .i64 n3),.v (.int .i64 n4)]]=>(match ac1 67 kK rg x0 with|some (q0,L0)=>some (q0++(D L0 n0 n1 n2 n3 n4),F L0 n0 n1 n2 n3 n4)|_=>none)
 |_=>none
theorem aGt {f:FuncId} {b:Body} {E:Env} {d:Nat} (hP:aL Try.prog Γ E) (hb:bQ Try.prog f b) {D:List Bk->Int->Int->Int->Int->Int->List aa} {F:List Bk->Int->Int->Int->Int->Int->Tm} (hp:∀ (L0:List Bk) (n0:Int) (n1:Int) (n2:Int) (n3:Int) (n4:Int),(F L0 n0 n1 n2 n3 n4).plain=true)
 (H:∀ (L0:List Bk) (n0:Int) (n1:Int) (n2:Int) (n3:Int) (n4:Int),bW (D L0 n0 n1 n2 n3 n4)->cQ E d b [.a (.sl 0 [] 0 L0.length),.agg [vI n0,vI n1,vI n2],.agg [vI n3,vI n4]] [.arr 67 kK L0 false false] (fun x _=>iL x (F L0 n0 n1 n2 n3 n4))):au.Ok Try.prog Γ f (aGQ D F):=au.aBp (d:=d) hP hb (by
 intro args rg q t hF hq;split at hF;next x0 n0 n1 n2 n3 n4=>
  split at hF;next q0 L0 hx0=>
   obtain⟨rfl,rfl⟩:=Prod.mk.inj (Option.some.inj hF);clear hF;rw[aH]at hq;obtain⟨aIh,hD⟩:=hq;obtain⟨e0,Vn⟩:=bP (by simp[kK]) hx0 aIh
   obtain⟨p0,r0⟩:=Vn [e0] 0 1 rfl (by omega)
   refine⟨hp _ _ _ _ _ _,[e0],[.a (.sl 0 [] 0 L0.length),.agg [vI n0,vI n1,vI n2],.agg [vI n3,vI n4]],[.arr 67 kK L0 false false],⟨⟨p0,⟨rfl,rfl,rfl,trivial⟩,⟨rfl,rfl,trivial⟩,trivial⟩,fun r g hg=>?_⟩,H _ _ _ _ _ _ hD⟩
   match r,hg with
   |0,hg=>obtain rfl:=Option.some.inj hg;exact r0
  next=>cases hF
 next=>cases hF)
noncomputable def aHd:List (Nat×au):=[(21,aIb),(23,alU),(22,ap3),(48,aEn),(25,aoi)]
theorem aGI:aR Try.prog Γ aHd:=(((((aR.nil.cons (aj Try.func25 rfl rfl).fn anG).cons (aj Try.func48 rfl rfl).fn aEh).cons (aj Try.func22 rfl rfl).fn aoY).cons (aj Try.func23 rfl rfl).fn an2).cons (aj Try.func21 rfl rfl).fn sW)
theorem aF6 (L:List Bk) (x y:Int):List.drop 0 (List.take L.length (List.drop 0 L))++List.take 1 (List.drop 0 [((x,y):Bk)])=L++[(x,y)]:=by simp
structure aHC (L:List Bk) (l t f x y:Int):Prop where
 cnt:decide ((if bf (L++[(x,y)]) l t f=0 then(gN l t f (L++[(x,y)]):Int)else 0)<(if bf L l t f=0 then(gN l t f L:Int)else 0))=false
 wid:((Cn (L++[(x,y)]) l t f).2!=0)=false
 near:L≠[]->((Cn L l t f).2==0)=true/\decide (aD4 (L++[(x,y)]) l t f>aD4 L l t f)=false
 nil:L=[]->((Cn L l t f).2==0)=false
 some:gf l t f L≠[]->((aD1 (L++[(x,y)]) l t f (eg L (aku l t f L))).2==0)=true/\aD3 (L++[(x,y)]) l t f (eg L (aku l t f L))=true/\((gN l t f (L++[(x,y)]):Int)==0)=false/\decide (((eg (L++[(x,y)]) (aku l t f (L++[(x,y)]))).length:Int)<=((eg L (aku l t f L)).length:Int))=true/\(eg L (aku l t f L)).length<=1000
theorem aGR {L:List Bk} {l t f x y:Int} (ha:bf L l t f=0) (hb:bf (L++[(x,y)]) l t f=0):aHC L l t f x y:=by
 obtain⟨hB,hw⟩:=gg ha;obtain⟨hl,ht,hf⟩:=wE hw;have hm:=aF5 l t f L (x,y);have hne:(L++[(x,y)])≠[]:=by simp
 refine⟨?_,?_,fun h=>⟨?_,?_⟩,fun h=>?_,fun h=>?_⟩
 ·rw[if_pos ha,if_pos hb];refine decide_eq_false ?_;show ¬((gf l t f (L++[(x,y)])).length:Int)<((gf l t f L).length:Int);omega
 ·rw[(aEH hb hne).2];rfl
 ·rw[(aEH ha h).2];rfl
 ·rw[(aEH hb hne).1,(aEH ha h).1];have:=aGw (l:=l) (f:=f) (b:=(x,y)) hf.1 hB.lens h;exact decide_eq_false (by omega)
 ·subst h;unfold Cn;rw[if_pos ha,if_pos rfl];rfl
 ·obtain⟨f1,f2⟩:=aFr h;have f3:akv l t f (L++[(x,y)]) (aku l t f L)=true:=by rw[aFs f1];exact f2
  have f4:aku l t f L<2^((L++[(x,y)])).length:=aFv f1;have f5:=aE8 (b:=(x,y)) f1;obtain⟨g1,g2⟩:=aEk hb f4 f3;rw[f5]at g1 g2;have f6:=aFN f4 f3;have f7:=ew (L++[(x,y)]) (aku l t f L);rw[f5]at f7;refine⟨beq_iff_eq.2 g1,g2,?_,?_,?_⟩
  ·have:=List.length_pos_iff.2 (aEj f4 f3);refine beq_eq_false_iff_ne.2 ?_;show ¬((gf l t f (L++[(x,y)])).length:Int)=0;omega
  ·refine decide_eq_true ?_;rw[ew (L++[(x,y)]) (aku l t f (L++[(x,y)])),f7];omega
  ·rw[ew];have:=ajs L.length (aku l t f L);have:=hB.Kg;omega
theorem aGZ (L:List Bk) (l t f:Int):aD1 L l t f []=if bf L l t f=0 then(0,1)else(0,bf L l t f):=by unfold aD1;rw[if_pos rfl]
attribute [local irreducible] bf ck gf aku eg wN aD1 aD3 Cn
def aHz (id:Nat):Option OT:=match Nat.beq id 3 with|true=>some (.take 1 (.alt 0 (.alt 2 (.alt 3 (.alt 4 (.alt 5 (.take 6 .fin) .fin) .fin) .fin) (.alt 3 (.alt 2 (.alt 4 (.alt 5 (.take 6 .fin) .fin) .fin) (.alt 4 (.alt 2 (.alt 5 (.take 6 .fin) .fin) .fin) .fin)) .fin)) (.alt 3 (.alt 0 (.alt 2 (.alt 4 (.alt 5 (.take 6 .fin) .fin) .fin) (.alt 4 (.alt 2 (.alt 5 (.take 6 .fin) .fin) .fin) .fin)) (.alt 4 (.alt 0 (.alt 2 (.alt 5 (.take 6 .fin) .fin) .fin) .fin) .fin)) .fin)))|false=>none
noncomputable def aGf:Env:={jV.env aHd [] false 0 with tree:=aHz}
theorem aF1:aL Try.prog Γ aGf:=(aP aGI bq.nil false 0).vU _
noncomputable def aHt:Env:={aGf with cut:=fun t=>Nat.beq t 2003}
theorem aGr:aL Try.prog Γ aHt:=aF1.aBf _
def aE1:au:=aGQ (fun _ _ _ _ _ _=>[]) (fun _ _ _ _ _ _=>bl true)
theorem aEB:au.Ok Try.prog Γ 16 aE1:=aGt (d:=0) aGr (aj Try.func16 rfl rfl) (fun _ _ _ _ _ _=>rfl) (by
 intro L l t f x y _;have z0:((0:Int)==0)=true:=rfl;have z1:((0:Int)!=0)=false:=rfl;have z2:((5:Int)!=0)=true:=rfl;by_cases g1:L.length>11
 ·have d1:decide ((L.length:Int)>11)=true:=decide_eq_true (by omega)
  repeat'((conv=>whnf);first|apply And.intro|exact bA (by subst_vars;assumption)|intro h9)
  all_goals(try(conv=>whnf))<;>(subst_vars;try first|(apply Tk.mk;kernel_rfl)|exact⟨ah rfl⟩|exact⟨rfl⟩|exact⟨trivial⟩|rfl|contradiction|(apply Ob.mk;(try simp only[ag,ak,aa.ae])<;>(try dsimp only)<;>omega))
 have d1:decide ((L.length:Int)>11)=false:=decide_eq_false (by omega)
 have hL:L.length<=1000000:=by omega
 have hM:((L++[(x,y)])).length<=1000000:=by rw[List.length_append,List.length_singleton];omega
 have ajV:=aF6 L x y;have hml:L.length+1=((L++[(x,y)])).length:=by rw[List.length_append,List.length_singleton]
 repeat'((conv=>whnf);first|apply And.intro|exact bA (by subst_vars;assumption)|intro h9)
 all_goals(try(conv=>whnf))<;>(subst_vars;try first|(apply Tk.mk;kernel_rfl)|exact⟨ah rfl⟩|exact⟨rfl⟩|exact⟨trivial⟩|rfl|contradiction|(apply Ob.mk;(try simp only[ag,ak,aa.ae])<;>(try dsimp only)<;>omega))
 refine⟨Unit,fun _=>True,fun _=>⟨aI 121 [0,4,7] [.a (.sl 0 [] 0 L.length),.a (.p 1 [] 0 0),.a (.sl 2 [] 0 ((L++[(x,y)])).length)],[],[.arr 67 kK L false false,.box true [vI l,vI t,vI f],.arr 67 kK (L++[(x,y)]) true true]⟩,?_,?_⟩
 ·repeat'((conv=>whnf);first|apply And.intro|exact bA (by subst_vars;assumption)|intro h9)
  all_goals(try(conv=>whnf))<;>(subst_vars;try first|(apply Tk.mk;kernel_rfl)|exact⟨ah rfl⟩|exact⟨rfl⟩|exact⟨trivial⟩|rfl|contradiction|(apply Ob.mk;(try simp only[ag,ak,aa.ae])<;>(try dsimp only)<;>omega))
  all_goals try first|exact⟨show 0+L.length<=L.length by omega⟩|exact⟨show L.length*2<=1099511627776 by omega⟩|exact⟨show 0+L.length=(List.take L.length (List.drop 0 L)).length by simp⟩|exact⟨show(L.length+1)*2<=1099511627776 by omega⟩|trivial
  all_goals first
   |(refine⟨(),[0,1,3],trivial,?_⟩;(repeat'((conv=>whnf);(first|apply And.intro|intro _)));(all_goals first|rfl|trivial|exact ah rfl|exact⟨rfl,rfl,ajV⟩|exact hml|exact hml.symm|exact⟨rfl,rfl,rfl⟩|exact⟨rfl,rfl⟩|(rename_i bx;obtain rfl:=List.mem_singleton.1 bx;exact ah rfl));done)
   |(refine⟨(),[0,1,4],trivial,?_⟩;(repeat'((conv=>whnf);(first|apply And.intro|intro _)));(all_goals first|rfl|trivial|exact ah rfl|exact⟨rfl,rfl,ajV⟩|exact hml|exact hml.symm|exact⟨rfl,rfl,rfl⟩|exact⟨rfl,rfl⟩|(rename_i bx;obtain rfl:=List.mem_singleton.1 bx;exact ah rfl));done)
 intro _ _;cases h0:bf L l t f==0
 ·have a1:(bf L l t f !=0)=true:=by unfold bne;rw[h0];rfl
  repeat'((conv=>whnf);first|apply And.intro|exact bA (by subst_vars;assumption)|intro h9)
  all_goals(try(conv=>whnf))<;>(subst_vars;try first|(apply Tk.mk;kernel_rfl)|exact⟨ah rfl⟩|exact⟨rfl⟩|exact⟨trivial⟩|rfl|contradiction|(apply Ob.mk;(try simp only[ag,ak,aa.ae])<;>(try dsimp only)<;>omega))
  all_goals try first|exact⟨hL⟩|exact⟨hM⟩
 have a1:(bf L l t f !=0)=false:=by unfold bne;rw[h0];rfl
 cases k0:bf (L++[(x,y)]) l t f==0
 ·have a2:(bf (L++[(x,y)]) l t f !=0)=true:=by unfold bne;rw[k0];rfl
  repeat'((conv=>whnf);first|apply And.intro|exact bA (by subst_vars;assumption)|intro h9)
  all_goals(try(conv=>whnf))<;>(subst_vars;try first|(apply Tk.mk;kernel_rfl)|exact⟨ah rfl⟩|exact⟨rfl⟩|exact⟨trivial⟩|rfl|contradiction|(apply Ob.mk;(try simp only[ag,ak,aa.ae])<;>(try dsimp only)<;>omega))
  all_goals try first|exact⟨hL⟩|exact⟨hM⟩
 have a2:(bf (L++[(x,y)]) l t f !=0)=false:=by unfold bne;rw[k0];rfl
 obtain⟨p1,p2,p3,p4,p5⟩:=aGR (x:=x) (y:=y) (eq_of_beq h0) (eq_of_beq k0);cases hg:((gN l t f L:Int)==0)
 ·obtain⟨q1,q2,q3,q4,q5⟩:=p5 (amP hg);have hne:L≠[]:=fun e=>amP hg (by
   subst e;refine aFt fun u hu=>?_
   have:u=0:=by simp at hu;omega
   subst this;rw[Bool.eq_false_iff];intro h;exact(aEY.1 h).1 rfl)
  obtain⟨r1,r2⟩:=p3 hne;repeat'((conv=>whnf);first|apply And.intro|exact bA (by subst_vars;assumption)|intro h9)
  all_goals(try(conv=>whnf))<;>(subst_vars;try first|(apply Tk.mk;kernel_rfl)|exact⟨ah rfl⟩|exact⟨rfl⟩|exact⟨trivial⟩|rfl|contradiction|(apply Ob.mk;(try simp only[ag,ak,aa.ae])<;>(try dsimp only)<;>omega))
  all_goals try first|exact⟨q5⟩|trivial|exact⟨hL⟩|exact⟨hM⟩
 ·have hnl:=aGZ (L++[(x,y)]) l t f;rw[if_pos (eq_of_beq k0)]at hnl;by_cases hne:L=[]
  ·have r1:=p4 hne;clear hne;cases hm:((gN l t f (L++[(x,y)]):Int)==0)
   ·repeat'((conv=>whnf);first|apply And.intro|exact bA (by subst_vars;assumption)|intro h9)
    all_goals(try(conv=>whnf))<;>(subst_vars;try first|(apply Tk.mk;kernel_rfl)|exact⟨ah rfl⟩|exact⟨rfl⟩|exact⟨trivial⟩|rfl|contradiction|(apply Ob.mk;(try simp only[ag,ak,aa.ae])<;>(try dsimp only)<;>omega))
    all_goals try first|exact⟨hL⟩|exact⟨hM⟩
   ·repeat'((conv=>whnf);first|apply And.intro|exact bA (by subst_vars;assumption)|intro h9)
    all_goals(try(conv=>whnf))<;>(subst_vars;try first|(apply Tk.mk;kernel_rfl)|exact⟨ah rfl⟩|exact⟨rfl⟩|exact⟨trivial⟩|rfl|contradiction|(apply Ob.mk;(try simp only[ag,ak,aa.ae])<;>(try dsimp only)<;>omega))
    all_goals try first|exact⟨hL⟩|exact⟨hM⟩
  ·obtain⟨r1,r2⟩:=p3 hne;cases hm:((gN l t f (L++[(x,y)]):Int)==0)
   ·repeat'((conv=>whnf);first|apply And.intro|exact bA (by subst_vars;assumption)|intro h9)
    all_goals(try(conv=>whnf))<;>(subst_vars;try first|(apply Tk.mk;kernel_rfl)|exact⟨ah rfl⟩|exact⟨rfl⟩|exact⟨trivial⟩|rfl|contradiction|(apply Ob.mk;(try simp only[ag,ak,aa.ae])<;>(try dsimp only)<;>omega))
    all_goals try first|exact⟨hL⟩|exact⟨hM⟩
   ·repeat'((conv=>whnf);first|apply And.intro|exact bA (by subst_vars;assumption)|intro h9)
    all_goals(try(conv=>whnf))<;>(subst_vars;try first|(apply Tk.mk;kernel_rfl)|exact⟨ah rfl⟩|exact⟨rfl⟩|exact⟨trivial⟩|rfl|contradiction|(apply Ob.mk;(try simp only[ag,ak,aa.ae])<;>(try dsimp only)<;>omega))
    all_goals try first|exact⟨hL⟩|exact⟨hM⟩)
end Go.Proofs.Ytccnimhgjjnmoaa
end
