/-
  Texts of the claims: Yo1. No condition: lemmas and contracts.
-/
import Derived.Test.YtccnimhgjjnmoaaYk3
import Derived.Test.YtccnimhgjjnmoaaYk10
import Derived.Test.YtccnimhgjjnmoaaPl1
set_option linter.all false
set_option maxRecDepth 100000
set_option maxHeartbeats 40000000
section
namespace Go.Proofs.Ytccnimhgjjnmoaa
open Go Go.Sy Go.dg
variable {Γ:bn}
attribute [local irreducible] ck gi wN sub blk
theorem aCt (A:List Int) (k:Nat):ca A k=A.getD k 0:=by unfold ca;rw[Nat.zero_add,Int.toNat_natCast];rfl
theorem aDt {l:List Int} {n:Int} {a:Nat} (ha:a<l.length) (h:∀ j,j<a->l.getD j 0<n) (e:ca l a=n):alj l n=l:=by
 rw[aCt]at e;rw[aCG (k:=a) (by omega) h (fun _=>by omega),if_pos ⟨ha,e⟩]
theorem aC0 {l:List Int} {n:Int} {a:Nat} (ha:a<=l.length) (h:∀ j,j<a->l.getD j 0<n) (e:a<l.length->¬ca l a<n/\¬ca l a=n):alj l n=l.take a++n::l.drop a:=by
 rw[aCG (k:=a) ha h (fun h1=>by have:=(e h1).1;rwa[aCt]at this),if_neg (fun⟨h1,h2⟩=>(e h1).2 (by rw[aCt];exact h2))]
theorem aDx {f:Int} {L:List Bk} {k:Int} {i:Nat} (h1:1<=i) (hf:(ap8 f L k i).length<=1000) (hb:¬(blk i:Int)=k):ap8 f L k (i+1)=ap8 f L k i:=by
 rw[avg h1];unfold avv;rw[if_neg (by omega),if_neg hb]
theorem aDG {f:Int} {L:List Bk} {k:Int} {i:Nat} (h1:1<=i) (hf:(ap8 f L k i).length<=1000) (hb:(blk i:Int)=k):ap8 f L k (i+1)=alj (ap8 f L k i) (wN f L i-f):=by
 rw[avg h1];unfold avv;rw[if_neg (by omega),if_pos hb]
attribute [local irreducible] ap8 alj aoZ
def aDv (D:List Bk->Int->Int->List aa) (R:List Bk->Int->Int->cM):au:=.new fun args rg K=>match args with
 |[.a x0,.a (.v (.int .i64 n0)),.a (.v (.int .i64 n1))]=>(match ac1 67 kK rg x0 with|some (q0,L0)=>aBP false (q0++(D L0 n0 n1)) (K (R L0 n0 n1))|_=>False)
 |_=>False
theorem aDo {f:FuncId} {b:Body} {E:Env} {d:Nat} (hP:aL Try.prog Γ E) (hb:bQ Try.prog f b) {D:List Bk->Int->Int->List aa} {R:List Bk->Int->Int->cM}
 (H:∀ (L0:List Bk) (n0:Int) (n1:Int) (K:cM->Prop),bW (D L0 n0 n1)->K (R L0 n0 n1)->cQ E d b [.a (.sl 0 [] 0 L0.length),.a (vI n0),.a (vI n1)] [.arr 67 kK L0 false false] (bu K)):au.Ok Try.prog Γ f (aDv D R):=au.fM (d:=d) hP hb (by
 intro args rg K hF;split at hF;next x0 n0 n1=>
  split at hF;next q0 L0 hx0=>
   rw[aV,aH]at hF;obtain⟨⟨dm,hD⟩,hK⟩:=hF;obtain⟨e0,Vn⟩:=bP (by simp[kK]) hx0 dm
   obtain⟨p0,r0⟩:=Vn [e0] 0 1 rfl (by omega)
   refine⟨[e0],[.a (.sl 0 [] 0 L0.length),.a (vI n0),.a (vI n1)],[.arr 67 kK L0 false false],⟨⟨p0,rfl,rfl,trivial⟩,fun r g hg=>?_⟩,bu K,H _ _ _ K hD hK,fun x st h=>h⟩
   match r,hg with
   |0,hg=>obtain rfl:=Option.some.inj hg;exact r0
  next=>exact hF.elim
 next=>exact hF.elim)
def aDN (L:List Bk) (f k:Int):cM:=⟨[.arr 3 kI (aoZ f L k) true true],.a (.sl 0 [] 0 (aoZ f L k).length)⟩
def aCq:au:=aDv (fun L f _=>[aoI L,(aa.of (0<=f/\f<=1000000))]) aDN
noncomputable def aDV:List (Nat×au):=[(66,apw),(50,alJ)]
theorem aDz:aR Try.prog Γ aDV:=((aR.nil.cons (aj Try.func50 rfl rfl).fn alP).cons (aj Try.func66 rfl rfl).fn aqw)
noncomputable def aDP:List (Nat×Body):=[(72,bo Try.f72)]
theorem aDw:bq Try.prog aDP:=(bq.nil.cons (cg Try.func72 rfl rfl))
theorem aCz:au.Ok Try.prog Γ 38 aCq:=aDo (d:=2) (aP aDz aDw false 0) (aj Try.func38 rfl rfl) (by
 intro L f k K ⟨hB,hf,_⟩ hK;simp only[aa.ae]at hf;replace hB:gb L:=hB;have hn:=hB.Kg;have hp:=akO hn;have hsh:=atY L.length;have ayk:=Nat.two_pow_pos L.length;have xX:ak .i64 (1*2^Int.toNat (L.length:Int)):=by rw[Int.toNat_natCast,hsh];simp only[ak];omega
 have e1:ap8 f L k 1=[]:=aou f L k;have aDZ:(ap8 f L k 1).length=0:=by rw[e1];rfl
 unfold aDN at hK;repeat'((conv=>whnf);(first|apply And.intro|(intro h9;first|(have h8:(_:Bool)=false:=h9;exfalso;clear h8;revert h9;subst_vars;intro h9;exact R3 (h9.symm.trans (by assumption)))|(have h8:(_:Bool)=true:=h9;exfalso;clear h8;revert h9;subst_vars;intro h9;exact R6 (h9.symm.trans (by assumption)))|skip)))
 all_goals try(conv=>whnf)
 all_goals try first|exact Tk.mk (by kernel_rfl)|exact Tk.mk (by kernel_rfl)|exact Tk.mk (by kernel_rfl)|exact Tk.mk (by kernel_rfl)|exact Tk.mk (by kernel_rfl)|exact Tk.mk (by kernel_rfl)|exact Tk.mk (by kernel_rfl)|exact⟨Nat.le_of_ble_eq_true rfl⟩|exact⟨rfl⟩|exact⟨trivial⟩
 all_goals subst_vars
 all_goals try first|rfl|contradiction|(refine Ob.mk ?_;simp only[ag,ak,aa.ae];omega)|(refine Ob.mk ?_;(try simp only[aa.ae]);(try dsimp only);omega)
 refine⟨Nat,fun i=>1<=i/\i<=2^L.length,fun i=>⟨aI 32 [0,1,2,7,8] [.a (.sl 0 [] 0 L.length),.a (vI f),.a (vI k),.a (.sl 1 [] 0 (ap8 f L k i).length),.a (vI i)],[],[.arr 67 kK L false false,.arr 3 kI (ap8 f L k i) true true]⟩,fun i=>2^L.length-i,1,[0,1000],⟨Nat.le_refl _,ayk⟩,?_,?_⟩
 ·repeat'((conv=>whnf);(first|apply And.intro|intro _))
  all_goals first|rfl|trivial|exact Nat.le_of_ble_eq_true rfl|exact⟨rfl,rfl,rfl⟩|exact⟨rfl,rfl,rfl,rfl⟩|exact⟨rfl,rfl⟩|exact⟨rfl,rfl,rfl,rfl,rfl⟩|(rename_i bx;obtain rfl:=List.mem_singleton.1 bx;exact Nat.le_of_ble_eq_true rfl)|exact e1|exact aDZ
 rintro i ⟨hi0,hi⟩;have hlk:=atI (f:=f) (L:=L) (k:=k) hi0;have agM:=hlk.Kg;by_cases hi1:i<2^L.length
 ·have p0:decide ((i:Int)<1*2^Int.toNat (L.length:Int))=true:=decide_eq_true (by rw[Int.toNat_natCast,hsh];omega)
  by_cases aDF:(ap8 f L k i).length<=1000
  ·have p1:decide (((ap8 f L k i).length:Int)<=1000)=true:=decide_eq_true (by omega)
   by_cases hb:(blk i:Int)=k
   ·have p2:((blk (Int.toNat (i:Int)):Int)==k)=true:=by rw[Int.toNat_natCast];exact beq_iff_eq.2 hb
    have hst:ap8 f L k (i+1)=alj (ap8 f L k i) (wN f L (Int.toNat (i:Int))-f):=by rw[Int.toNat_natCast];exact aDG hi0 aDF hb
    have hw:=hB.asr hf.1 hf.2 i;have Kt:=alH hf.1 hB.lens i;replace hb:=And.intro hb trivial;repeat'((conv=>whnf);(first|apply And.intro|(intro h9;first|(have h8:(_:Bool)=false:=h9;exfalso;clear h8;revert h9;subst_vars;intro h9;exact R3 (h9.symm.trans (by assumption)))|(have h8:(_:Bool)=true:=h9;exfalso;clear h8;revert h9;subst_vars;intro h9;exact R6 (h9.symm.trans (by assumption)))|skip)))
    all_goals try(conv=>whnf)
    all_goals try first|exact Tk.mk (by kernel_rfl)|exact Tk.mk (by kernel_rfl)|exact Tk.mk (by kernel_rfl)|exact Tk.mk (by kernel_rfl)|exact Tk.mk (by kernel_rfl)|exact Tk.mk (by kernel_rfl)|exact Tk.mk (by kernel_rfl)|exact⟨Nat.le_of_ble_eq_true rfl⟩|exact⟨rfl⟩|exact⟨trivial⟩
    all_goals subst_vars
    all_goals try first|rfl|contradiction|(refine Ob.mk ?_;simp only[ag,ak,aa.ae];omega)|(refine Ob.mk ?_;(try simp only[aa.ae]);(try dsimp only);omega)
    all_goals try first|exact⟨hB⟩|exact⟨xX⟩|exact⟨show(L.length:Int)<=64 by omega⟩
    refine⟨Nat,fun a=>a<=(ap8 f L k i).length/\∀ j,j<a->(ap8 f L k i).getD j 0<wN f L (Int.toNat (i:Int))-f,fun a=>⟨aI 48 [0,1,5] [.a (.sl 1 [] 0 (ap8 f L k i).length),.a (vI (wN f L (Int.toNat (i:Int))-f)),.a (vI a)],[aI 32 [0,1,2,7,8] [.a (.sl 0 [] 0 L.length),.a (vI f),.a (vI k),.a (.sl 1 [] 0 (ap8 f L k i).length),.a (vI i)]],[.arr 67 kK L false false,.arr 3 kI (ap8 f L k i) true true]⟩,fun a=>(ap8 f L k i).length-a,0,[0,1],⟨Nat.zero_le _,fun j h=>absurd h (Nat.not_lt_zero j)⟩,?_,?_⟩
    ·repeat'((conv=>whnf);(first|apply And.intro|intro _))
     all_goals first|rfl|trivial|exact Nat.le_of_ble_eq_true rfl|exact⟨rfl,rfl,rfl⟩|exact⟨rfl,rfl,rfl,rfl⟩|exact⟨rfl,rfl⟩|exact⟨rfl,rfl,rfl,rfl,rfl⟩|(rename_i bx;obtain rfl:=List.mem_singleton.1 bx;exact Nat.le_of_ble_eq_true rfl)
    rintro a ⟨ha,hlt⟩;by_cases ox:a<(ap8 f L k i).length
    ·have q0:decide ((a:Int)<((ap8 f L k i).length:Int))=true:=decide_eq_true (by omega)
     by_cases hx:ca (ap8 f L k i) a<wN f L (Int.toNat (i:Int))-f
     ·have q1:decide (ca (ap8 f L k i) a<wN f L (Int.toNat (i:Int))-f)=true:=decide_eq_true hx;repeat'((conv=>whnf);(first|apply And.intro|(intro h9;first|(have h8:(_:Bool)=false:=h9;exfalso;clear h8;revert h9;subst_vars;intro h9;exact R3 (h9.symm.trans (by assumption)))|(have h8:(_:Bool)=true:=h9;exfalso;clear h8;revert h9;subst_vars;intro h9;exact R6 (h9.symm.trans (by assumption)))|skip)))
      all_goals try(conv=>whnf)
      all_goals try first|exact Tk.mk (by kernel_rfl)|exact Tk.mk (by kernel_rfl)|exact Tk.mk (by kernel_rfl)|exact Tk.mk (by kernel_rfl)|exact Tk.mk (by kernel_rfl)|exact Tk.mk (by kernel_rfl)|exact Tk.mk (by kernel_rfl)|exact⟨Nat.le_of_ble_eq_true rfl⟩|exact⟨rfl⟩|exact⟨trivial⟩
      all_goals subst_vars
      all_goals try first|rfl|contradiction|(refine Ob.mk ?_;simp only[ag,ak,aa.ae];omega)|(refine Ob.mk ?_;(try simp only[aa.ae]);(try dsimp only);omega)
      all_goals try first|exact⟨show 0+Int.toNat (a:Int)<(ap8 f L k i).length by omega⟩
      refine⟨a+1,[0,1],⟨ox,fun j hj=>by rcases Nat.lt_succ_iff_lt_or_eq.1 hj with h|rfl;exact hlt j h;rwa[aCt]at hx⟩,?_,by show(ap8 f L k i).length-(a+1)<(ap8 f L k i).length-a;omega⟩
      repeat'((conv=>whnf);(first|apply And.intro|intro _))
      all_goals first|rfl|trivial|exact Nat.le_of_ble_eq_true rfl|exact⟨rfl,rfl,rfl⟩|exact⟨rfl,rfl,rfl,rfl⟩|exact⟨rfl,rfl⟩|exact⟨rfl,rfl,rfl,rfl,rfl⟩|(rename_i bx;obtain rfl:=List.mem_singleton.1 bx;exact Nat.le_of_ble_eq_true rfl)
     have q1:decide (ca (ap8 f L k i) a<wN f L (Int.toNat (i:Int))-f)=false:=decide_eq_false hx;by_cases hy:ca (ap8 f L k i) a=wN f L (Int.toNat (i:Int))-f
     ·have q2:(ca (ap8 f L k i) a==wN f L (Int.toNat (i:Int))-f)=true:=beq_iff_eq.2 hy;have ZL:=hst.trans (aDt ox hlt hy);replace hy:=And.intro hy trivial;repeat'((conv=>whnf);(first|apply And.intro|(intro h9;first|(have h8:(_:Bool)=false:=h9;exfalso;clear h8;revert h9;subst_vars;intro h9;exact R3 (h9.symm.trans (by assumption)))|(have h8:(_:Bool)=true:=h9;exfalso;clear h8;revert h9;subst_vars;intro h9;exact R6 (h9.symm.trans (by assumption)))|skip)))
      all_goals try(conv=>whnf)
      all_goals try first|exact Tk.mk (by kernel_rfl)|exact Tk.mk (by kernel_rfl)|exact Tk.mk (by kernel_rfl)|exact Tk.mk (by kernel_rfl)|exact Tk.mk (by kernel_rfl)|exact Tk.mk (by kernel_rfl)|exact Tk.mk (by kernel_rfl)|exact⟨Nat.le_of_ble_eq_true rfl⟩|exact⟨rfl⟩|exact⟨trivial⟩
      all_goals subst_vars
      all_goals try first|rfl|contradiction|(refine Ob.mk ?_;simp only[ag,ak,aa.ae];omega)|(refine Ob.mk ?_;(try simp only[aa.ae]);(try dsimp only);omega)
      all_goals try first|exact⟨show 0+Int.toNat (a:Int)<(ap8 f L k i).length by omega⟩
      refine⟨i+1,[0,1],⟨by omega,hi1⟩,?_,by show 2^L.length-(i+1)<2^L.length-i;omega⟩
      dsimp only;rw[ZL];repeat'((conv=>whnf);(first|apply And.intro|intro _))
      all_goals first|rfl|trivial|exact Nat.le_of_ble_eq_true rfl|exact⟨rfl,rfl,rfl⟩|exact⟨rfl,rfl,rfl,rfl⟩|exact⟨rfl,rfl⟩|exact⟨rfl,rfl,rfl,rfl,rfl⟩|(rename_i bx;obtain rfl:=List.mem_singleton.1 bx;exact Nat.le_of_ble_eq_true rfl)
     have q2:(ca (ap8 f L k i) a==wN f L (Int.toNat (i:Int))-f)=false:=beq_eq_false_iff_ne.2 hy;have aDc:=hst.trans (aC0 ha hlt (fun _=>⟨hx,hy⟩))
     have aDE:Int.toNat (a:Int)=a:=Int.toNat_natCast a;have hnl:=congrArg List.length aDc;rw[List.length_append,List.length_cons,List.length_take,List.length_drop]at hnl;have ajV:List.drop 0 (List.drop 0 (List.take (Int.toNat (a:Int)-0) (List.drop (0+0) (ap8 f L k i)))++List.take 1 (List.drop 0 [wN f L (Int.toNat (i:Int))-f]))++List.take ((ap8 f L k i).length-Int.toNat (a:Int)) (List.drop (0+Int.toNat (a:Int)) (ap8 f L k i))=ap8 f L k (i+1):=by
      rw[aDc,aDE];simp;rw[List.take_of_length_le (by simp)]
     have hfl:Int.toNat (a:Int)-0+1+((ap8 f L k i).length-Int.toNat (a:Int))=(ap8 f L k (i+1)).length:=by omega
     repeat'((conv=>whnf);(first|apply And.intro|(intro h9;first|(have h8:(_:Bool)=false:=h9;exfalso;clear h8;revert h9;subst_vars;intro h9;exact R3 (h9.symm.trans (by assumption)))|(have h8:(_:Bool)=true:=h9;exfalso;clear h8;revert h9;subst_vars;intro h9;exact R6 (h9.symm.trans (by assumption)))|skip)))
     all_goals try(conv=>whnf)
     all_goals try first|exact Tk.mk (by kernel_rfl)|exact Tk.mk (by kernel_rfl)|exact Tk.mk (by kernel_rfl)|exact Tk.mk (by kernel_rfl)|exact Tk.mk (by kernel_rfl)|exact Tk.mk (by kernel_rfl)|exact Tk.mk (by kernel_rfl)|exact⟨Nat.le_of_ble_eq_true rfl⟩|exact⟨rfl⟩|exact⟨trivial⟩
     all_goals subst_vars
     all_goals try first|rfl|contradiction|(refine Ob.mk ?_;simp only[ag,ak,aa.ae];omega)|(refine Ob.mk ?_;(try simp only[aa.ae]);(try dsimp only);omega)
     all_goals try first|exact⟨show 0+0+(Int.toNat (a:Int)-0)<=(ap8 f L k i).length by omega⟩|exact⟨show(Int.toNat (a:Int)-0)*1<=1099511627776 by omega⟩|exact⟨show 0+(Int.toNat (a:Int)-0)=(List.take (Int.toNat (a:Int)-0) (List.drop (0+0) (ap8 f L k i))).length by rw[List.length_take,List.length_drop];omega⟩|exact⟨show(Int.toNat (a:Int)-0+1)*1<=1099511627776 by omega⟩|exact⟨show 0+Int.toNat (a:Int)+((ap8 f L k i).length-Int.toNat (a:Int))<=(ap8 f L k i).length by omega⟩|exact⟨show 0+(Int.toNat (a:Int)-0+1)=(List.drop 0 (List.take (Int.toNat (a:Int)-0) (List.drop (0+0) (ap8 f L k i)))++List.take 1 (List.drop 0 [wN f L (Int.toNat (i:Int))-f])).length by rw[List.length_append,List.drop_zero,List.length_take,List.length_drop];simp only[List.drop_zero,List.length_take,List.length_singleton];omega⟩|exact⟨show(Int.toNat (a:Int)-0+1+((ap8 f L k i).length-Int.toNat (a:Int)))*1<=1099511627776 by omega⟩|exact⟨show 0+Int.toNat (a:Int)<(ap8 f L k i).length by omega⟩
     refine⟨i+1,[0,2],⟨by omega,hi1⟩,?_,by show 2^L.length-(i+1)<2^L.length-i;omega⟩
     repeat'((conv=>whnf);(first|apply And.intro|intro _))
     all_goals first|rfl|trivial|exact Nat.le_of_ble_eq_true rfl|exact⟨rfl,rfl,rfl⟩|exact⟨rfl,rfl,rfl,rfl⟩|exact⟨rfl,rfl⟩|exact⟨rfl,rfl,rfl,rfl,rfl⟩|(rename_i bx;obtain rfl:=List.mem_singleton.1 bx;exact Nat.le_of_ble_eq_true rfl)|exact hfl|exact⟨rfl,rfl,ajV⟩|exact ajV
    have q0:decide ((a:Int)<((ap8 f L k i).length:Int))=false:=decide_eq_false (by omega)
    have aDc:=hst.trans (aC0 ha hlt (fun h=>absurd h ox))
    have aDE:Int.toNat (a:Int)=a:=Int.toNat_natCast a;have hnl:=congrArg List.length aDc;rw[List.length_append,List.length_cons,List.length_take,List.length_drop]at hnl;have ajV:List.drop 0 (List.drop 0 (List.take (Int.toNat (a:Int)-0) (List.drop (0+0) (ap8 f L k i)))++List.take 1 (List.drop 0 [wN f L (Int.toNat (i:Int))-f]))++List.take ((ap8 f L k i).length-Int.toNat (a:Int)) (List.drop (0+Int.toNat (a:Int)) (ap8 f L k i))=ap8 f L k (i+1):=by
     rw[aDc,aDE];simp;rw[List.take_of_length_le (by simp)]
    have hfl:Int.toNat (a:Int)-0+1+((ap8 f L k i).length-Int.toNat (a:Int))=(ap8 f L k (i+1)).length:=by omega
    repeat'((conv=>whnf);(first|apply And.intro|(intro h9;first|(have h8:(_:Bool)=false:=h9;exfalso;clear h8;revert h9;subst_vars;intro h9;exact R3 (h9.symm.trans (by assumption)))|(have h8:(_:Bool)=true:=h9;exfalso;clear h8;revert h9;subst_vars;intro h9;exact R6 (h9.symm.trans (by assumption)))|skip)))
    all_goals try(conv=>whnf)
    all_goals try first|exact Tk.mk (by kernel_rfl)|exact Tk.mk (by kernel_rfl)|exact Tk.mk (by kernel_rfl)|exact Tk.mk (by kernel_rfl)|exact Tk.mk (by kernel_rfl)|exact Tk.mk (by kernel_rfl)|exact Tk.mk (by kernel_rfl)|exact⟨Nat.le_of_ble_eq_true rfl⟩|exact⟨rfl⟩|exact⟨trivial⟩
    all_goals subst_vars
    all_goals try first|rfl|contradiction|(refine Ob.mk ?_;simp only[ag,ak,aa.ae];omega)|(refine Ob.mk ?_;(try simp only[aa.ae]);(try dsimp only);omega)
    all_goals try first|exact⟨show 0+0+(Int.toNat (a:Int)-0)<=(ap8 f L k i).length by omega⟩|exact⟨show(Int.toNat (a:Int)-0)*1<=1099511627776 by omega⟩|exact⟨show 0+(Int.toNat (a:Int)-0)=(List.take (Int.toNat (a:Int)-0) (List.drop (0+0) (ap8 f L k i))).length by rw[List.length_take,List.length_drop];omega⟩|exact⟨show(Int.toNat (a:Int)-0+1)*1<=1099511627776 by omega⟩|exact⟨show 0+Int.toNat (a:Int)+((ap8 f L k i).length-Int.toNat (a:Int))<=(ap8 f L k i).length by omega⟩|exact⟨show 0+(Int.toNat (a:Int)-0+1)=(List.drop 0 (List.take (Int.toNat (a:Int)-0) (List.drop (0+0) (ap8 f L k i)))++List.take 1 (List.drop 0 [wN f L (Int.toNat (i:Int))-f])).length by rw[List.length_append,List.drop_zero,List.length_take,List.length_drop];simp only[List.drop_zero,List.length_take,List.length_singleton];omega⟩|exact⟨show(Int.toNat (a:Int)-0+1+((ap8 f L k i).length-Int.toNat (a:Int)))*1<=1099511627776 by omega⟩
    refine⟨i+1,[0,2],⟨by omega,hi1⟩,?_,by show 2^L.length-(i+1)<2^L.length-i;omega⟩
    repeat'((conv=>whnf);(first|apply And.intro|intro _))
    all_goals first|rfl|trivial|exact Nat.le_of_ble_eq_true rfl|exact⟨rfl,rfl,rfl⟩|exact⟨rfl,rfl,rfl,rfl⟩|exact⟨rfl,rfl⟩|exact⟨rfl,rfl,rfl,rfl,rfl⟩|(rename_i bx;obtain rfl:=List.mem_singleton.1 bx;exact Nat.le_of_ble_eq_true rfl)|exact hfl|exact⟨rfl,rfl,ajV⟩|exact ajV
   ·have p2:((blk (Int.toNat (i:Int)):Int)==k)=false:=by rw[Int.toNat_natCast];exact beq_eq_false_iff_ne.2 hb
    have ZL:=aDx hi0 aDF hb;repeat'((conv=>whnf);(first|apply And.intro|(intro h9;first|(have h8:(_:Bool)=false:=h9;exfalso;clear h8;revert h9;subst_vars;intro h9;exact R3 (h9.symm.trans (by assumption)))|(have h8:(_:Bool)=true:=h9;exfalso;clear h8;revert h9;subst_vars;intro h9;exact R6 (h9.symm.trans (by assumption)))|skip)))
    all_goals try(conv=>whnf)
    all_goals try first|exact Tk.mk (by kernel_rfl)|exact Tk.mk (by kernel_rfl)|exact Tk.mk (by kernel_rfl)|exact Tk.mk (by kernel_rfl)|exact Tk.mk (by kernel_rfl)|exact Tk.mk (by kernel_rfl)|exact Tk.mk (by kernel_rfl)|exact⟨Nat.le_of_ble_eq_true rfl⟩|exact⟨rfl⟩|exact⟨trivial⟩
    all_goals subst_vars
    all_goals try first|rfl|contradiction|(refine Ob.mk ?_;simp only[ag,ak,aa.ae];omega)|(refine Ob.mk ?_;(try simp only[aa.ae]);(try dsimp only);omega)
    all_goals try first|exact⟨xX⟩|exact⟨show(L.length:Int)<=64 by omega⟩
    refine⟨i+1,[0,1],⟨by omega,hi1⟩,?_,by show 2^L.length-(i+1)<2^L.length-i;omega⟩
    dsimp only;rw[ZL];repeat'((conv=>whnf);(first|apply And.intro|intro _))
    all_goals first|rfl|trivial|exact Nat.le_of_ble_eq_true rfl|exact⟨rfl,rfl,rfl⟩|exact⟨rfl,rfl,rfl,rfl⟩|exact⟨rfl,rfl⟩|exact⟨rfl,rfl,rfl,rfl,rfl⟩|(rename_i bx;obtain rfl:=List.mem_singleton.1 bx;exact Nat.le_of_ble_eq_true rfl)
  ·have p1:decide (((ap8 f L k i).length:Int)<=1000)=false:=decide_eq_false (by omega)
   have hg:aoZ f L k=ap8 f L k i:=by unfold aoZ;exact aCR hi0 (by omega) _ hi
   rw[hg]at hK;repeat'((conv=>whnf);(first|apply And.intro|(intro h9;first|(have h8:(_:Bool)=false:=h9;exfalso;clear h8;revert h9;subst_vars;intro h9;exact R3 (h9.symm.trans (by assumption)))|(have h8:(_:Bool)=true:=h9;exfalso;clear h8;revert h9;subst_vars;intro h9;exact R6 (h9.symm.trans (by assumption)))|skip)))
   all_goals try(conv=>whnf)
   all_goals try first|exact Tk.mk (by kernel_rfl)|exact Tk.mk (by kernel_rfl)|exact Tk.mk (by kernel_rfl)|exact Tk.mk (by kernel_rfl)|exact Tk.mk (by kernel_rfl)|exact Tk.mk (by kernel_rfl)|exact Tk.mk (by kernel_rfl)|exact⟨Nat.le_of_ble_eq_true rfl⟩|exact⟨rfl⟩|exact⟨trivial⟩
   all_goals subst_vars
   all_goals try first|rfl|contradiction|(refine Ob.mk ?_;simp only[ag,ak,aa.ae];omega)|(refine Ob.mk ?_;(try simp only[aa.ae]);(try dsimp only);omega)
   all_goals try first|exact⟨xX⟩|exact⟨show(L.length:Int)<=64 by omega⟩
   refine bu.base ⟨_,[1],hK,⟨rfl,rfl,by simp,trivial⟩,rfl,?_⟩
   repeat'((conv=>whnf);(first|apply And.intro|intro _))
   all_goals first|rfl|trivial
 have p0:decide ((i:Int)<1*2^Int.toNat (L.length:Int))=false:=decide_eq_false (by rw[Int.toNat_natCast,hsh];omega)
 have hg:aoZ f L k=ap8 f L k i:=by unfold aoZ;rw[show 2^L.length=i by omega]
 rw[hg]at hK;repeat'((conv=>whnf);(first|apply And.intro|(intro h9;first|(have h8:(_:Bool)=false:=h9;exfalso;clear h8;revert h9;subst_vars;intro h9;exact R3 (h9.symm.trans (by assumption)))|(have h8:(_:Bool)=true:=h9;exfalso;clear h8;revert h9;subst_vars;intro h9;exact R6 (h9.symm.trans (by assumption)))|skip)))
 all_goals try(conv=>whnf)
 all_goals try first|exact Tk.mk (by kernel_rfl)|exact Tk.mk (by kernel_rfl)|exact Tk.mk (by kernel_rfl)|exact Tk.mk (by kernel_rfl)|exact Tk.mk (by kernel_rfl)|exact Tk.mk (by kernel_rfl)|exact Tk.mk (by kernel_rfl)|exact⟨Nat.le_of_ble_eq_true rfl⟩|exact⟨rfl⟩|exact⟨trivial⟩
 all_goals subst_vars
 all_goals try first|rfl|contradiction|(refine Ob.mk ?_;simp only[ag,ak,aa.ae];omega)|(refine Ob.mk ?_;(try simp only[aa.ae]);(try dsimp only);omega)
 all_goals try first|exact⟨xX⟩|exact⟨show(L.length:Int)<=64 by omega⟩
 refine bu.base ⟨_,[1],hK,⟨rfl,rfl,by simp,trivial⟩,rfl,?_⟩
 repeat'((conv=>whnf);(first|apply And.intro|intro _))
 all_goals first|rfl|trivial)
end Go.Proofs.Ytccnimhgjjnmoaa
end
section
namespace Go.Proofs.Ytccnimhgjjnmoaa
open Go Go.Sy Go.dg
variable {Γ:bn}
noncomputable def aDY:List (Nat×au):=[(20,Df),(21,tC),(36,aoX),(37,anI),(38,aCq),(28,uA)]
theorem aDB:aR Try.prog Γ aDY:=((((((aR.nil.cons (aj Try.func28 rfl rfl).fn yG).cons (aj Try.func38 rfl rfl).fn aCz).cons (aj Try.func37 rfl rfl).fn ao8).cons (aj Try.func36 rfl rfl).fn ap2).cons (aj Try.func21 rfl rfl).fn sW).cons (aj Try.func20 rfl rfl).fn EJ)
theorem aDq {f k:Int} {L:List Bk} (hB:gb L) (hk:1<=k/\k<=20):(aoZ f L k).length<=1001/\((aoZ f L k).length<=1000->y7 f L k.toNat=aoZ f L k)/\((aoZ f L k).length<=1000<->(y7 f L k.toNat).length<=1000):=by
 obtain⟨m,rfl⟩:∃ m:Nat,k=(m:Int):=⟨k.toNat,by omega⟩
 obtain⟨h1,h2⟩:=ayA (f:=f) (L:=L) (k:=m) (by omega) hB.Kg
 rw[Int.toNat_natCast];have h3:=(atI (f:=f) (L:=L) (k:=(m:Int)) (Nat.two_pow_pos L.length)).Kg;exact⟨by unfold aoZ;exact h3,fun h=>(h1 h).symm,h2⟩
attribute [local irreducible] alg ck aoZ y7 aQ
def aCL:au:=auP (fun _ _ _=>[]) (fun _ _ _=>bl true)
theorem aCw:au.Ok Try.prog Γ 6 aCL:=aqW (d:=0) (aP aDB bq.nil false 0) (aj Try.func6 rfl rfl) (fun _ _ _=>rfl) (by
 intro L f k _;have z0:((0:Int)==0)=true:=rfl;have z2:((0:Int)!=0)=false:=rfl;have z3:((1:Int)!=0)=true:=rfl;have z4:((1:Int)==1)=true:=rfl;have z5:((2:Int)==2)=true:=rfl;cases hs:alg L
 ·have w0:(!alg L)=true:=by rw[hs];rfl
  repeat'((conv=>whnf);(first|apply And.intro|(intro h9;first|(have h8:(_:Bool)=false:=h9;exfalso;clear h8;revert h9;subst_vars;intro h9;exact R3 (h9.symm.trans (by assumption)))|(have h8:(_:Bool)=true:=h9;exfalso;clear h8;revert h9;subst_vars;intro h9;exact R6 (h9.symm.trans (by assumption)))|skip)))
  all_goals try(conv=>whnf)
  all_goals try first|exact Tk.mk (by kernel_rfl)|exact Tk.mk (by kernel_rfl)|exact Tk.mk (by kernel_rfl)|exact Tk.mk (by kernel_rfl)|exact Tk.mk (by kernel_rfl)|exact Tk.mk (by kernel_rfl)|exact Tk.mk (by kernel_rfl)|exact⟨Nat.le_of_ble_eq_true rfl⟩|exact⟨rfl⟩|exact⟨trivial⟩
  all_goals subst_vars
  all_goals try first|rfl|contradiction|(refine Ob.mk ?_;simp only[ag,ak,aa.ae];omega)|(refine Ob.mk ?_;(try simp only[aa.ae]);(try dsimp only);omega)
 have hL:=ayO hs;have w0:(!alg L)=false:=by rw[hs];rfl
 cases h0:(ck L).1==0
 ·have a1:((ck L).1!=0)=true:=by unfold bne;rw[h0];rfl
  have a2:((ck L).1==(ck L).1)=true:=beq_self_eq_true _;repeat'((conv=>whnf);(first|apply And.intro|(intro h9;first|(have h8:(_:Bool)=false:=h9;exfalso;clear h8;revert h9;subst_vars;intro h9;exact R3 (h9.symm.trans (by assumption)))|(have h8:(_:Bool)=true:=h9;exfalso;clear h8;revert h9;subst_vars;intro h9;exact R6 (h9.symm.trans (by assumption)))|skip)))
  all_goals try(conv=>whnf)
  all_goals try first|exact Tk.mk (by kernel_rfl)|exact Tk.mk (by kernel_rfl)|exact Tk.mk (by kernel_rfl)|exact Tk.mk (by kernel_rfl)|exact Tk.mk (by kernel_rfl)|exact Tk.mk (by kernel_rfl)|exact Tk.mk (by kernel_rfl)|exact⟨Nat.le_of_ble_eq_true rfl⟩|exact⟨rfl⟩|exact⟨trivial⟩
  all_goals subst_vars
  all_goals try first|rfl|contradiction|(refine Ob.mk ?_;simp only[ag,ak,aa.ae];omega)|(refine Ob.mk ?_;(try simp only[aa.ae]);(try dsimp only);omega)
  all_goals try first|exact⟨hL⟩
 have a1:((ck L).1!=0)=false:=by unfold bne;rw[h0];rfl
 have hB:gb L:=amq (eq_of_beq h0);cases hg:aQ f 0 1000000&&aQ k 1 20
 ·by_cases d1:f<0
  ·have e1:decide (f<0)=true:=decide_eq_true d1;repeat'((conv=>whnf);(first|apply And.intro|(intro h9;first|(have h8:(_:Bool)=false:=h9;exfalso;clear h8;revert h9;subst_vars;intro h9;exact R3 (h9.symm.trans (by assumption)))|(have h8:(_:Bool)=true:=h9;exfalso;clear h8;revert h9;subst_vars;intro h9;exact R6 (h9.symm.trans (by assumption)))|skip)))
   all_goals try(conv=>whnf)
   all_goals try first|exact Tk.mk (by kernel_rfl)|exact Tk.mk (by kernel_rfl)|exact Tk.mk (by kernel_rfl)|exact Tk.mk (by kernel_rfl)|exact Tk.mk (by kernel_rfl)|exact Tk.mk (by kernel_rfl)|exact Tk.mk (by kernel_rfl)|exact⟨Nat.le_of_ble_eq_true rfl⟩|exact⟨rfl⟩|exact⟨trivial⟩
   all_goals subst_vars
   all_goals try first|rfl|contradiction|(refine Ob.mk ?_;simp only[ag,ak,aa.ae];omega)|(refine Ob.mk ?_;(try simp only[aa.ae]);(try dsimp only);omega)
   all_goals try first|exact⟨hL⟩
  have e1:decide (f<0)=false:=decide_eq_false d1;by_cases d2:f>1000000
  ·have e2:decide (f>1000000)=true:=decide_eq_true d2;repeat'((conv=>whnf);(first|apply And.intro|(intro h9;first|(have h8:(_:Bool)=false:=h9;exfalso;clear h8;revert h9;subst_vars;intro h9;exact R3 (h9.symm.trans (by assumption)))|(have h8:(_:Bool)=true:=h9;exfalso;clear h8;revert h9;subst_vars;intro h9;exact R6 (h9.symm.trans (by assumption)))|skip)))
   all_goals try(conv=>whnf)
   all_goals try first|exact Tk.mk (by kernel_rfl)|exact Tk.mk (by kernel_rfl)|exact Tk.mk (by kernel_rfl)|exact Tk.mk (by kernel_rfl)|exact Tk.mk (by kernel_rfl)|exact Tk.mk (by kernel_rfl)|exact Tk.mk (by kernel_rfl)|exact⟨Nat.le_of_ble_eq_true rfl⟩|exact⟨rfl⟩|exact⟨trivial⟩
   all_goals subst_vars
   all_goals try first|rfl|contradiction|(refine Ob.mk ?_;simp only[ag,ak,aa.ae];omega)|(refine Ob.mk ?_;(try simp only[aa.ae]);(try dsimp only);omega)
   all_goals try first|exact⟨hL⟩
  have e2:decide (f>1000000)=false:=decide_eq_false d2;by_cases d3:k<1
  ·have e3:decide (k<1)=true:=decide_eq_true d3;repeat'((conv=>whnf);(first|apply And.intro|(intro h9;first|(have h8:(_:Bool)=false:=h9;exfalso;clear h8;revert h9;subst_vars;intro h9;exact R3 (h9.symm.trans (by assumption)))|(have h8:(_:Bool)=true:=h9;exfalso;clear h8;revert h9;subst_vars;intro h9;exact R6 (h9.symm.trans (by assumption)))|skip)))
   all_goals try(conv=>whnf)
   all_goals try first|exact Tk.mk (by kernel_rfl)|exact Tk.mk (by kernel_rfl)|exact Tk.mk (by kernel_rfl)|exact Tk.mk (by kernel_rfl)|exact Tk.mk (by kernel_rfl)|exact Tk.mk (by kernel_rfl)|exact Tk.mk (by kernel_rfl)|exact⟨Nat.le_of_ble_eq_true rfl⟩|exact⟨rfl⟩|exact⟨trivial⟩
   all_goals subst_vars
   all_goals try first|rfl|contradiction|(refine Ob.mk ?_;simp only[ag,ak,aa.ae];omega)|(refine Ob.mk ?_;(try simp only[aa.ae]);(try dsimp only);omega)
   all_goals try first|exact⟨hL⟩
  have e3:decide (k<1)=false:=decide_eq_false d3;have e4:decide (k>20)=true:=decide_eq_true (Classical.byContradiction fun h=>by
   have h1:aQ f 0 1000000=true:=akk.2 (by omega)
   have h2:aQ k 1 20=true:=akk.2 (by omega)
   rw[h1,h2]at hg;cases hg)
  repeat'((conv=>whnf);(first|apply And.intro|(intro h9;first|(have h8:(_:Bool)=false:=h9;exfalso;clear h8;revert h9;subst_vars;intro h9;exact R3 (h9.symm.trans (by assumption)))|(have h8:(_:Bool)=true:=h9;exfalso;clear h8;revert h9;subst_vars;intro h9;exact R6 (h9.symm.trans (by assumption)))|skip)))
  all_goals try(conv=>whnf)
  all_goals try first|exact Tk.mk (by kernel_rfl)|exact Tk.mk (by kernel_rfl)|exact Tk.mk (by kernel_rfl)|exact Tk.mk (by kernel_rfl)|exact Tk.mk (by kernel_rfl)|exact Tk.mk (by kernel_rfl)|exact Tk.mk (by kernel_rfl)|exact⟨Nat.le_of_ble_eq_true rfl⟩|exact⟨rfl⟩|exact⟨trivial⟩
  all_goals subst_vars
  all_goals try first|rfl|contradiction|(refine Ob.mk ?_;simp only[ag,ak,aa.ae];omega)|(refine Ob.mk ?_;(try simp only[aa.ae]);(try dsimp only);omega)
  all_goals try first|exact⟨hL⟩
 obtain⟨h1,h2⟩:=Bool.and_eq_true_iff.1 hg;have hf:=akk.1 h1;have hk:=akk.1 h2;have e1:decide (f<0)=false:=decide_eq_false (by omega)
 have e2:decide (f>1000000)=false:=decide_eq_false (by omega)
 have e3:decide (k<1)=false:=decide_eq_false (by omega)
 have e4:decide (k>20)=false:=decide_eq_false (by omega)
 obtain⟨g1,g2,g3⟩:=aDq (f:=f) hB hk;cases hd:decide ((y7 f L k.toNat).length<=1000)
 ·have hn:=of_decide_eq_false hd;have e5:decide (((aoZ f L k).length:Int)>1000)=true:=decide_eq_true (by rw[<-g3]at hn;omega)
  repeat'((conv=>whnf);(first|apply And.intro|(intro h9;first|(have h8:(_:Bool)=false:=h9;exfalso;clear h8;revert h9;subst_vars;intro h9;exact R3 (h9.symm.trans (by assumption)))|(have h8:(_:Bool)=true:=h9;exfalso;clear h8;revert h9;subst_vars;intro h9;exact R6 (h9.symm.trans (by assumption)))|skip)))
  all_goals try(conv=>whnf)
  all_goals try first|exact Tk.mk (by kernel_rfl)|exact Tk.mk (by kernel_rfl)|exact Tk.mk (by kernel_rfl)|exact Tk.mk (by kernel_rfl)|exact Tk.mk (by kernel_rfl)|exact Tk.mk (by kernel_rfl)|exact Tk.mk (by kernel_rfl)|exact⟨Nat.le_of_ble_eq_true rfl⟩|exact⟨rfl⟩|exact⟨trivial⟩
  all_goals subst_vars
  all_goals try first|rfl|contradiction|(refine Ob.mk ?_;simp only[ag,ak,aa.ae];omega)|(refine Ob.mk ?_;(try simp only[aa.ae]);(try dsimp only);omega)
  all_goals try first|exact⟨hL⟩|exact⟨hB⟩
 ·have hn:=of_decide_eq_true hd;have e5:decide (((aoZ f L k).length:Int)>1000)=false:=decide_eq_false (by rw[<-g3]at hn;omega)
  have e6:decide (y7 f L k.toNat=aoZ f L k)=true:=decide_eq_true (g2 (g3.2 hn));repeat'((conv=>whnf);(first|apply And.intro|(intro h9;first|(have h8:(_:Bool)=false:=h9;exfalso;clear h8;revert h9;subst_vars;intro h9;exact R3 (h9.symm.trans (by assumption)))|(have h8:(_:Bool)=true:=h9;exfalso;clear h8;revert h9;subst_vars;intro h9;exact R6 (h9.symm.trans (by assumption)))|skip)))
  all_goals try(conv=>whnf)
  all_goals try first|exact Tk.mk (by kernel_rfl)|exact Tk.mk (by kernel_rfl)|exact Tk.mk (by kernel_rfl)|exact Tk.mk (by kernel_rfl)|exact Tk.mk (by kernel_rfl)|exact Tk.mk (by kernel_rfl)|exact Tk.mk (by kernel_rfl)|exact⟨Nat.le_of_ble_eq_true rfl⟩|exact⟨rfl⟩|exact⟨trivial⟩
  all_goals subst_vars
  all_goals try first|rfl|contradiction|(refine Ob.mk ?_;simp only[ag,ak,aa.ae];omega)|(refine Ob.mk ?_;(try simp only[aa.ae]);(try dsimp only);omega)
  all_goals try first|trivial|exact⟨hL⟩|exact⟨hB⟩|exact⟨by show(y7 f L k.toNat).length<=1000000;omega⟩)
end Go.Proofs.Ytccnimhgjjnmoaa
end
