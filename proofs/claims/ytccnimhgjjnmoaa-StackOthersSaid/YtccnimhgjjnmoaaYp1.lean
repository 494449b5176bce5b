/-
  Texts of the claims: Yp1. No condition: lemmas and contracts.
-/
import Derived.Test.YtccnimhgjjnmoaaYk10
import Derived.Test.YtccnimhgjjnmoaaPl1
set_option linter.all false
set_option maxRecDepth 100000
set_option maxHeartbeats 40000000
section
namespace Go.Proofs.Ytccnimhgjjnmoaa
open Go Go.Sy Go.dg
variable {Γ:bn}
noncomputable def aDX:List (Nat×au):=[(20,Df),(21,tC),(23,aoh),(37,anI)]
theorem aC4:aR Try.prog Γ aDX:=((((aR.nil.cons (aj Try.func37 rfl rfl).fn ao8).cons (aj Try.func23 rfl rfl).fn arN).cons (aj Try.func21 rfl rfl).fn sW).cons (aj Try.func20 rfl rfl).fn EJ)
theorem aDi {m:Int}:∀ {L:List Bk} (_:∀ b∈L,0<=b.2/\b.2<=m),0<=aCc L/\aCc L<=L.length*m
 |[],_=>by simp[aCc]
 |b::L,h=>by
  have h1:=h b (List.mem_cons_self ..);have h2:=aDi (L:=L) (m:=m) fun x hx=>h x (List.mem_cons_of_mem _ hx)
  unfold aCc;rw[List.length_cons];have:((L.length+1:Nat):Int)*m=L.length*m+m:=by push_cast;rw[Int.add_mul,Int.one_mul]
  omega
theorem aCm {L:List Bk} (hB:gb L) (i:Nat):0<=aCc (L.take i)/\aCc (L.take i)<=1152921504606846976:=by
 have hm:∀ b∈L.take i,0<=b.2/\b.2<=56294995342131:=fun b hb=>by
  have:=hB.bk b (List.mem_of_mem_take hb);simp only[alB,aQ,Bool.and_eq_true,decide_eq_true_eq]at this;omega
 have h:=aDi hm;have h1:(L.take i).length<=20:=by rw[List.length_take];have:=hB.Kg;omega
 have h2:((L.take i).length:Int)*56294995342131<=20*56294995342131:=Int.mul_le_mul_of_nonneg_right (by omega) (by omega)
 omega
theorem aDO (L:List Bk):(0:Int)=aCc (L.take 0):=rfl
attribute [local irreducible] alg bf ck kG aCc
abbrev aCj (L:List Bk) (l t:Int):Int:=if bf L l t 0=0 then kG 0 (l-t+0) (l+t+0) L else 0
theorem aCA {L:List Bk} {l t:Int} (h12:L.length<=12) (h:(bf L l t 0!=0)=false):aCj L l t=kG 0 (l-t+0) (l+t+0) L/\0<=aCj L l t/\aCj L l t<=4096:=by
 have h0:bf L l t 0=0:=by simpa using h
 obtain⟨hB,hw⟩:=gg h0;obtain⟨hl,ht,hf⟩:=wE hw;have e:aCj L l t=kG 0 (l-t+0) (l+t+0) L:=if_pos h0;have h1:=alD (f:=0) (l:=l) (t:=t) L (by omega)
 have h2:=awR l t 0 L;have h3:=azf h12;refine⟨e,?_,?_⟩<;>rw[e,h1]<;>omega
theorem aDC {L:List Bk} {l t x:Int} (h12:L.length<=12) (hx:x=aCc L) (h1:(bf L l t 0!=0)=false) (h2:(bf L (x-l) t 0!=0)=false):aCj L l t+(if l<=t then 1 else 0)=aCj L (x-l) t+(if x-l<=t then 1 else 0):=by
 subst hx;rw[(aCA h12 h1).1,(aCA h12 h2).1,aCH,aCH,aC9]
def aDJ:au:=anQ (fun _ l _ _=>[(aa.of (-1152921504606846976<=l/\l<=1152921504606846976))]) (fun _ _ _ _=>bl true)
theorem aDl:au.Ok Try.prog Γ 9 aDJ:=alq (d:=0) (aP aC4 bq.nil false 0) (aj Try.func9 rfl rfl) (fun _ _ _ _=>rfl) (by
 intro L l t f ⟨hl,_⟩;simp only[aa.ae]at hl;cases hs:alg L
 ·have w0:(!alg L)=true:=by rw[hs];rfl
  repeat'((conv=>whnf);(first|apply And.intro|(intro h9;first|(have h8:(_:Bool)=false:=h9;exfalso;clear h8;revert h9;subst_vars;intro h9;exact R3 (h9.symm.trans (by assumption)))|(have h8:(_:Bool)=true:=h9;exfalso;clear h8;revert h9;subst_vars;intro h9;exact R6 (h9.symm.trans (by assumption)))|skip)))
  all_goals try(conv=>whnf)
  all_goals try first|exact Tk.mk (by kernel_rfl)|exact Tk.mk (by kernel_rfl)|exact Tk.mk (by kernel_rfl)|exact Tk.mk (by kernel_rfl)|exact Tk.mk (by kernel_rfl)|exact Tk.mk (by kernel_rfl)|exact Tk.mk (by kernel_rfl)|exact⟨Nat.le_of_ble_eq_true rfl⟩|exact⟨rfl⟩|exact⟨trivial⟩
  all_goals subst_vars
  all_goals try first|rfl|contradiction|(refine Ob.mk ?_;simp only[ag,ak,aa.ae];omega)|(refine Ob.mk ?_;(try simp only[aa.ae]);(try dsimp only);omega)
 have hL:=ayO hs;have w0:(!alg L)=false:=by rw[hs];rfl
 cases ago:(f !=0);rotate_left
 ·repeat'((conv=>whnf);(first|apply And.intro|(intro h9;first|(have h8:(_:Bool)=false:=h9;exfalso;clear h8;revert h9;subst_vars;intro h9;exact R3 (h9.symm.trans (by assumption)))|(have h8:(_:Bool)=true:=h9;exfalso;clear h8;revert h9;subst_vars;intro h9;exact R6 (h9.symm.trans (by assumption)))|skip)))
  all_goals try(conv=>whnf)
  all_goals try first|exact Tk.mk (by kernel_rfl)|exact Tk.mk (by kernel_rfl)|exact Tk.mk (by kernel_rfl)|exact Tk.mk (by kernel_rfl)|exact Tk.mk (by kernel_rfl)|exact Tk.mk (by kernel_rfl)|exact Tk.mk (by kernel_rfl)|exact⟨Nat.le_of_ble_eq_true rfl⟩|exact⟨rfl⟩|exact⟨trivial⟩
  all_goals subst_vars
  all_goals try first|rfl|contradiction|(refine Ob.mk ?_;simp only[ag,ak,aa.ae];omega)|(refine Ob.mk ?_;(try simp only[aa.ae]);(try dsimp only);omega)
 obtain rfl:f=0:=by simpa using ago
 cases he:((ck L).1!=0);rotate_left
 ·repeat'((conv=>whnf);(first|apply And.intro|(intro h9;first|(have h8:(_:Bool)=false:=h9;exfalso;clear h8;revert h9;subst_vars;intro h9;exact R3 (h9.symm.trans (by assumption)))|(have h8:(_:Bool)=true:=h9;exfalso;clear h8;revert h9;subst_vars;intro h9;exact R6 (h9.symm.trans (by assumption)))|skip)))
  all_goals try(conv=>whnf)
  all_goals try first|exact Tk.mk (by kernel_rfl)|exact Tk.mk (by kernel_rfl)|exact Tk.mk (by kernel_rfl)|exact Tk.mk (by kernel_rfl)|exact Tk.mk (by kernel_rfl)|exact Tk.mk (by kernel_rfl)|exact Tk.mk (by kernel_rfl)|exact⟨Nat.le_of_ble_eq_true rfl⟩|exact⟨rfl⟩|exact⟨trivial⟩
  all_goals subst_vars
  all_goals try first|rfl|contradiction|(refine Ob.mk ?_;simp only[ag,ak,aa.ae];omega)|(refine Ob.mk ?_;(try simp only[aa.ae]);(try dsimp only);omega)
  all_goals try first|exact⟨hL⟩
 have hB:gb L:=amq (by simpa using he)
 have h12:=ayN hs hB;repeat'((conv=>whnf);(first|apply And.intro|(intro h9;first|(have h8:(_:Bool)=false:=h9;exfalso;clear h8;revert h9;subst_vars;intro h9;exact R3 (h9.symm.trans (by assumption)))|(have h8:(_:Bool)=true:=h9;exfalso;clear h8;revert h9;subst_vars;intro h9;exact R6 (h9.symm.trans (by assumption)))|skip)))
 all_goals try(conv=>whnf)
 all_goals try first|exact Tk.mk (by kernel_rfl)|exact Tk.mk (by kernel_rfl)|exact Tk.mk (by kernel_rfl)|exact Tk.mk (by kernel_rfl)|exact Tk.mk (by kernel_rfl)|exact Tk.mk (by kernel_rfl)|exact Tk.mk (by kernel_rfl)|exact⟨Nat.le_of_ble_eq_true rfl⟩|exact⟨rfl⟩|exact⟨trivial⟩
 all_goals subst_vars
 all_goals try first|rfl|contradiction|(refine Ob.mk ?_;simp only[ag,ak,aa.ae];omega)|(refine Ob.mk ?_;(try simp only[aa.ae]);(try dsimp only);omega)
 all_goals try first|exact⟨hL⟩
 refine⟨Nat,fun i=>i<=L.length,fun i=>⟨aI 85 [0,3,5,6] [.a (.sl 0 [] 0 L.length),.a (.p 1 [] 0 0),.a (vI (aCc (L.take i))),.a (vI i)],[],[.arr 67 kK L false false,.box true [vI l,vI t,vI 0]]⟩,fun i=>L.length-i,0,[0,1],Nat.zero_le _,?_,?_⟩
 ·repeat'((conv=>whnf);(first|apply And.intro|intro _))
  all_goals first|rfl|trivial|exact Nat.le_of_ble_eq_true rfl|exact⟨rfl,rfl,rfl⟩|exact⟨rfl,rfl,rfl,rfl⟩|exact⟨rfl,rfl⟩|exact⟨rfl,rfl,rfl,rfl,rfl⟩|(rename_i bx;obtain rfl:=List.mem_singleton.1 bx;exact Nat.le_of_ble_eq_true rfl)|exact aDO L
 intro i hi;by_cases hi1:i<L.length
 ·have q0:decide ((i:Int)<(L.length:Int))=true:=decide_eq_true (by omega)
  have hst:=aCJ hi1;have apZ:aCc (L.take i)+(bk L (0+Int.toNat (i:Int))).2=aCc (L.take (i+1)):=by rw[Nat.zero_add,Int.toNat_natCast];exact hst.symm
  have b1:=aCm hB i;have b2:=aCm hB (i+1);have b3:-9223372036854775808<=aCc (L.take i)+(bk L (0+Int.toNat (i:Int))).2:=by rw[Nat.zero_add,Int.toNat_natCast];omega
  have b4:aCc (L.take i)+(bk L (0+Int.toNat (i:Int))).2<=9223372036854775807:=by rw[Nat.zero_add,Int.toNat_natCast];omega
  repeat'((conv=>whnf);(first|apply And.intro|(intro h9;first|(have h8:(_:Bool)=false:=h9;exfalso;clear h8;revert h9;subst_vars;intro h9;exact R3 (h9.symm.trans (by assumption)))|(have h8:(_:Bool)=true:=h9;exfalso;clear h8;revert h9;subst_vars;intro h9;exact R6 (h9.symm.trans (by assumption)))|skip)))
  all_goals try(conv=>whnf)
  all_goals try first|exact Tk.mk (by kernel_rfl)|exact Tk.mk (by kernel_rfl)|exact Tk.mk (by kernel_rfl)|exact Tk.mk (by kernel_rfl)|exact Tk.mk (by kernel_rfl)|exact Tk.mk (by kernel_rfl)|exact Tk.mk (by kernel_rfl)|exact⟨Nat.le_of_ble_eq_true rfl⟩|exact⟨rfl⟩|exact⟨trivial⟩
  all_goals subst_vars
  all_goals try first|rfl|contradiction|(refine Ob.mk ?_;simp only[ag,ak,aa.ae];omega)|(refine Ob.mk ?_;(try simp only[aa.ae]);(try dsimp only);omega)
  all_goals try first|exact⟨show 0+Int.toNat (i:Int)<L.length by omega⟩|exact⟨⟨b3,b4⟩⟩
  refine⟨i+1,[0,1],hi1,?_,by show L.length-(i+1)<L.length-i;omega⟩
  repeat'((conv=>whnf);(first|apply And.intro|intro _))
  all_goals first|rfl|trivial|exact Nat.le_of_ble_eq_true rfl|exact⟨rfl,rfl,rfl⟩|exact⟨rfl,rfl,rfl,rfl⟩|exact⟨rfl,rfl⟩|exact⟨rfl,rfl,rfl,rfl,rfl⟩|(rename_i bx;obtain rfl:=List.mem_singleton.1 bx;exact Nat.le_of_ble_eq_true rfl)|exact hst.symm|exact apZ
 have q0:decide ((i:Int)<(L.length:Int))=false:=decide_eq_false (by omega)
 have b1:=aCm hB i;have lR:aCc (L.take i)=aCc L:=by rw[List.take_of_length_le (by omega)]
 cases e1:(bf L l t 0!=0);rotate_left
 ·repeat'((conv=>whnf);(first|apply And.intro|(intro h9;first|(have h8:(_:Bool)=false:=h9;exfalso;clear h8;revert h9;subst_vars;intro h9;exact R3 (h9.symm.trans (by assumption)))|(have h8:(_:Bool)=true:=h9;exfalso;clear h8;revert h9;subst_vars;intro h9;exact R6 (h9.symm.trans (by assumption)))|skip)))
  all_goals try(conv=>whnf)
  all_goals try first|exact Tk.mk (by kernel_rfl)|exact Tk.mk (by kernel_rfl)|exact Tk.mk (by kernel_rfl)|exact Tk.mk (by kernel_rfl)|exact Tk.mk (by kernel_rfl)|exact Tk.mk (by kernel_rfl)|exact Tk.mk (by kernel_rfl)|exact⟨Nat.le_of_ble_eq_true rfl⟩|exact⟨rfl⟩|exact⟨trivial⟩
  all_goals subst_vars
  all_goals try first|rfl|contradiction|(refine Ob.mk ?_;simp only[ag,ak,aa.ae];omega)|(refine Ob.mk ?_;(try simp only[aa.ae]);(try dsimp only);omega)
  all_goals try first|exact⟨hL⟩
 cases e2:(bf L (aCc (L.take i)-l) t 0!=0);rotate_left
 ·repeat'((conv=>whnf);(first|apply And.intro|(intro h9;first|(have h8:(_:Bool)=false:=h9;exfalso;clear h8;revert h9;subst_vars;intro h9;exact R3 (h9.symm.trans (by assumption)))|(have h8:(_:Bool)=true:=h9;exfalso;clear h8;revert h9;subst_vars;intro h9;exact R6 (h9.symm.trans (by assumption)))|skip)))
  all_goals try(conv=>whnf)
  all_goals try first|exact Tk.mk (by kernel_rfl)|exact Tk.mk (by kernel_rfl)|exact Tk.mk (by kernel_rfl)|exact Tk.mk (by kernel_rfl)|exact Tk.mk (by kernel_rfl)|exact Tk.mk (by kernel_rfl)|exact Tk.mk (by kernel_rfl)|exact⟨Nat.le_of_ble_eq_true rfl⟩|exact⟨rfl⟩|exact⟨trivial⟩
  all_goals subst_vars
  all_goals try first|rfl|contradiction|(refine Ob.mk ?_;simp only[ag,ak,aa.ae];omega)|(refine Ob.mk ?_;(try simp only[aa.ae]);(try dsimp only);omega)
  all_goals try first|exact⟨hL⟩
 have hq:=aDC h12 lR e1 e2;obtain⟨-,u1,u2⟩:=aCA h12 e1;obtain⟨-,v1,v2⟩:=aCA h12 e2;by_cases k1:l<=t
 ·have m1:decide (l<=t)=true:=decide_eq_true k1;rw[if_pos k1]at hq;by_cases k2:aCc (L.take i)-l<=t
  ·have m2:decide (aCc (L.take i)-l<=t)=true:=decide_eq_true k2;rw[if_pos k2]at hq;have q:(aCj L l t+1==aCj L (aCc (L.take i)-l) t+1)=true:=beq_iff_eq.2 hq;repeat'((conv=>whnf);(first|apply And.intro|(intro h9;first|(have h8:(_:Bool)=false:=h9;exfalso;clear h8;revert h9;subst_vars;intro h9;exact R3 (h9.symm.trans (by assumption)))|(have h8:(_:Bool)=true:=h9;exfalso;clear h8;revert h9;subst_vars;intro h9;exact R6 (h9.symm.trans (by assumption)))|skip)))
   all_goals try(conv=>whnf)
   all_goals try first|exact Tk.mk (by kernel_rfl)|exact Tk.mk (by kernel_rfl)|exact Tk.mk (by kernel_rfl)|exact Tk.mk (by kernel_rfl)|exact Tk.mk (by kernel_rfl)|exact Tk.mk (by kernel_rfl)|exact Tk.mk (by kernel_rfl)|exact⟨Nat.le_of_ble_eq_true rfl⟩|exact⟨rfl⟩|exact⟨trivial⟩
   all_goals subst_vars
   all_goals try first|rfl|contradiction|(refine Ob.mk ?_;simp only[ag,ak,aa.ae];omega)|(refine Ob.mk ?_;(try simp only[aa.ae]);(try dsimp only);omega)
   all_goals try first|trivial|exact⟨hL⟩|(refine Ob.mk ?_;show(ag .i64 (aCj L l t+1)).p;simp only[ag,ak,aa.ae];omega)|(refine Ob.mk ?_;show(ag .i64 (aCj L (aCc (L.take i)-l) t+1)).p;simp only[ag,ak,aa.ae];omega)
  ·have m2:decide (aCc (L.take i)-l<=t)=false:=decide_eq_false k2;rw[if_neg k2,Int.add_zero]at hq;have q:(aCj L l t+1==aCj L (aCc (L.take i)-l) t)=true:=beq_iff_eq.2 hq;repeat'((conv=>whnf);(first|apply And.intro|(intro h9;first|(have h8:(_:Bool)=false:=h9;exfalso;clear h8;revert h9;subst_vars;intro h9;exact R3 (h9.symm.trans (by assumption)))|(have h8:(_:Bool)=true:=h9;exfalso;clear h8;revert h9;subst_vars;intro h9;exact R6 (h9.symm.trans (by assumption)))|skip)))
   all_goals try(conv=>whnf)
   all_goals try first|exact Tk.mk (by kernel_rfl)|exact Tk.mk (by kernel_rfl)|exact Tk.mk (by kernel_rfl)|exact Tk.mk (by kernel_rfl)|exact Tk.mk (by kernel_rfl)|exact Tk.mk (by kernel_rfl)|exact Tk.mk (by kernel_rfl)|exact⟨Nat.le_of_ble_eq_true rfl⟩|exact⟨rfl⟩|exact⟨trivial⟩
   all_goals subst_vars
   all_goals try first|rfl|contradiction|(refine Ob.mk ?_;simp only[ag,ak,aa.ae];omega)|(refine Ob.mk ?_;(try simp only[aa.ae]);(try dsimp only);omega)
   all_goals try first|trivial|exact⟨hL⟩|(refine Ob.mk ?_;show(ag .i64 (aCj L l t+1)).p;simp only[ag,ak,aa.ae];omega)
 ·have m1:decide (l<=t)=false:=decide_eq_false k1;rw[if_neg k1,Int.add_zero]at hq;by_cases k2:aCc (L.take i)-l<=t
  ·have m2:decide (aCc (L.take i)-l<=t)=true:=decide_eq_true k2;rw[if_pos k2]at hq;have q:(aCj L l t==aCj L (aCc (L.take i)-l) t+1)=true:=beq_iff_eq.2 hq;repeat'((conv=>whnf);(first|apply And.intro|(intro h9;first|(have h8:(_:Bool)=false:=h9;exfalso;clear h8;revert h9;subst_vars;intro h9;exact R3 (h9.symm.trans (by assumption)))|(have h8:(_:Bool)=true:=h9;exfalso;clear h8;revert h9;subst_vars;intro h9;exact R6 (h9.symm.trans (by assumption)))|skip)))
   all_goals try(conv=>whnf)
   all_goals try first|exact Tk.mk (by kernel_rfl)|exact Tk.mk (by kernel_rfl)|exact Tk.mk (by kernel_rfl)|exact Tk.mk (by kernel_rfl)|exact Tk.mk (by kernel_rfl)|exact Tk.mk (by kernel_rfl)|exact Tk.mk (by kernel_rfl)|exact⟨Nat.le_of_ble_eq_true rfl⟩|exact⟨rfl⟩|exact⟨trivial⟩
   all_goals subst_vars
   all_goals try first|rfl|contradiction|(refine Ob.mk ?_;simp only[ag,ak,aa.ae];omega)|(refine Ob.mk ?_;(try simp only[aa.ae]);(try dsimp only);omega)
   all_goals try first|trivial|exact⟨hL⟩|(refine Ob.mk ?_;show(ag .i64 (aCj L (aCc (L.take i)-l) t+1)).p;simp only[ag,ak,aa.ae];omega)
  ·have m2:decide (aCc (L.take i)-l<=t)=false:=decide_eq_false k2;rw[if_neg k2,Int.add_zero]at hq;have q:(aCj L l t==aCj L (aCc (L.take i)-l) t)=true:=beq_iff_eq.2 hq;repeat'((conv=>whnf);(first|apply And.intro|(intro h9;first|(have h8:(_:Bool)=false:=h9;exfalso;clear h8;revert h9;subst_vars;intro h9;exact R3 (h9.symm.trans (by assumption)))|(have h8:(_:Bool)=true:=h9;exfalso;clear h8;revert h9;subst_vars;intro h9;exact R6 (h9.symm.trans (by assumption)))|skip)))
   all_goals try(conv=>whnf)
   all_goals try first|exact Tk.mk (by kernel_rfl)|exact Tk.mk (by kernel_rfl)|exact Tk.mk (by kernel_rfl)|exact Tk.mk (by kernel_rfl)|exact Tk.mk (by kernel_rfl)|exact Tk.mk (by kernel_rfl)|exact Tk.mk (by kernel_rfl)|exact⟨Nat.le_of_ble_eq_true rfl⟩|exact⟨rfl⟩|exact⟨trivial⟩
   all_goals subst_vars
   all_goals try first|rfl|contradiction|(refine Ob.mk ?_;simp only[ag,ak,aa.ae];omega)|(refine Ob.mk ?_;(try simp only[aa.ae]);(try dsimp only);omega)
   all_goals try first|trivial|exact⟨hL⟩)
end Go.Proofs.Ytccnimhgjjnmoaa
end
section
namespace Go.Proofs.Ytccnimhgjjnmoaa
open Go Go.Sy Go.dg
variable {Γ:bn}
theorem _root_.Go.Sy.aL.aDD {E:Env} (h:aL Try.prog Γ E):aL Try.prog Γ {E with exact:=false}:=⟨h.mixed,h.fn,h.inl,{h.env with}⟩
attribute [local irreducible] alg bf ck kG aCc
def aDK:au:=anQ (fun _ l _ _=>[(aa.of (l< -1152921504606846976\/1152921504606846976<l))]) (fun _ _ _ _=>bl true)
theorem aDm:au.Ok Try.prog Γ 9 aDK:=alq (d:=0) (aL.aDD (aP aC4 bq.nil false 0)) (aj Try.func9 rfl rfl) (fun _ _ _ _=>rfl) (by
 intro L l t f ⟨hl,_⟩;simp only[aa.ae]at hl;cases hs:alg L
 ·have w0:(!alg L)=true:=by rw[hs];rfl
  repeat'((conv=>whnf);(first|apply And.intro|(intro h9;first|(have h8:(_:Bool)=false:=h9;exfalso;clear h8;revert h9;subst_vars;intro h9;exact R3 (h9.symm.trans (by assumption)))|(have h8:(_:Bool)=true:=h9;exfalso;clear h8;revert h9;subst_vars;intro h9;exact R6 (h9.symm.trans (by assumption)))|skip)))
  all_goals try(conv=>whnf)
  all_goals try first|exact Tk.mk (by kernel_rfl)|exact Tk.mk (by kernel_rfl)|exact Tk.mk (by kernel_rfl)|exact Tk.mk (by kernel_rfl)|exact Tk.mk (by kernel_rfl)|exact Tk.mk (by kernel_rfl)|exact Tk.mk (by kernel_rfl)|exact⟨Nat.le_of_ble_eq_true rfl⟩|exact⟨rfl⟩|exact⟨trivial⟩
  all_goals subst_vars
  all_goals try first|rfl|contradiction|(refine Ob.mk ?_;simp only[ag,ak,aa.ae];omega)|(refine Ob.mk ?_;(try simp only[aa.ae]);(try dsimp only);omega)
 have hL:=ayO hs;have w0:(!alg L)=false:=by rw[hs];rfl
 cases ago:(f !=0);rotate_left
 ·repeat'((conv=>whnf);(first|apply And.intro|(intro h9;first|(have h8:(_:Bool)=false:=h9;exfalso;clear h8;revert h9;subst_vars;intro h9;exact R3 (h9.symm.trans (by assumption)))|(have h8:(_:Bool)=true:=h9;exfalso;clear h8;revert h9;subst_vars;intro h9;exact R6 (h9.symm.trans (by assumption)))|skip)))
  all_goals try(conv=>whnf)
  all_goals try first|exact Tk.mk (by kernel_rfl)|exact Tk.mk (by kernel_rfl)|exact Tk.mk (by kernel_rfl)|exact Tk.mk (by kernel_rfl)|exact Tk.mk (by kernel_rfl)|exact Tk.mk (by kernel_rfl)|exact Tk.mk (by kernel_rfl)|exact⟨Nat.le_of_ble_eq_true rfl⟩|exact⟨rfl⟩|exact⟨trivial⟩
  all_goals subst_vars
  all_goals try first|rfl|contradiction|(refine Ob.mk ?_;simp only[ag,ak,aa.ae];omega)|(refine Ob.mk ?_;(try simp only[aa.ae]);(try dsimp only);omega)
 obtain rfl:f=0:=by simpa using ago
 cases he:((ck L).1!=0);rotate_left
 ·repeat'((conv=>whnf);(first|apply And.intro|(intro h9;first|(have h8:(_:Bool)=false:=h9;exfalso;clear h8;revert h9;subst_vars;intro h9;exact R3 (h9.symm.trans (by assumption)))|(have h8:(_:Bool)=true:=h9;exfalso;clear h8;revert h9;subst_vars;intro h9;exact R6 (h9.symm.trans (by assumption)))|skip)))
  all_goals try(conv=>whnf)
  all_goals try first|exact Tk.mk (by kernel_rfl)|exact Tk.mk (by kernel_rfl)|exact Tk.mk (by kernel_rfl)|exact Tk.mk (by kernel_rfl)|exact Tk.mk (by kernel_rfl)|exact Tk.mk (by kernel_rfl)|exact Tk.mk (by kernel_rfl)|exact⟨Nat.le_of_ble_eq_true rfl⟩|exact⟨rfl⟩|exact⟨trivial⟩
  all_goals subst_vars
  all_goals try first|rfl|contradiction|(refine Ob.mk ?_;simp only[ag,ak,aa.ae];omega)|(refine Ob.mk ?_;(try simp only[aa.ae]);(try dsimp only);omega)
  all_goals try first|exact⟨hL⟩
 have hB:gb L:=amq (by simpa using he)
 have h12:=ayN hs hB;repeat'((conv=>whnf);(first|apply And.intro|(intro h9;first|(have h8:(_:Bool)=false:=h9;exfalso;clear h8;revert h9;subst_vars;intro h9;exact R3 (h9.symm.trans (by assumption)))|(have h8:(_:Bool)=true:=h9;exfalso;clear h8;revert h9;subst_vars;intro h9;exact R6 (h9.symm.trans (by assumption)))|skip)))
 all_goals try(conv=>whnf)
 all_goals try first|exact Tk.mk (by kernel_rfl)|exact Tk.mk (by kernel_rfl)|exact Tk.mk (by kernel_rfl)|exact Tk.mk (by kernel_rfl)|exact Tk.mk (by kernel_rfl)|exact Tk.mk (by kernel_rfl)|exact Tk.mk (by kernel_rfl)|exact⟨Nat.le_of_ble_eq_true rfl⟩|exact⟨rfl⟩|exact⟨trivial⟩
 all_goals subst_vars
 all_goals try first|rfl|contradiction|(refine Ob.mk ?_;simp only[ag,ak,aa.ae];omega)|(refine Ob.mk ?_;(try simp only[aa.ae]);(try dsimp only);omega)
 all_goals try first|exact⟨hL⟩
 refine⟨Nat,fun i=>i<=L.length,fun i=>⟨aI 85 [0,3,5,6] [.a (.sl 0 [] 0 L.length),.a (.p 1 [] 0 0),.a (vI (aCc (L.take i))),.a (vI i)],[],[.arr 67 kK L false false,.box true [vI l,vI t,vI 0]]⟩,fun i=>L.length-i,0,[0,1],Nat.zero_le _,?_,?_⟩
 ·repeat'((conv=>whnf);(first|apply And.intro|intro _))
  all_goals first|rfl|trivial|exact Nat.le_of_ble_eq_true rfl|exact⟨rfl,rfl,rfl⟩|exact⟨rfl,rfl,rfl,rfl⟩|exact⟨rfl,rfl⟩|exact⟨rfl,rfl,rfl,rfl,rfl⟩|(rename_i bx;obtain rfl:=List.mem_singleton.1 bx;exact Nat.le_of_ble_eq_true rfl)|exact aDO L
 intro i hi;by_cases hi1:i<L.length
 ·have q0:decide ((i:Int)<(L.length:Int))=true:=decide_eq_true (by omega)
  have hst:=aCJ hi1;have apZ:aCc (L.take i)+(bk L (0+Int.toNat (i:Int))).2=aCc (L.take (i+1)):=by rw[Nat.zero_add,Int.toNat_natCast];exact hst.symm
  have aDR:IntKind.i64.wrap ((i:Int)+1)=((i+1:Nat):Int):=by rw[Je (by simp only[ak];omega)];rfl
  have b1:=aCm hB i;have b2:=aCm hB (i+1);have b3:-9223372036854775808<=aCc (L.take i)+(bk L (0+Int.toNat (i:Int))).2:=by rw[Nat.zero_add,Int.toNat_natCast];omega
  have b4:aCc (L.take i)+(bk L (0+Int.toNat (i:Int))).2<=9223372036854775807:=by rw[Nat.zero_add,Int.toNat_natCast];omega
  have aDQ:IntKind.i64.wrap (aCc (L.take i)+(bk L (0+Int.toNat (i:Int))).2)=aCc (L.take (i+1)):=by rw[Je (by simp only[ak];exact⟨b3,b4⟩)];exact apZ
  repeat'((conv=>whnf);(first|apply And.intro|(intro h9;first|(have h8:(_:Bool)=false:=h9;exfalso;clear h8;revert h9;subst_vars;intro h9;exact R3 (h9.symm.trans (by assumption)))|(have h8:(_:Bool)=true:=h9;exfalso;clear h8;revert h9;subst_vars;intro h9;exact R6 (h9.symm.trans (by assumption)))|skip)))
  all_goals try(conv=>whnf)
  all_goals try first|exact Tk.mk (by kernel_rfl)|exact Tk.mk (by kernel_rfl)|exact Tk.mk (by kernel_rfl)|exact Tk.mk (by kernel_rfl)|exact Tk.mk (by kernel_rfl)|exact Tk.mk (by kernel_rfl)|exact Tk.mk (by kernel_rfl)|exact⟨Nat.le_of_ble_eq_true rfl⟩|exact⟨rfl⟩|exact⟨trivial⟩
  all_goals subst_vars
  all_goals try first|rfl|contradiction|(refine Ob.mk ?_;simp only[ag,ak,aa.ae];omega)|(refine Ob.mk ?_;(try simp only[aa.ae]);(try dsimp only);omega)
  all_goals try first|exact⟨show 0+Int.toNat (i:Int)<L.length by omega⟩
  refine⟨i+1,[0,1],hi1,?_,by show L.length-(i+1)<L.length-i;omega⟩
  repeat'((conv=>whnf);(first|apply And.intro|intro _))
  all_goals first|rfl|trivial|exact Nat.le_of_ble_eq_true rfl|exact⟨rfl,rfl,rfl⟩|exact⟨rfl,rfl,rfl,rfl⟩|exact⟨rfl,rfl⟩|exact⟨rfl,rfl,rfl,rfl,rfl⟩|(rename_i bx;obtain rfl:=List.mem_singleton.1 bx;exact Nat.le_of_ble_eq_true rfl)|exact hst.symm|exact apZ|exact aDQ|exact aDR
 have q0:decide ((i:Int)<(L.length:Int))=false:=decide_eq_false (by omega)
 have b1:=aCm hB i;have lR:aCc (L.take i)=aCc L:=by rw[List.take_of_length_le (by omega)]
 have e1:(bf L l t 0!=0)=true:=by
  rw[bne_iff_ne];intro h;obtain⟨-,hw⟩:=gg h;have:=(wE hw).1;omega
 repeat'((conv=>whnf);(first|apply And.intro|(intro h9;first|(have h8:(_:Bool)=false:=h9;exfalso;clear h8;revert h9;subst_vars;intro h9;exact R3 (h9.symm.trans (by assumption)))|(have h8:(_:Bool)=true:=h9;exfalso;clear h8;revert h9;subst_vars;intro h9;exact R6 (h9.symm.trans (by assumption)))|skip)))
 all_goals try(conv=>whnf)
 all_goals try first|exact Tk.mk (by kernel_rfl)|exact Tk.mk (by kernel_rfl)|exact Tk.mk (by kernel_rfl)|exact Tk.mk (by kernel_rfl)|exact Tk.mk (by kernel_rfl)|exact Tk.mk (by kernel_rfl)|exact Tk.mk (by kernel_rfl)|exact⟨Nat.le_of_ble_eq_true rfl⟩|exact⟨rfl⟩|exact⟨trivial⟩
 all_goals subst_vars
 all_goals try first|rfl|contradiction|(refine Ob.mk ?_;simp only[ag,ak,aa.ae];omega)|(refine Ob.mk ?_;(try simp only[aa.ae]);(try dsimp only);omega)
 all_goals try first|exact⟨hL⟩)
end Go.Proofs.Ytccnimhgjjnmoaa
end
section
namespace Go.Proofs.Ytccnimhgjjnmoaa
open Go Go.Sy Go.dg
variable {Γ:bn}
def aCK:au:=anQ (fun _ _ _ _=>[]) (fun _ _ _ _=>bl true)
theorem aDa {f:FuncId} {P:Int->Prop} {Q:Int->Prop} {F:List Bk->Int->Int->Int->Tm} [DecidablePred P] [DecidablePred Q] (hpq:∀ l,P l\/Q l) (h1:au.Ok Try.prog Γ f (anQ (fun _ l _ _=>[aa.of (P l)]) F)) (h2:au.Ok Try.prog Γ f (anQ (fun _ l _ _=>[aa.of (Q l)]) F)):au.Ok Try.prog Γ f (anQ (fun _ _ _ _=>[]) F):=by
 intro args rg q t hF hq
 (try unfold anQ at hF)
 (try dsimp only at hF)
 split at hF;next x0 n0 n1 n2=>
  split at hF;next q0 L0 he=>
   obtain⟨rfl,rfl⟩:=Prod.mk.inj (Option.some.inj hF);rw[List.append_nil]at hq;rcases hpq n0 with h|h
   ·exact h1 _ rg (q0++[aa.of (P n0)]) _ (by dsimp only;rw[he]) ((aH _ _).2 ⟨hq,h,trivial⟩)
   ·exact h2 _ rg (q0++[aa.of (Q n0)]) _ (by dsimp only;rw[he]) ((aH _ _).2 ⟨hq,h,trivial⟩)
  next=>cases hF
 next=>cases hF
theorem aCv:au.Ok Try.prog Γ 9 aCK:=aDa (P:=fun l=>-1152921504606846976<=l/\l<=1152921504606846976) (Q:=fun l=>l< -1152921504606846976\/1152921504606846976<l) (fun l=>by omega) aDl aDm
end Go.Proofs.Ytccnimhgjjnmoaa
end
