/-
  Texts of the claims: Ym1. No condition: lemmas and contracts.
-/
import Derived.Test.YtccnimhgjjnmoaaYk10
import Derived.Test.YtccnimhgjjnmoaaPl1
set_option linter.all false
set_option maxRecDepth 100000
set_option maxHeartbeats 40000000
section
namespace Go.Proofs.Ytccnimhgjjnmoaa
open Go Go.Sy Go.dg
variable {Γ:bn}
noncomputable def aDW:List (Nat×au):=[(20,Df),(21,tC),(44,aCQ),(45,arf),(26,anH),(27,aqK),(29,avI),(28,uA)]
theorem aDA:aR Try.prog Γ aDW:=((((((((aR.nil.cons (aj Try.func28 rfl rfl).fn yG).cons (aj Try.func29 rfl rfl).fn auA).cons (aj Try.func27 rfl rfl).fn arO).cons (aj Try.func26 rfl rfl).fn ao7).cons (aj Try.func45 rfl rfl).fn ash).cons (aj Try.func44 rfl rfl).fn aCV).cons (aj Try.func21 rfl rfl).fn sW).cons (aj Try.func20 rfl rfl).fn EJ)
theorem aCY:∀ (l:List Nat) (a:Nat),l.foldl (fun a b=>a &&& b) a<=a
 |[],a=>Nat.le_refl a
 |x::l,a=>Nat.le_trans (aCY l (a &&& x)) Nat.and_le_left
abbrev aCh (L:List Bk) (l t f:Int):List Nat:=(gf l t f L).map Int.toNat
theorem aDb {L:List Bk} {l t f:Int}:∀ x∈aCh L l t f,x<2^L.length:=fun x hx=>by
 obtain⟨z,hz,rfl⟩:=List.mem_map.1 hx;exact(atq l t f L z hz).2
theorem aCM {L:List Bk} {l t f:Int} (h:gf l t f L≠[]) (i:Nat):aCi (aCh L l t f) i<2^L.length:=by
 refine Nat.lt_of_le_of_lt (aCY _ _) ?_;cases hg:gf l t f L with
 |nil=>exact absurd hg h
 |cons z zs=>
  have:=aDb (L:=L) (l:=l) (t:=t) (f:=f) z.toNat (by unfold aCh;rw[hg];exact List.mem_cons_self ..)
  unfold aCh;rw[hg];exact this
theorem aCF {L:List Bk} {l t f:Int} (i:Nat):aCl (aCh L l t f) i<2^L.length:=aDe (fun x hx=>aDb x hx) i
theorem aCs {L:List Bk} {l t f:Int} {i:Nat} (h:i<(gf l t f L).length):(aCh L l t f).getD i 0=(ca (gf l t f L) i).toNat/\0<=ca (gf l t f L) i/\(ca (gf l t f L) i).toNat<2^L.length:=by
 rw[alf h];refine⟨by unfold aCh;rw[List.getD_eq_getElem?_getD,List.getElem?_map,List.getElem?_eq_getElem h];rfl,atq l t f L _ (List.getElem_mem h)⟩
theorem aDH {L:List Bk} {l t f:Int} (h:0<(gf l t f L).length):ca (gf l t f L) 0=(aCi (aCh L l t f) 0:Nat):=by
 have:=aCs (L:=L) (l:=l) (t:=t) (f:=f) h;have e:aCi (aCh L l t f) 0=(aCh L l t f).getD 0 0:=by
  unfold aCi;rw[List.take_zero];show(aCh L l t f).headD 0=_;cases aCh L l t f<;>rfl
 rw[e,this.1];have h2:0<=ca (gf l t f L) 0:=this.2.1;show ca (gf l t f L) 0=(((ca (gf l t f L) 0).toNat:Nat):Int);omega
theorem aDS {L:List Bk} {l t f:Int}:(0:Int)=(aCl (aCh L l t f) 0:Nat):=rfl
theorem aDI {L:List Bk} {l t f:Int} {i:Nat} (h:i<(gf l t f L).length):(((((aCi (aCh L l t f) i:Nat):Int).toNat &&& (ca (gf l t f L) i).toNat:Nat)):Int)=(aCi (aCh L l t f) (i+1):Nat):=by
 rw[aC5 (by simpa using h),(aCs h).1,Int.toNat_natCast]
theorem aDT {L:List Bk} {l t f:Int} {i:Nat} (h:i<(gf l t f L).length):(((((aCl (aCh L l t f) i:Nat):Int).toNat ||| (ca (gf l t f L) i).toNat:Nat)):Int)=(aCl (aCh L l t f) (i+1):Nat):=by
 rw[aDs (by simpa using h),(aCs h).1,Int.toNat_natCast]
theorem aDL {L:List Bk} {l t f:Int} (hh:0<=l+t+f) (h0:gf l t f L≠[]):decide (akS (aCd L l t f) L L.length=eg L (Int.toNat (aCi (aCh L l t f) (gf l t f L).length:Nat)))=true:=decide_eq_true (by
 rw[Int.toNat_natCast,aDr hh h0];rfl)
theorem aDM {L:List Bk} {l t f:Int} (hh:0<=l+t+f):decide (akS (tx L l t f) L L.length=eg L (Int.toNat (1*2^(Int.toNat (L.length:Int))-1-(aCl (aCh L l t f) (gf l t f L).length:Nat))))=true:=decide_eq_true (by
 have h1:=aCF (L:=L) (l:=l) (t:=t) (f:=f) (gf l t f L).length;have h2:(1*2^(Int.toNat (L.length:Int))-1-((aCl (aCh L l t f) (gf l t f L).length:Nat):Int))=((2^L.length-1-aCl (aCh L l t f) (gf l t f L).length:Nat):Int):=by
  rw[Int.toNat_natCast];have:((2^L.length:Nat):Int)=(2:Int)^L.length:=by push_cast;rfl
  omega
 rw[h2,Int.toNat_natCast,aDg hh];rfl)
theorem aDd {L:List Bk} (h:L.length<=12) (q:Nat->Bool):(akS q L L.length).length<=1000000:=by
 unfold akS;rw[List.length_map];exact Nat.le_trans (List.length_filter_le _ _) (by rw[List.length_range];omega)
theorem aDU {L:List Bk} (h:L.length<=12) {u:Nat} (hu:u<2^L.length):(1:Int)<=1*2^(Int.toNat (L.length:Int))/\(1*2^(Int.toNat (L.length:Int)):Int)<=4096/\(u:Int)<1*2^(Int.toNat (L.length:Int)):=by
 rw[Int.toNat_natCast,Int.one_mul];have:((2^L.length:Nat):Int)=(2:Int)^L.length:=by push_cast;rfl
 have:=azf h;have:=Nat.two_pow_pos L.length;omega
attribute [local irreducible] alg bf ck gf eg wN aCd tx aCi aCl akS
def aCP:au:=anQ (fun _ _ _ _=>[]) (fun _ _ _ _=>bl true)
theorem aCy:au.Ok Try.prog Γ 10 aCP:=alq (d:=0) (aP aDA bq.nil false 0) (aj Try.func10 rfl rfl) (fun _ _ _ _=>rfl) (by
 intro L l t f _;have z0:((0:Int)==0)=true:=rfl;have z1:((0:Int)+0==0)=true:=rfl;have z2:((5:Int)!=5)=false:=rfl;have z3:((5:Int)!=0)=true:=rfl;have z4:((0:Int)!=0)=false:=rfl;cases hs:alg L
 ·have w0:(!alg L)=true:=by rw[hs];rfl
  repeat'((conv=>whnf);(first|apply And.intro|(intro h9;first|(have h8:(_:Bool)=false:=h9;exfalso;clear h8;revert h9;subst_vars;intro h9;exact R3 (h9.symm.trans (by assumption)))|(have h8:(_:Bool)=true:=h9;exfalso;clear h8;revert h9;subst_vars;intro h9;exact R6 (h9.symm.trans (by assumption)))|skip)))
  all_goals try(conv=>whnf)
  all_goals try first|exact Tk.mk (by kernel_rfl)|exact Tk.mk (by kernel_rfl)|exact Tk.mk (by kernel_rfl)|exact Tk.mk (by kernel_rfl)|exact Tk.mk (by kernel_rfl)|exact Tk.mk (by kernel_rfl)|exact Tk.mk (by kernel_rfl)|exact⟨Nat.le_of_ble_eq_true rfl⟩|exact⟨rfl⟩|exact⟨trivial⟩
  all_goals subst_vars
  all_goals try first|rfl|contradiction|(refine Ob.mk ?_;simp only[ag,ak,aa.ae];omega)|(refine Ob.mk ?_;(try simp only[aa.ae]);(try dsimp only);omega)
 have hL:=ayO hs;have w0:(!alg L)=false:=by rw[hs];rfl
 cases h0:bf L l t f==0
 ·have a1:(bf L l t f !=0)=true:=by unfold bne;rw[h0];rfl
  have a2:(bf L l t f !=bf L l t f)=false:=bne_self_eq_false _;repeat'((conv=>whnf);(first|apply And.intro|(intro h9;first|(have h8:(_:Bool)=false:=h9;exfalso;clear h8;revert h9;subst_vars;intro h9;exact R3 (h9.symm.trans (by assumption)))|(have h8:(_:Bool)=true:=h9;exfalso;clear h8;revert h9;subst_vars;intro h9;exact R6 (h9.symm.trans (by assumption)))|skip)))
  all_goals try(conv=>whnf)
  all_goals try first|exact Tk.mk (by kernel_rfl)|exact Tk.mk (by kernel_rfl)|exact Tk.mk (by kernel_rfl)|exact Tk.mk (by kernel_rfl)|exact Tk.mk (by kernel_rfl)|exact Tk.mk (by kernel_rfl)|exact Tk.mk (by kernel_rfl)|exact⟨Nat.le_of_ble_eq_true rfl⟩|exact⟨rfl⟩|exact⟨trivial⟩
  all_goals subst_vars
  all_goals try first|rfl|contradiction|(refine Ob.mk ?_;simp only[ag,ak,aa.ae];omega)|(refine Ob.mk ?_;(try simp only[aa.ae]);(try dsimp only);omega)
  all_goals try first|exact⟨hL⟩
 have ha:=eq_of_beq h0;obtain⟨hB,hw⟩:=gg ha;obtain⟨hl,ht,hf⟩:=wE hw;have h12:=ayN hs hB;have hp:=azf h12;have j1:=aDd h12 (aCd L l t f);have j2:=aDd h12 (tx L l t f);have nv:(gf l t f L).length<=2000000:=Nat.le_trans (awR l t f L) (by omega)
 have anX:=atq l t f L;have jJ:-1152921504606846976<=l/\l<=1152921504606846976:=by omega
 have UW:-1152921504606846976<=t/\t<=1152921504606846976:=by omega
 have a1:(bf L l t f !=0)=false:=by unfold bne;rw[h0];rfl
 have a4:((0:Int)!=bf L l t f)=false:=by rw[ha];rfl
 cases hg:((gN l t f L:Int)==0)
 ·have g1:(((gf l t f L).length:Int)==0)=false:=hg;have aDp:=amP hg;have hg0:=List.length_pos_iff.2 aDp;have RA:=aDH hg0;repeat'((conv=>whnf);(first|apply And.intro|(intro h9;first|(have h8:(_:Bool)=false:=h9;exfalso;clear h8;revert h9;subst_vars;intro h9;exact R3 (h9.symm.trans (by assumption)))|(have h8:(_:Bool)=true:=h9;exfalso;clear h8;revert h9;subst_vars;intro h9;exact R6 (h9.symm.trans (by assumption)))|skip)))
  all_goals try(conv=>whnf)
  all_goals try first|exact Tk.mk (by kernel_rfl)|exact Tk.mk (by kernel_rfl)|exact Tk.mk (by kernel_rfl)|exact Tk.mk (by kernel_rfl)|exact Tk.mk (by kernel_rfl)|exact Tk.mk (by kernel_rfl)|exact Tk.mk (by kernel_rfl)|exact⟨Nat.le_of_ble_eq_true rfl⟩|exact⟨rfl⟩|exact⟨trivial⟩
  all_goals subst_vars
  all_goals try first|rfl|contradiction|(refine Ob.mk ?_;simp only[ag,ak,aa.ae];omega)|(refine Ob.mk ?_;(try simp only[aa.ae]);(try dsimp only);omega)
  all_goals try first|exact⟨hL⟩|exact⟨hB⟩|exact⟨⟨Int.le_refl 0,by show(0:Int)<((gf l t f L).length:Int);omega⟩⟩|exact⟨show 0+Int.toNat 0<(gf l t f L).length by simpa using hg0⟩
  refine⟨Nat,fun i=>i<=(gf l t f L).length,fun i=>⟨aI 102 [0,3,5,7,10,11,12,13] [.a (.sl 0 [] 0 L.length),.a (.p 1 [] 0 0),.a (.sl 2 [] 0 (akS (aCd L l t f) L L.length).length),.a (.sl 3 [] 0 (akS (tx L l t f) L L.length).length),.a (.sl 4 [] 0 (gf l t f L).length),.a (vI (aCi (aCh L l t f) i:Nat)),.a (vI (aCl (aCh L l t f) i:Nat)),.a (vI i)],[],[.arr 67 kK L false false,.box true [vI l,vI t,vI f],.arr 3 kI (akS (aCd L l t f) L L.length) true true,.arr 3 kI (akS (tx L l t f) L L.length) true true,.arr 3 kI (gf l t f L) true true]⟩,fun i=>(gf l t f L).length-i,0,[0,1,2,3,4],Nat.zero_le _,?_,?_⟩
  ·repeat'((conv=>whnf);(first|apply And.intro|intro _))
   all_goals first|rfl|trivial|exact Nat.le_of_ble_eq_true rfl|exact⟨rfl,rfl,rfl⟩|exact⟨rfl,rfl,rfl,rfl⟩|exact⟨rfl,rfl⟩|exact⟨rfl,rfl,rfl,rfl,rfl⟩|(rename_i bx;obtain rfl:=List.mem_singleton.1 bx;exact Nat.le_of_ble_eq_true rfl)|exact RA|exact aDS
  intro i hi;have b1:=aCM aDp i;have b2:=aCF (L:=L) (l:=l) (t:=t) (f:=f) i;by_cases hi1:i<(gf l t f L).length
  ·have q0:decide ((i:Int)<((gf l t f L).length:Int))=true:=decide_eq_true (by omega)
   obtain⟨-,c1,c2⟩:=aCs hi1;have Hq:=aDI hi1;have c5:ca (gf l t f L) i<=4096:=by omega
   have c3:-9223372036854775808<=ca (gf l t f L) i:=by omega
   have c4:ca (gf l t f L) i<=9223372036854775807:=by omega
   have xW:=aDT hi1;repeat'((conv=>whnf);(first|apply And.intro|(intro h9;first|(have h8:(_:Bool)=false:=h9;exfalso;clear h8;revert h9;subst_vars;intro h9;exact R3 (h9.symm.trans (by assumption)))|(have h8:(_:Bool)=true:=h9;exfalso;clear h8;revert h9;subst_vars;intro h9;exact R6 (h9.symm.trans (by assumption)))|skip)))
   all_goals try(conv=>whnf)
   all_goals try first|exact Tk.mk (by kernel_rfl)|exact Tk.mk (by kernel_rfl)|exact Tk.mk (by kernel_rfl)|exact Tk.mk (by kernel_rfl)|exact Tk.mk (by kernel_rfl)|exact Tk.mk (by kernel_rfl)|exact Tk.mk (by kernel_rfl)|exact⟨Nat.le_of_ble_eq_true rfl⟩|exact⟨rfl⟩|exact⟨trivial⟩
   all_goals subst_vars
   all_goals try first|rfl|contradiction|(refine Ob.mk ?_;simp only[ag,ak,aa.ae];omega)|(refine Ob.mk ?_;(try simp only[aa.ae]);(try dsimp only);omega)
   all_goals try first|exact⟨show 0+Int.toNat (i:Int)<(gf l t f L).length by omega⟩|exact⟨⟨c3,c4⟩⟩
   refine⟨i+1,[0,1,2,3,4],hi1,?_,by show(gf l t f L).length-(i+1)<(gf l t f L).length-i;omega⟩
   repeat'((conv=>whnf);(first|apply And.intro|intro _))
   all_goals first|rfl|trivial|exact Nat.le_of_ble_eq_true rfl|exact⟨rfl,rfl,rfl⟩|exact⟨rfl,rfl,rfl,rfl⟩|exact⟨rfl,rfl⟩|exact⟨rfl,rfl,rfl,rfl,rfl⟩|(rename_i bx;obtain rfl:=List.mem_singleton.1 bx;exact Nat.le_of_ble_eq_true rfl)|exact Hq|exact xW
  have q0:decide ((i:Int)<((gf l t f L).length:Int))=false:=decide_eq_false (by omega)
  have hin:i=(gf l t f L).length:=by omega
  have q1:=aDL (L:=L) (l:=l) (t:=t) (f:=f) (by omega) aDp
  have q2:=aDM (L:=L) (l:=l) (t:=t) (f:=f) (by omega)
  rw[<-hin]at q1 q2;clear hin;obtain⟨x1,x2,x3⟩:=aDU h12 b2;repeat'((conv=>whnf);(first|apply And.intro|(intro h9;first|(have h8:(_:Bool)=false:=h9;exfalso;clear h8;revert h9;subst_vars;intro h9;exact R3 (h9.symm.trans (by assumption)))|(have h8:(_:Bool)=true:=h9;exfalso;clear h8;revert h9;subst_vars;intro h9;exact R6 (h9.symm.trans (by assumption)))|skip)))
  all_goals try(conv=>whnf)
  all_goals try first|exact Tk.mk (by kernel_rfl)|exact Tk.mk (by kernel_rfl)|exact Tk.mk (by kernel_rfl)|exact Tk.mk (by kernel_rfl)|exact Tk.mk (by kernel_rfl)|exact Tk.mk (by kernel_rfl)|exact Tk.mk (by kernel_rfl)|exact⟨Nat.le_of_ble_eq_true rfl⟩|exact⟨rfl⟩|exact⟨trivial⟩
  all_goals subst_vars
  all_goals try first|rfl|contradiction|(refine Ob.mk ?_;simp only[ag,ak,aa.ae];omega)|(refine Ob.mk ?_;(try simp only[aa.ae]);(try dsimp only);omega)
  all_goals try first|trivial|exact⟨hB⟩|exact⟨j1⟩|exact⟨j2⟩|exact⟨show(L.length:Int)<=64 by omega⟩
 ·have g1:(((gf l t f L).length:Int)==0)=true:=hg;repeat'((conv=>whnf);(first|apply And.intro|(intro h9;first|(have h8:(_:Bool)=false:=h9;exfalso;clear h8;revert h9;subst_vars;intro h9;exact R3 (h9.symm.trans (by assumption)))|(have h8:(_:Bool)=true:=h9;exfalso;clear h8;revert h9;subst_vars;intro h9;exact R6 (h9.symm.trans (by assumption)))|skip)))
  all_goals try(conv=>whnf)
  all_goals try first|exact Tk.mk (by kernel_rfl)|exact Tk.mk (by kernel_rfl)|exact Tk.mk (by kernel_rfl)|exact Tk.mk (by kernel_rfl)|exact Tk.mk (by kernel_rfl)|exact Tk.mk (by kernel_rfl)|exact Tk.mk (by kernel_rfl)|exact⟨Nat.le_of_ble_eq_true rfl⟩|exact⟨rfl⟩|exact⟨trivial⟩
  all_goals subst_vars
  all_goals try first|rfl|contradiction|(refine Ob.mk ?_;simp only[ag,ak,aa.ae];omega)|(refine Ob.mk ?_;(try simp only[aa.ae]);(try dsimp only);omega)
  all_goals try first|exact⟨hL⟩|exact⟨hB⟩)
end Go.Proofs.Ytccnimhgjjnmoaa
end
