/-
  Texts of the claims: Yka13z. No condition: lemmas and contracts.
-/
import Derived.Test.YtccnimhgjjnmoaaSya1z
import Derived.Test.YtccnimhgjjnmoaaSya2z
import Derived.Test.YtccnimhgjjnmoaaSya3z
import Derived.Test.YtccnimhgjjnmoaaSya4z
import Derived.Test.YtccnimhgjjnmoaaSya5z
import Derived.Test.YtccnimhgjjnmoaaPla6z
import Derived.Test.YtccnimhgjjnmoaaYka7z
import Derived.Test.YtccnimhgjjnmoaaYka8z
import Derived.Test.YtccnimhgjjnmoaaYka9z
import Derived.Test.YtccnimhgjjnmoaaYka10z
import Derived.Test.YtccnimhgjjnmoaaYka11z
import Derived.Test.YtccnimhgjjnmoaaYka12z
set_option linter.all false
set_option maxRecDepth 100000
set_option maxHeartbeats 40000000
section
namespace Go.Proofs.Ytccnimhgjjnmoaa
open Go Go.Sy Go.dg
variable {Γ:bn}
theorem avx (A:List Int) (a b i:Nat):((x8 A a b i).set (a+i) (gA (x8 A a b i) (b+i))).set (b+i) (gA (x8 A a b i) (a+i))=x8 A a b (i+1):=rfl
theorem aoB (A:List Int) (i j:Nat):(A.set i (gA A j)).set j (gA A i)=swp A i j:=rfl
attribute [local irreducible] ck wN e7 cw swp x8
def azh (id:Nat):Option OT:=match Nat.beq id 3 with|true=>some (.take 0 (.take 1 (.take 2 (.take 3 (.take 4 (.take 5 (.take 6 (.take 7 (.take 8 (.take 9 (.take 10 (.take 11 (.take 12 (.take 14 (.take 15 (.take 16 (.take 17 (.take 18 (.alt 13 (.alt 19 (.take 20 (.alt 21 (.take 22 (.alt 23 .fin .fin)) .fin)) .fin) (.alt 19 (.alt 13 (.take 20 (.alt 21 (.take 22 (.alt 23 .fin .fin)) .fin)) .fin) .fin))))))))))))))))))))|false=>match Nat.beq id 6 with|true=>some (.take 0 (.take 1 (.take 2 (.take 3 (.take 4 (.take 5 (.take 6 (.take 7 (.take 8 (.take 10 (.take 11 (.take 12 (.alt 9 (.alt 13 (.take 14 (.alt 15 (.take 16 (.alt 17 .fin .fin)) .fin)) .fin) (.alt 13 (.alt 9 (.take 14 (.alt 15 (.take 16 (.alt 17 .fin .fin)) .fin)) .fin) .fin))))))))))))))|false=>match Nat.beq id 11 with|true=>some (.take 0 (.take 1 (.take 2 (.take 3 (.take 4 (.take 5 (.take 6 (.take 7 (.take 8 (.take 10 (.take 11 (.take 12 (.alt 9 (.alt 13 (.take 14 (.alt 15 (.take 16 (.alt 17 .fin .fin)) .fin)) .fin) (.alt 13 (.alt 9 (.take 14 (.alt 15 (.take 16 (.alt 17 .fin .fin)) .fin)) .fin) .fin))))))))))))))|false=>match Nat.beq id 23 with|true=>some (.take 0 (.take 1 (.take 2 (.take 3 (.take 4 (.take 5 (.take 6 (.take 7 (.take 8 (.take 10 (.take 11 (.take 12 (.alt 9 (.alt 13 (.take 14 (.alt 15 (.take 16 (.alt 17 .fin .fin)) .fin)) .fin) (.alt 13 (.alt 9 (.take 14 (.alt 15 (.take 16 (.alt 17 .fin .fin)) .fin)) .fin) .fin))))))))))))))|false=>none
noncomputable def axu:List (Nat×au):=[(102,aqP),(75,akQ)]
theorem awk:aR Try.prog Γ axu:=((aR.nil.cons (aj Try.func75 rfl rfl).fn Wk).cons (aj Try.func102 rfl rfl).fn arW)
noncomputable def avG:List (Nat×Body):=[(101,bo Try.f101),(117,bo Try.f117),(128,bo Try.f128),(129,bo Try.f129),(132,bo Try.f132),(134,bo Try.f134)]
theorem auz:bq Try.prog avG:=((((((bq.nil.cons (cg Try.func134 rfl rfl)).cons (cg Try.func132 rfl rfl)).cons (cg Try.func129 rfl rfl)).cons (cg Try.func128 rfl rfl)).cons (cg Try.func117 rfl rfl)).cons (cg Try.func101 rfl rfl))
noncomputable def atf:Env:={jV.env axu avG false 0 with tree:=azh}
theorem atg:aL Try.prog Γ atf:=(aP awk auz false 0).vU _
noncomputable def od:Env:={atf with cut:=fun t=>match Nat.beq t 185 with|true=>true|false=>(match Nat.beq t 140 with|true=>true|false=>Nat.beq t 199)}
theorem auN:aL Try.prog Γ od:=atg.aBf _
theorem kX (A:List Int) (k:Nat):ca A k=gA A k:=by unfold ca;rw[Nat.zero_add,Int.toNat_natCast];rfl
section
variable (L:List Bk) (W:List Int) (len:Nat)
def arH (cl:Cl):Prop:=∀ (za zb zn:Int) (a b n:Nat) (A:List Int) (tm:Sl) (fr:List Sl) (Kc:Tm->St->Prop),za=a->zb=b->zn=n->a+n<=b->b+n<=len->A.length=len->len<=1000000->alm 4 tm fr->
 Kc (.bF []) ⟨tm,fr,[.arr 67 kK L false false,.arr 3 kI W true true,.box true [.sl 1 [] 0 W.length],.arr 3 kI (x8 A a b n) true true]⟩->cl (bo Try.f134) [.a (.sl 3 [] 0 len),.a (vI za),.a (vI zb),.a (vI zn),.a (.fn 102 [2])] ⟨tm,fr,[.arr 67 kK L false false,.arr 3 kI W true true,.box true [.sl 1 [] 0 W.length],.arr 3 kI A true true]⟩ Kc
variable {L} {W} {len}
theorem axc (cl:Cl) (rd:Rd):arH L W len (GG od (jD od cl rd none)):=by
 intro za zb zn a b n A tm fr Kc atA atB alw hab Hg hA hlen hfr hK;obtain rfl:=atA;obtain rfl:=atB;obtain rfl:=alw;have hl:∀ i,(x8 A a b i).length=len:=fun i=>by rw[amU,hA]
 replace hA:=And.intro hA trivial;have h0:A=x8 A a b 0:=by unfold x8;rfl
 repeat'((conv=>whnf);first|apply And.intro|exact bA (by subst_vars;assumption)|intro h9)
 all_goals(try(conv=>whnf))<;>(subst_vars;try first|(apply Tk.mk;kernel_rfl)|exact⟨ah rfl⟩|exact⟨rfl⟩|exact⟨trivial⟩|rfl|contradiction|(apply Ob.mk;(try simp only[ag,ak,aa.ae])<;>(try dsimp only)<;>omega))
 refine⟨Nat,fun i=>i<=n,fun i=>⟨aI 38 [0,1,2,3,10] [.a (.sl 3 [] 0 len),.a (vI a),.a (vI b),.a (vI n),.a (vI i)],tm::fr,[.arr 67 kK L false false,.arr 3 kI W true true,.box true [.sl 1 [] 0 W.length],.arr 3 kI (x8 A a b i) true true]⟩,fun i=>n-i,0,[0,1,2,3],Nat.zero_le _,?_,?_⟩
 ·repeat'((conv=>whnf);(first|apply And.intro|intro _))
  all_goals first|rfl|trivial|exact ah rfl|exact⟨rfl,rfl,rfl⟩|exact⟨rfl,rfl⟩|exact hfr.hd _ _ _ (by decide) (ah rfl) (ah rfl)|exact hfr.tl _ _ _ (by decide) (ah rfl) (ah rfl)|(rename_i r9 bx;revert r9;decide)|exact⟨rfl,rfl,h0⟩|exact h0
 clear h0;intro i hi;have ayi:=hl i;by_cases hi1:i<n
 ·have p0:decide ((i:Int)<(n:Int))=true:=decide_eq_true (by omega)
  have ia:0+Int.toNat ((a:Int)+(i:Int))=a+i:=by omega
  have ib:0+Int.toNat ((b:Int)+(i:Int))=b+i:=by omega
  have hst:((x8 A a b i).set (0+Int.toNat ((a:Int)+(i:Int))) (ca (x8 A a b i) ((b:Int)+(i:Int)))).set (0+Int.toNat ((b:Int)+(i:Int))) (ca (x8 A a b i) ((a:Int)+(i:Int)))=x8 A a b (i+1):=by
   rw[show((b:Int)+(i:Int))=((b+i:Nat):Int) by omega,show((a:Int)+(i:Int))=((a+i:Nat):Int) by omega,kX,kX,Nat.zero_add,Nat.zero_add,Int.toNat_natCast,Int.toNat_natCast]
   exact avx A a b i
  have xa:0+Int.toNat ((a:Int)+(i:Int))<(x8 A a b i).length:=by omega
  have xb:0+Int.toNat ((b:Int)+(i:Int))<(x8 A a b i).length:=by omega
  replace ayi:=And.intro ayi trivial;clear ia ib hl;repeat'((conv=>whnf);first|apply And.intro|exact bA (by subst_vars;assumption)|intro h9)
  all_goals(try(conv=>whnf))<;>(subst_vars;try first|(apply Tk.mk;kernel_rfl)|exact⟨ah rfl⟩|exact⟨rfl⟩|exact⟨trivial⟩|rfl|contradiction|(apply Ob.mk;(try simp only[ag,ak,aa.ae])<;>(try dsimp only)<;>omega))
  all_goals try first|trivial|exact⟨xa⟩|exact⟨xb⟩|exact⟨show 0+Int.toNat ((b:Int)+(i:Int))<((x8 A a b i).set (0+Int.toNat ((a:Int)+(i:Int))) (ca (x8 A a b i) ((b:Int)+(i:Int)))).length by rw[List.length_set];omega⟩
  all_goals
   refine⟨i+1,[0,1,2,3],hi1,?_,by show n-(i+1)<n-i;omega⟩
   repeat'((conv=>whnf);(first|apply And.intro|intro _))
   all_goals first|rfl|trivial|exact ah rfl|exact⟨rfl,rfl,rfl⟩|exact⟨rfl,rfl⟩|exact hfr.hd _ _ _ (by decide) (ah rfl) (ah rfl)|exact hfr.tl _ _ _ (by decide) (ah rfl) (ah rfl)|(rename_i r9 bx;revert r9;decide)|exact⟨rfl,rfl,hst⟩|exact hst
 have p0:decide ((i:Int)<(n:Int))=false:=decide_eq_false (by omega)
 obtain rfl:n=i:=by omega
 clear hl ayi;repeat'((conv=>whnf);first|apply And.intro|exact bA (by subst_vars;assumption)|intro h9)
 all_goals(try(conv=>whnf))<;>(subst_vars;try first|(apply Tk.mk;kernel_rfl)|exact⟨ah rfl⟩|exact⟨rfl⟩|exact⟨trivial⟩|rfl|contradiction|(apply Ob.mk;(try simp only[ag,ak,aa.ae])<;>(try dsimp only)<;>omega))
 all_goals try first|trivial
 all_goals exact hK
end
end Go.Proofs.Ytccnimhgjjnmoaa
end
section
namespace Go.Proofs.Ytccnimhgjjnmoaa
open Go Go.Sy Go.dg
variable {Γ:bn}
attribute [local irreducible] ck wN e7 cw swp x8
section
variable (L:List Bk) (W:List Int) (len:Nat)
def arF (cl:Cl):Prop:=∀ (zs zm ze:Int) (s m e:Nat) (A:List Int) (tm:Sl) (fr:List Sl) (Kc:Tm->St->Prop),zs=s->zm=m->ze=e->s<m->m<e->e<=len->A.length=len->len<=1000000->alm 4 tm fr->
 (∀ B,hG s e A B->(∀ k,gA B k=gA A (T3 s m e k))->Kc (.bF []) ⟨tm,fr,[.arr 67 kK L false false,.arr 3 kI W true true,.box true [.sl 1 [] 0 W.length],.arr 3 kI B true true]⟩)->cl (bo Try.f132) [.a (.sl 3 [] 0 len),.a (vI zs),.a (vI zm),.a (vI ze),.a (.fn 102 [2])] ⟨tm,fr,[.arr 67 kK L false false,.arr 3 kI W true true,.box true [.sl 1 [] 0 W.length],.arr 3 kI A true true]⟩ Kc
variable {L} {W} {len}
theorem ayL (cl:Cl) (rd:Rd) (hW:arH L W len cl):arF L W len (GG od (jD od cl rd none)):=by
 intro zs zm ze s m e A tm fr Kc hzs ayo aAt ZL hme hel hA hlen hfr hK;obtain rfl:=hzs;obtain rfl:=ayo;obtain rfl:=aAt;have hstart:=ak5.start ZL hme A;have ei:((m:Int)-(s:Int))=((m-s:Nat):Int):=by omega
 have ej:((e:Int)-(m:Int))=((e-m:Nat):Int):=by omega
 replace hA:=And.intro hA trivial;repeat'((conv=>whnf);first|apply And.intro|exact bA (by subst_vars;assumption)|intro h9)
 all_goals(try(conv=>whnf))<;>(subst_vars;try first|(apply Tk.mk;kernel_rfl)|exact⟨ah rfl⟩|exact⟨rfl⟩|exact⟨trivial⟩|rfl|contradiction|(apply Ob.mk;(try simp only[ag,ak,aa.ae])<;>(try dsimp only)<;>omega))
 refine⟨Nat×Nat×List Int,fun x=>ak5 s m e A x.1 x.2.1 x.2.2,fun|(i,j,B)=>⟨aI 58 [0,2,4,10,11] [.a (.sl 3 [] 0 len),.a (vI m),.a (.fn 102 [2]),.a (vI i),.a (vI j)],tm::fr,[.arr 67 kK L false false,.arr 3 kI W true true,.box true [.sl 1 [] 0 W.length],.arr 3 kI B true true]⟩,fun x=>x.1+x.2.1,(m-s,e-m,A),[0,1,2,3],hstart,?_,?_⟩
 ·repeat'((conv=>whnf);(first|apply And.intro|intro _))
  all_goals first|rfl|trivial|exact ah rfl|exact⟨rfl,rfl,rfl⟩|exact⟨rfl,rfl⟩|exact hfr.hd _ _ _ (by decide) (ah rfl) (ah rfl)|exact hfr.tl _ _ _ (by decide) (ah rfl) (ah rfl)|(rename_i r9 bx;revert r9;decide)|exact ei|exact ej
 clear ei ej hstart;rintro⟨i,j,B⟩ hI;dsimp only at hI;have hle:=hI.le;have hB:=And.intro (hI.pin.len.trans hA.1) trivial;by_cases hij:i=j
 ·have p0:((i:Int)!=(j:Int))=false:=by rw[hij];simp
  have hd:=hij▸hI;have hd:ak5 s m e A i i B:=by rw[<-hij]at hI;exact hI
  obtain⟨d1,d2⟩:=hd.done (by omega)
  have afI:=hK _ d1 d2;replace hij:i<=j/\j<=i:=by omega
  repeat'((conv=>whnf);first|apply And.intro|exact bA (by subst_vars;assumption)|intro h9)
  all_goals(try(conv=>whnf))<;>(subst_vars;try first|(apply Tk.mk;kernel_rfl)|exact⟨ah rfl⟩|exact⟨rfl⟩|exact⟨trivial⟩|rfl|contradiction|(apply Ob.mk;(try simp only[ag,ak,aa.ae])<;>(try dsimp only)<;>omega))
  refine hW _ _ _ (m-i) m i B _ _ _ (by omega) rfl rfl (by omega) (by omega) hB.1 hlen (hfr.push ?_) ?_
  ·intro is m' n' h1 h2 h3;repeat'((conv=>whnf);(first|apply And.intro|intro _))
   all_goals first|rfl|trivial|omega|(rw[h1 _ (by omega)];done)|(rw[h1 _ (by omega)];omega)|(simp only[List.map_cons,List.map_nil];rw[h1 2 (by decide)];done)|(have h7:=(show ∀ r∈[2],r<4 by decide) _ ‹_›;first|omega|(rw[h1 _ h7];omega))
  repeat'((conv=>whnf);first|apply And.intro|exact bA (by subst_vars;assumption)|intro h9)
  all_goals(try(conv=>whnf))<;>(subst_vars;try first|(apply Tk.mk;kernel_rfl)|exact⟨ah rfl⟩|exact⟨rfl⟩|exact⟨trivial⟩|rfl|contradiction|(apply Ob.mk;(try simp only[ag,ak,aa.ae])<;>(try dsimp only)<;>omega))
  all_goals try first|trivial
  all_goals exact afI
 have p0:((i:Int)!=(j:Int))=true:=bne_iff_ne.2 (fun e=>hij (by omega))
 by_cases hgt:j<i
 ·have p1:decide ((i:Int)>(j:Int))=true:=decide_eq_true (by omega)
  have hn:=hI.left (by omega) hgt
  have ed:((i:Int)-(j:Int))=((i-j:Nat):Int):=by omega
  repeat'((conv=>whnf);first|apply And.intro|exact bA (by subst_vars;assumption)|intro h9)
  all_goals(try(conv=>whnf))<;>(subst_vars;try first|(apply Tk.mk;kernel_rfl)|exact⟨ah rfl⟩|exact⟨rfl⟩|exact⟨trivial⟩|rfl|contradiction|(apply Ob.mk;(try simp only[ag,ak,aa.ae])<;>(try dsimp only)<;>omega))
  refine hW _ _ _ (m-i) m j B _ _ _ (by omega) rfl rfl (by omega) (by omega) hB.1 hlen (hfr.push ?_) ?_
  ·intro is m' n' h1 h2 h3;repeat'((conv=>whnf);(first|apply And.intro|intro _))
   all_goals first|rfl|trivial|omega|(rw[h1 _ (by omega)];done)|(rw[h1 _ (by omega)];omega)|(simp only[List.map_cons,List.map_nil];rw[h1 2 (by decide)];done)|(have h7:=(show ∀ r∈[2],r<4 by decide) _ ‹_›;first|omega|(rw[h1 _ h7];omega))
  repeat'((conv=>whnf);first|apply And.intro|exact bA (by subst_vars;assumption)|intro h9)
  all_goals(try(conv=>whnf))<;>(subst_vars;try first|(apply Tk.mk;kernel_rfl)|exact⟨ah rfl⟩|exact⟨rfl⟩|exact⟨trivial⟩|rfl|contradiction|(apply Ob.mk;(try simp only[ag,ak,aa.ae])<;>(try dsimp only)<;>omega))
  refine⟨(i-j,j,x8 B (m-i) m j),[0,1,2,3],hn,?_,by show i-j+j<i+j;omega⟩
  repeat'((conv=>whnf);(first|apply And.intro|intro _))
  all_goals first|rfl|trivial|exact ah rfl|exact⟨rfl,rfl,rfl⟩|exact⟨rfl,rfl⟩|exact hfr.hd _ _ _ (by decide) (ah rfl) (ah rfl)|exact hfr.tl _ _ _ (by decide) (ah rfl) (ah rfl)|(rename_i r9 bx;revert r9;decide)|exact ed
 have p1:decide ((i:Int)>(j:Int))=false:=decide_eq_false (by omega)
 have hn:=hI.right (by omega) (by omega)
 have ed:((j:Int)-(i:Int))=((j-i:Nat):Int):=by omega
 repeat'((conv=>whnf);first|apply And.intro|exact bA (by subst_vars;assumption)|intro h9)
 all_goals(try(conv=>whnf))<;>(subst_vars;try first|(apply Tk.mk;kernel_rfl)|exact⟨ah rfl⟩|exact⟨rfl⟩|exact⟨trivial⟩|rfl|contradiction|(apply Ob.mk;(try simp only[ag,ak,aa.ae])<;>(try dsimp only)<;>omega))
 refine hW _ _ _ (m-i) (m+j-i) i B _ _ _ (by omega) (by omega) rfl (by omega) (by omega) hB.1 hlen (hfr.push ?_) ?_
 ·intro is m' n' h1 h2 h3;repeat'((conv=>whnf);(first|apply And.intro|intro _))
  all_goals first|rfl|trivial|omega|(rw[h1 _ (by omega)];done)|(rw[h1 _ (by omega)];omega)|(simp only[List.map_cons,List.map_nil];rw[h1 2 (by decide)];done)|(have h7:=(show ∀ r∈[2],r<4 by decide) _ ‹_›;first|omega|(rw[h1 _ h7];omega))
 repeat'((conv=>whnf);first|apply And.intro|exact bA (by subst_vars;assumption)|intro h9)
 all_goals(try(conv=>whnf))<;>(subst_vars;try first|(apply Tk.mk;kernel_rfl)|exact⟨ah rfl⟩|exact⟨rfl⟩|exact⟨trivial⟩|rfl|contradiction|(apply Ob.mk;(try simp only[ag,ak,aa.ae])<;>(try dsimp only)<;>omega))
 refine⟨(i,j-i,x8 B (m-i) (m+j-i) i),[0,1,2,3],hn,?_,by show i+(j-i)<i+j;omega⟩
 repeat'((conv=>whnf);(first|apply And.intro|intro _))
 all_goals first|rfl|trivial|exact ah rfl|exact⟨rfl,rfl,rfl⟩|exact⟨rfl,rfl⟩|exact hfr.hd _ _ _ (by decide) (ah rfl) (ah rfl)|exact hfr.tl _ _ _ (by decide) (ah rfl) (ah rfl)|(rename_i r9 bx;revert r9;decide)|exact ed
end
end Go.Proofs.Ytccnimhgjjnmoaa
end
section
namespace Go.Proofs.Ytccnimhgjjnmoaa
open Go Go.Sy Go.dg
variable {Γ:bn}
structure amY (W A:List Int):Prop where
 ok:∀ x∈A,0<=x/\x<(W.length:Int)
 wt:∀ i,0<=cw W i/\cw W i<=1152921504606846976
theorem amY.perm {W A B:List Int} (h:amY W A) (hp:B.Perm A):amY W B:=⟨fun x hx=>h.ok x (hp.mem_iff.1 hx),h.wt⟩
theorem amY.at {W A:List Int} (h:amY W A) {k:Nat} (hk:k<A.length):0<=ca A k/\ca A k<(W.length:Int):=by
 rw[kX,Sh hk];exact h.ok _ (List.getElem_mem hk)
attribute [local irreducible] ck wN e7 cw swp x8
section
variable (L:List Bk) (W:List Int) (len:Nat)
def arE (cl:Cl):Prop:=∀ (za zb:Int) (a b:Nat) (A:List Int) (tm:Sl) (fr:List Sl) (Kc:Tm->St->Prop),za=a->zb=b->a<=b->b<=len->A.length=len->len<=1000000->amY W A->alm 4 tm fr->
 (∀ B,hG a b A B->kM (cw W) a b B->Kc (.bF []) ⟨tm,fr,[.arr 67 kK L false false,.arr 3 kI W true true,.box true [.sl 1 [] 0 W.length],.arr 3 kI B true true]⟩)->cl (bo Try.f128) [.a (.sl 3 [] 0 len),.a (vI za),.a (vI zb),.a (.fn 102 [2])] ⟨tm,fr,[.arr 67 kK L false false,.arr 3 kI W true true,.box true [.sl 1 [] 0 W.length],.arr 3 kI A true true]⟩ Kc
variable {L} {W} {len}
theorem ayw (cl:Cl) (rd:Rd):arE L W len (GG od (jD od cl rd none)):=by
 intro za zb a b A tm fr Kc atA atB hab Hg hA hlen hV hfr hK;obtain rfl:=atA;obtain rfl:=atB;have hstart:hG a b A A:=hG.refl ..;replace hA:=And.intro hA trivial;repeat'((conv=>whnf);first|apply And.intro|exact bA (by subst_vars;assumption)|intro h9)
 all_goals(try(conv=>whnf))<;>(subst_vars;try first|(apply Tk.mk;kernel_rfl)|exact⟨ah rfl⟩|exact⟨rfl⟩|exact⟨trivial⟩|rfl|contradiction|(apply Ob.mk;(try simp only[ag,ak,aa.ae])<;>(try dsimp only)<;>omega))
 refine⟨Nat×List Int,fun x=>(a+1<=x.1/\(x.1<=b\/x.1=a+1))/\hG a b A x.2/\kM (cw W) a x.1 x.2,fun|(i,B)=>⟨aI 53 [0,1,2,3,8] [.a (.sl 3 [] 0 len),.a (vI a),.a (vI b),.a (.fn 102 [2]),.a (vI i)],tm::fr,[.arr 67 kK L false false,.arr 3 kI W true true,.box true [.sl 1 [] 0 W.length],.arr 3 kI B true true]⟩,fun x=>b+1-x.1,(a+1,A),[0,1,2,3],⟨⟨Nat.le_refl _,.inr rfl⟩,hstart,kM.one _ _ _⟩,?_,?_⟩
 ·repeat'((conv=>whnf);(first|apply And.intro|intro _))
  all_goals first|rfl|trivial|exact ah rfl|exact⟨rfl,rfl,rfl⟩|exact⟨rfl,rfl⟩|exact hfr.hd _ _ _ (by decide) (ah rfl) (ah rfl)|exact hfr.tl _ _ _ (by decide) (ah rfl) (ah rfl)|(rename_i r9 bx;revert r9;decide)
 rintro⟨i,B⟩ ⟨⟨hi1,hi2⟩,akE,AP⟩;dsimp only at hi1 hi2 akE AP;have hB:=And.intro (akE.len.trans hA.1) trivial;by_cases hib:i<b
 ·have p0:decide ((i:Int)<(b:Int))=true:=decide_eq_true (by omega)
  have azU:=alZ.start AP (by omega)
  have apV:=hV.perm akE.perm;repeat'((conv=>whnf);first|apply And.intro|exact bA (by subst_vars;assumption)|intro h9)
  all_goals(try(conv=>whnf))<;>(subst_vars;try first|(apply Tk.mk;kernel_rfl)|exact⟨ah rfl⟩|exact⟨rfl⟩|exact⟨trivial⟩|rfl|contradiction|(apply Ob.mk;(try simp only[ag,ak,aa.ae])<;>(try dsimp only)<;>omega))
  refine⟨Nat×List Int,fun x=>alZ (cw W) a i B x.1 x.2,fun|(j,B)=>⟨aI 53 [0,1,2,3,8,9] [.a (.sl 3 [] 0 len),.a (vI a),.a (vI b),.a (.fn 102 [2]),.a (vI i),.a (vI j)],tm::fr,[.arr 67 kK L false false,.arr 3 kI W true true,.box true [.sl 1 [] 0 W.length],.arr 3 kI B true true]⟩,fun x=>x.1,(i,B),[0,1,2,3],azU,?_,?_⟩
  ·repeat'((conv=>whnf);(first|apply And.intro|intro _))
   all_goals first|rfl|trivial|exact ah rfl|exact⟨rfl,rfl,rfl⟩|exact⟨rfl,rfl⟩|exact hfr.hd _ _ _ (by decide) (ah rfl) (ah rfl)|exact hfr.tl _ _ _ (by decide) (ah rfl) (ah rfl)|(rename_i r9 bx;revert r9;decide)
  rintro⟨j,C⟩ hJ;dsimp only at hJ;obtain⟨Ho,hj2⟩:=hJ.le;have hC:=And.intro (hJ.pin.len.trans hB.1) trivial;have hwide:hG a b A C:=akE.trans (hJ.pin.wide (Nat.le_refl _) (by omega))
  by_cases aye:a<j
  ·have p1:decide ((j:Int)>(a:Int))=true:=decide_eq_true (by omega)
   have anW:=apV.perm hJ.pin.perm;have v1:=anW.at (k:=j) (by omega)
   have v2:=anW.at (k:=j-1) (by omega)
   have ej:((j:Int)-1)=((j-1:Nat):Int):=by omega
   rw[<-ej]at v2;have w1:=anW.wt (ca C j);have w2:=anW.wt (ca C ((j:Int)-1));have x1:0+Int.toNat (j:Int)<C.length:=by omega
   have x2:0+Int.toNat ((j:Int)-1)<C.length:=by omega
   by_cases hlt:cw W (gA C j)<cw W (gA C (j-1))
   ·have q1:decide (cw W (ca C j)-cw W (ca C ((j:Int)-1))<0)=true:=decide_eq_true (by rw[ej,kX,kX];omega)
    have ab5:=hJ.step (by omega) aye hlt
    have hst:(C.set (0+Int.toNat (j:Int)) (ca C ((j:Int)-1))).set (0+Int.toNat ((j:Int)-1)) (ca C j)=swp C j (j-1):=by
     rw[ej,kX,kX,Nat.zero_add,Nat.zero_add,Int.toNat_natCast,Int.toNat_natCast];exact aoB C j (j-1)
    repeat'((conv=>whnf);first|apply And.intro|exact bA (by subst_vars;assumption)|intro h9)
    all_goals(try(conv=>whnf))<;>(subst_vars;try first|(apply Tk.mk;kernel_rfl)|exact⟨ah rfl⟩|exact⟨rfl⟩|exact⟨trivial⟩|rfl|contradiction|(apply Ob.mk;(try simp only[ag,ak,aa.ae])<;>(try dsimp only)<;>omega))
    all_goals try first|trivial|exact⟨x1⟩|exact⟨x2⟩|exact⟨v1⟩|exact⟨v2⟩|exact⟨w1⟩|exact⟨w2⟩|exact⟨show 0+Int.toNat ((j:Int)-1)<(C.set (0+Int.toNat (j:Int)) (ca C ((j:Int)-1))).length by rw[List.length_set];omega⟩
    all_goals
     refine⟨(j-1,swp C j (j-1)),[0,1,2,3],ab5,?_,by show j-1<j;omega⟩
     repeat'((conv=>whnf);(first|apply And.intro|intro _))
     all_goals first|rfl|trivial|exact ah rfl|exact⟨rfl,rfl,rfl⟩|exact⟨rfl,rfl⟩|exact hfr.hd _ _ _ (by decide) (ah rfl) (ah rfl)|exact hfr.tl _ _ _ (by decide) (ah rfl) (ah rfl)|(rename_i r9 bx;revert r9;decide)|exact⟨rfl,rfl,hst⟩|exact hst|exact ej
   have q1:decide (cw W (ca C j)-cw W (ca C ((j:Int)-1))<0)=false:=decide_eq_false (by rw[ej,kX,kX];omega)
   have hd:=hJ.done (.inr (by omega))
   repeat'((conv=>whnf);first|apply And.intro|exact bA (by subst_vars;assumption)|intro h9)
   all_goals(try(conv=>whnf))<;>(subst_vars;try first|(apply Tk.mk;kernel_rfl)|exact⟨ah rfl⟩|exact⟨rfl⟩|exact⟨trivial⟩|rfl|contradiction|(apply Ob.mk;(try simp only[ag,ak,aa.ae])<;>(try dsimp only)<;>omega))
   all_goals try first|exact⟨x1⟩|exact⟨x2⟩|exact⟨v1⟩|exact⟨v2⟩|exact⟨w1⟩|exact⟨w2⟩
   all_goals
    refine⟨(i+1,C),[0,1,2,3],⟨⟨by dsimp only;omega,.inl (by dsimp only;omega)⟩,hwide,hd⟩,?_,by show b+1-(i+1)<b+1-i;omega⟩
    repeat'((conv=>whnf);(first|apply And.intro|intro _))
    all_goals first|rfl|trivial|exact ah rfl|exact⟨rfl,rfl,rfl⟩|exact⟨rfl,rfl⟩|exact hfr.hd _ _ _ (by decide) (ah rfl) (ah rfl)|exact hfr.tl _ _ _ (by decide) (ah rfl) (ah rfl)|(rename_i r9 bx;revert r9;decide)
  have p1:decide ((j:Int)>(a:Int))=false:=decide_eq_false (by omega)
  have hd:=hJ.done (.inl (by omega))
  repeat'((conv=>whnf);first|apply And.intro|exact bA (by subst_vars;assumption)|intro h9)
  all_goals(try(conv=>whnf))<;>(subst_vars;try first|(apply Tk.mk;kernel_rfl)|exact⟨ah rfl⟩|exact⟨rfl⟩|exact⟨trivial⟩|rfl|contradiction|(apply Ob.mk;(try simp only[ag,ak,aa.ae])<;>(try dsimp only)<;>omega))
  all_goals
   refine⟨(i+1,C),[0,1,2,3],⟨⟨by dsimp only;omega,.inl (by dsimp only;omega)⟩,hwide,hd⟩,?_,by show b+1-(i+1)<b+1-i;omega⟩
   repeat'((conv=>whnf);(first|apply And.intro|intro _))
   all_goals first|rfl|trivial|exact ah rfl|exact⟨rfl,rfl,rfl⟩|exact⟨rfl,rfl⟩|exact hfr.hd _ _ _ (by decide) (ah rfl) (ah rfl)|exact hfr.tl _ _ _ (by decide) (ah rfl) (ah rfl)|(rename_i r9 bx;revert r9;decide)
 have p0:decide ((i:Int)<(b:Int))=false:=decide_eq_false (by omega)
 have afI:=hK B akE (AP.sub (Nat.le_refl _) (by omega))
 repeat'((conv=>whnf);first|apply And.intro|exact bA (by subst_vars;assumption)|intro h9)
 all_goals(try(conv=>whnf))<;>(subst_vars;try first|(apply Tk.mk;kernel_rfl)|exact⟨ah rfl⟩|exact⟨rfl⟩|exact⟨trivial⟩|rfl|contradiction|(apply Ob.mk;(try simp only[ag,ak,aa.ae])<;>(try dsimp only)<;>omega))
 all_goals try first|trivial
 all_goals exact afI
end
end Go.Proofs.Ytccnimhgjjnmoaa
end
