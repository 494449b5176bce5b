/-
  Texts of the claims: Plh1z. No condition: lemmas and contracts.
-/
import Derived.Test.YtccnimhgjjnmoaaPla6z
import Derived.Test.YtccnimhgjjnmoaaPlb1z
import Derived.Test.YtccnimhgjjnmoaaPlc1z
import Derived.Test.YtccnimhgjjnmoaaPld1z
import Derived.Test.YtccnimhgjjnmoaaPlf1z
set_option linter.all false
set_option maxRecDepth 100000
set_option maxHeartbeats 40000000
section
namespace Go.dg
theorem aCN (i:Nat):gi i 0=false:=by simp[gi]
theorem aCE:∀ (L:List Bk) (s:Nat),eg L s=((List.range L.length).filter (fun i=>gi i s)).map (fun i=>(L.getD i (0,0)).1)
 |[],_=>rfl
 |b::L,s=>by
  rw[eg,List.length_cons,List.range_succ_eq_map,List.filter_cons,aCE L (s / 2),List.filter_map,aCu];have e:((fun i=>gi i s)∘Nat.succ)=fun i=>gi i (s / 2):=by funext i;exact aus i s
  rw[e];by_cases h:s%2=1
  ·rw[if_pos h,if_pos (by simp[h]),List.map_cons,List.map_map];rfl
  ·rw[if_neg h,if_neg (by simp[h]),List.map_map];rfl
end Go.dg
end
section
namespace Go.dg
section
variable {L:List Bk} {l:List Int} {i:Nat} {n:Int} {s:Nat}
end
theorem aEw {L:List Bk} (hL:aos L) {u:Nat} {x:Int}:x∈eg L u<->pos L x<L.length/\gi (pos L x) u=true:=by
 rw[aCE,List.mem_map];constructor
 ·rintro⟨i,hi,rfl⟩;obtain⟨h1,h2⟩:=List.mem_filter.1 hi;have h3:=List.mem_range.1 h1;have h4:pos L (L.getD i (0,0)).1=i:=pos_at hL h3;rw[h4];exact⟨h3,h2⟩
 ·rintro⟨h1,h2⟩;exact⟨pos L x,List.mem_filter.2 ⟨List.mem_range.2 h1,h2⟩,aD8 h1⟩
theorem aER {L:List Bk} (hL:aos L):∀ (l:List Int) (p:Option Int),(aD2 L p l).1=0->(∀ x∈l,pos L x<L.length)/\l.Pairwise (· <·)/\(∀ x∈l,az4 p x=false)/\∀ i,gi i (aD2 L p l).2.2=true<->∃ x∈l,pos L x=i
 |[],p,_=>⟨fun x h=>absurd h List.not_mem_nil,List.Pairwise.nil,fun x h=>absurd h List.not_mem_nil,fun i=>by simp[aD2,aCN]⟩
 |x::l,p,h=>by
  have hok:=aEe 0 hL (x::l) p h;rw[aD6]at h hok ⊢;unfold fy at h hok ⊢;by_cases e1:pos L x=L.length
  ·rw[if_pos e1]at h;simp at h
  by_cases e2:az4 p x=true
  ·rw[if_neg e1,if_pos e2]at h;simp at h
  by_cases e0:(aD2 L (some x) l).1=0
  ·rw[if_neg e1,if_neg e2,if_pos e0]at hok ⊢;obtain⟨h1,h2,h3,h4⟩:=aER hL l (some x) e0;have hx:pos L x<L.length:=by have:=aEp L x;omega
   have aF7:=(aEe 0 hL l (some x) e0).2.2 hx;have hlt:∀ y∈l,x<y:=fun y hy=>by have:=h3 y hy;simp only[az4,decide_eq_false_iff_not]at this;omega
   refine⟨?_,List.pairwise_cons.2 ⟨hlt,h2⟩,?_,?_⟩
   ·intro y hy;rcases List.mem_cons.1 hy with rfl|hy
    ·exact hx
    ·exact h1 y hy
   ·intro y hy;rcases List.mem_cons.1 hy with rfl|hy
    ·simpa using e2
    ·have hxy:=hlt y hy;cases p with
     |none=>rfl
     |some z=>simp only[az4,decide_eq_true_eq]at e2;simp only[az4,decide_eq_false_iff_not];omega
   ·intro i;have hb:gi i (2^pos L x+(aD2 L (some x) l).2.2)=true<->(i=pos L x\/gi i (aD2 L (some x) l).2.2=true):=by
     generalize (aD2 L (some x) l).2.2=u at aF7 ⊢;generalize pos L x=k at aF7 ⊢;clear h1 h2 h3 h4 hok;obtain⟨c,rfl⟩:=Nat.dvd_of_mod_eq_zero aF7;unfold gi;simp only[beq_iff_eq];rcases Nat.lt_trichotomy i k with aki|rfl|aki
     ·obtain⟨d,rfl⟩:∃ d,k=i+1+d:=⟨k-(i+1),by omega⟩
      have a1:2^(i+1+d)+2^(i+1+d+1)*c=2^i*(2*(2^d+2^(d+1)*c)):=by
       simp only[Nat.pow_add,Nat.pow_one,Nat.mul_add]
       grind
      have a2:2^(i+1+d+1)*c=2^i*(2*(2^(d+1)*c)):=by simp only[Nat.pow_add,Nat.pow_one];grind
      rw[a1,a2,Nat.mul_div_cancel_left _ (Nat.two_pow_pos i),Nat.mul_div_cancel_left _ (Nat.two_pow_pos i)];omega
     ·have a1:2^i+2^(i+1)*c=2^i*(1+2*c):=by simp only[Nat.pow_add,Nat.pow_one];grind
      rw[a1,Nat.mul_div_cancel_left _ (Nat.two_pow_pos i)];omega
     ·obtain⟨d,rfl⟩:∃ d,i=k+1+d:=⟨i-(k+1),by omega⟩
      have a1:(2^k+2^(k+1)*c) / 2^(k+1+d)=c / 2^d:=by
       rw[Nat.pow_add 2 (k+1) d,<-Nat.div_div_eq_div_mul,Nat.add_mul_div_left _ _ (Nat.two_pow_pos _),Nat.div_eq_of_lt (Nat.pow_lt_pow_right (by omega) (by omega)),Nat.zero_add]
      have a2:2^(k+1)*c / 2^(k+1+d)=c / 2^d:=by
       rw[Nat.pow_add 2 (k+1) d,<-Nat.div_div_eq_div_mul,Nat.mul_div_cancel_left _ (Nat.two_pow_pos _)]
      rw[a1,a2];omega
    dsimp only;rw[hb,h4];constructor
    ·rintro(rfl|⟨y,hy,rfl⟩)
     ·exact⟨x,List.mem_cons_self ..,rfl⟩
     ·exact⟨y,List.mem_cons_of_mem _ hy,rfl⟩
    ·rintro⟨y,hy,rfl⟩;rcases List.mem_cons.1 hy with rfl|hy
     ·exact .inl rfl
     ·exact .inr ⟨y,hy,rfl⟩
  ·rw[if_neg e1,if_neg e2,if_neg e0]at h;exact absurd h e0
theorem aFR {L:List Bk} (hL:aos L) (u:Nat):(eg L u).Pairwise (· <·):=by
 rw[aCE];refine List.pairwise_map.2 (List.Pairwise.imp_of_mem (fun{a b} ha hb h=>?_) ((List.pairwise_lt_range (n:=L.length)).filter _))
 have h1:=List.mem_range.1 (List.mem_filter.1 hb).1;exact aFa hL h h1
theorem aE9:∀ {l m:List Int},l.Pairwise (· <·)->m.Pairwise (· <·)->(∀ x,x∈l<->x∈m)->l=m
 |[],[],_,_,_=>rfl
 |[],y::m,_,_,h=>by have:=(h y).2 (List.mem_cons_self ..);cases this
 |x::l,[],_,_,h=>by have:=(h x).1 (List.mem_cons_self ..);cases this
 |x::l,y::m,hl,hm,h=>by
  have hl':=List.pairwise_cons.1 hl;have hm':=List.pairwise_cons.1 hm;have hxy:x=y:=by
   rcases List.mem_cons.1 ((h x).1 (List.mem_cons_self ..))with e|e
   ·exact e
   ·rcases List.mem_cons.1 ((h y).2 (List.mem_cons_self ..))with e'|e'
    ·exact e'.symm
    ·have:=hm'.1 x e;have:=hl'.1 y e';omega
  subst hxy;refine congrArg (x::·) (aE9 hl'.2 hm'.2 fun z=>⟨fun hz=>?_,fun hz=>?_⟩)
  ·rcases List.mem_cons.1 ((h z).1 (List.mem_cons_of_mem _ hz))with e|e
   ·have:=hl'.1 z hz;omega
   ·exact e
  ·rcases List.mem_cons.1 ((h z).2 (List.mem_cons_of_mem _ hz))with e|e
   ·have:=hm'.1 z hz;omega
   ·exact e
theorem aGA {L:List Bk} (hL:aos L) {l:List Int} (h:(aD2 L none l).1=0):eg L (aD2 L none l).2.2=l:=by
 obtain⟨h1,h2,-,h4⟩:=aER hL l none h;refine aE9 (aFR hL _) h2 fun x=>?_
 rw[aEw hL,h4];constructor
 ·rintro⟨hx,y,hy,he⟩;have a1:=aD8 (h1 y hy);have a2:=aD8 hx;rw[he,a2]at a1;rw[a1];exact hy
 ·intro hx;exact⟨h1 x hx,x,hx,rfl⟩
end Go.dg
end
