/-
  Texts of the claims: Plr1z. No condition: lemmas and contracts.
-/
import Derived.Test.YtccnimhgjjnmoaaPla6z
import Derived.Test.YtccnimhgjjnmoaaPld1z
import Derived.Test.YtccnimhgjjnmoaaPlf1z
set_option linter.all false
set_option maxRecDepth 100000
set_option maxHeartbeats 40000000
section
namespace Go.dg
theorem aCg (i s:Nat):gi i s=s.testBit i:=by
 rw[Nat.testBit_eq_decide_div_mod_eq];unfold gi;by_cases h:s / 2^i%2=1
 ·rw[decide_eq_true h];simpa using h
 ·rw[decide_eq_false h];simpa using h
/-! ### A set and the rest -/
end Go.dg
end
section
namespace Go.dg
/-! ### The same of sets -/
def aEm (n:Nat) (b:Option (Nat×Nat)) (p q:Nat):Bool:=match b with|none=>false|some (x,y)=>decide (cnt n x+cnt n y<=cnt n p+cnt n q)
def aEz (n:Nat) (p:Nat) (b:Option (Nat×Nat)):List Nat->Option (Nat×Nat)
 |[]=>b
 |q::l=>if aEm n b p q=true then b else if p &&& q=0 then some (p,q)else aEz n p b l
def aFF (n:Nat) (l1 l2:List Nat):Option (Nat×Nat):=l1.foldl (fun b x=>l2.foldl (asn n x) b) none
theorem aEi:∀ (r i u:Nat) (z:Int),z∈idx r i u<->∃ j,j<r/\z=((i+j:Nat):Int)/\gi j u=true
 |0,i,u,z=>by simp[idx]
 |r+1,i,u,z=>by
  have ih:=aEi r (i+1) (u / 2) z;have h0:(∃ j,j<r+1/\z=((i+j:Nat):Int)/\gi j u=true)<->(z=(i:Int)/\gi 0 u=true)\/∃ j,j<r/\z=((i+1+j:Nat):Int)/\gi j (u / 2)=true:=by
   constructor
   ·rintro⟨j,hj,h1,h2⟩;cases j with
    |zero=>exact .inl ⟨by simpa using h1,h2⟩
    |succ j=>exact .inr ⟨j,by omega,by rw[h1];congr 1;omega,by rw[<-aus];exact h2⟩
   ·rintro(⟨h1,h2⟩|⟨j,hj,h1,h2⟩)
    ·exact⟨0,by omega,by simpa using h1,h2⟩
    ·exact⟨j+1,by omega,by rw[h1];congr 1;omega,by rw[aus];exact h2⟩
  rw[h0,idx];have hb:gi 0 u=true<->u%2=1:=by rw[aCu];simp
  by_cases e:u%2=1
  ·rw[if_pos e,List.mem_cons,ih];constructor
   ·rintro(h|h)
    ·exact .inl ⟨h,hb.2 e⟩
    ·exact .inr h
   ·rintro(⟨h,_⟩|h)
    ·exact .inl h
    ·exact .inr h
  ·rw[if_neg e,ih];constructor
   ·exact .inr
   ·rintro(⟨_,h⟩|h)
    ·exact absurd (hb.1 h) e
    ·exact h
theorem and_zero {n x y:Nat} (hx:x<2^n):x &&& y=0<->∀ j,j<n->¬(gi j x=true/\gi j y=true):=by
 constructor
 ·intro h j hj ⟨h1,h2⟩;have:(x &&& y).testBit j=true:=by rw[Nat.testBit_and,<-aCg,<-aCg,h1,h2];rfl
  rw[h]at this;simp at this
 ·intro h;refine Nat.eq_of_testBit_eq fun j=>?_
  rw[Nat.testBit_and,Nat.zero_testBit];rcases Nat.lt_or_ge j n with hj|hj
  ·have:=h j hj;rw[aCg,aCg]at this;cases hx:x.testBit j<;>cases hy:y.testBit j<;>simp_all
  ·rw[Nat.testBit_lt_two_pow (Nat.lt_of_lt_of_le hx (Nat.pow_le_pow_right (by omega) hj))];rfl
theorem aF0 {n x y:Nat} (hx:x<2^n):anf (idx n 0 x) (idx n 0 y)=decide (x &&& y=0):=by
 rw[Bool.eq_iff_iff,decide_eq_true_eq,and_zero hx];unfold anf;rw[Bool.not_eq_true',List.any_eq_false];constructor
 ·intro h j hj ⟨h1,h2⟩;have:=h (j:Int) ((aEi n 0 x _).2 ⟨j,hj,by simp,h1⟩)
  exact this (by rw[List.contains_iff_mem];exact(aEi n 0 y _).2 ⟨j,hj,by simp,h2⟩)
 ·intro h z hz hc;rw[List.contains_iff_mem]at hc;obtain⟨j,hj,h1,h2⟩:=(aEi n 0 x z).1 hz;obtain⟨j',hj',aIe,G6⟩:=(aEi n 0 y z).1 hc;obtain rfl:j=j':=by omega
  exact h j hj ⟨h2,G6⟩
abbrev aEF (n:Nat) (b:Option (Nat×Nat)):Option (List Int×List Int):=b.map fun p=>(idx n 0 p.1,idx n 0 p.2)
theorem aFy {n p:Nat} (hp:p<2^n) (b:Option (Nat×Nat)):∀ l,aly (idx n 0 p) (aEF n b) (l.map (idx n 0))=aEF n (aEz n p b l)
 |[]=>rfl
 |q::l=>by
  have ih:=aFy hp b l;have h1:apl (aEF n b) (idx n 0 p) (idx n 0 q)=aEm n b p q:=by
   cases b with
   |none=>rfl
   |some x=>simp only[aEF,Option.map_some,apl,aEm,alT]
  rw[List.map_cons,aly,aEz,h1,aF0 hp];by_cases e1:aEm n b p q=true
  ·rw[if_pos e1,if_pos e1]
  ·rw[if_neg e1,if_neg e1];by_cases e2:p &&& q=0
   ·rw[if_pos (decide_eq_true e2),if_pos e2];rfl
   ·rw[if_neg (by rw[decide_eq_true_eq];exact e2),if_neg e2];exact ih
theorem ak4.rows {n:Nat} (l2:List Nat):∀ (l1:List Nat) {D:Nat->Nat->Prop} {b:Option (Nat×Nat)},ak4 n D b->ak4 n (fun u v=>D u v\/(u∈l1/\v∈l2/\u &&& v=0)) (l1.foldl (fun b x=>l2.foldl (asn n x) b) b)
 |[],D,b,h=>h.congr fun u v=>by simp
 |x::l1,D,b,h=>by
  rw[List.foldl_cons];refine(ak4.rows l2 l1 (ak4.row x l2 h)).congr fun u v=>?_
  rw[List.mem_cons];constructor
  ·rintro((h|⟨rfl,h1,h2⟩)|⟨h0,h1,h2⟩)
   ·exact .inl h
   ·exact .inr ⟨.inl rfl,h1,h2⟩
   ·exact .inr ⟨.inr h0,h1,h2⟩
  ·rintro(h|⟨rfl|h0,h1,h2⟩)
   ·exact .inl (.inl h)
   ·exact .inl (.inr ⟨rfl,h1,h2⟩)
   ·exact .inr ⟨h0,h1,h2⟩
theorem aEq (n:Nat) (l1 l2:List Nat):ak4 n (fun u v=>u∈l1/\v∈l2/\u &&& v=0) (aFF n l1 l2):=
 (ak4.rows l2 l1 (D:=fun _ _=>False) (b:=none) ⟨fun _ _ _ h=>h,fun p hp=>(by cases hp)⟩).congr fun u v=>by simp
/-! ### The program's search -/
theorem aFp {n a b:Nat} (h:eA n a b=true):cnt n a<=cnt n b:=by
 unfold eA at h;split at h
 ·omega
 ·simp only[decide_eq_true_eq]at h;omega
theorem aFE {n p y q:Nat} (h:eA n q y=true\/y=q):akI n p y p q=false:=by
 rcases h with h|rfl
 ·have h1:=aFp h;have h2:=al0 h;unfold akI;rw[Pa,h2];simp;omega
 ·exact an5 ..
theorem aEU {n p:Nat} {D:Nat->Nat->Prop} {b:Option (Nat×Nat)} (h:ak4 n D b) (hp:∀ u v,D u v->eA n u p=true) (hne:∀ u v,D u v->u≠p):∀ (l done:List Nat),(done++l).Pairwise (fun a b=>eA n a b=true)->(∀ v∈done,¬p &&& v=0)->
 ak4 n (fun u v=>D u v\/(u=p/\v∈done++l/\p &&& v=0)) (aEz n p b l)
 |[],done,_,hd=>h.congr fun u v=>by
  rw[List.append_nil];constructor
  ·exact .inl
  ·rintro(h|⟨_,h1,h2⟩)
   ·exact h
   ·exact absurd h2 (hd v h1)
 |q::l,done,ho,hd=>by
  have aAn:∀ v∈q::l,eA n q v=true\/v=q:=fun v hv=>by
   rcases List.mem_cons.1 hv with rfl|hv
   ·exact .inr rfl
   ·exact .inl ((List.pairwise_cons.1 (List.pairwise_append.1 ho).2.1).1 v hv)
  rw[aEz];by_cases e1:aEm n b p q=true
  ·rw[if_pos e1];cases b with
   |none=>cases e1
   |some r=>
    obtain⟨x,y⟩:=r;obtain⟨h1,h2⟩:=h.some _ rfl;dsimp only[aEm]at e1 h1 h2;simp only[decide_eq_true_eq]at e1;refine⟨fun h=>(by cases h),fun r hr=>?_⟩
    obtain rfl:=Option.some.inj hr;refine⟨.inl h1,fun u v akF=>?_⟩
    rcases akF with akF|⟨rfl,hv,h0⟩
    ·exact h2 u v akF
    ·rcases List.mem_append.1 hv with hv|hv
     ·exact absurd h0 (hd v hv)
     ·have hc:cnt n q<=cnt n v:=by
       rcases aAn v hv with h|rfl
       ·exact aFp h
       ·exact Nat.le_refl _
      have ha:=al0 (hp _ _ h1);have hn:=hne _ _ h1;unfold akI;simp only[ha,Bool.false_or,Bool.or_eq_false_iff,Bool.and_eq_false_iff,decide_eq_false_iff_not];exact⟨by omega,.inr (.inl (fun e=>hn e.symm))⟩
  ·rw[if_neg e1];by_cases e2:p &&& q=0
   ·rw[if_pos e2];refine⟨fun h=>(by cases h),fun r hr=>?_⟩
    obtain rfl:=Option.some.inj hr;refine⟨.inr ⟨rfl,List.mem_append_right _ (List.mem_cons_self ..),e2⟩,fun u v akF=>?_⟩
    rcases akF with akF|⟨rfl,hv,h0⟩
    ·cases b with
     |none=>exact absurd akF (h.none rfl _ _)
     |some r=>
      obtain⟨x,y⟩:=r;have h2:=(h.some _ rfl).2 u v akF;dsimp only[aEm]at e1 h2;simp only[decide_eq_true_eq]at e1;unfold akI at h2 ⊢;simp only[Bool.or_eq_false_iff,Bool.and_eq_false_iff,decide_eq_false_iff_not]at h2 ⊢;exact⟨by omega,.inl (by omega)⟩
    ·rcases List.mem_append.1 hv with hv|hv
     ·exact absurd h0 (hd v hv)
     ·exact aFE (aAn v hv)
   ·rw[if_neg e2];have:=aEU h hp hne l (done++[q]) (by rw[List.append_assoc];exact ho) (fun v hv=>by
     rcases List.mem_append.1 hv with hv|hv
     ·exact hd v hv
     ·rw[List.mem_singleton.1 hv];exact e2)
    rw[List.append_assoc]at this;exact this
theorem aEV {n:Nat} {l2:List Nat} (h2:l2.Pairwise (fun a b=>eA n a b=true)):∀ (l done:List Nat) {b:Option (Nat×Nat)},(done++l).Pairwise (fun a b=>eA n a b=true)->ak4 n (fun u v=>u∈done/\v∈l2/\u &&& v=0) b->
 ak4 n (fun u v=>u∈done++l/\v∈l2/\u &&& v=0) (l.foldl (fun b p=>aEz n p b l2) b)
 |[],done,b,_,h=>by rw[List.append_nil];exact h
 |p::l,done,b,ho,h=>by
  rw[List.foldl_cons];have aHk:∀ u∈done,eA n u p=true:=fun u hu=>(List.pairwise_append.1 ho).2.2 u hu p (List.mem_cons_self ..)
  have h3:=aEU h (p:=p) (fun u v akF=>aHk u akF.1) (fun u v akF e=>by have:=aHk u akF.1;rw[e,Pa]at this;cases this) l2 [] (by simpa using h2) (fun v hv=>absurd hv List.not_mem_nil)
  have h4:=aEV h2 l (done++[p]) (by rw[List.append_assoc];exact ho) (h3.congr fun u v=>by
   rw[List.nil_append,List.mem_append,List.mem_singleton];constructor
   ·rintro(⟨a,b,c⟩|⟨rfl,b,c⟩)
    ·exact⟨.inl a,b,c⟩
    ·exact⟨.inr rfl,b,c⟩
   ·rintro⟨a|rfl,b,c⟩
    ·exact .inl ⟨a,b,c⟩
    ·exact .inr ⟨rfl,b,c⟩)
  rw[List.append_assoc]at h4;exact h4
theorem aG6 {f f' lo hi lo' hi':Int} {L:List Bk} {p p':Nat->Bool} (hp:∀ u,p u=(decide (u≠0)&&aQ (wN f L u-f) lo hi)) (hp':∀ u,p' u=(decide (u≠0)&&aQ (wN f' L u-f') lo' hi')):
 aoC (Og f lo hi L L.length) (Og f' lo' hi' L L.length)=aEF L.length (aFF L.length ((List.range (2^L.length)).filter p) ((List.range (2^L.length)).filter p')):=by
 have hmem:∀ (g lo hi:Int) (q:Nat->Bool),(∀ u,q u=(decide (u≠0)&&aQ (wN g L u-g) lo hi))->∀ u,u∈(alL L.length L.length).filter (fun u=>aQ (wN g L u-g) lo hi)<->u∈(List.range (2^L.length)).filter q:=fun g lo hi q hq u=>by
  rw[List.mem_filter,List.mem_filter,List.mem_range,hq,Bool.and_eq_true,decide_eq_true_eq];have:=an6 (n:=L.length) (s:=u);unfold AL at this;rw[this];exact⟨fun⟨⟨a,b⟩,c⟩=>⟨a,b,c⟩,fun⟨a,b,c⟩=>⟨⟨a,b⟩,c⟩⟩
 have RC:=(aob L.length L.length).filter (fun u=>aQ (wN f L u-f) lo hi)
 have RD:=(aob L.length L.length).filter (fun u=>aQ (wN f' L u-f') lo' hi')
 have Nq:=hmem f lo hi p hp;have Nr:=hmem f' lo' hi' p' hp';rw[D6,D6];generalize (alL L.length L.length).filter (fun u=>aQ (wN f L u-f) lo hi)=A at*
 generalize (alL L.length L.length).filter (fun u=>aQ (wN f' L u-f') lo' hi')=B at*
 have aG7:∀ (l:List Nat) (b:Option (Nat×Nat)),(∀ u∈l,u<2^L.length)->(l.map (idx L.length 0)).foldl (fun b p=>aly p b (B.map (idx L.length 0))) (aEF L.length b)=aEF L.length (l.foldl (fun b p=>aEz L.length p b B) b):=by
  intro l;induction l with
  |nil=>intro b _;rfl
  |cons p l ih=>
   intro b hl;rw[List.map_cons,List.foldl_cons,List.foldl_cons,aFy (hl p (List.mem_cons_self ..)),ih _ (fun u hu=>hl u (List.mem_cons_of_mem _ hu))]
 have hlt:∀ u∈A,u<2^L.length:=fun u hu=>List.mem_range.1 (List.mem_filter.1 ((Nq u).1 hu)).1
 unfold aoC;rw[show(none:Option (List Int×List Int))=aEF L.length none from rfl,aG7 A none hlt]
 congr 1
 have Kj:=aEV RD A [] (b:=none) (by simpa using RC) ⟨fun _ x y h=>absurd h.1 List.not_mem_nil,fun p hp=>by cases hp⟩
 have Y8:=(aEq L.length ((List.range (2^L.length)).filter p) ((List.range (2^L.length)).filter p')).congr (D':=fun u v=>u∈[]++A/\v∈B/\u &&& v=0) (fun u v=>by rw[List.nil_append,Nq,Nr])
 refine ak4.aql (fun x y h=>⟨hlt x (by simpa using h.1),?_⟩) Kj Y8
 exact List.mem_range.1 (List.mem_filter.1 ((Nr y).1 h.2.1)).1
end Go.dg
end
