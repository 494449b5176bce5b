/-
  Texts of the claims: Pld1y. No condition: lemmas and contracts.
-/
import Derived.Test.YtccnimhgjjnmoaaSya1z
import Derived.Test.YtccnimhgjjnmoaaSya2z
import Derived.Test.YtccnimhgjjnmoaaSya3z
import Derived.Test.YtccnimhgjjnmoaaSya4z
import Derived.Test.YtccnimhgjjnmoaaSya5z
import Derived.Test.YtccnimhgjjnmoaaPla6z
import Derived.Test.YtccnimhgjjnmoaaYka7z
import Derived.Test.YtccnimhgjjnmoaaYka8z
import Derived.Test.YtccnimhgjjnmoaaYka9z
import Derived.Test.YtccnimhgjjnmoaaYka10z
import Derived.Test.YtccnimhgjjnmoaaYka11z
import Derived.Test.YtccnimhgjjnmoaaYka12z
import Derived.Test.YtccnimhgjjnmoaaYka13z
import Derived.Test.YtccnimhgjjnmoaaYka14z
import Derived.Test.YtccnimhgjjnmoaaYka15z
import Derived.Test.YtccnimhgjjnmoaaYka16z
import Derived.Test.YtccnimhgjjnmoaaYka17z
import Derived.Test.YtccnimhgjjnmoaaYka18z
import Derived.Test.YtccnimhgjjnmoaaPlb1z
import Derived.Test.YtccnimhgjjnmoaaPlc1z
import Derived.Test.YtccnimhgjjnmoaaYkc2z
import Derived.Test.YtccnimhgjjnmoaaPld1z
import Derived.Test.YtccnimhgjjnmoaaYke1z
import Derived.Test.YtccnimhgjjnmoaaPlf1z
import Derived.Test.YtccnimhgjjnmoaaPlg1z
import Derived.Test.YtccnimhgjjnmoaaYkg2z
import Derived.Test.YtccnimhgjjnmoaaPlh1z
import Derived.Test.YtccnimhgjjnmoaaYkh2z
import Derived.Test.YtccnimhgjjnmoaaYki1z
import Derived.Test.YtccnimhgjjnmoaaPlj1z
import Derived.Test.YtccnimhgjjnmoaaYkk1z
import Derived.Test.YtccnimhgjjnmoaaYkm1z
import Derived.Test.YtccnimhgjjnmoaaPln1z
import Derived.Test.YtccnimhgjjnmoaaYko1z
import Derived.Test.YtccnimhgjjnmoaaPlq1z
import Derived.Test.YtccnimhgjjnmoaaPla1y
import Derived.Test.YtccnimhgjjnmoaaPlb1y
set_option linter.all false
set_option maxRecDepth 100000
set_option maxHeartbeats 40000000
section
namespace Go.dg
theorem aCC {α:Type} {p q:α->Bool}:∀ l:List α,l.countP p=l.countP (fun s=>p s&&!q s)+l.countP (fun s=>p s&&q s)
 |[]=>rfl
 |a::l=>by
  rw[List.countP_cons,List.countP_cons,List.countP_cons,aCC l (p:=p) (q:=q)];cases p a<;>cases q a<;>simp<;>omega
theorem aDh {f lo hi:Int} {L:List Bk} {i:Nat} (hi0:0<=hi) (h:i<L.length):kG f lo hi L=kG f lo hi (L.eraseIdx i)<->∀ s∈anU f lo hi L,gi i s=false:=by
 rw[aCB hi0 h,aC7 _ _ _ _ hi0];unfold aCe anU;rw[aCC (p:=fun s=>al7 f lo hi L s) (q:=fun s=>gi i s)]
 constructor
 ·intro h0 s hs;obtain⟨h1,h2⟩:=List.mem_filter.1 hs;have h0:(List.range (2^L.length)).countP (fun s=>al7 f lo hi L s&&gi i s)=0:=by omega
  have:=List.countP_eq_zero.1 h0 s h1;rw[h2]at this;simpa using this
 ·intro h1;have:(List.range (2^L.length)).countP (fun s=>al7 f lo hi L s&&gi i s)=0:=List.countP_eq_zero.2 fun s hs=>by
   intro h2;rw[Bool.and_eq_true]at h2;have:=h1 s (List.mem_filter.2 ⟨hs,h2.1⟩);rw[this]at h2;simp at h2
  omega
end Go.dg
end
section
namespace Go.dg
def aIV (S:List Int) (L:List Bk):List Bk:=L.filter fun b=>!S.contains b.1
def aIX (S:List Int):List Bk->Nat->Nat
 |[],_=>0
 |b::L,v=>if S.contains b.1=true then 2*aIX S L v else 2*aIX S L (v / 2)+v%2
section
variable {S:List Int}
theorem aI7 {b:Bk} {L:List Bk} (h:S.contains b.1=true):aIV S (b::L)=aIV S L:=by unfold aIV;rw[List.filter_cons,h];rfl
theorem aI5 {b:Bk} {L:List Bk} (h:S.contains b.1=false):aIV S (b::L)=b::aIV S L:=by unfold aIV;rw[List.filter_cons,h];rfl
theorem aI3 {b:Bk} {L:List Bk} {v:Nat} (h:S.contains b.1=true):aIX S (b::L) v=2*aIX S L v:=by simp only[aIX,h,if_true]
theorem aI1 {b:Bk} {L:List Bk} {v:Nat} (h:S.contains b.1=false):aIX S (b::L) v=2*aIX S L (v / 2)+v%2:=by simp only[aIX,h,Bool.false_eq_true,if_false]
theorem aIZ (x r:Nat) (h:r<2):(2*x+r)%2=r/\(2*x+r) / 2=x:=by omega
theorem aJA (f:Int):∀ (L:List Bk) (v:Nat),wN f L (aIX S L v)=wN f (aIV S L) v
 |[],_=>rfl
 |b::L,v=>by
  cases h:S.contains b.1
  ·rw[aI5 h,aI1 h];obtain⟨h1,h2⟩:=aIZ (aIX S L (v / 2)) (v%2) (by omega)
   simp only[wN,h1,h2,aJA f L (v / 2)]
  ·rw[aI7 h,aI3 h];obtain⟨h1,h2⟩:=aIZ (aIX S L v) 0 (by omega)
   rw[Nat.add_zero]at h1 h2;simp only[wN,h1,h2,aJA f L v];simp
theorem aJf:∀ (L:List Bk) (v:Nat),eg L (aIX S L v)=eg (aIV S L) v
 |[],_=>rfl
 |b::L,v=>by
  cases h:S.contains b.1
  ·rw[aI5 h,aI1 h];obtain⟨h1,h2⟩:=aIZ (aIX S L (v / 2)) (v%2) (by omega)
   simp only[eg,h1,h2,aJf L (v / 2)]
  ·rw[aI7 h,aI3 h];obtain⟨h1,h2⟩:=aIZ (aIX S L v) 0 (by omega)
   rw[Nat.add_zero]at h1 h2;simp only[eg,h1,h2,aJf L v];simp
theorem aJd:∀ (L:List Bk) (v:Nat),cnt L.length (aIX S L v)=cnt (aIV S L).length v
 |[],_=>rfl
 |b::L,v=>by
  cases h:S.contains b.1
  ·rw[aI5 h,aI1 h];obtain⟨h1,h2⟩:=aIZ (aIX S L (v / 2)) (v%2) (by omega)
   simp only[cnt,List.length_cons,h1,h2,aJd L (v / 2)]
  ·rw[aI7 h,aI3 h];obtain⟨h1,h2⟩:=aIZ (aIX S L v) 0 (by omega)
   rw[Nat.add_zero]at h1 h2;simp only[cnt,List.length_cons,h1,h2,aJd L v];simp
theorem aJj:∀ (L:List Bk) (a b:Nat),l7 L.length (aIX S L a) (aIX S L b)=l7 (aIV S L).length a b
 |[],_,_=>rfl
 |c::L,a,b=>by
  cases h:S.contains c.1
  ·rw[aI5 h,aI1 h,aI1 h];obtain⟨h1,h2⟩:=aIZ (aIX S L (a / 2)) (a%2) (by omega)
   obtain⟨h3,h4⟩:=aIZ (aIX S L (b / 2)) (b%2) (by omega)
   simp only[l7,List.length_cons,h1,h2,h3,h4,aJj L (a / 2) (b / 2)]
  ·rw[aI7 h,aI3 h,aI3 h];obtain⟨h1,h2⟩:=aIZ (aIX S L a) 0 (by omega)
   obtain⟨h3,h4⟩:=aIZ (aIX S L b) 0 (by omega)
   rw[Nat.add_zero]at h1 h2 h3 h4;simp only[l7,List.length_cons,h1,h2,h3,h4,aJj L a b];simp
theorem aJG (L:List Bk) (a b:Nat):eA L.length (aIX S L a) (aIX S L b)=eA (aIV S L).length a b:=by
 unfold eA;rw[aJd,aJd,aJj]
theorem aI8:∀ {L:List Bk} {v:Nat},v<2^(aIV S L).length->aIX S L v<2^L.length
 |[],v,_=>by show 0<2^0;decide
 |b::L,v,hv=>by
  rw[List.length_cons,Nat.pow_succ];cases h:S.contains b.1
  ·rw[aI5 h,List.length_cons]at hv;rw[aI1 h];have:=aI8 (L:=L) (akx hv);omega
  ·rw[aI7 h]at hv;rw[aI3 h];have:=aI8 (L:=L) hv;omega
theorem aJh:∀ {L:List Bk} {a b:Nat},a<2^(aIV S L).length->b<2^(aIV S L).length->aIX S L a=aIX S L b->a=b
 |[],a,b,ha,hb,_=>by
  have ha:a<1:=ha;have hb:b<1:=hb;omega
 |c::L,a,b,ha,hb,e=>by
  cases h:S.contains c.1
  ·rw[aI5 h,List.length_cons]at ha hb;rw[aI1 h,aI1 h]at e;have:=aJh (L:=L) (akx ha) (akx hb) (by omega)
   omega
  ·rw[aI7 h]at ha hb;rw[aI3 h,aI3 h]at e;exact aJh (L:=L) ha hb (by omega)
theorem aJl:∀ L:List Bk,aIX S L 0=0
 |[]=>rfl
 |b::L=>by
  have ih:=aJl L;cases h:S.contains b.1
  ·rw[aI1 h];show 2*aIX S L 0+0=0;omega
  ·rw[aI3 h];omega
theorem aJk:∀ {L:List Bk} {u:Nat},u<2^L.length->(∀ x∈eg L u,S.contains x=false)->∃ v,v<2^(aIV S L).length/\aIX S L v=u
 |[],u,hu,_=>⟨0,by show 0<2^0;decide,by have:u<1:=hu;show 0=u;omega⟩
 |b::L,u,hu,hx=>by
  have aHU:u / 2<2^L.length:=akx (by simpa using hu)
  have cq:∀ x∈eg L (u / 2),S.contains x=false:=fun x hm=>hx x (by
   show x∈(if u%2=1 then b.1::eg L (u / 2)else eg L (u / 2))
   split
   ·exact List.mem_cons_of_mem _ hm
   ·exact hm)
  obtain⟨v,v1,v2⟩:=aJk aHU cq;cases h:S.contains b.1
  ·refine⟨2*v+u%2,?_,?_⟩
   ·rw[aI5 h,List.length_cons,Nat.pow_succ];omega
   ·obtain⟨h1,h2⟩:=aIZ v (u%2) (by omega)
    rw[aI1 h,h1,h2,v2];omega
  ·have h0:¬u%2=1:=fun e=>by
    have:=hx b.1 (by show b.1∈(if u%2=1 then b.1::eg L (u / 2)else eg L (u / 2));rw[if_pos e];exact List.mem_cons_self ..)
    rw[h]at this;cases this
   refine⟨v,by rw[aI7 h];exact v1,?_⟩
   rw[aI3 h,v2];omega
theorem aJ6 {L:List Bk} {v:Nat} {x:Int} (h:x∈eg (aIV S L) v):S.contains x=false:=by
 obtain⟨b,h1,rfl⟩:=aI9 h;simpa using(List.mem_filter.1 h1).2
theorem aJi (L:List Bk):(aIV S L).length<=L.length:=List.length_filter_le _ _
theorem aKc {L:List Bk} (h:gb L):gb (aIV S L):=
 ⟨Nat.le_trans (aJi L) h.Kg,fun b hb=>h.bk b (List.mem_filter.1 hb).1,List.Pairwise.filter _ h.aos⟩
theorem aJe {l t f:Int} {L:List Bk} {v:Nat} (hv:v<2^(aIV S L).length):akv l t f L (aIX S L v)=akv l t f (aIV S L) v:=by
 rw[Bool.eq_iff_iff,aEY,aEY,aJA];have:aIX S L v≠0<->v≠0:=⟨fun h e=>h (by rw[e,aJl]),fun h e=>h (aJh hv (Nat.two_pow_pos _) (by rw[e,aJl]))⟩
 rw[this]
theorem aJD {l t f:Int} {L:List Bk} (h:∀ u,u<2^L.length->akv l t f L u=true->∀ x∈eg L u,S.contains x=false):
 (gf l t f (aIV S L)).length=(gf l t f L).length/\(gf l t f L≠[]->eg (aIV S L) (aku l t f (aIV S L))=eg L (aku l t f L)):=by
 have aKe:(((List.range (2^(aIV S L).length)).filter (akv l t f (aIV S L))).map (aIX S L)).Perm ((List.range (2^L.length)).filter (akv l t f L)):=by
  refine(List.perm_ext_iff_of_nodup ?_ (List.nodup_range.filter _)).2 fun u=>?_
  ·refine List.pairwise_map.2 ?_;have hn:=List.nodup_range (n:=2^(aIV S L).length);refine List.Pairwise.imp_of_mem ?_ (List.Pairwise.filter (akv l t f (aIV S L)) hn);intro a b ha hb hab e;exact hab (aJh (List.mem_range.1 (List.mem_filter.1 ha).1) (List.mem_range.1 (List.mem_filter.1 hb).1) e)
  ·rw[List.mem_map,List.mem_filter,List.mem_range];constructor
   ·rintro⟨v,hv,rfl⟩;obtain⟨h1,h2⟩:=List.mem_filter.1 hv;have h1:=List.mem_range.1 h1;exact⟨aI8 h1,by rw[aJe h1];exact h2⟩
   ·rintro⟨h1,h2⟩;obtain⟨v,v1,rfl⟩:=aJk h1 (h u h1 h2);exact⟨v,List.mem_filter.2 ⟨List.mem_range.2 v1,by rw[<-aJe v1];exact h2⟩,rfl⟩
 have hlen:(gf l t f (aIV S L)).length=(gf l t f L).length:=by
  have:=aKe.length_eq;rw[List.length_map]at this;unfold gf RK;rw[List.length_map,List.length_map];exact this
 refine⟨hlen,fun hne=>?_⟩
 have aJ5:gf l t f (aIV S L)≠[]:=fun e=>hne (List.eq_nil_of_length_eq_zero (by rw[<-hlen,e];rfl))
 obtain⟨h1,-⟩:=aop aJ5;obtain⟨h2,-⟩:=aop hne;have hg1:=(aFr aJ5).2;have h3:anr L.length (fun u=>aQ (wN f L u-f) (l-t) (l+t)) (aIX S L (aku l t f (aIV S L))):=by
  have hg:=hg1;rw[<-aJe h1.lt,apQ,Bool.and_eq_true,decide_eq_true_eq]at hg;refine⟨aI8 h1.lt,hg.1,hg.2,fun u hu h0 hp=>?_⟩
  have aJp:akv l t f L u=true:=by rw[apQ,Bool.and_eq_true,decide_eq_true_eq];exact⟨h0,hp⟩
  obtain⟨v,v1,rfl⟩:=aJk hu (h u hu aJp);rw[aJG];rw[aJe v1,apQ,Bool.and_eq_true,decide_eq_true_eq]at aJp;exact h1.least v v1 aJp.1 aJp.2
 rw[<-aJf,h3.aql h2]
theorem aJC {l t f:Int} {L:List Bk} {x:Int} (hS:S.contains x=true) (h:∀ u,u<2^L.length->akv l t f L u=true->x∈eg L u):gf l t f (aIV S L)=[]:=aFt fun v hv=>by
 rw[Bool.eq_false_iff];intro hg;have:=h _ (aI8 hv) (by rw[aJe hv];exact hg)
 rw[aJf]at this;rw[aJ6 this]at hS;cases hS
end
end Go.dg
end
