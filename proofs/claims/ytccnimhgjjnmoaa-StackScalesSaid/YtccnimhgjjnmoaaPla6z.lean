/-
  Texts of the claims: Pla6z. No condition: lemmas and contracts.
-/
import Derived.Lib.SlicesCompact
set_option linter.all false
set_option maxRecDepth 100000
set_option maxHeartbeats 40000000
section
namespace Go.dg
abbrev Bk:=Int×Int
abbrev Wt:=Int×Int×Int
def wN (f:Int):List Bk->Nat->Int
 |[],_=>0
 |b::L,s=>(if s%2=1 then b.2+f else 0)+wN f L (s / 2)
def cnt:Nat->Nat->Nat
 |0,_=>0
 |n+1,s=>s%2+cnt n (s / 2)
def eg:List Bk->Nat->List Int
 |[],_=>[]
 |b::L,s=>if s%2=1 then b.1::eg L (s / 2)else eg L (s / 2)
def idx:Nat->Nat->Nat->List Int
 |0,_,_=>[]
 |n+1,i,s=>if s%2=1 then(i:Int)::idx n (i+1) (s / 2)else idx n (i+1) (s / 2)
def l7:Nat->Nat->Nat->Bool
 |0,_,_=>false
 |n+1,a,b=>if a%2=b%2 then l7 n (a / 2) (b / 2)else a%2==1
def PN:Nat->Nat->List Nat
 |0,_=>[0]
 |_+1,0=>[]
 |m+1,r+1=>(PN m r).map (fun s=>2*s+1)++(PN (m+1) r).map (fun s=>2*s)
def aua (f:Int) (out:List Int) (b:Bk):List Int:=out++out.map (fun n=>n+b.2+f)
def e7 (f:Int) (P:List Bk):List Int:=P.foldl (aua f) [0]
theorem akx {s n:Nat} (h:s<2^(n+1)):s / 2<2^n:=by rw[Nat.pow_succ]at h;omega
theorem au2 {s n:Nat}:(2^(n+1)+s) / 2=2^n+s / 2/\(2^(n+1)+s)%2=s%2:=by rw[Nat.pow_succ];omega
theorem apK (s k:Nat):s / 2 / 2^k=s / 2^(k+1):=by rw[Nat.div_div_eq_div_mul,Nat.pow_succ,Nat.mul_comm]
theorem amX (f:Int):∀ (L:List Bk) (b:Bk) (s:Nat),wN f (L++[b]) s=wN f L s+(if s / 2^L.length%2=1 then b.2+f else 0)
 |[],b,s=>by simp[wN]
 |a::L,b,s=>by
  simp only[List.cons_append,wN,List.length_cons];rw[amX f L b (s / 2),apK];omega
theorem akU (f:Int):∀ L:List Bk,wN f L 0=0
 |[]=>rfl
 |_::L=>by simp[wN,akU f L]
theorem art (f:Int):∀ (L:List Bk) (s:Nat),wN f L (2^L.length+s)=wN f L s
 |[],_=>rfl
 |a::L,s=>by
  obtain⟨h1,h2⟩:=@au2 s L.length;simp only[wN,List.length_cons,h1,h2,art f L]
theorem aoP {s n:Nat} (h:s<2^n):s / 2^n=0:=Nat.div_eq_of_lt h
theorem auI {s n:Nat} (h:s<2^n):(2^n+s) / 2^n=1:=by
 rw[Nat.add_div_left _ (Nat.two_pow_pos n),aoP h]
theorem amh (f:Int) (P:List Bk) (b:Bk):e7 f (P++[b])=aua f (e7 f P) b:=by unfold e7;rw[List.foldl_append];rfl
theorem aqg {α:Type} {p:List α->Prop} (h0:p []) (h1:∀ l a,p l->p (l++[a])) (l:List α):p l:=by
 have:∀ l:List α,p l.reverse:=fun l=>by
  induction l with
  |nil=>exact h0
  |cons a l ih=>rw[List.reverse_cons];exact h1 _ _ ih
 have h:=this l.reverse;rwa[List.reverse_reverse]at h
theorem aoa (f:Int) (P:List Bk):e7 f P=(List.range (2^P.length)).map (wN f P):=by
 induction P using aqg with
 |h0=>rfl
 |h1 P b ih=>
  rw[amh,aua,ih,List.length_append,List.length_singleton,Nat.pow_succ,Nat.mul_two,List.range_add,List.map_append,List.map_map,List.map_map]
  congr 1
  ·refine List.map_congr_left fun s hs=>?_
   rw[amX,aoP (List.mem_range.1 hs)];simp
  ·refine List.map_congr_left fun s hs=>?_
   have h:=List.mem_range.1 hs;simp only[Function.comp];rw[amX,auI h,art];simp only[Nat.reduceMod,if_true];omega
theorem x7 (f:Int) (P:List Bk):(e7 f P).length=2^P.length:=by rw[aoa];simp
theorem aoE (f:Int) (P:List Bk) {s:Nat} (h:s<2^P.length):(e7 f P).getD s 0=wN f P s:=by
 rw[aoa,List.getD_eq_getElem?_getD,List.getElem?_map,List.getElem?_range h];rfl
theorem anT {α β:Type} {f g:α->List β}:∀ {l:List α},(∀ a∈l,f a=g a)->l.flatMap f=l.flatMap g
 |[],_=>rfl
 |a::l,h=>by rw[List.flatMap_cons,List.flatMap_cons,h a (List.mem_cons_self ..),anT (fun a ha=>h a (List.mem_cons_of_mem _ ha))]
theorem aru (f:Int) (A B:List Bk):e7 f (A++B)=(e7 f B).flatMap fun y=>(e7 f A).map (fun x=>x+y):=by
 induction B using aqg with
 |h0=>simp[e7]
 |h1 B b ih=>
  rw[<-List.append_assoc,amh,amh,aua,aua,ih,List.flatMap_append,List.flatMap_map,List.map_flatMap]
  congr 1
  refine anT fun y _=>?_
  rw[List.map_map];refine List.map_congr_left fun x _=>?_
  simp only[Function.comp];omega
def ak1 (L:List Bk):Prop:=∀ b∈L,1<=b.2
theorem alH {f:Int} (hf:0<=f):∀ {L:List Bk} (_:ak1 L) (s:Nat),0<=wN f L s
 |[],_,_=>Int.le_refl _
 |b::L,h,s=>by
  have h1:=h b (List.mem_cons_self ..);have h2:=alH hf (fun b hb=>h b (List.mem_cons_of_mem _ hb):ak1 L) (s / 2)
  simp only[wN];split<;>omega
theorem aqn {f:Int} (hf:0<=f):∀ {L:List Bk} (_:ak1 L) {s:Nat},s≠0->s<2^L.length->0<wN f L s
 |[],_,s,h,h'=>by simp at h';omega
 |b::L,h,s,h0,hs=>by
  have h1:=h b (List.mem_cons_self ..);have hL:ak1 L:=fun b hb=>h b (List.mem_cons_of_mem _ hb)
  have h2:=alH hf hL (s / 2);simp only[wN];by_cases e:s%2=1
  ·rw[if_pos e];omega
  ·rw[if_neg e];have:=aqn hf hL (s:=s / 2) (by omega) (akx hs)
   omega
/-! ### How many sets have a weight from lo to hi -/
def amr (lo hi x:Int):Bool:=decide (lo<=x)&&decide (x<=hi)
def ar2 (f lo hi:Int) (B:List Bk) (n x:Int):Int:=n+(((e7 f B).countP (fun y=>decide (x+y<=hi)):Nat)-((e7 f B).countP (fun y=>decide (x+y<lo)):Nat))
def aom (f lo hi:Int) (L:List Bk):Int:=((e7 f L).countP (amr lo hi):Nat)
def kG (f lo hi:Int) (L:List Bk):Int:=if lo<=0 then aom f lo hi L-1 else aom f lo hi L
theorem amw (lo hi x:Int) (hle:lo<=hi+1):∀ l:List Int,((l.countP fun y=>decide (x+y<=hi):Nat):Int)-(l.countP fun y=>decide (x+y<lo):Nat)=(l.countP fun y=>amr lo hi (x+y):Nat)
 |[]=>rfl
 |y::l=>by
  have ih:=amw lo hi x hle l;simp only[List.countP_cons,amr,Bool.and_eq_true,decide_eq_true_eq]at ih ⊢;split<;>split<;>split<;>omega
theorem am2 {α β:Type} (p:β->Bool) (f:α->List β):∀ l:List α,(l.flatMap f).countP p=(l.map fun x=>(f x).countP p).sum
 |[]=>rfl
 |a::l=>by rw[List.flatMap_cons,List.countP_append,am2 p f l];rfl
theorem aqi {β:Type}:∀ B:List β,(B.map fun _=>0).sum=0
 |[]=>rfl
 |b::B=>by rw[List.map_cons,List.sum_cons,aqi B]
theorem ao3 {β:Type} (g h:β->Nat) (q:β->Bool) (hq:∀ b,g b=h b+if q b=true then 1 else 0):∀ B:List β,B.countP q+(B.map h).sum=(B.map g).sum
 |[]=>rfl
 |b::B=>by
  have:=ao3 g h q hq B;rw[List.countP_cons,List.map_cons,List.map_cons,List.sum_cons,List.sum_cons,hq b,<-this];omega
theorem anN {α β:Type} (p:α->β->Bool) (B:List β):∀ A:List α,(A.map fun x=>B.countP (p x)).sum=(B.map fun y=>A.countP (fun x=>p x y)).sum
 |[]=>by simp only[List.map_nil,List.sum_nil,List.countP_nil];exact(aqi B).symm
 |a::A=>by
  rw[List.map_cons,List.sum_cons,anN p B A];exact ao3 _ _ _ (fun b=>by rw[List.countP_cons]) B
theorem amv {f lo hi:Int} {B:List Bk} (hle:lo<=hi+1):∀ (A:List Int) (n:Int),A.foldl (ar2 f lo hi B) n=n+((A.map fun x=>(e7 f B).countP fun y=>amr lo hi (x+y)).sum:Nat)
 |[],n=>by simp
 |x::A,n=>by
  rw[List.foldl_cons,amv hle A,List.map_cons,List.sum_cons,ar2,amw lo hi x hle];omega
theorem ar1 {f lo hi:Int} (hle:lo<=hi+1) (A B:List Bk):(e7 f A).foldl (ar2 f lo hi B) 0=aom f lo hi (A++B):=by
 rw[amv hle,aom,aru,am2,anN (fun x y=>amr lo hi (x+y))]
 simp only[List.countP_map,Int.zero_add];rfl
def al7 (f lo hi:Int) (L:List Bk) (s:Nat):Bool:=decide (s≠0)&&amr lo hi (wN f L s)
def anU (f lo hi:Int) (L:List Bk):List Nat:=(List.range (2^L.length)).filter (al7 f lo hi L)
theorem anM {f lo hi:Int} (L:List Bk) (h:0<=hi):kG f lo hi L=(anU f lo hi L).length:=by
 have h0:0<2^L.length:=Nat.two_pow_pos _;obtain⟨n,hn⟩:∃ n,2^L.length=n+1:=⟨2^L.length-1,by omega⟩
 have h1:((List.range n).map Nat.succ).countP (amr lo hi∘wN f L)=((List.range n).map Nat.succ).countP (al7 f lo hi L):=by
  refine List.countP_congr fun s hs=>?_
  obtain⟨k,_,rfl⟩:=List.mem_map.1 hs;simp[al7]
 unfold kG aom anU;rw[aoa,List.countP_map,<-List.countP_eq_length_filter,hn,List.range_succ_eq_map,List.countP_cons,List.countP_cons,h1];have e:al7 f lo hi L 0=false:=by simp[al7]
 have e2:(amr lo hi∘wN f L) 0=decide (lo<=0):=by simp[amr,akU,h]
 rw[e,e2];by_cases hl:lo<=0<;>simp[hl]
end Go.dg
end
section
namespace Go.dg
theorem ajs (n s:Nat):cnt n s<=n:=by
 induction n generalizing s with
 |zero=>exact Nat.le_refl _
 |succ n ih=>have:=ih (s / 2);simp only[cnt];omega
theorem aon:∀ {n s:Nat},s<2^n->s≠0->0<cnt n s
 |0,s,h,h'=>by simp at h;omega
 |n+1,s,h,h'=>by
  simp only[cnt];by_cases e:s / 2=0
  ·have:s=1:=by omega
   subst this;omega
  ·have:=aon (akx h) e;omega
theorem akJ:∀ n,cnt n 0=0
 |0=>rfl
 |n+1=>by simp[cnt,akJ n]
theorem alx {s:Nat}:∀ {m r:Nat},s∈PN m r->s<2^r/\cnt r s=m
 |0,r,h=>by
  simp only[PN,List.mem_singleton]at h;subst h;exact⟨Nat.two_pow_pos _,akJ r⟩
 |m+1,0,h=>by simp[PN]at h
 |m+1,r+1,h=>by
  simp only[PN,List.mem_append,List.mem_map]at h;rcases h with⟨t,ht,rfl⟩|⟨t,ht,rfl⟩
  ·obtain⟨h1,h2⟩:=alx ht;refine⟨by rw[Nat.pow_succ];omega,?_⟩
   have e1:(2*t+1)%2=1:=by omega
   have e2:(2*t+1) / 2=t:=by omega
   simp only[cnt,e1,e2];omega
  ·obtain⟨h1,h2⟩:=alx ht;refine⟨by rw[Nat.pow_succ];omega,?_⟩
   have e1:(2*t)%2=0:=by omega
   have e2:(2*t) / 2=t:=by omega
   simp only[cnt,e1,e2];omega
theorem auG:∀ {n s:Nat},s<2^n->cnt n s=0->s=0:=fun h h'=>Classical.byContradiction fun hn=>by have:=aon h hn;omega
theorem anv:∀ {m r s:Nat},s<2^r->cnt r s=m->s∈PN m r
 |0,r,s,h,h'=>by simp only[PN,List.mem_singleton];exact auG h h'
 |m+1,0,s,h,h'=>by simp[cnt]at h'
 |m+1,r+1,s,h,h'=>by
  simp only[PN,List.mem_append,List.mem_map];simp only[cnt]at h';by_cases e:s%2=1
  ·exact .inl ⟨s / 2,anv (akx h) (by omega),by omega⟩
  ·exact .inr ⟨s / 2,anv (akx h) (by omega),by omega⟩
theorem as5 (n a:Nat):l7 n a a=false:=by
 induction n generalizing a with
 |zero=>rfl
 |succ n ih=>simp[l7,ih]
theorem apI:∀ {n a b:Nat},a<2^n->b<2^n->a≠b->l7 n a b=false->l7 n b a=true
 |0,a,b,ha,hb,h,_=>by simp at ha hb;omega
 |n+1,a,b,ha,hb,h,h'=>by
  simp only[l7]at h' ⊢;by_cases e:a%2=b%2
  ·rw[if_pos e]at h';rw[if_pos e.symm];exact apI (akx ha) (akx hb) (by omega) h'
  ·rw[if_neg e]at h';rw[if_neg (fun h=>e h.symm)]
   simp only[beq_eq_false_iff_ne,ne_eq]at h';simp only[beq_iff_eq];omega
theorem anO:∀ {n a b c:Nat},l7 n a b=true->l7 n b c=true->l7 n a c=true
 |0,_,_,_,h,_=>by cases h
 |n+1,a,b,c,h,h'=>by
  simp only[l7]at h h' ⊢;by_cases e:a%2=b%2<;>by_cases e':b%2=c%2
  ·rw[if_pos e]at h;rw[if_pos e']at h';rw[if_pos (e.trans e')];exact anO h h'
  ·rw[if_neg e']at h';rw[if_neg (by omega)];simp only[beq_iff_eq]at h' ⊢;omega
  ·rw[if_neg e]at h;rw[if_neg (by omega)];exact h
  ·rw[if_neg e]at h;rw[if_neg e']at h';simp only[beq_iff_eq]at h h';omega
def eA (n a b:Nat):Bool:=if cnt n a=cnt n b then l7 n a b else decide (cnt n a<cnt n b)
theorem Pa (n a:Nat):eA n a a=false:=by simp[eA,as5]
theorem Hf {n a b c:Nat} (h:eA n a b=true) (h':eA n b c=true):eA n a c=true:=by
 unfold eA at h h' ⊢;by_cases e:cnt n a=cnt n b<;>by_cases e':cnt n b=cnt n c
 ·rw[if_pos e]at h;rw[if_pos e']at h';rw[if_pos (e.trans e')];exact anO h h'
 ·rw[if_neg e']at h';rw[if_neg (by omega)];simp only[decide_eq_true_eq]at h' ⊢;omega
 ·rw[if_neg e]at h;rw[if_neg (by omega)];simp only[decide_eq_true_eq]at h ⊢;omega
 ·rw[if_neg e]at h;rw[if_neg e']at h';simp only[decide_eq_true_eq]at h h';rw[if_neg (by omega)];exact decide_eq_true (by omega)
theorem amm {n a b:Nat} (ha:a<2^n) (hb:b<2^n) (h:a≠b) (h':eA n a b=false):eA n b a=true:=by
 unfold eA at h' ⊢;by_cases e:cnt n a=cnt n b
 ·rw[if_pos e]at h';rw[if_pos e.symm];exact apI ha hb h h'
 ·rw[if_neg e]at h';rw[if_neg (fun h=>e h.symm)]
  simp only[decide_eq_false_iff_not]at h';simp only[decide_eq_true_eq];omega
theorem al0 {n a b:Nat} (h:eA n a b=true):eA n b a=false:=by
 rw[Bool.eq_false_iff];intro h';have:=Hf h h';rw[Pa]at this;cases this
theorem aod:∀ (m r:Nat),(PN m r).Pairwise (fun a b=>l7 r a b=true)
 |0,_=>by simp[PN]
 |_+1,0=>by simp[PN]
 |m+1,r+1=>by
  simp only[PN];refine List.pairwise_append.2 ⟨?_,?_,?_⟩
  ·refine List.pairwise_map.2 ((aod m r).imp fun{a b} h=>?_)
   have e1:(2*a+1)%2=(2*b+1)%2:=by omega
   have e2:(2*a+1) / 2=a:=by omega
   have e3:(2*b+1) / 2=b:=by omega
   simp only[l7,if_pos e1,e2,e3];exact h
  ·refine List.pairwise_map.2 ((aod (m+1) r).imp fun{a b} h=>?_)
   have e1:(2*a)%2=(2*b)%2:=by omega
   have e2:(2*a) / 2=a:=by omega
   have e3:(2*b) / 2=b:=by omega
   simp only[l7,if_pos e1,e2,e3];exact h
  ·intro a ha b hb;obtain⟨s,_,rfl⟩:=List.mem_map.1 ha;obtain⟨t,_,rfl⟩:=List.mem_map.1 hb;have e1:¬(2*s+1)%2=(2*t)%2:=by omega
   have e2:(2*s+1)%2=1:=by omega
   unfold l7;rw[if_neg e1,e2];rfl
def alL (n k:Nat):List Nat:=(List.range k).flatMap fun j=>PN (j+1) n
def AL (n:Nat):List Nat:=alL n n
theorem am9 (n k:Nat):alL n (k+1)=alL n k++PN (k+1) n:=by unfold alL;rw[List.range_succ,List.flatMap_append];simp
theorem arh {n k s:Nat}:s∈alL n k<->s<2^n/\0<cnt n s/\cnt n s<=k:=by
 unfold alL;rw[List.mem_flatMap];constructor
 ·rintro⟨j,hj,hs⟩;obtain⟨h1,h2⟩:=alx hs;have:=List.mem_range.1 hj;exact⟨h1,by omega,by omega⟩
 ·rintro⟨h1,h2,h3⟩;exact⟨cnt n s-1,List.mem_range.2 (by omega),anv h1 (by omega)⟩
theorem an6 {n s:Nat}:s∈AL n<->s<2^n/\s≠0:=by
 unfold AL;rw[arh];constructor
 ·rintro⟨h1,h2,_⟩;exact⟨h1,fun h=>by subst h;rw[akJ]at h2;omega⟩
 ·rintro⟨h1,h2⟩;exact⟨h1,aon h1 h2,ajs _ _⟩
theorem aob (n:Nat):∀ k,(alL n k).Pairwise (fun a b=>eA n a b=true)
 |0=>by simp[alL]
 |k+1=>by
  rw[am9];refine List.pairwise_append.2 ⟨aob n k,?_,?_⟩
  ·refine List.Pairwise.imp_of_mem (fun{a b} ha hb h=>?_) (aod (k+1) n)
   unfold eA;rw[if_pos (by rw[(alx ha).2,(alx hb).2])];exact h
  ·intro a ha b hb;obtain⟨_,_,h3⟩:=arh.1 ha;have h4:=(alx hb).2;unfold eA;rw[if_neg (by omega)];exact decide_eq_true (by omega)
structure anr (n:Nat) (p:Nat->Bool) (s:Nat):Prop where
 lt:s<2^n
 ne:s≠0
 ni:p s=true
 least:∀ t,t<2^n->t≠0->p t=true->eA n t s=false
theorem anr.aql {n:Nat} {p:Nat->Bool} {s t:Nat} (h:anr n p s) (h':anr n p t):s=t:=
 Classical.byContradiction fun hn=>by
  have h1:=h.least t h'.lt h'.ne h'.ni;have h2:=amm h'.lt h.lt (fun e=>hn e.symm) h1
  rw[h'.least s h.lt h.ne h.ni]at h2;cases h2
theorem anR {n:Nat} {p:Nat->Bool}:∀ {l:List Nat} {s:Nat},l.Pairwise (fun a b=>eA n a b=true)->l.find? p=some s->s∈l/\p s=true/\∀ t∈l,p t=true->eA n t s=false
 |[],_,_,h=>by cases h
 |a::l,s,hp,h=>by
  have hp:=List.pairwise_cons.1 hp;rw[List.find?_cons]at h;split at h
  ·rename_i ha;obtain rfl:=Option.some.inj h;refine⟨List.mem_cons_self ..,ha,fun t ht _=>?_⟩
   rcases List.mem_cons.1 ht with rfl|ht
   ·exact Pa _ _
   ·exact al0 (hp.1 t ht)
  ·rename_i ha;obtain⟨h1,h2,h3⟩:=anR hp.2 h;refine⟨List.mem_cons_of_mem _ h1,h2,fun t ht hpt=>?_⟩
   rcases List.mem_cons.1 ht with rfl|ht
   ·rw[hpt]at ha;cases ha
   ·exact h3 t ht hpt
theorem apn {n:Nat} {p:Nat->Bool} {s:Nat} (h:(AL n).find? p=some s):anr n p s:=by
 obtain⟨h1,h2,h3⟩:=anR (aob n n) h;obtain⟨h4,h5⟩:=an6.1 h1;exact⟨h4,h5,h2,fun t h6 h7 h8=>h3 t (an6.2 ⟨h6,h7⟩) h8⟩
theorem aqF {n:Nat} {p:Nat->Bool} (h:(AL n).find? p=none):∀ t,t<2^n->t≠0->p t=false:=fun t h1 h2=>by
 have:=List.find?_eq_none.1 h t (an6.2 ⟨h1,h2⟩);simpa using this
def akM (n:Nat) (b x:Nat):Nat:=if b=0\/eA n x b=true then x else b
def kB (n:Nat) (l:List Nat):Nat:=l.foldl (akM n) 0
structure FF (n:Nat) (l:List Nat) (b r:Nat):Prop where
 f1:r=b\/r∈l
 f2:r=0->l=[]/\b=0
 f3:∀ x∈l,eA n x r=false
 f4:b≠0->r≠b->eA n r b=true
 f5:b≠0->eA n b r=false
theorem anh {n:Nat}:∀ (l:List Nat) (b:Nat),(∀ x∈l,x<2^n/\x≠0)->(b=0\/b<2^n)->FF n l b (l.foldl (akM n) b)
 |[],b,_,_=>⟨.inl rfl,fun h=>⟨rfl,h⟩,fun x h=>absurd h List.not_mem_nil,fun _ h=>absurd rfl h,fun _=>Pa _ _⟩
 |a::l,b,h,hb=>by
  have ha:=h a (List.mem_cons_self ..);have hl:∀ x∈l,x<2^n/\x≠0:=fun x hx=>h x (List.mem_cons_of_mem _ hx)
  rw[List.foldl_cons];by_cases e:b=0\/eA n a b=true
  ·have es:akM n b a=a:=if_pos e;rw[es];obtain⟨h1,h2,h3,h4,h5⟩:=anh l a hl (.inr ha.1);refine⟨?_,fun h0=>absurd (h2 h0).2 ha.2,fun x hx=>?_,fun hb0 hne=>?_,fun hb0=>?_⟩
   ·rcases h1 with h1|h1
    ·exact .inr (by rw[h1];exact List.mem_cons_self ..)
    ·exact .inr (List.mem_cons_of_mem _ h1)
   ·rcases List.mem_cons.1 hx with rfl|hx
    ·exact h5 ha.2
    ·exact h3 x hx
   ·have e1:eA n a b=true:=by rcases e with e|e;exact absurd e hb0;exact e
    by_cases e2:l.foldl (akM n) a=a
    ·rw[e2];exact e1
    ·exact Hf (h4 ha.2 e2) e1
   ·have e1:eA n a b=true:=by rcases e with e|e;exact absurd e hb0;exact e
    by_cases e2:l.foldl (akM n) a=a
    ·rw[e2];exact al0 e1
    ·exact al0 (Hf (h4 ha.2 e2) e1)
  ·have es:akM n b a=b:=if_neg e;rw[es];obtain⟨h1,h2,h3,h4,h5⟩:=anh l b hl hb;have hb0:b≠0:=fun h=>e (.inl h)
   refine⟨?_,fun h0=>absurd (h2 h0).2 hb0,fun x hx=>?_,h4,h5⟩
   ·rcases h1 with h1|h1
    ·exact .inl h1
    ·exact .inr (List.mem_cons_of_mem _ h1)
   ·rcases List.mem_cons.1 hx with rfl|hx
    ·have e1:eA n x b=false:=by rw[Bool.eq_false_iff];exact fun h=>e (.inr h)
     by_cases e2:l.foldl (akM n) b=b
     ·rw[e2];exact e1
     ·rw[Bool.eq_false_iff];intro h6;have:=Hf h6 (h4 hb0 e2);rw[e1]at this;cases this
    ·exact h3 x hx
theorem atl {n:Nat} {p:Nat->Bool} {s:Nat} (h:anr n p s):kB n ((List.range (2^n)).filter (fun t=>decide (t≠0)&&p t))=s:=by
 have hm:∀ x,x∈(List.range (2^n)).filter (fun t=>decide (t≠0)&&p t)<->x<2^n/\x≠0/\p x=true:=fun x=>by
  rw[List.mem_filter,List.mem_range];simp
 obtain⟨h1,h2,h3,-,-⟩:=anh ((List.range (2^n)).filter (fun t=>decide (t≠0)&&p t)) 0 (fun x hx=>⟨((hm x).1 hx).1,((hm x).1 hx).2.1⟩) (.inl rfl)
 have hs:=(hm s).2 ⟨h.lt,h.ne,h.ni⟩;have hr:kB n ((List.range (2^n)).filter (fun t=>decide (t≠0)&&p t))∈(List.range (2^n)).filter (fun t=>decide (t≠0)&&p t):=by
  rcases h1 with h1|h1
  ·have:=(h2 h1).1;rw[this]at hs;cases hs
  ·exact h1
 obtain⟨h6,h7,h8⟩:=(hm _).1 hr;exact anr.aql ⟨h6,h7,h8,fun t ht h0 hp=>h3 t ((hm t).2 ⟨ht,h0,hp⟩)⟩ h
end Go.dg
end
section
namespace Go.dg
def dst (d:Int):Int:=if d<0 then 0-d else d
theorem ar3 (d:Int):0<=dst d:=by unfold dst;split<;>omega
theorem axF {d v:Int} (h:0<=v):dst d<=v<->-v<=d/\d<=v:=by unfold dst;split<;>omega
def px (jG b z:Int):Int:=if 0<z/\(b<0\/dst (z-jG)<b)then dst (z-jG)else b
def Mn (jG b:Int) (S:List Int):Prop:=(b=-1/\∀ z∈S,z<=0)\/(0<=b/\(∃ z∈S,0<z/\dst (z-jG)=b)/\∀ z∈S,0<z->b<=dst (z-jG))
theorem Mn.nil (jG:Int):Mn jG (-1) []:=.inl ⟨rfl,fun z h=>by cases h⟩
theorem Mn.try {jG b:Int} {S:List Int} (h:Mn jG b S) (z:Int):Mn jG (px jG b z) (S++[z]):=by
 have hz:=ar3 (z-jG);have hm:z∈S++[z]:=List.mem_append_right _ (List.mem_singleton.2 rfl);rcases h with⟨rfl,h⟩|⟨h0,⟨y,hy,hy0,he⟩,h⟩
 ·by_cases e:0<z
  ·have:px jG (-1) z=dst (z-jG):=if_pos ⟨e,.inl (by omega)⟩
   rw[this];refine .inr ⟨hz,⟨z,hm,e,rfl⟩,fun y hy hy0=>?_⟩
   rcases List.mem_append.1 hy with hy|hy
   ·have:=h y hy;omega
   ·obtain rfl:=List.mem_singleton.1 hy;exact Int.le_refl _
  ·have:px jG (-1) z=-1:=if_neg (fun h=>e h.1)
   rw[this];refine .inl ⟨rfl,fun y hy=>?_⟩
   rcases List.mem_append.1 hy with hy|hy
   ·exact h y hy
   ·obtain rfl:=List.mem_singleton.1 hy;omega
 ·by_cases e:0<z/\dst (z-jG)<b
  ·have:px jG b z=dst (z-jG):=if_pos ⟨e.1,.inr e.2⟩;rw[this];refine .inr ⟨hz,⟨z,hm,e.1,rfl⟩,fun y hy hy0=>?_⟩
   rcases List.mem_append.1 hy with hy|hy
   ·have:=h y hy hy0;omega
   ·obtain rfl:=List.mem_singleton.1 hy;exact Int.le_refl _
  ·have:px jG b z=b:=if_neg (fun h=>e ⟨h.1,by rcases h.2 with h|h<;>omega⟩)
   rw[this];refine .inr ⟨h0,⟨y,List.mem_append_left _ hy,hy0,he⟩,fun y hy hy0=>?_⟩
   rcases List.mem_append.1 hy with hy|hy
   ·exact h y hy hy0
   ·obtain rfl:=List.mem_singleton.1 hy;exact Classical.byContradiction fun h=>e ⟨hy0,by omega⟩
theorem Mn.more {jG b:Int} {S T:List Int} (h:Mn jG b S) (h1:∀ z∈S,z∈T) (h2:∀ z∈T,0<z->∃ y∈S,0<y/\dst (y-jG)<=dst (z-jG)):Mn jG b T:=by
 rcases h with⟨rfl,h⟩|⟨h0,⟨y,hy,hy0,he⟩,h⟩
 ·refine .inl ⟨rfl,fun z hz=>Classical.byContradiction fun hn=>?_⟩
  obtain⟨y,hy,hy0,_⟩:=h2 z hz (by omega)
  have:=h y hy;omega
 ·refine .inr ⟨h0,⟨y,h1 y hy,hy0,he⟩,fun z hz PX=>?_⟩
  obtain⟨x,hx,hx0,cO⟩:=h2 z hz PX;have:=h x hx hx0;omega
theorem Mn.aql {jG b c:Int} {S T:List Int} (h:Mn jG b S) (h':Mn jG c T) (hm:∀ z,z∈S<->z∈T):b=c:=by
 rcases h with⟨rfl,h⟩|⟨h0,⟨y,hy,hy0,he⟩,h⟩<;>rcases h' with⟨rfl,h'⟩|⟨aAD,⟨y',hy',az0,he'⟩,h'⟩
 ·rfl
 ·have:=h y' ((hm _).2 hy');omega
 ·have:=h' y ((hm _).1 hy);omega
 ·have h1:=h y' ((hm _).2 hy') az0;have h2:=h' y ((hm _).1 hy) hy0;omega
def wL (f jG:Int) (L:List Bk):Int:=(e7 f L).foldl (px jG) (-1)
theorem Mn.fold {jG:Int}:∀ (l:List Int) {b:Int} {S:List Int},Mn jG b S->Mn jG (l.foldl (px jG) b) (S++l)
 |[],b,S,h=>by rw[List.append_nil];exact h
 |z::l,b,S,h=>by
  have:=Mn.fold l (h.try z);rw[List.append_assoc]at this;exact this
theorem at7 (f jG:Int) (L:List Bk):Mn jG (wL f jG L) (e7 f L):=Mn.fold _ (Mn.nil jG)
theorem amR {f z:Int} {L:List Bk}:z∈e7 f L<->∃ s,s<2^L.length/\wN f L s=z:=by
 rw[aoa,List.mem_map];exact⟨fun⟨s,h,e⟩=>⟨s,List.mem_range.1 h,e⟩,fun⟨s,h,e⟩=>⟨s,List.mem_range.2 h,e⟩⟩
structure az6 (f jG v:Int) (L:List Bk):Prop where
 ayE:0<=v
 some:∃ s,s<2^L.length/\s≠0/\dst (wN f L s-jG)=v
 least:∀ s,s<2^L.length->s≠0->v<=dst (wN f L s-jG)
theorem at8 {f jG:Int} {L:List Bk} (hf:0<=f) (hL:ak1 L) (hn:L≠[]):az6 f jG (wL f jG L) L:=by
 rcases at7 f jG L with⟨_,h⟩|⟨h0,⟨z,hz,PX,he⟩,h⟩
 ·have hl:1<2^L.length:=Nat.one_lt_two_pow (by have:=List.length_pos_iff.2 hn;omega)
  have:=h _ (amR.2 ⟨1,hl,rfl⟩);have:=aqn hf hL (s:=1) (by omega) hl
  omega
 ·obtain⟨s,hs,rfl⟩:=amR.1 hz;refine⟨h0,⟨s,hs,fun e=>?_,he⟩,fun t ht ht0=>h _ (amR.2 ⟨t,ht,rfl⟩) (aqn hf hL ht0 ht)⟩
  subst e;rw[akU]at PX;omega
theorem aqE {jG x:Int} {R:List Int} {k:Nat} (ha:0<jG) (hs:R.Pairwise (· <=·)) (hk:∀ i,i<R.length->(i<k<->x+R.getD i 0<jG)) (oy:k<=R.length) {i:Nat} (hi:i<R.length) (h0:0<x+R.getD i 0):
 ∃ j,(k<=j+1/\j<k+2/\j<R.length)/\0<x+R.getD j 0/\dst (x+R.getD j 0-jG)<=dst (x+R.getD i 0-jG):=by
 have anZ:∀ a b,a<=b->b<R.length->R.getD a 0<=R.getD b 0:=fun a b hab hb=>by
  rcases Nat.eq_or_lt_of_le hab with rfl|h
  ·exact Int.le_refl _
  ·have:=List.pairwise_iff_getElem.1 hs a b (by omega) hb h
   rw[List.getD_eq_getElem?_getD,List.getD_eq_getElem?_getD,List.getElem?_eq_getElem hb,List.getElem?_eq_getElem (by omega)]
   exact this
 by_cases e:i<k
 ·have h1:=(hk i hi).1 e;have h2:=(hk (k-1) (by omega)).1 (by omega)
  have h3:=anZ i (k-1) (by omega) (by omega)
  exact⟨k-1,⟨by omega,by omega,by omega⟩,by omega,by unfold dst;split<;>split<;>omega⟩
 ·have h1:¬x+R.getD i 0<jG:=fun h=>e ((hk i hi).2 h)
  have h2:¬x+R.getD k 0<jG:=fun h=>by have:=(hk k (by omega)).2 h;omega
  have h3:=anZ k i (by omega) hi
  exact⟨k,⟨by omega,by omega,by omega⟩,by omega,by unfold dst;split<;>split<;>omega⟩
/-! ### The specification's nearest set -/
def alK (n:Nat) (x:Nat->Int) (r:Nat×Int) (s:Nat):Nat×Int:=
 if r.1=0\/dst (x s)<dst r.2\/(dst (x s)=dst r.2/\eA n s r.1=true)then(s,x s)else r
def gm (n:Nat) (x:Nat->Int):Nat×Int:=((List.range (2^n)).drop 1).foldl (alK n x) (0,0)
structure ant (n:Nat) (x:Nat->Int) (P:List Nat) (r:Nat×Int):Prop where
 none:r.1=0->P=[]
 mem:r.1≠0->r.1∈P/\r.2=x r.1
 le:r.1≠0->∀ t∈P,dst (x r.1)<=dst (x t)/\(dst (x t)=dst (x r.1)->eA n t r.1=false)
theorem ant.step {n:Nat} {x:Nat->Int} {P:List Nat} {r:Nat×Int} (h:ant n x P r) (hP:∀ t∈P,t<2^n/\t≠0) {s:Nat} (hs:s<2^n) (h0:s≠0):ant n x (P++[s]) (alK n x r s):=by
 have hm:s∈P++[s]:=List.mem_append_right _ (List.mem_singleton.2 rfl);unfold alK;by_cases e0:r.1=0
 ·rw[if_pos (.inl e0)];have:=h.none e0;subst this;refine⟨fun e=>absurd e h0,fun _=>⟨hm,rfl⟩,fun _ t ht=>?_⟩
  obtain rfl:=List.mem_singleton.1 ht;exact⟨Int.le_refl _,fun _=>Pa _ _⟩
 ·obtain⟨hr,hx⟩:=h.mem e0;obtain⟨s7,aBB⟩:=hP _ hr;rw[hx];by_cases e:dst (x s)<dst (x r.1)\/(dst (x s)=dst (x r.1)/\eA n s r.1=true)
  ·rw[if_pos (.inr e)];refine⟨fun e=>absurd e h0,fun _=>⟨hm,rfl⟩,fun _ t ht=>?_⟩
   rcases List.mem_append.1 ht with ht|ht
   ·obtain⟨h1,h2⟩:=h.le e0 t ht;dsimp only;refine⟨by rcases e with e|e<;>omega,fun he=>?_⟩
    rcases e with e|⟨e1,e2⟩
    ·omega
    ·have h3:=h2 (by omega)
     rw[Bool.eq_false_iff];intro h4;have:=Hf h4 e2;rw[h3]at this;cases this
   ·obtain rfl:=List.mem_singleton.1 ht;exact⟨Int.le_refl _,fun _=>Pa _ _⟩
  ·rw[if_neg (fun h=>by rcases h with h|h;exact e0 h;exact e h)]
   refine⟨fun e=>absurd e e0,fun _=>⟨List.mem_append_left _ hr,hx⟩,fun _ t ht=>?_⟩
   rcases List.mem_append.1 ht with ht|ht
   ·exact h.le e0 t ht
   ·obtain rfl:=List.mem_singleton.1 ht;refine⟨Classical.byContradiction fun h=>e (.inl (by omega)),fun he=>?_⟩
    rw[Bool.eq_false_iff];exact fun h=>e (.inr ⟨he,h⟩)
theorem aqc {n:Nat} {x:Nat->Int}:∀ (l P:List Nat) {r:Nat×Int},ant n x P r->(∀ t∈P,t<2^n/\t≠0)->(∀ t∈l,t<2^n/\t≠0)->ant n x (P++l) (l.foldl (alK n x) r)
 |[],P,r,h,_,_=>by rw[List.append_nil];exact h
 |s::l,P,r,h,hP,hl=>by
  have hs:=hl s (List.mem_cons_self ..);have:=aqc l (P++[s]) (h.step hP hs.1 hs.2) (fun t ht=>by
   rcases List.mem_append.1 ht with ht|ht
   ·exact hP t ht
   ·obtain rfl:=List.mem_singleton.1 ht;exact hs) (fun t ht=>hl t (List.mem_cons_of_mem _ ht))
  rw[List.append_assoc]at this;exact this
theorem akz (m:Nat) {t:Nat}:t∈(List.range m).drop 1<->t<m/\t≠0:=by
 cases m with
 |zero=>simp
 |succ m=>
  rw[List.range_succ_eq_map];simp only[List.drop_succ_cons,List.drop_zero,List.mem_map,List.mem_range];exact⟨fun⟨a,ha,e⟩=>by subst e;exact⟨by omega,by omega⟩,fun⟨h1,h2⟩=>⟨t-1,by omega,by omega⟩⟩
theorem ayD {n:Nat} {x:Nat->Int} (hn:n≠0):∃ s,gm n x=(s,x s)/\anr n (fun t=>decide (dst (x t)<=dst (x s))) s/\∀ t,t<2^n->t≠0->dst (x s)<=dst (x t):=by
 have h:=aqc ((List.range (2^n)).drop 1) [] (n:=n) (x:=x) (r:=(0,0)) ⟨fun _=>rfl,fun h=>absurd rfl h,fun h=>absurd rfl h⟩ (fun t h=>by cases h) (fun t h=>(akz _).1 h)
 rw[List.nil_append]at h;have hl:1<2^n:=Nat.one_lt_two_pow hn;have e0:(gm n x).1≠0:=fun e=>by
  have h1:=h.none e;have:=(akz (2^n)).2 ⟨hl,by omega⟩
  rw[h1]at this;cases this
 obtain⟨h1,h2⟩:=h.mem e0;obtain⟨h3,h4⟩:=(akz _).1 h1;have h5:=h.le e0;refine⟨(gm n x).1,Prod.ext rfl h2,⟨h3,h4,decide_eq_true (Int.le_refl _),fun t ht ht0 hp=>?_⟩,fun t ht ht0=>(h5 t ((akz _).2 ⟨ht,ht0⟩)).1⟩
 obtain⟨h6,h7⟩:=h5 t ((akz _).2 ⟨ht,ht0⟩);have:=of_decide_eq_true hp;exact h7 (Int.le_antisymm this h6)
end Go.dg
end
section
namespace Go.dg
theorem amg (t:Nat):(2*t)%2=0/\(2*t) / 2=t/\(2*t+1)%2=1/\(2*t+1) / 2=t:=by omega
theorem aoD (f:Int) (b:Bk) (L:List Bk) (t:Nat):wN f (b::L) (2*t)=wN f L t:=by
 obtain⟨h1,h2,_,_⟩:=amg t;simp[wN,h2]
theorem aqm (f:Int) (b:Bk) (L:List Bk) (t:Nat):wN f (b::L) (2*t+1)=b.2+f+wN f L t:=by
 obtain⟨_,_,h1,h2⟩:=amg t;simp only[wN,h1,h2,if_true]
end Go.dg
end
section
namespace Go.dg
def pos:List Bk->Int->Nat
 |[],_=>0
 |b::L,x=>if b.1=x then 0 else pos L x+1
def aos (L:List Bk):Prop:=L.Pairwise (fun a b=>a.1<b.1)
def lenOf (L:List Bk) (x:Int):Int:=(L.getD (pos L x) (0,0)).2
def az4 (p:Option Int) (x:Int):Bool:=match p with|some y=>decide (x<=y)|none=>false
def fy (L:List Bk) (p:Option Int) (x:Int) (r:Int×Int×Nat):Int×Int×Nat:=
 if pos L x=L.length then(5,0,0)else if az4 p x=true then(6,0,0)else if r.1=0 then(0,lenOf L x+r.2.1,2^pos L x+r.2.2)else(r.1,0,0)
end Go.dg
end
section
namespace Go.dg
def aQ (n lo hi:Int):Bool:=decide (lo<=n)&&decide (n<=hi)
theorem akk {n lo hi:Int}:aQ n lo hi=true<->lo<=n/\n<=hi:=by simp[aQ]
def pe (l t f:Int):Bool:=aQ l 1 1125899906842624&&(aQ t 0 1125899906842624&&aQ f 0 1000000)
def ald (w:Wt):Bool:=pe w.1 w.2.1 w.2.2
def alB (b:Bk):Bool:=aQ b.1 1 1099511627776&&aQ b.2 1 56294995342131
def bk (L:List Bk) (i:Nat):Bk:=L.getD i (0,0)
def l5 (L:List Bk) (i:Nat):Int:=if alB (bk L i)=false then 1 else if 0<i/\(bk L i).1<=(bk L (i-1)).1 then 6 else 0
def ck (L:List Bk):Int×Int:=if L.length>20 then(2,-1)else match (List.range L.length).find? (fun i=>l5 L i !=0)with|some i=>(l5 L i,(i:Int))|none=>(0,-1)
theorem anc {L:List Bk} (h:20<L.length):ck L=(2,-1):=if_pos h
theorem anS {p:Nat->Bool} {n i:Nat} (hi:i<n) (h:p i=true) (hj:∀ j,j<i->p j=false):(List.range n).find? p=some i:=by
 rw[List.find?_range_eq_some];exact⟨h,List.mem_range.2 hi,fun j hj'=>by rw[hj j hj'];rfl⟩
theorem alQ {L:List Bk} {i:Nat} {e:Int} (h:¬20<L.length) (hi:i<L.length) (he:l5 L i=e) (h0:e≠0) (hj:∀ j,j<i->l5 L j=0):ck L=(e,(i:Int)):=by
 unfold ck;rw[if_neg h,anS hi (by rw[he];simpa using h0) (fun j hj'=>by rw[hj j hj'];rfl)]
 dsimp only;rw[he]
theorem aol {L:List Bk} (h:¬20<L.length) (hj:∀ j,j<L.length->l5 L j=0):ck L=(0,-1):=by
 unfold ck;rw[if_neg h];have:(List.range L.length).find? (fun i=>l5 L i !=0)=none:=List.find?_eq_none.2 fun j hj'=>by rw[hj j (List.mem_range.1 hj')];decide
 rw[this]
structure gb (L:List Bk):Prop where
 Kg:L.length<=20
 bk:∀ b∈L,alB b=true
 aos:aos L
theorem ak7 {L:List Bk} {i:Nat}:l5 L i=0<->alB (bk L i)=true/\¬(0<i/\(bk L i).1<=(bk L (i-1)).1):=by
 unfold l5;cases alB (bk L i)<;>simp
theorem akX {L:List Bk} {i:Nat} (h:i<L.length):bk L i=L[i]:=by unfold bk;rw[List.getD_eq_getElem?_getD,List.getElem?_eq_getElem h];rfl
theorem awW {L:List Bk} (h:∀ i,i+1<L.length->(bk L i).1<(bk L (i+1)).1):aos L:=by
 unfold aos;induction L with
 |nil=>exact List.Pairwise.nil
 |cons a L ih=>
  have ih:=ih fun i hi=>h (i+1) (by simp only[List.length_cons];omega)
  refine List.pairwise_cons.2 ⟨fun b hb=>?_,ih⟩
  cases L with
  |nil=>cases hb
  |cons c L=>
   have h0:=h 0 (by simp)
   have h0:a.1<c.1:=h0;rcases List.mem_cons.1 hb with rfl|hb
   ·exact h0
   ·have:=(List.pairwise_cons.1 ih).1 b hb;omega
theorem amq {L:List Bk} (h:(ck L).1=0):gb L:=by
 by_cases hl:20<L.length
 ·rw[anc hl]at h;simp at h
 have hj:∀ j,j<L.length->l5 L j=0:=fun j hj=>Classical.byContradiction fun hn=>by
  unfold ck at h;rw[if_neg hl]at h;cases hf:(List.range L.length).find? (fun i=>l5 L i !=0)with
  |none=>
   have:=List.find?_eq_none.1 hf j (List.mem_range.2 hj);simp at this;exact hn this
  |some i=>
   rw[hf]at h;have:=List.find?_some hf;simp at this;exact this h
 refine⟨by omega,fun b hb=>?_,awW fun i hi=>?_⟩
 ·obtain⟨i,hi,rfl⟩:=List.mem_iff_getElem.1 hb;have:=(ak7.1 (hj i hi)).1;rwa[akX hi]at this
 ·have:=(ak7.1 (hj (i+1) hi)).2;rw[Nat.add_sub_cancel]at this;exact Classical.byContradiction fun hn=>this ⟨by omega,by omega⟩
theorem atO {L:List Bk} (h:gb L):ck L=(0,-1):=by
 refine aol (by have:=h.Kg;omega) fun j hj=>ak7.2 ⟨by rw[akX hj];exact h.bk _ (List.getElem_mem hj),fun⟨h1,h2⟩=>?_⟩
 have:=List.pairwise_iff_getElem.1 h.aos (j-1) j (by omega) hj (by omega)
 rw[akX hj,akX (show j-1<L.length by omega)]at h2
 omega
theorem gb.lens {L:List Bk} (h:gb L):ak1 L:=fun b hb=>by
 have:=h.bk b hb;simp only[alB,aQ,Bool.and_eq_true,decide_eq_true_eq]at this;omega
theorem gb.len {L:List Bk} (h:gb L) {b:Bk} (hb:b∈L):1<=b.2/\b.2<=56294995342131/\1<=b.1/\b.1<=1099511627776:=by
 have:=h.bk b hb;simp only[alB,aQ,Bool.and_eq_true,decide_eq_true_eq]at this;omega
def lu (L:List Bk) (V:List Wt):Int:=if(ck L).1=0 then(if V.all ald=true then 0 else 1)else(ck L).1
def bf (L:List Bk) (l t f:Int):Int:=if(ck L).1=0 then(if pe l t f=true then 0 else 1)else(ck L).1
theorem akP (L:List Bk) (l t f:Int):lu L [(l,t,f)]=bf L l t f:=by unfold lu bf;simp[ald]
theorem wE {l t f:Int} (h:pe l t f=true):(1<=l/\l<=1125899906842624)/\(0<=t/\t<=1125899906842624)/\0<=f/\f<=1000000:=by
 simp only[pe,aQ,Bool.and_eq_true,decide_eq_true_eq]at h;omega
theorem gg {L:List Bk} {l t f:Int} (h:bf L l t f=0):gb L/\pe l t f=true:=by
 unfold bf at h;by_cases h1:(ck L).1=0
 ·rw[if_pos h1]at h;refine⟨amq h1,?_⟩;by_cases h2:pe l t f=true
  ·exact h2
  ·rw[if_neg h2]at h;simp at h
 ·rw[if_neg h1]at h;exact absurd h h1
theorem asr {f m:Int} (hf:0<=f) (hm:0<=m):∀ {L:List Bk} (_:∀ b∈L,b.2<=m) (s:Nat),wN f L s<=L.length*(m+f)
 |[],_,_=>by simp[wN]
 |b::L,h,s=>by
  have h1:=h b (List.mem_cons_self ..);have h2:=asr hf hm (fun b hb=>h b (List.mem_cons_of_mem _ hb)) (s / 2)
  have:((L.length+1:Nat):Int)*(m+f)=L.length*(m+f)+(m+f):=by rw[Int.natCast_add,Int.add_mul];simp
  simp only[wN,List.length_cons];rw[this];split<;>omega
theorem gb.asr {L:List Bk} (h:gb L) {f:Int} (hf:0<=f) (Ni:f<=1000000) (s:Nat):wN f L s<=1125899926842620:=by
 have h1:=dg.asr hf (by omega) (m:=56294995342131) (fun b hb=>(h.len hb).2.1) s
 have h2:(L.length:Int)*(56294995342131+f)<=20*(56294995342131+1000000):=by
  have:=h.Kg
  calc (L.length:Int)*(56294995342131+f)<=20*(56294995342131+f):=Int.mul_le_mul_of_nonneg_right (by omega) (by omega)
   _<=20*(56294995342131+1000000):=by omega
 omega
end Go.dg
end
section
namespace Go.dg
def sub (L:List Bk) (a b:Nat):List Bk:=(L.drop a).take b
theorem wk {L:List Bk} {a b:Nat} (h:a+b<=L.length):(sub L a b).length=b:=by unfold sub;rw[List.length_take,List.length_drop];omega
theorem arp {L:List Bk} {a b i:Nat} (hi:i<b):bk (sub L a b) i=bk L (a+i):=by
 unfold sub bk;rw[List.getD_eq_getElem?_getD,List.getD_eq_getElem?_getD,List.getElem?_take_of_lt hi,List.getElem?_drop]
theorem alV (L:List Bk):sub L 0 L.length=L:=by unfold sub;simp
theorem alG (L:List Bk) (k:Nat):sub L 0 k++sub L k (L.length-k)=L:=by
 unfold sub;rw[List.drop_zero,List.take_of_length_le (l:=L.drop k) (by simp),List.take_append_drop]
theorem aoz {L:List Bk} {a b:Nat} {x:Bk} (h:x∈sub L a b):x∈L:=List.mem_of_mem_drop (List.mem_of_mem_take h)
theorem amJ {L:List Bk} {k:Nat} (h:k<L.length):L.take (k+1)=L.take k++[bk L k]:=by
 rw[List.take_add_one,List.getElem?_eq_getElem h,akX h];rfl
theorem gb.sub_le {L:List Bk} (h:gb L) {a b:Nat} (hab:a+b<=L.length) {f:Int} (hf:0<=f) (Ni:f<=1000000) (k s:Nat):0<=wN f ((sub L a b).take k) s/\wN f ((sub L a b).take k) s<=1125899926842620:=by
 have hm:∀ x∈(sub L a b).take k,x∈L:=fun x hx=>aoz (List.mem_of_mem_take hx)
 refine⟨alH hf (fun x hx=>(h.len (hm x hx)).1) s,?_⟩
 have h1:=dg.asr hf (by omega) (m:=56294995342131) (fun x hx=>(h.len (hm x hx)).2.1) s
 have h3:((sub L a b).take k).length<=20:=by
  rw[List.length_take,wk hab];have:=h.Kg;omega
 have h2:((((sub L a b).take k).length:Nat):Int)*(56294995342131+f)<=20*(56294995342131+1000000):=
  calc ((((sub L a b).take k).length:Nat):Int)*(56294995342131+f)<=20*(56294995342131+f):=Int.mul_le_mul_of_nonneg_right (by omega) (by omega)
   _<=20*(56294995342131+1000000):=by omega
 omega
/-! ### Blocks -/
theorem ane:∀ {n m s:Nat},n<=m->s<2^n->cnt m s=cnt n s
 |0,m,s,_,h=>by
  have:s=0:=by simp at h;omega
  subst this;rw[akJ,akJ]
 |n+1,0,s,h,_=>by omega
 |n+1,m+1,s,h,hs=>by
  simp only[cnt];rw[ane (by omega) (akx hs)]
def blk (s:Nat):Nat:=cnt 62 s
theorem alN {n s:Nat} (hn:n<=62) (h:s<2^n):blk s=cnt n s:=ane hn h
/-! ### The order,place by place -/
def akv (l t f:Int) (L:List Bk) (s:Nat):Bool:=al7 f (l-t+f) (l+t+f) L s
theorem amx {l t f:Int} {L:List Bk} {s:Nat}:akv l t f L s=true<->s≠0/\l-t<=wN f L s-f/\wN f L s-f<=l+t:=by
 unfold akv al7 amr;simp only[Bool.and_eq_true,decide_eq_true_eq];omega
def RK (l t f:Int) (L:List Bk) (i:Nat):List Int:=((List.range i).filter (akv l t f L)).map Int.ofNat
def gf (l t f:Int) (L:List Bk):List Int:=RK l t f L (2^L.length)
theorem akO {n:Nat} (h:n<=20):2^n<=1048576:=Nat.pow_le_pow_right (by omega) h
end Go.dg
end
section
namespace Go.dg
open Go.Lib
theorem aeL:∀ {l m:List Int},l.Pairwise (· <·)->m.Pairwise (· <·)->(∀ v,v∈l<->v∈m)->l=m
 |[],[],_,_,_=>rfl
 |[],b::m,_,_,h=>by have:=(h b).2 (List.mem_cons_self ..);cases this
 |a::l,[],_,_,h=>by have:=(h a).1 (List.mem_cons_self ..);cases this
 |a::l,b::m,hl,hm,h=>by
  obtain⟨l1,l2⟩:=List.pairwise_cons.1 hl;obtain⟨m1,m2⟩:=List.pairwise_cons.1 hm;have e:a=b:=by
   rcases List.mem_cons.1 ((h a).1 (List.mem_cons_self ..))with e|e
   ·exact e
   ·rcases List.mem_cons.1 ((h b).2 (List.mem_cons_self ..))with e2|e2
    ·exact e2.symm
    ·have:=m1 a e;have:=l1 b e2;omega
  subst e;rw[aeL l2 m2 fun v=>⟨fun hv=>?_,fun hv=>?_⟩]
  ·rcases List.mem_cons.1 ((h v).1 (List.mem_cons_of_mem _ hv))with e|e
   ·have:=l1 v hv;omega
   ·exact e
  ·rcases List.mem_cons.1 ((h v).2 (List.mem_cons_of_mem _ hv))with e|e
   ·have:=m1 v hv;omega
   ·exact e
theorem aeC {d:Array Int} (hs:∀ i j,i<=j->j<d.size->d[i]!<=d[j]!):∀ m,m<=d.size->(compactUpTo d m).Pairwise (· <·)/\∀ v,v∈compactUpTo d m<->∃ j,j<m/\d[j]! =v
 |0,_=>⟨by simp[compactUpTo],fun v=>⟨fun h=>by simp[compactUpTo]at h,fun⟨j,h,_⟩=>absurd h (Nat.not_lt_zero j)⟩⟩
 |m+1,hm=>by
  obtain⟨h1,h2⟩:=aeC hs m (by omega)
  rw[compactUpTo_succ];by_cases hk:keeps d m=true
  ·rw[if_pos hk];have hlt:∀ j,j<m->d[j]!<d[m]!:=fun j hj=>by
    have e1:=hs j (m-1) (by omega) (by omega)
    have e2:=hs (m-1) m (by omega) (by omega)
    unfold keeps at hk;have:=of_decide_eq_true hk;omega
   refine⟨List.pairwise_append.2 ⟨h1,List.pairwise_singleton ..,fun a ha b hb=>?_⟩,fun v=>?_⟩
   ·rw[List.mem_singleton.1 hb];obtain⟨j,hj,rfl⟩:=(h2 a).1 ha;exact hlt j hj
   ·rw[List.mem_append,List.mem_singleton,h2];constructor
    ·rintro(⟨j,hj,e⟩|rfl)
     ·exact⟨j,by omega,e⟩
     ·exact⟨m,by omega,rfl⟩
    ·rintro⟨j,hj,e⟩;rcases Nat.lt_or_ge j m with h|h
     ·exact .inl ⟨j,h,e⟩
     ·obtain rfl:j=m:=by omega
      exact .inr e.symm
  ·rw[if_neg hk,List.append_nil];refine⟨h1,fun v=>?_⟩
   rw[h2];unfold keeps at hk;have hk:¬(m=0\/d[m]!≠d[m-1]!):=fun h=>hk (decide_eq_true h)
   constructor
   ·rintro⟨j,hj,e⟩;exact⟨j,by omega,e⟩
   ·rintro⟨j,hj,e⟩;rcases Nat.lt_or_ge j m with h|h
    ·exact⟨j,h,e⟩
    ·obtain rfl:j=m:=by omega
     refine⟨j-1,by omega,?_⟩
     rw[<-e];by_cases e2:d[j]! =d[j-1]!
     ·exact e2.symm
     ·exact absurd (.inr e2) hk
def adp (l:List Int):List Int:=l.mergeSort fun x y=>decide (x<=y)
theorem adO (l:List Int):(adp l).length=l.length:=List.length_mergeSort l
theorem afx {l:List Int} {v:Int}:v∈adp l<->v∈l:=List.mem_mergeSort
theorem afN (l:List Int):(adp l).Pairwise (· <=·):=by
 have h:=List.pairwise_mergeSort (le:=fun x y:Int=>decide (x<=y)) (fun a b c h1 h2=>by simp at h1 h2 ⊢;omega) (fun a b=>by simp;omega) l
 exact h.imp (fun h=>by simpa using h)
theorem afl (l:List Int):(compact l).length<=l.length:=by
 unfold compact compactUpTo;rw[List.length_map];exact Nat.le_trans (List.length_filter_le _ _) (by simp)
theorem afm (l:List Int):(compact (adp l)).Pairwise (· <·)/\∀ v,v∈compact (adp l)<->v∈l:=by
 have hu:=afN l;obtain⟨h1,h2⟩:=aeC (d:=(adp l).toArray) (fun i j hij hj=>by
  have hj:j<(adp l).length:=by simpa using hj
  have hi:i<(adp l).length:=by omega
  rcases Nat.lt_or_ge i j with h|h
  ·have:=List.pairwise_iff_getElem.1 hu i j hi hj h;simpa[hi,hj]using this
  ·obtain rfl:i=j:=by omega
   exact Int.le_refl _) (adp l).length (by simp)
 refine⟨h1,fun v=>?_⟩
 unfold compact;rw[h2,<-afx];constructor
 ·rintro⟨j,hj,rfl⟩;simp[hj]
 ·intro h;obtain⟨j,hj,rfl⟩:=List.mem_iff_getElem.1 h;exact⟨j,hj,by simp[hj]⟩
theorem at0 (p:Int->Bool) (l:List Int):(adp l).countP p=l.countP p:=(List.mergeSort_perm l _).countP_eq p
theorem aro {l:List Int} {i j:Nat} (hij:i<=j) (hj:j<(adp l).length):(adp l).getD i 0<=(adp l).getD j 0:=by
 rcases Nat.eq_or_lt_of_le hij with rfl|h
 ·exact Int.le_refl _
 ·have:=List.pairwise_iff_getElem.1 (afN l) i j (by omega) hj h
  rw[List.getD_eq_getElem?_getD,List.getD_eq_getElem?_getD,List.getElem?_eq_getElem hj,List.getElem?_eq_getElem (by omega)]
  exact this
theorem am7 {q:Int->Bool}:∀ {R:List Int} {k:Nat},k<=R.length->(∀ i,i<k->q (R.getD i 0)=true)->(∀ i,k<=i->i<R.length->q (R.getD i 0)=false)->R.countP q=k
 |[],k,h,_,_=>by simp at h ⊢;omega
 |a::R,0,_,_,h2=>by
  rw[List.countP_eq_zero];intro x hx;obtain⟨i,hi,rfl⟩:=List.mem_iff_getElem.1 hx;have:=h2 i (Nat.zero_le _) hi;rw[List.getD_eq_getElem?_getD,List.getElem?_eq_getElem hi]at this;simpa using this
 |a::R,k+1,h,h1,h2=>by
  have h0:=h1 0 (by omega)
  have:=am7 (q:=q) (R:=R) (k:=k) (by simp at h;omega) (fun i hi=>h1 (i+1) (by omega)) (fun i hi hi'=>h2 (i+1) (by omega) (by simp;omega))
  rw[List.countP_cons,this];have h0:q a=true:=h0;rw[h0];simp
structure Kz (q:Int->Bool) (R:List Int) (lo hi:Nat):Prop where
 le:lo<=hi
 top:hi<=R.length
 ni:∀ i,i<lo->q (R.getD i 0)=true
 no:∀ i,hi<=i->i<R.length->q (R.getD i 0)=false
theorem Kz.init (q:Int->Bool) (R:List Int):Kz q R 0 R.length:=⟨Nat.zero_le _,Nat.le_refl _,fun i h=>absurd h (Nat.not_lt_zero i),fun i h h'=>by omega⟩
theorem Kz.up {q:Int->Bool} {l:List Int} {lo hi m:Nat} (h:Kz q (adp l) lo hi) (hq:∀ x y,x<=y->q y=true->q x=true) (hm:lo<=m) (hm':m<hi) (hy:q ((adp l).getD m 0)=true):Kz q (adp l) (m+1) hi:=by
 have ht:=h.top;exact⟨hm',h.top,fun i hi=>hq _ _ (aro (by omega) (by omega)) hy,h.no⟩
theorem Kz.down {q:Int->Bool} {l:List Int} {lo hi m:Nat} (h:Kz q (adp l) lo hi) (hq:∀ x y,x<=y->q y=true->q x=true) (hm:lo<=m) (hm':m<hi) (hy:q ((adp l).getD m 0)=false):Kz q (adp l) lo m:=by
 have ht:=h.top;refine⟨hm,by omega,h.ni,fun i hi hi'=>?_⟩
 rw[Bool.eq_false_iff];intro h1;rw[hq _ _ (aro hi hi') h1]at hy;cases hy
theorem Kz.end {q:Int->Bool} {l:List Int} {lo:Nat} (h:Kz q (adp l) lo lo):l.countP q=lo:=by
 rw[<-at0];exact am7 h.top h.ni h.no
theorem awc (x hi:Int):∀ a b:Int,a<=b->decide (x+b<=hi)=true->decide (x+a<=hi)=true:=fun a b h h'=>by simp at h' ⊢;omega
theorem apm (x lo:Int):∀ a b:Int,a<=b->decide (x+b<lo)=true->decide (x+a<lo)=true:=fun a b h h'=>by simp at h' ⊢;omega
theorem amb {lo hi:Nat} (h:lo<hi):((lo:Int)+(hi:Int)).tdiv 2=(((lo+hi) / 2:Nat):Int):=by
 rw[<-Int.natCast_add,show(2:Int)=((2:Nat):Int)from rfl,<-Int.ofNat_tdiv]
/-! ### The weights,block by block -/
theorem avz (f:Int) {L:List Bk} {k:Nat} (h:k<L.length):e7 f (L.take (k+1))=e7 f (L.take k)++(e7 f (L.take k)).map (fun n=>n+(bk L k).2+f):=by
 rw[amJ h,amh];rfl
theorem avA (f:Int) {L:List Bk} {k:Nat} (h:k<=L.length):(e7 f (L.take k)).length=2^k:=by rw[x7,List.length_take,Nat.min_eq_left h]
theorem gb.alW {L:List Bk} (h:gb L) {a b:Nat} (hab:a+b<=L.length) {f:Int} (hf:0<=f) (Ni:f<=1000000) {k:Nat} {x:Int} (hx:x∈e7 f ((sub L a b).take k)):0<=x/\x<=1125899926842620:=by
 obtain⟨s,_,rfl⟩:=amR.1 hx;exact h.sub_le hab hf Ni k s
theorem map_take {W:List Int} {g:Int->Int} {j:Nat} (h:j<W.length):(W.take (j+1)).map g=(W.take j).map g++[g W[j]]:=by
 rw[List.take_add_one,List.getElem?_eq_getElem h,List.map_append];rfl
/-! ### The count,one weight of the first part behind the other -/
def ta (f lo hi:Int) (B:List Bk) (W:List Int) (i:Nat):Int:=(W.take i).foldl (ar2 f lo hi B) 0
theorem as3 {f lo hi:Int} {B:List Bk} {W:List Int} {i:Nat} (h:i<W.length):ta f lo hi B W (i+1)=ta f lo hi B W i+(((e7 f B).countP (fun y=>decide (W[i]+y<=hi)):Nat)-((e7 f B).countP (fun y=>decide (W[i]+y<lo)):Nat)):=by
 unfold ta;rw[List.take_add_one,List.getElem?_eq_getElem h,List.foldl_append];rfl
theorem at1 {α:Type} (g:α->Nat) (m:Nat):∀ l:List α,(∀ a∈l,g a<=m)->(l.map g).sum<=l.length*m
 |[],_=>by simp
 |a::l,h=>by
  have h1:=h a (List.mem_cons_self ..);have h2:=at1 g m l (fun a ha=>h a (List.mem_cons_of_mem _ ha))
  rw[List.map_cons,List.sum_cons,List.length_cons,Nat.add_mul,Nat.one_mul];omega
theorem awx {f lo hi:Int} {B:List Bk} {W:List Int} {i:Nat} (hle:lo<=hi+1) (hi':i<=W.length):0<=ta f lo hi B W i/\ta f lo hi B W i<=(i*(e7 f B).length:Nat):=by
 unfold ta;rw[amv hle];have:=at1 (fun x=>(e7 f B).countP fun y=>amr lo hi (x+y)) (e7 f B).length (W.take i) (fun a _=>List.countP_le_length)
 rw[List.length_take,Nat.min_eq_left hi']at this;omega
theorem anC (n:Nat):Int.toNat (if(10:Int)<(n:Int)then 10 else(n:Int))<=n/\Int.toNat (if(10:Int)<(n:Int)then 10 else(n:Int))<=10/\(n<=20->n-Int.toNat (if(10:Int)<(n:Int)then 10 else(n:Int))<=10):=by
 split<;>omega
end Go.dg
end
section
namespace Go.dg
def aIo (f lo hi:Int) (L:List Bk):Nat->Nat->Nat->Int->List Int->Option (List Int×Int)
 |0,_,_,s,p=>if aQ (s-f) lo hi=true then some (p,s-f)else none
 |_+1,0,_,_,_=>none
 |m+1,r+1,i,s,p=>match aIo f lo hi L m r (i+1) (s+(bk L i).2+f) (p++[(i:Int)])with
  |some x=>some x
  |none=>aIo f lo hi L (m+1) r (i+1) s p
theorem anp {f lo hi:Int} {L:List Bk}:∀ {m r i:Nat} {s:Int} {p:List Int},r<m->aIo f lo hi L m r i s p=none
 |0,_,_,_,_,h=>by omega
 |_+1,0,_,_,_,_=>rfl
 |m+1,r+1,i,s,p,h=>by
  rw[aIo,anp (m:=m) (by omega),anp (m:=m+1) (by omega)]
theorem atZ {f lo hi:Int} {L:List Bk} {m j:Nat} {s:Int} {p:List Int} (h:j<L.length):aIo f lo hi L (m+1) (L.length-j) j s p=match aIo f lo hi L m (L.length-(j+1)) (j+1) (s+(bk L j).2+f) (p++[(j:Int)])with
 |some x=>some x
 |none=>aIo f lo hi L (m+1) (L.length-(j+1)) (j+1) s p:=by
 rw[show L.length-j=(L.length-(j+1))+1 by omega,aIo]
theorem take_set {α:Type} {l:List α} {n:Nat} {a:α} (h:n<l.length):(l.set n a).take (n+1)=l.take n++[a]:=by
 rw[List.take_add_one,List.take_set_of_le (Nat.le_refl n),List.getElem?_set_self h];rfl
theorem anq {A A':List Int} {n:Nat} {j:Int} (hn:n<=A.length) (h:A'.take (n+1)=A.take n++[j]):A'.take n=A.take n:=by
 have:=congrArg (List.take n) h;rw[List.take_take,Nat.min_eq_left (by omega)]at this
 rw[this,List.take_append_of_le_length (by rw[List.length_take];omega),List.take_take,Nat.min_self]
theorem ak6 {L:List Bk} {i:Nat} (h:i<L.length):L.drop i=bk L i::L.drop (i+1):=by
 rw[List.drop_eq_getElem_cons h,akX h]
theorem ard (r i u:Nat):idx (r+1) i (2*u+1)=(i:Int)::idx r (i+1) u:=by
 obtain⟨_,_,h1,h2⟩:=amg u;simp[idx,h2]
theorem ani (r i u:Nat):idx (r+1) i (2*u)=idx r (i+1) u:=by
 obtain⟨h1,h2,_,_⟩:=amg u;simp[idx,h2]
theorem anj:∀ (r i:Nat),idx r i 0=[]
 |0,_=>rfl
 |r+1,i=>by
  have:=ani r i 0;rw[Nat.mul_zero]at this;rw[this];exact anj r (i+1)
theorem aoy {f lo hi:Int} {L:List Bk}:∀ (m r i:Nat) (s:Int) (p:List Int),i+r=L.length->
 aIo f lo hi L m r i s p=((PN m r).find? (fun u=>aQ (s+wN f (L.drop i) u-f) lo hi)).map (fun u=>(p++idx r i u,s+wN f (L.drop i) u-f))
 |0,r,i,s,p,_=>by
  rw[aIo,PN,List.find?_cons];simp only[akU,Int.add_zero,List.find?_nil];cases aQ (s-f) lo hi<;>simp[anj,akU]
 |m+1,0,i,s,p,_=>by simp[aIo,PN]
 |m+1,r+1,i,s,p,h=>by
  have amB:i<L.length:=by omega
  have ayt:=aoy (f:=f) (lo:=lo) (hi:=hi) (L:=L) m r (i+1) (s+(bk L i).2+f) (p++[(i:Int)]) (by omega)
  have ayu:=aoy (f:=f) (lo:=lo) (hi:=hi) (L:=L) (m+1) r (i+1) s p (by omega)
  have e1:∀ u,s+wN f (L.drop i) (2*u+1)-f=s+(bk L i).2+f+wN f (L.drop (i+1)) u-f:=fun u=>by rw[ak6 amB,aqm];omega
  have e2:∀ u,s+wN f (L.drop i) (2*u)-f=s+wN f (L.drop (i+1)) u-f:=fun u=>by rw[ak6 amB,aoD]
  rw[aIo,ayt,ayu,PN,List.find?_append,List.find?_map,List.find?_map];have c1:((fun u=>aQ (s+wN f (L.drop i) u-f) lo hi)∘fun u=>2*u+1)=fun u=>aQ (s+(bk L i).2+f+wN f (L.drop (i+1)) u-f) lo hi:=by funext u;simp only[Function.comp,e1]
  have c2:((fun u=>aQ (s+wN f (L.drop i) u-f) lo hi)∘fun u=>2*u)=fun u=>aQ (s+wN f (L.drop (i+1)) u-f) lo hi:=by funext u;simp only[Function.comp,e2]
  rw[c1,c2];cases h1:(PN m r).find? (fun u=>aQ (s+(bk L i).2+f+wN f (L.drop (i+1)) u-f) lo hi)with
  |some u=>simp[ard,e1]
  |none=>
   cases h2:(PN (m+1) r).find? (fun u=>aQ (s+wN f (L.drop (i+1)) u-f) lo hi)with
   |some u=>simp[ani,e2]
   |none=>simp
theorem alT:∀ (r i u:Nat),(idx r i u).length=cnt r u
 |0,_,_=>rfl
 |r+1,i,u=>by
  have:=alT r (i+1) (u / 2);have h2:=Nat.mod_two_eq_zero_or_one u;rcases h2 with h2|h2
  ·simp[idx,cnt,h2,this]
  ·simp[idx,cnt,h2,this];omega
def alr (f lo hi:Int) (L:List Bk) (k:Nat):Option (List Int×Int):=aIo f lo hi L k L.length 0 0 []
def Q2 (f lo hi:Int) (L:List Bk):Nat->Option (List Int×Int)
 |0=>none
 |k+1=>match Q2 f lo hi L k with|some x=>some x|none=>alr f lo hi L (k+1)
theorem aqZ {f lo hi:Int} {L:List Bk}:∀ k,Q2 f lo hi L k=((alL L.length k).find? (fun u=>aQ (wN f L u-f) lo hi)).map (fun u=>(idx L.length 0 u,wN f L u-f))
 |0=>by simp[Q2,alL]
 |k+1=>by
  rw[Q2,aqZ k,am9,List.find?_append];cases h:(alL L.length k).find? (fun u=>aQ (wN f L u-f) lo hi)with
  |some u=>simp
  |none=>
   unfold alr;rw[aoy (k+1) L.length 0 0 [] (by omega)]
   simp
def x6 (f lo hi:Int) (L:List Bk):Option (List Int×Int):=Q2 f lo hi L L.length
theorem amO (f lo hi:Int) (L:List Bk):x6 f lo hi L=((AL L.length).find? (fun u=>aQ (wN f L u-f) lo hi)).map (fun u=>(idx L.length 0 u,wN f L u-f)):=aqZ L.length
theorem aq0 {f lo hi:Int} {L:List Bk} {x:List Int×Int} {k:Nat} (h:Q2 f lo hi L k=some x):∀ n,k<=n->Q2 f lo hi L n=some x
 |0,hn=>by obtain rfl:k=0:=by omega
           exact h
 |n+1,hn=>by
  rcases Nat.lt_or_eq_of_le hn with hn|rfl
  ·rw[Q2,aq0 h n (by omega)]
  ·exact h
theorem atm {f lo hi:Int} {L:List Bk} {x:List Int×Int} {k:Nat} (h0:Q2 f lo hi L (k-1)=none) (h1:1<=k) (hk:k<=L.length) (h:alr f lo hi L k=some x):x6 f lo hi L=some x:=by
 obtain⟨j,rfl⟩:∃ j,k=j+1:=⟨k-1,by omega⟩
 rw[Nat.add_sub_cancel]at h0;exact aq0 (k:=j+1) (by rw[Q2,h0];exact h) _ hk
theorem auZ {f lo hi:Int} {L:List Bk} {k:Nat} (h0:Q2 f lo hi L (k-1)=none) (h1:1<=k) (h:alr f lo hi L k=none):Q2 f lo hi L k=none:=by
 obtain⟨j,rfl⟩:∃ j,k=j+1:=⟨k-1,by omega⟩
 rw[Nat.add_sub_cancel]at h0;rw[Q2,h0];exact h
theorem apQ {l t f:Int} {L:List Bk} {u:Nat}:akv l t f L u=(decide (u≠0)&&aQ (wN f L u-f) (l-t) (l+t)):=by
 rw[Bool.eq_iff_iff,amx,Bool.and_eq_true,akk,decide_eq_true_eq]
theorem apP {l t f:Int} {L:List Bk} (hh:0<=l+t+f) (h:kG f (l-t+f) (l+t+f) L=0):x6 f (l-t) (l+t) L=none:=by
 rw[anM L hh]at h;have hg:anU f (l-t+f) (l+t+f) L=[]:=List.eq_nil_of_length_eq_zero (by omega)
 rw[amO];have:(AL L.length).find? (fun u=>aQ (wN f L u-f) (l-t) (l+t))=none:=List.find?_eq_none.2 fun u hu hb=>by
  obtain⟨h1,h2⟩:=an6.1 hu;have:u∈anU f (l-t+f) (l+t+f) L:=List.mem_filter.2 ⟨List.mem_range.2 h1,by
   show akv l t f L u=true;rw[apQ,hb,decide_eq_true h2];rfl⟩
  rw[hg]at this;cases this
 rw[this];rfl
end Go.dg
end
section
namespace Go.dg
/-! ### The least difference,one weight of the first part behind the other -/
def alc (W R:List Int) (i:Nat):List Int:=(W.take i).flatMap fun x=>R.map fun y=>x+y
theorem asq (W R:List Int):alc W R 0=[]:=rfl
theorem asp {W R:List Int} {i:Nat} (h:i<W.length):alc W R (i+1)=alc W R i++R.map (fun y=>W[i]+y):=by
 unfold alc;rw[List.take_add_one,List.getElem?_eq_getElem h,List.flatMap_append];simp
def alb (x:Int) (R:List Int) (j0 n:Nat):List Int:=(List.range n).map fun q=>x+R.getD (j0+q) 0
theorem aso (x:Int) (R:List Int) (j0 n:Nat):alb x R j0 (n+1)=alb x R j0 n++[x+R.getD (j0+n) 0]:=by
 unfold alb;rw[List.range_succ,List.map_append];rfl
theorem ao2 {x z:Int} {R:List Int} {j0 n:Nat}:z∈alb x R j0 n<->∃ q,j0<=q/\q<j0+n/\x+R.getD q 0=z:=by
 unfold alb;rw[List.mem_map];constructor
 ·rintro⟨q,hq,e⟩;have:=List.mem_range.1 hq;exact⟨j0+q,by omega,by omega,e⟩
 ·rintro⟨q,h1,h2,e⟩;exact⟨q-j0,List.mem_range.2 (by omega),by rw[show j0+(q-j0)=q by omega];exact e⟩
theorem am6 {x z:Int} {R:List Int}:z∈R.map (fun y=>x+y)<->∃ q,q<R.length/\x+R.getD q 0=z:=by
 rw[List.mem_map];constructor
 ·rintro⟨y,hy,e⟩;obtain⟨q,hq,rfl⟩:=List.mem_iff_getElem.1 hy;exact⟨q,hq,by rw[List.getD_eq_getElem?_getD,List.getElem?_eq_getElem hq];exact e⟩
 ·rintro⟨q,hq,e⟩;refine⟨R[q],List.getElem_mem hq,?_⟩;rw[List.getD_eq_getElem?_getD,List.getElem?_eq_getElem hq]at e;exact e
theorem Mn.round {jG b x:Int} {S l:List Int} {k:Nat} (ha:0<jG) (h:Mn jG b (S++alb x (adp l) (k-1) (min (k+2) (adp l).length-(k-1)))) (hm:Kz (fun y=>decide (x+y<jG)) (adp l) k k):Mn jG b (S++(adp l).map fun y=>x+y):=by
 have hk:∀ i,i<(adp l).length->(i<k<->x+(adp l).getD i 0<jG):=fun i hi=>by
  constructor
  ·intro h1;exact of_decide_eq_true (hm.ni i h1)
  ·intro h1;refine Classical.byContradiction fun h2=>?_
   exact of_decide_eq_false (hm.no i (by omega) hi) h1
 refine h.more (fun z hz=>?_) (fun z hz PX=>?_)
 ·rcases List.mem_append.1 hz with hz|hz
  ·exact List.mem_append_left _ hz
  ·obtain⟨q,h1,h2,e⟩:=ao2.1 hz;exact List.mem_append_right _ (am6.2 ⟨q,by omega,e⟩)
 ·rcases List.mem_append.1 hz with hz|hz
  ·exact⟨z,List.mem_append_left _ hz,PX,Int.le_refl _⟩
  ·obtain⟨q,hq,rfl⟩:=am6.1 hz;obtain⟨j,⟨h1,h2,h3⟩,h4,h5⟩:=aqE ha (afN l) hk hm.top hq PX;exact⟨_,List.mem_append_right _ (ao2.2 ⟨j,by omega,by omega,rfl⟩),h4,h5⟩
theorem avw {f:Int} {A B:List Bk} {z:Int}:z∈alc (e7 f A) (adp (e7 f B)) (e7 f A).length<->z∈e7 f (A++B):=by
 unfold alc;rw[List.take_length,aru,List.mem_flatMap,List.mem_flatMap];constructor
 ·rintro⟨x,hx,hz⟩;obtain⟨y,hy,rfl⟩:=List.mem_map.1 hz;exact⟨y,afx.1 hy,List.mem_map.2 ⟨x,hx,rfl⟩⟩
 ·rintro⟨y,hy,hz⟩;obtain⟨x,hx,rfl⟩:=List.mem_map.1 hz;exact⟨x,hx,List.mem_map.2 ⟨y,afx.2 hy,rfl⟩⟩
end Go.dg
end
section
namespace Go.dg
theorem awZ {f l v:Int} {L:List Bk} {u:Nat} (hv:0<=v):aQ (wN f L u-f) (l-v) (l+v)=decide (dst (wN f L u-(l+f))<=v):=by
 rw[Bool.eq_iff_iff,akk,decide_eq_true_eq,axF hv];omega
theorem aqb {f l:Int} {L:List Bk} (hf:0<=f) (hL:ak1 L) (hn:L≠[]):
 ∃ s,s<2^L.length/\s≠0/\x6 f (l-wL f (l+f) L) (l+wL f (l+f) L) L=some (idx L.length 0 s,wN f L s-f)/\gm L.length (fun s=>wN f L s-f-l)=(s,wN f L s-f-l)/\wL f (l+f) L=dst (wN f L s-f-l):=by
 obtain⟨h0,⟨u,hu,afe,NC⟩,hle⟩:=at8 (f:=f) (jG:=l+f) hf hL hn;have hl:L.length≠0:=by cases L with|nil=>exact absurd rfl hn|cons=>simp
 obtain⟨s,h1,h2,h3⟩:=ayD (x:=fun s=>wN f L s-f-l) hl
 have hx:∀ t,dst (wN f L t-f-l)=dst (wN f L t-(l+f)):=fun t=>by rw[show wN f L t-f-l=wN f L t-(l+f) by omega]
 have hw:wL f (l+f) L=dst (wN f L s-f-l):=by
  have a1:=hle s h2.lt h2.ne;have a2:=h3 u hu afe;rw[hx]at a2;rw[hx]at a2;rw[hx];omega
 refine⟨s,h2.lt,h2.ne,?_,h1,hw⟩;rw[amO];have hp:(fun u=>aQ (wN f L u-f) (l-wL f (l+f) L) (l+wL f (l+f) L))=fun t=>decide (dst (wN f L t-f-l)<=dst (wN f L s-f-l)):=by
  funext t;rw[awZ h0,hx t,<-hw]
 rw[hp];cases hF:(AL L.length).find? (fun t=>decide (dst (wN f L t-f-l)<=dst (wN f L s-f-l)))with
 |none=>
  have:=aqF hF s h2.lt h2.ne;simp at this
 |some t=>rw[anr.aql (apn hF) h2];rfl
theorem axh {f l:Int} {L:List Bk} (hf:0<=f) (hL:ak1 L) (hn:L≠[]):0<=wL f (l+f) L:=(at8 hf hL hn).ayE
/-! ### The specification's search,number by number -/
def amI (n:Nat) (l:List Int):Prop:=∀ z∈l,0<=z/\z.toNat<2^n
end Go.dg
end
section
namespace Go.dg
theorem aqC (L:List Bk) {i:Nat}:sub L 0 i++sub L (0+(i+1)) (L.length-(i+1))=L.eraseIdx i:=by
 unfold sub;rw[List.drop_zero,Nat.zero_add,List.take_of_length_le (l:=L.drop (i+1)) (by simp),List.eraseIdx_eq_take_drop_succ]
theorem gb.erase {L:List Bk} (h:gb L) (i:Nat):gb (L.eraseIdx i):=
 ⟨by have:=h.Kg;have h2:=List.length_eraseIdx_le L i;omega,fun b hb=>h.bk b (List.mem_of_mem_eraseIdx hb),List.Pairwise.sublist (List.eraseIdx_sublist L i) h.aos⟩
def akS (q:Nat->Bool) (L:List Bk) (i:Nat):List Int:=((List.range i).filter q).map (fun j=>(bk L j).1)
theorem avd (q:Nat->Bool) (L:List Bk):akS q L 0=[]:=rfl
theorem avc (q:Nat->Bool) (L:List Bk) (i:Nat):akS q L (i+1)=if q i=true then akS q L i++[(bk L i).1]else akS q L i:=by
 unfold akS;rw[List.range_succ,List.filter_append,List.map_append,List.filter_cons];cases q i<;>simp
theorem awX (q:Nat->Bool) (L:List Bk) (i:Nat):(akS q L i).length<=i:=by
 unfold akS;rw[List.length_map];exact Nat.le_trans (List.length_filter_le _ _) (by simp)
end Go.dg
end
section
namespace Go.dg
def aH8 (f:Int) (L:List Bk):Nat->Nat->Nat->Int->List Int
 |0,_,_,s=>[s-f]
 |_+1,0,_,_=>[]
 |m+1,r+1,i,s=>aH8 f L m r (i+1) (s+(bk L i).2+f)++aH8 f L (m+1) r (i+1) s
theorem ana {f:Int} {L:List Bk}:∀ {m r i:Nat} {s:Int},r<m->aH8 f L m r i s=[]
 |0,_,_,_,h=>by omega
 |_+1,0,_,_,_=>rfl
 |m+1,r+1,i,s,h=>by rw[aH8,ana (m:=m) (by omega),ana (m:=m+1) (by omega)];rfl
theorem asN {f:Int} {L:List Bk} {m j:Nat} {s:Int} (h:j<L.length):aH8 f L (m+1) (L.length-j) j s=aH8 f L m (L.length-(j+1)) (j+1) (s+(bk L j).2+f)++aH8 f L (m+1) (L.length-(j+1)) (j+1) s:=by
 rw[show L.length-j=(L.length-(j+1))+1 by omega,aH8]
theorem amL {f:Int} {L:List Bk}:∀ (m r i:Nat) (s:Int),i+r=L.length->aH8 f L m r i s=(PN m r).map (fun u=>s+wN f (L.drop i) u-f)
 |0,r,i,s,_=>by simp[aH8,PN,akU]
 |m+1,0,i,s,_=>by simp[aH8,PN]
 |m+1,r+1,i,s,h=>by
  have amB:i<L.length:=by omega
  rw[aH8,amL m r (i+1) _ (by omega),amL (m+1) r (i+1) _ (by omega),PN,List.map_append,List.map_map,List.map_map]
  congr 1
  ·refine List.map_congr_left fun u _=>?_
   simp only[Function.comp];rw[ak6 amB,aqm];omega
  ·refine List.map_congr_left fun u _=>?_
   simp only[Function.comp];rw[ak6 amB,aoD]
def aIi (f:Int) (L:List Bk) (k:Nat):List Int:=aH8 f L k L.length 0 0
theorem ap6 {f:Int} {L:List Bk} (k:Nat):aIi f L k=(PN k L.length).map (fun u=>wN f L u-f):=by
 unfold aIi;rw[amL k L.length 0 0 (by omega)]
 refine List.map_congr_left fun u _=>?_
 rw[List.drop_zero];omega
theorem anu:∀ (m r:Nat),(PN m r).length<=2^r
 |0,r=>by simp[PN];exact Nat.two_pow_pos r
 |_+1,0=>by simp[PN]
 |m+1,r+1=>by
  have h1:=anu m r;have h2:=anu (m+1) r;simp only[PN,List.length_append,List.length_map,Nat.pow_succ];omega
end Go.dg
end
section
namespace Go.dg
def jP (f lo hi:Int) (L:List Bk):Nat->Nat->Nat->Int->List Int->List (List Int)
 |0,_,_,s,p=>if aQ (s-f) lo hi=true then[p]else[]
 |_+1,0,_,_,_=>[]
 |m+1,r+1,i,s,p=>jP f lo hi L m r (i+1) (s+(bk L i).2+f) (p++[(i:Int)])++jP f lo hi L (m+1) r (i+1) s p
theorem anm {f lo hi:Int} {L:List Bk}:∀ {m r i:Nat} {s:Int} {p:List Int},r<m->jP f lo hi L m r i s p=[]
 |0,_,_,_,_,h=>by omega
 |_+1,0,_,_,_,_=>rfl
 |m+1,r+1,i,s,p,h=>by
  rw[jP,anm (m:=m) (by omega),anm (m:=m+1) (by omega)];rfl
theorem atW {f lo hi:Int} {L:List Bk} {m j:Nat} {s:Int} {p:List Int} (h:j<L.length):jP f lo hi L (m+1) (L.length-j) j s p=jP f lo hi L m (L.length-(j+1)) (j+1) (s+(bk L j).2+f) (p++[(j:Int)])++jP f lo hi L (m+1) (L.length-(j+1)) (j+1) s p:=by
 rw[show L.length-j=(L.length-(j+1))+1 by omega,jP]
theorem ame {f lo hi:Int} {L:List Bk}:∀ (m r i:Nat) (s:Int) (p:List Int),(jP f lo hi L m r i s p).length<=2^r
 |0,r,i,s,p=>by
  have h:=Nat.two_pow_pos r;unfold jP;split<;>simp<;>omega
 |_+1,0,_,_,_=>by simp[jP]
 |m+1,r+1,i,s,p=>by
  have h1:=ame (f:=f) (lo:=lo) (hi:=hi) (L:=L) m r (i+1) (s+(bk L i).2+f) (p++[(i:Int)]);have h2:=ame (f:=f) (lo:=lo) (hi:=hi) (L:=L) (m+1) r (i+1) s p;rw[jP,List.length_append,Nat.pow_succ];omega
theorem ann {f lo hi:Int} {L:List Bk}:∀ (m r i:Nat) (s:Int) (p c:List Int),c∈jP f lo hi L m r i s p->c.length=p.length+m
 |0,r,i,s,p,c,h=>by
  unfold jP at h;split at h<;>simp at h;rw[h];rfl
 |_+1,0,_,_,_,_,h=>by simp[jP]at h
 |m+1,r+1,i,s,p,c,h=>by
  rw[jP,List.mem_append]at h;rcases h with h|h
  ·have:=ann m r _ _ _ _ h;rw[List.length_append,List.length_singleton]at this;omega
  ·exact ann _ r _ _ _ _ h
end Go.dg
end
section
namespace Go.dg
def bJ (x y:Int):Int:=if x<y then -1 else if x>y then 1 else 0
def td:List Int->List Int->Int
 |[],[]=>0
 |[],_::_=>-1
 |_::_,[]=>1
 |x::xs,y::ys=>if bJ x y=0 then td xs ys else bJ x y
def Pn (a b:List Int):Int:=if a.length=b.length then td a b else(a.length:Int)-(b.length:Int)
theorem as2 (x:Int):bJ x x=0:=by unfold bJ;rw[if_neg (by omega),if_neg (by omega)]
theorem ap1:∀ (n i u:Nat) (x:Int),x∈idx n i u->(i:Int)<=x
 |0,_,_,_,h=>by cases h
 |n+1,i,u,x,h=>by
  unfold idx at h;split at h
  ·rcases List.mem_cons.1 h with rfl|h
   ·omega
   ·have:=ap1 n _ _ _ h;omega
  ·have:=ap1 n _ _ _ h;omega
theorem aoO:∀ (n i a b:Nat),cnt n a=cnt n b->l7 n a b=true->td (idx n i b) (idx n i a)=1
 |0,_,_,_,_,h=>by cases h
 |n+1,i,a,b,hc,h=>by
  simp only[l7]at h;simp only[cnt]at hc;by_cases e:a%2=b%2
  ·rw[if_pos e]at h;have ih:=aoO n (i+1) (a / 2) (b / 2) (by omega) h
   unfold idx;by_cases ha:a%2=1
   ·rw[if_pos ha,if_pos (e▸ha),td,if_pos (as2 _)];exact ih
   ·rw[if_neg ha,if_neg (fun h=>ha (e.trans h))];exact ih
  ·rw[if_neg e]at h;simp only[beq_iff_eq]at h;have hb:b%2=0:=by omega
   unfold idx;rw[if_pos h,if_neg (by omega)]
   have hl:(idx n (i+1) (b / 2)).length=cnt n (b / 2):=alT n (i+1) (b / 2);cases hx:idx n (i+1) (b / 2)with
   |nil=>rw[hx]at hl;simp at hl;omega
   |cons y ys=>
    have hy:=ap1 n (i+1) (b / 2) y (by rw[hx];exact List.mem_cons_self ..)
    have h1:bJ y (i:Int)=1:=by unfold bJ;rw[if_neg (by omega),if_pos (by omega)]
    rw[td,h1,if_neg (by decide)]
theorem arZ {n a b:Nat} (h:eA n a b=true):¬Pn (idx n 0 b) (idx n 0 a)<0:=by
 unfold Pn;unfold eA at h;rw[alT,alT];by_cases e:cnt n a=cnt n b
 ·rw[if_pos e]at h;rw[if_pos e.symm,aoO n 0 a b e h];omega
 ·rw[if_neg e]at h;simp only[decide_eq_true_eq]at h;rw[if_neg (fun h=>e h.symm)];omega
theorem aox {f lo hi:Int} {L:List Bk}:∀ (m r i:Nat) (s:Int) (p:List Int),i+r=L.length->
 jP f lo hi L m r i s p=((PN m r).filter (fun u=>aQ (s+wN f (L.drop i) u-f) lo hi)).map (fun u=>p++idx r i u)
 |0,r,i,s,p,_=>by
  rw[jP,PN];simp only[List.filter_cons,List.filter_nil,akU,Int.add_zero];cases aQ (s-f) lo hi<;>simp[anj]
 |m+1,0,i,s,p,_=>by simp[jP,PN]
 |m+1,r+1,i,s,p,h=>by
  have amB:i<L.length:=by omega
  have ayt:=aox (f:=f) (lo:=lo) (hi:=hi) (L:=L) m r (i+1) (s+(bk L i).2+f) (p++[(i:Int)]) (by omega)
  have ayu:=aox (f:=f) (lo:=lo) (hi:=hi) (L:=L) (m+1) r (i+1) s p (by omega)
  have e1:∀ u,s+wN f (L.drop i) (2*u+1)-f=s+(bk L i).2+f+wN f (L.drop (i+1)) u-f:=fun u=>by rw[ak6 amB,aqm];omega
  have e2:∀ u,s+wN f (L.drop i) (2*u)-f=s+wN f (L.drop (i+1)) u-f:=fun u=>by rw[ak6 amB,aoD]
  rw[jP,ayt,ayu,PN,List.filter_append,List.map_append,List.filter_map,List.filter_map,List.map_map,List.map_map];have c1:((fun u=>aQ (s+wN f (L.drop i) u-f) lo hi)∘fun u=>2*u+1)=fun u=>aQ (s+(bk L i).2+f+wN f (L.drop (i+1)) u-f) lo hi:=by funext u;simp only[Function.comp,e1]
  have c2:((fun u=>aQ (s+wN f (L.drop i) u-f) lo hi)∘fun u=>2*u)=fun u=>aQ (s+wN f (L.drop (i+1)) u-f) lo hi:=by funext u;simp only[Function.comp,e2]
  rw[c1,c2]
  congr 1
  ·refine List.map_congr_left fun u _=>?_
   simp only[Function.comp,ard,List.append_assoc,List.singleton_append]
  ·refine List.map_congr_left fun u _=>?_
   simp only[Function.comp,ani]
def Og (f lo hi:Int) (L:List Bk):Nat->List (List Int)
 |0=>[]
 |k+1=>Og f lo hi L k++jP f lo hi L (k+1) L.length 0 0 []
theorem D6 {f lo hi:Int} {L:List Bk}:∀ k,Og f lo hi L k=((alL L.length k).filter (fun u=>aQ (wN f L u-f) lo hi)).map (idx L.length 0)
 |0=>by simp[Og,alL]
 |k+1=>by
  rw[Og,D6 k,am9,List.filter_append,List.map_append,aox (k+1) L.length 0 0 [] (by omega)]
  congr 1
  simp only[List.drop_zero,Int.zero_add,List.nil_append]
theorem avs {f lo hi:Int} {L:List Bk} (k:Nat):(Og f lo hi L k).Pairwise (fun a b=>¬Pn b a<0):=by
 rw[D6];exact List.pairwise_map.2 (((aob L.length k).filter _).imp fun h=>arZ h)
theorem awt {x y:Int} {xs ys:List Int} (h:bJ x y=0):td (x::xs) (y::ys)=td xs ys:=by rw[td,if_pos h]
theorem awu {x y:Int} {xs ys:List Int} (h:¬bJ x y=0):td (x::xs) (y::ys)=bJ x y:=by rw[td,if_neg h]
theorem aww {x:Int} {xs:List Int}:td (x::xs) []=1:=rfl
theorem auE {y:Int} {ys:List Int}:td [] (y::ys)=-1:=rfl
theorem awv:td [] []=0:=rfl
end Go.dg
end
section
namespace Go.dg
theorem arc (L:List Bk):∀ (r i u:Nat),i+r=L.length->(idx r i u).map (fun z=>(bk L z.toNat).1)=eg (L.drop i) u
 |0,i,u,h=>by rw[List.drop_eq_nil_of_le (by omega)];rfl
 |r+1,i,u,h=>by
  have ih:=arc L r (i+1) (u / 2) (by omega)
  rw[ak6 (by omega),idx,eg]
  split
  ·rw[List.map_cons,ih,Int.toNat_natCast]
  ·exact ih
theorem avb (L:List Bk) (u:Nat):(idx L.length 0 u).map (fun z=>(bk L z.toNat).1)=eg L u:=by
 rw[arc L L.length 0 u (by omega),List.drop_zero]
theorem awS (l t f:Int) (L:List Bk):(gf l t f L).map Int.toNat=(List.range (2^L.length)).filter (akv l t f L):=by
 unfold gf RK;rw[List.map_map];have:(Int.toNat∘Int.ofNat)=id:=by funext x;rfl
 rw[this,List.map_id]
theorem alD {l t f:Int} (L:List Bk) (h:0<=l+t+f):kG f (l-t+f) (l+t+f) L=(gf l t f L).length:=by
 rw[anM L h];unfold gf RK;rw[List.length_map];rfl
theorem axX (l t f:Int) (L:List Bk):akv l t f L=fun u=>decide (u≠0)&&aQ (wN f L u-f) (l-t) (l+t):=by funext u;exact apQ
def aku (l t f:Int) (L:List Bk):Nat:=kB L.length ((gf l t f L).map Int.toNat)
theorem aop {l t f:Int} {L:List Bk} (h:gf l t f L≠[]):anr L.length (fun u=>aQ (wN f L u-f) (l-t) (l+t)) (aku l t f L)/\x6 f (l-t) (l+t) L=some (idx L.length 0 (aku l t f L),wN f L (aku l t f L)-f):=by
 rw[amO];cases hF:(AL L.length).find? (fun u=>aQ (wN f L u-f) (l-t) (l+t))with
 |none=>
  exfalso;apply h;have hn:=aqF hF;have:(List.range (2^L.length)).filter (akv l t f L)=[]:=List.filter_eq_nil_iff.2 fun u hu hg=>by
   rw[apQ]at hg;simp only[Bool.and_eq_true,decide_eq_true_eq]at hg;rw[hn u (List.mem_range.1 hu) hg.1]at hg;cases hg.2
  unfold gf RK;rw[this];rfl
 |some s=>
  have h1:=apn hF;have h2:=atl h1;rw[<-axX l t f L,<-awS]at h2;unfold aku;rw[h2];exact⟨h1,rfl⟩
theorem au0 {l t f:Int} {L:List Bk} (h:0<=l+t+f):kG f (l-t+f) (l+t+f) L=0<->gf l t f L=[]:=by
 rw[alD L h];constructor
 ·intro e;exact List.eq_nil_of_length_eq_zero (by omega)
 ·intro e;rw[e];rfl
theorem aoq {l t f:Int} {L:List Bk} {z:Int}:z∈gf l t f L<->∃ s:Nat,z=s/\s<2^L.length/\akv l t f L s=true:=by
 unfold gf RK;rw[List.mem_map];constructor
 ·rintro⟨s,hs,rfl⟩;obtain⟨h1,h2⟩:=List.mem_filter.1 hs;exact⟨s,rfl,List.mem_range.1 h1,h2⟩
 ·rintro⟨s,rfl,h1,h2⟩;exact⟨s,List.mem_filter.2 ⟨List.mem_range.2 h1,h2⟩,rfl⟩
def x9 (l f:Int) (L:List Bk):Nat:=(gm L.length (fun s=>wN f L s-f-l)).1
theorem atN {f l:Int} {L:List Bk} (hf:0<=f) (hL:ak1 L) (hn:L≠[]):
 x9 l f L<2^L.length/\x9 l f L≠0/\x6 f (l-wL f (l+f) L) (l+wL f (l+f) L) L=some (idx L.length 0 (x9 l f L),wN f L (x9 l f L)-f)/\gm L.length (fun s=>wN f L s-f-l)=(x9 l f L,wN f L (x9 l f L)-f-l)/\wL f (l+f) L=dst (wN f L (x9 l f L)-f-l):=by
 obtain⟨s,h1,h2,h3,h4,h5⟩:=aqb (l:=l) hf hL hn;have e:x9 l f L=s:=by unfold x9;rw[h4]
 rw[e];exact⟨h1,h2,h3,h4,h5⟩
end Go.dg
end
section
namespace Go.dg
def anf (p q:List Int):Bool:=!(p.any fun i=>q.contains i)
def apl (b:Option (List Int×List Int)) (p q:List Int):Bool:=match b with|none=>false|some (x,y)=>decide (x.length+y.length<=p.length+q.length)
def aly (p:List Int) (b:Option (List Int×List Int)):List (List Int)->Option (List Int×List Int)
 |[]=>b
 |q::l=>if apl b p q=true then b else if anf p q=true then some (p,q)else aly p b l
def aoC (T1 T2:List (List Int)):Option (List Int×List Int):=T1.foldl (fun b p=>aly p b T2) none
/-! ### The same of sets -/
def akI (n:Nat) (x y a b:Nat):Bool:=decide (cnt n x+cnt n y<cnt n a+cnt n b)||(decide (cnt n x+cnt n y=cnt n a+cnt n b)&&(eA n x a||(decide (x=a)&&eA n y b)))
def asn (n:Nat) (x:Nat) (b:Option (Nat×Nat)) (y:Nat):Option (Nat×Nat):=if x &&& y=0 then(match b with|none=>some (x,y)|some (a,c)=>if akI n x y a c=true then some (x,y)else b)else b
structure ak4 (n:Nat) (D:Nat->Nat->Prop) (b:Option (Nat×Nat)):Prop where
 none:b=none->∀ x y,¬D x y
 some:∀ p,b=some p->D p.1 p.2/\∀ x y,D x y->akI n x y p.1 p.2=false
theorem atH {n x y a b:Nat} (hx:x<2^n) (hy:y<2^n) (ha:a<2^n) (hb:b<2^n) (h1:akI n x y a b=false) (h2:akI n a b x y=false):x=a/\y=b:=by
 unfold akI at h1 h2;simp only[Bool.or_eq_false_iff,Bool.and_eq_false_iff,decide_eq_false_iff_not]at h1 h2;have hs:cnt n x+cnt n y=cnt n a+cnt n b:=by omega
 obtain⟨-,h1⟩:=h1;obtain⟨-,h2⟩:=h2;rcases h1 with h1|⟨h1,h3⟩
 ·exact absurd hs h1
 rcases h2 with h2|⟨h2,h4⟩
 ·exact absurd hs.symm h2
 have aAp:x=a:=Classical.byContradiction fun hne=>by rw[amm hx ha hne h1]at h2;cases h2
 subst aAp;refine⟨rfl,Classical.byContradiction fun hne=>?_⟩
 rcases h3 with h3|h3
 ·exact h3 rfl
 rcases h4 with h4|h4
 ·exact h4 rfl
 rw[amm hy hb hne h3]at h4;cases h4
theorem ak4.aql {n:Nat} {D:Nat->Nat->Prop} (hD:∀ x y,D x y->x<2^n/\y<2^n) {b c:Option (Nat×Nat)} (hb:ak4 n D b) (hc:ak4 n D c):b=c:=by
 cases b with
 |none=>
  cases c with
  |none=>rfl
  |some q=>exact absurd (hc.some q rfl).1 (hb.none rfl _ _)
 |some p=>
  cases c with
  |none=>exact absurd (hb.some p rfl).1 (hc.none rfl _ _)
  |some q=>
   obtain⟨h1,h2⟩:=hb.some p rfl;obtain⟨h3,h4⟩:=hc.some q rfl;obtain⟨e1,e2⟩:=atH (hD _ _ h1).1 (hD _ _ h1).2 (hD _ _ h3).1 (hD _ _ h3).2 (h4 _ _ h1) (h2 _ _ h3);exact congrArg _ (Prod.ext e1 e2)
theorem aqD {n x y a b c d:Nat} (h1:akI n x y a b=true) (h2:akI n a b c d=true):akI n x y c d=true:=by
 unfold akI at h1 h2 ⊢;simp only[Bool.or_eq_true,Bool.and_eq_true,decide_eq_true_eq]at h1 h2 ⊢;rcases h1 with h1|⟨h1,h3⟩<;>rcases h2 with h2|⟨h2,h4⟩
 ·exact .inl (by omega)
 ·exact .inl (by omega)
 ·exact .inl (by omega)
 ·refine .inr ⟨by omega,?_⟩
  rcases h3 with h3|⟨rfl,h3⟩<;>rcases h4 with h4|⟨rfl,h4⟩
  ·exact .inl (Hf h3 h4)
  ·exact .inl h3
  ·exact .inl h4
  ·exact .inr ⟨rfl,Hf h3 h4⟩
theorem an5 (n x y:Nat):akI n x y x y=false:=by
 unfold akI;rw[Pa,Pa];simp
theorem ak4.pair {n:Nat} {D:Nat->Nat->Prop} {b:Option (Nat×Nat)} (h:ak4 n D b) (x y:Nat):ak4 n (fun u v=>D u v\/(u=x/\v=y/\x &&& y=0)) (asn n x b y):=by
 unfold asn;by_cases e:x &&& y=0
 ·rw[if_pos e];cases b with
  |none=>
   refine⟨fun h=>(by cases h),fun p hp=>?_⟩
   obtain rfl:=Option.some.inj hp;refine⟨.inr ⟨rfl,rfl,e⟩,fun u v akF=>?_⟩
   rcases akF with akF|⟨rfl,rfl,_⟩
   ·exact absurd akF (h.none rfl _ _)
   ·exact an5 ..
  |some q=>
   obtain⟨a,c⟩:=q;obtain⟨h1,h2⟩:=h.some _ rfl;dsimp only at h1 h2 ⊢;by_cases e2:akI n x y a c=true
   ·rw[if_pos e2];refine⟨fun h=>(by cases h),fun p hp=>?_⟩
    obtain rfl:=Option.some.inj hp;refine⟨.inr ⟨rfl,rfl,e⟩,fun u v akF=>?_⟩
    rcases akF with akF|⟨rfl,rfl,_⟩
    ·rw[Bool.eq_false_iff];intro h3;have:=h2 u v akF;rw[aqD h3 e2]at this;cases this
    ·exact an5 ..
   ·rw[if_neg e2];refine⟨fun h=>(by cases h),fun p hp=>?_⟩
    obtain rfl:=Option.some.inj hp;refine⟨.inl h1,fun u v akF=>?_⟩
    rcases akF with akF|⟨rfl,rfl,_⟩
    ·exact h2 u v akF
    ·simpa using e2
 ·rw[if_neg e];refine⟨fun hb u v akF=>?_,fun p hp=>⟨.inl (h.some p hp).1,fun u v akF=>?_⟩⟩
  ·rcases akF with akF|⟨_,_,he⟩
   ·exact h.none hb u v akF
   ·exact e he
  ·rcases akF with akF|⟨_,_,he⟩
   ·exact(h.some p hp).2 u v akF
   ·exact absurd he e
theorem ak4.congr {n:Nat} {D D':Nat->Nat->Prop} {b:Option (Nat×Nat)} (h:ak4 n D b) (e:∀ x y,D x y<->D' x y):ak4 n D' b:=
 ⟨fun hb x y hxy=>h.none hb x y ((e x y).2 hxy),fun p hp=>⟨(e _ _).1 (h.some p hp).1,fun x y hxy=>(h.some p hp).2 x y ((e x y).2 hxy)⟩⟩
theorem ak4.row {n:Nat} (x:Nat):∀ (l:List Nat) {D:Nat->Nat->Prop} {b:Option (Nat×Nat)},ak4 n D b->ak4 n (fun u v=>D u v\/(u=x/\v∈l/\x &&& v=0)) (l.foldl (asn n x) b)
 |[],D,b,h=>h.congr fun u v=>by simp
 |y::l,D,b,h=>by
  rw[List.foldl_cons];refine(ak4.row x l (h.pair x y)).congr fun u v=>?_
  rw[List.mem_cons];constructor
  ·rintro((h|⟨rfl,rfl,h⟩)|⟨rfl,h1,h2⟩)
   ·exact .inl h
   ·exact .inr ⟨rfl,.inl rfl,h⟩
   ·exact .inr ⟨rfl,.inr h1,h2⟩
  ·rintro(h|⟨rfl,rfl|h1,h2⟩)
   ·exact .inl (.inl h)
   ·exact .inl (.inr ⟨rfl,rfl,h2⟩)
   ·exact .inr ⟨rfl,h1,h2⟩
/-! ### The program's search -/
end Go.dg
end
section
namespace Go.dg
def gA (A:List Int) (i:Nat):Int:=A.getD i 0
theorem Sh {A:List Int} {i:Nat} (h:i<A.length):gA A i=A[i]:=by unfold gA;rw[List.getD_eq_getElem?_getD,List.getElem?_eq_getElem h];rfl
def swp (A:List Int) (i j:Nat):List Int:=(A.set i (gA A j)).set j (gA A i)
theorem axd (A:List Int) (i j:Nat):(swp A i j).length=A.length:=by simp[swp]
theorem ato {A:List Int} {i k:Nat} {x:Int} (h:i<A.length):gA (A.set i x) k=if k=i then x else gA A k:=by
 unfold gA;rw[List.getD_eq_getElem?_getD,List.getD_eq_getElem?_getD,List.getElem?_set];by_cases e:i=k
 ·subst e;rw[if_pos rfl,if_pos h,if_pos rfl];rfl
 ·rw[if_neg e,if_neg (fun h=>e h.symm)]
theorem swp_get {A:List Int} {i j k:Nat} (hi:i<A.length) (hj:j<A.length):gA (swp A i j) k=if k=j then gA A i else if k=i then gA A j else gA A k:=by
 unfold swp;rw[ato (by rw[List.length_set];exact hj),ato hi]
theorem avy {A:List Int} {i j:Nat} (hi:i<A.length) (hj:j<A.length):(swp A i j).Perm A:=by
 unfold swp;rw[Sh hi,Sh hj];exact List.set_set_perm hi hj
structure hG (a b:Nat) (A B:List Int):Prop where
 perm:B.Perm A
 out:∀ k,k<a\/b<=k->gA B k=gA A k
 mem:∀ k,a<=k->k<b->∃ j,a<=j/\j<b/\gA B k=gA A j
theorem hG.len {a b:Nat} {A B:List Int} (h:hG a b A B):B.length=A.length:=h.perm.length_eq
theorem hG.refl (a b:Nat) (A:List Int):hG a b A A:=⟨List.Perm.refl _,fun _ _=>rfl,fun k h1 h2=>⟨k,h1,h2,rfl⟩⟩
theorem hG.trans {a b:Nat} {A B C:List Int} (h:hG a b A B) (h':hG a b B C):hG a b A C:=
 ⟨h'.perm.trans h.perm,fun k hk=>(h'.out k hk).trans (h.out k hk),fun k h1 h2=>by
   obtain⟨j,j1,j2,e⟩:=h'.mem k h1 h2;obtain⟨i,i1,i2,e'⟩:=h.mem j j1 j2;exact⟨i,i1,i2,e.trans e'⟩⟩
theorem hG.wide {a b a' b':Nat} {A B:List Int} (h:hG a' b' A B) (ha:a<=a') (hb:b'<=b):hG a b A B:=
 ⟨h.perm,fun k hk=>h.out k (by omega),fun k h1 h2=>by
   by_cases e:a'<=k/\k<b'
   ·obtain⟨j,j1,j2,e⟩:=h.mem k e.1 e.2;exact⟨j,by omega,by omega,e⟩
   ·exact⟨k,h1,h2,h.out k (by omega)⟩⟩
theorem hG.swp {A:List Int} {a b i j:Nat} (hb:b<=A.length) (hi:a<=i/\i<b) (hj:a<=j/\j<b):hG a b A (swp A i j):=
 ⟨avy (by omega) (by omega),fun k hk=>by
   rw[swp_get (by omega) (by omega),if_neg (by omega),if_neg (by omega)],fun k h1 h2=>by
   rw[swp_get (by omega) (by omega)]
   by_cases e1:k=j
   ·rw[if_pos e1];exact⟨i,hi.1,hi.2,rfl⟩
   ·rw[if_neg e1];by_cases e2:k=i
    ·rw[if_pos e2];exact⟨j,hj.1,hj.2,rfl⟩
    ·rw[if_neg e2];exact⟨k,h1,h2,rfl⟩⟩
/-! ### Ranges exchanged;turned -/
def x8 (A:List Int) (a b:Nat):Nat->List Int
 |0=>A
 |n+1=>swp (x8 A a b n) (a+n) (b+n)
theorem amU (A:List Int) (a b:Nat):∀ n,(x8 A a b n).length=A.length
 |0=>rfl
 |n+1=>by rw[x8,axd,amU A a b n]
theorem amT {A:List Int} {a b:Nat}:∀ {n:Nat},a+n<=b->b+n<=A.length->∀ k,gA (x8 A a b n) k=if a<=k/\k<a+n then gA A (k+(b-a))else if b<=k/\k<b+n then gA A (k-(b-a))else gA A k
 |0,_,_,k=>by rw[if_neg (by omega),if_neg (by omega)];rfl
 |n+1,h1,h2,k=>by
  have ih:=amT (A:=A) (a:=a) (b:=b) (n:=n) (by omega) (by omega)
  have hl:=amU A a b n;rw[x8,swp_get (by omega) (by omega),ih,ih,ih]
  by_cases e1:k=b+n
  ·rw[if_pos e1,if_neg (by omega),if_neg (by omega),if_neg (by omega),if_pos (by omega)];congr 1;omega
  ·rw[if_neg e1];by_cases e2:k=a+n
   ·rw[if_pos e2,if_neg (by omega),if_neg (by omega),if_pos (by omega)];congr 1;omega
   ·rw[if_neg e2];by_cases e3:a<=k/\k<a+n
    ·rw[if_pos e3,if_pos (by omega)]
    ·rw[if_neg e3,if_neg (by omega:¬(a<=k/\k<a+(n+1)))]
     by_cases e4:b<=k/\k<b+n
     ·rw[if_pos e4,if_pos (by omega)]
     ·rw[if_neg e4,if_neg (by omega)]
theorem aoA {A:List Int} {a b n x y:Nat} (h1:a+n<=b) (h2:b+n<=y) (hx:x<=a) (hy:y<=A.length):hG x y A (x8 A a b n):=by
 induction n with
 |zero=>exact hG.refl ..
 |succ n ih=>
  have hl:=amU A a b n;exact(ih (by omega) (by omega)).trans (hG.swp (by omega) (by omega) (by omega))
def T3 (s m e k:Nat):Nat:=if k<s then k else if k<s+(e-m)then k+(m-s)else if k<e then k-(e-m)else k
structure ak5 (s m e:Nat) (A:List Int) (i j:Nat) (B:List Int):Prop where
 pin:hG s e A B
 le:s+i<=m/\m+j<=e/\1<=i/\1<=j
 got:∀ k,gA B (T3 (m-i) m (m+j) k)=gA A (T3 s m e k)
theorem ak5.start {s m e:Nat} (h1:s<m) (h2:m<e) (A:List Int):ak5 s m e A (m-s) (e-m) A:=
 ⟨hG.refl ..,by omega,fun k=>by rw[show m-(m-s)=s by omega,show m+(e-m)=e by omega]⟩
theorem ak5.left {s m e:Nat} {A B:List Int} {i j:Nat} (h:ak5 s m e A i j B) (he:e<=A.length) (hij:j<i):ak5 s m e A (i-j) j (x8 B (m-i) m j):=by
 have hl:=h.pin.len;obtain⟨q1,q2,q3,q4⟩:=h.le;have hp:=aoA (A:=B) (a:=m-i) (b:=m) (n:=j) (x:=s) (y:=e) (by omega) (by omega) (by omega) (by omega)
 refine⟨h.pin.trans hp,by omega,fun k=>?_⟩
 rw[<-h.got k,amT (by omega) (by omega)]
 unfold T3;by_cases c1:k<m-i
 ·rw[if_pos (by omega:k<m-(i-j)),if_neg (by omega),if_neg (by omega),if_pos c1]
 by_cases c2:k<m-i+j
 ·rw[if_pos (by omega:k<m-(i-j)),if_pos (by omega),if_neg c1,if_pos (by omega)]
 by_cases c3:k<m-(i-j)+(m+j-m)
 ·rw[if_neg (by omega:¬k<m-(i-j)),if_pos c3,if_neg (by omega),if_pos (by omega),if_neg c1,if_neg (by omega),if_pos (by omega)];congr 1;omega
 by_cases c4:k<m+j
 ·rw[if_neg (by omega:¬k<m-(i-j)),if_neg c3,if_pos c4,if_neg (by omega),if_neg (by omega),if_neg c1,if_neg (by omega)]
 ·rw[if_neg (by omega:¬k<m-(i-j)),if_neg c3,if_neg c4,if_neg (by omega),if_neg (by omega),if_neg c1,if_neg (by omega)]
theorem ak5.right {s m e:Nat} {A B:List Int} {i j:Nat} (h:ak5 s m e A i j B) (he:e<=A.length) (hij:i<j):ak5 s m e A i (j-i) (x8 B (m-i) (m+j-i) i):=by
 have hl:=h.pin.len;obtain⟨q1,q2,q3,q4⟩:=h.le;have hp:=aoA (A:=B) (a:=m-i) (b:=m+j-i) (n:=i) (x:=s) (y:=e) (by omega) (by omega) (by omega) (by omega)
 refine⟨h.pin.trans hp,by omega,fun k=>?_⟩
 rw[<-h.got k,amT (by omega) (by omega)]
 unfold T3;by_cases c1:k<m-i
 ·rw[if_pos c1,if_neg (by omega),if_neg (by omega),if_pos c1]
 by_cases c2:k<m-i+(m+(j-i)-m)
 ·rw[if_neg c1,if_pos c2,if_neg (by omega),if_neg (by omega),if_neg c1,if_pos (by omega)]
 by_cases c3:k<m+(j-i)
 ·rw[if_neg c1,if_neg c2,if_pos c3,if_pos (by omega),if_neg c1,if_pos (by omega)];congr 1;omega
 by_cases c4:k<m+j
 ·rw[if_neg c1,if_neg c2,if_neg c3,if_neg (by omega),if_pos (by omega),if_neg c1,if_neg (by omega),if_pos c4];congr 1;omega
 ·rw[if_neg c1,if_neg c2,if_neg c3,if_neg (by omega),if_neg (by omega),if_neg c1,if_neg (by omega),if_neg c4]
theorem ak5.done {s m e:Nat} {A B:List Int} {i:Nat} (h:ak5 s m e A i i B) (he:e<=A.length):hG s e A (x8 B (m-i) m i)/\∀ k,gA (x8 B (m-i) m i) k=gA A (T3 s m e k):=by
 have hl:=h.pin.len;obtain⟨q1,q2,q3,q4⟩:=h.le;refine⟨h.pin.trans (aoA (by omega) (by omega) (by omega) (by omega)),fun k=>?_⟩
 rw[<-h.got k,amT (by omega) (by omega)]
 unfold T3;by_cases c1:k<m-i
 ·rw[if_neg (by omega),if_neg (by omega),if_pos c1]
 by_cases c2:k<m
 ·rw[if_pos (by omega),if_neg c1,if_pos (by omega)]
 by_cases c3:k<m+i
 ·rw[if_neg (by omega),if_pos (by omega),if_neg c1,if_neg (by omega),if_pos c3];congr 1;omega
 ·rw[if_neg (by omega),if_neg (by omega),if_neg c1,if_neg (by omega),if_neg c3]
/-! ### Sorted parts -/
def kM (w:Int->Int) (a b:Nat) (A:List Int):Prop:=∀ i j,a<=i->i<j->j<b->w (gA A i)<=w (gA A j)
theorem kM.sub {w:Int->Int} {a b a' b':Nat} {A:List Int} (h:kM w a b A) (ha:a<=a') (hb:b'<=b):kM w a' b' A:=fun i j h1 h2 h3=>h i j (by omega) h2 (by omega)
theorem kM.le {w:Int->Int} {a b:Nat} {A:List Int} (h:kM w a b A) {i j:Nat} (h1:a<=i) (h2:i<=j) (h3:j<b):w (gA A i)<=w (gA A j):=by
 rcases Nat.lt_or_eq_of_le h2 with h|rfl
 ·exact ‹kM w a b A› i j h1 h h3
 ·exact Int.le_refl _
theorem kM.one (w:Int->Int) (a:Nat) (A:List Int):kM w a (a+1) A:=fun i j h1 h2 h3=>by omega
theorem kM.keep {w:Int->Int} {a b x y:Nat} {A B:List Int} (h:kM w a b A) (hp:hG x y A B) (ho:b<=x\/y<=a):kM w a b B:=fun i j h1 h2 h3=>by
 rw[hp.out i (by omega),hp.out j (by omega)];exact h i j h1 h2 h3
structure alZ (w:Int->Int) (a i:Nat) (A:List Int) (j:Nat) (B:List Int):Prop where
 pin:hG a (i+1) A B
 le:a<=j/\j<=i
 up:∀ p q,a<=p->p<q->q<=i->q≠j->w (gA B p)<=w (gA B q)
theorem alZ.start {w:Int->Int} {a i:Nat} {A:List Int} (h:kM w a i A) (ha:a<=i):alZ w a i A i A:=⟨hG.refl ..,by omega,fun p q h1 h2 h3 h4=>h p q h1 h2 (by omega)⟩
theorem alZ.step {w:Int->Int} {a i:Nat} {A:List Int} {j:Nat} {B:List Int} (h:alZ w a i A j B) (hi:i<A.length) (hj:a<j) (hlt:w (gA B j)<w (gA B (j-1))):alZ w a i A (j-1) (swp B j (j-1)):=by
 have hl:=h.pin.len;obtain⟨h1,h2⟩:=h.le;refine⟨h.pin.trans (hG.swp (by omega) (by omega) (by omega)),by omega,fun p q p1 p2 p3 p4=>?_⟩
 rw[swp_get (by omega) (by omega),swp_get (by omega) (by omega)]
 rw[if_neg p4];by_cases e1:q=j
 ·rw[if_pos e1];by_cases e2:p=j-1
  ·rw[if_pos e2];omega
  ·rw[if_neg e2,if_neg (by omega)];exact h.up p (j-1) p1 (by omega) (by omega) (by omega)
 ·rw[if_neg e1];by_cases e2:p=j-1
  ·rw[if_pos e2];exact h.up j q (by omega) (by omega) p3 e1
  ·rw[if_neg e2];by_cases e3:p=j
   ·rw[if_pos e3];exact h.up (j-1) q (by omega) (by omega) p3 e1
   ·rw[if_neg e3];exact h.up p q p1 p2 p3 e1
theorem alZ.done {w:Int->Int} {a i:Nat} {A:List Int} {j:Nat} {B:List Int} (h:alZ w a i A j B) (hs:j=a\/w (gA B (j-1))<=w (gA B j)):kM w a (i+1) B:=fun p q h1 h2 h3=>by
 by_cases e:q=j
 ·subst e;rcases hs with rfl|hs
  ·omega
  ·rcases Nat.lt_or_ge p (q-1)with hp|hp
   ·have:=h.up p (q-1) h1 hp (by omega) (by omega);omega
   ·rw[show p=q-1 by omega];exact hs
 ·exact h.up p q h1 h2 (by omega) e
end Go.dg
end
section
namespace Go.dg
section
variable {w:Int->Int} {a m b:Nat} {A:List Int}
structure alY (a i:Nat) (A:List Int) (k:Nat) (B:List Int):Prop where
 pin:hG a i A B
 le:a<=k/\k<i
 got:∀ q,gA B q=if a<=q/\q<k then gA A (q+1)else if q=k then gA A a else gA A q
theorem alY.start {i:Nat} (h:a<i) (A:List Int):alY a i A a A:=⟨hG.refl ..,by omega,fun q=>by
 rw[if_neg (by omega)];split
 ·rename_i h;rw[h]
 ·rfl⟩
theorem alY.step {i k:Nat} {B:List Int} (h:alY a i A k B) (hi:i<=A.length) (hk:k+1<i):alY a i A (k+1) (swp B k (k+1)):=by
 have hl:=h.pin.len;obtain⟨h1,h2⟩:=h.le;refine⟨h.pin.trans (hG.swp (by omega) (by omega) (by omega)),by omega,fun q=>?_⟩
 rw[swp_get (by omega) (by omega),h.got,h.got,h.got]
 by_cases e1:q=k+1
 ·rw[if_pos e1,if_neg (by omega),if_pos rfl,if_neg (by omega),if_pos e1]
 ·rw[if_neg e1];by_cases e2:q=k
  ·rw[if_pos e2,if_neg (by omega),if_neg (by omega),if_pos (by omega),e2]
  ·rw[if_neg e2];by_cases e3:a<=q/\q<k
   ·rw[if_pos e3,if_pos (by omega)]
   ·rw[if_neg e3,if_neg e2,if_neg (by omega),if_neg e1]
theorem alY.done {i k:Nat} {B:List Int} (h:alY a i A k B) (hi:a+1<=i) (hib:i<=b) (hk:k+1=i) (hs:kM w (a+1) b A) (h1:∀ q,a+1<=q->q<i->w (gA A q)<w (gA A a)) (h2:∀ q,i<=q->q<b->w (gA A a)<=w (gA A q)):kM w a b B:=fun p q p1 p2 p3=>by
 rw[h.got,h.got];by_cases e1:q<k
 ·rw[if_pos (by omega),if_pos (by omega)];exact hs _ _ (by omega) (by omega) (by omega)
 by_cases e2:q=k
 ·rw[if_pos (by omega),if_neg (by omega),if_pos e2];have:=h1 (p+1) (by omega) (by omega);omega
 rw[if_neg (by omega:¬(a<=q/\q<k)),if_neg e2]
 by_cases e3:p<k
 ·rw[if_pos (by omega)]
  have:=h1 (p+1) (by omega) (by omega);have:=h2 q (by omega) p3;omega
 by_cases e4:p=k
 ·rw[if_neg (by omega),if_pos e4];exact h2 q (by omega) p3
 ·rw[if_neg (by omega),if_neg e4];exact hs p q (by omega) p2 p3
structure alX (m i:Nat) (A:List Int) (k:Nat) (B:List Int):Prop where
 pin:hG i (m+1) A B
 le:i<=k/\k<=m
 got:∀ q,gA B q=if k<q/\q<=m then gA A (q-1)else if q=k then gA A m else gA A q
theorem alX.start {i:Nat} (h:i<=m) (A:List Int):alX m i A m A:=⟨hG.refl ..,by omega,fun q=>by
 rw[if_neg (by omega)];split
 ·rename_i h;rw[h]
 ·rfl⟩
theorem alX.step {i k:Nat} {B:List Int} (h:alX m i A k B) (hm:m<A.length) (hk:i<k):alX m i A (k-1) (swp B k (k-1)):=by
 have hl:=h.pin.len;obtain⟨h1,h2⟩:=h.le;refine⟨h.pin.trans (hG.swp (by omega) (by omega) (by omega)),by omega,fun q=>?_⟩
 rw[swp_get (by omega) (by omega),h.got,h.got,h.got]
 by_cases e1:q=k-1
 ·rw[if_pos e1,if_neg (by omega),if_pos rfl,if_neg (by omega),if_pos e1]
 ·rw[if_neg e1];by_cases e2:q=k
  ·rw[if_pos e2,if_neg (by omega),if_neg (by omega),if_pos (by omega),e2]
  ·rw[if_neg e2];by_cases e3:k<q/\q<=m
   ·rw[if_pos e3,if_pos (by omega)]
   ·rw[if_neg e3,if_neg e2,if_neg (by omega),if_neg e1]
theorem alX.done {i k:Nat} {B:List Int} (h:alX m i A k B) (aAI:a<=i) (hk:k=i) (hs:kM w a m A) (h1:∀ q,a<=q->q<i->w (gA A q)<=w (gA A m)) (h2:∀ q,i<=q->q<m->w (gA A m)<w (gA A q)):kM w a (m+1) B:=fun p q p1 p2 p3=>by
 have hle:=h.le;rw[h.got,h.got];by_cases e1:k<p
 ·rw[if_pos (by omega),if_pos (by omega)];exact hs _ _ (by omega) (by omega) (by omega)
 by_cases e2:p=k
 ·rw[if_neg (by omega),if_pos e2,if_pos (by omega)];have:=h2 (q-1) (by omega) (by omega);omega
 rw[if_neg (by omega:¬(k<p/\p<=m)),if_neg e2]
 by_cases e3:k<q
 ·rw[if_pos (by omega)]
  have:=h1 p p1 (by omega);have:=h2 (q-1) (by omega) (by omega);omega
 by_cases e4:q=k
 ·rw[if_neg (by omega),if_pos e4];exact h1 p p1 (by omega)
 ·rw[if_neg (by omega),if_neg e4];exact hs p q p1 p2 (by omega)
structure aln (w:Int->Int) (n s0 r0:Nat) (A:List Int) (s r:Nat):Prop where
 le:s0<=s/\s<=r/\r<=r0
 lo:∀ x,s0<=x->x<s->w (gA A x)<=w (gA A (n-1-x))
 hi:∀ x,r<=x->x<r0->w (gA A (n-1-x))<w (gA A x)
theorem aln.start {n s0 r0:Nat} (h:s0<=r0):aln w n s0 r0 A s0 r0:=⟨by omega,fun x h1 h2=>by omega,fun x h1 h2=>by omega⟩
structure arI (a m b d s0 r0:Nat):Prop where
 ord:a<m/\m<b
 mid:2*d<=a+b/\a+b<=2*d+1
 bnd:(m<=d/\s0=a/\r0=m)\/(d<m/\s0+b=d+m/\r0=d)
theorem aln.up {d s0 r0 s r c:Nat} (h:aln w (d+m) s0 r0 A s r) (ha:arI a m b d s0 r0) (h1:kM w a m A) (h2:kM w m b A) (hc:s<=c/\c<r) (ht:w (gA A c)<=w (gA A (d+m-1-c))):aln w (d+m) s0 r0 A (c+1) r:=by
 obtain⟨l1,l2,l3⟩:=h.le;obtain⟨o1,o2⟩:=ha.ord;obtain⟨m1,m2⟩:=ha.mid;refine⟨by omega,fun x x1 x2=>?_,h.hi⟩
 have e1:w (gA A x)<=w (gA A c):=h1.le (by rcases ha.bnd with⟨b1,b2,b3⟩|⟨b1,b2,b3⟩<;>omega) (by omega) (by rcases ha.bnd with⟨b1,b2,b3⟩|⟨b1,b2,b3⟩<;>omega)
 have e2:w (gA A (d+m-1-c))<=w (gA A (d+m-1-x)):=h2.le (by rcases ha.bnd with⟨b1,b2,b3⟩|⟨b1,b2,b3⟩<;>omega) (by omega) (by rcases ha.bnd with⟨b1,b2,b3⟩|⟨b1,b2,b3⟩<;>omega)
 omega
theorem aln.dn {d s0 r0 s r c:Nat} (h:aln w (d+m) s0 r0 A s r) (ha:arI a m b d s0 r0) (h1:kM w a m A) (h2:kM w m b A) (hc:s<=c/\c<r) (ht:w (gA A (d+m-1-c))<w (gA A c)):aln w (d+m) s0 r0 A s c:=by
 obtain⟨l1,l2,l3⟩:=h.le;obtain⟨o1,o2⟩:=ha.ord;obtain⟨m1,m2⟩:=ha.mid;refine⟨by omega,h.lo,fun x x1 x2=>?_⟩
 have e1:w (gA A c)<=w (gA A x):=h1.le (by rcases ha.bnd with⟨b1,b2,b3⟩|⟨b1,b2,b3⟩<;>omega) (by omega) (by rcases ha.bnd with⟨b1,b2,b3⟩|⟨b1,b2,b3⟩<;>omega)
 have e2:w (gA A (d+m-1-x))<=w (gA A (d+m-1-c)):=h2.le (by rcases ha.bnd with⟨b1,b2,b3⟩|⟨b1,b2,b3⟩<;>omega) (by omega) (by rcases ha.bnd with⟨b1,b2,b3⟩|⟨b1,b2,b3⟩<;>omega)
 omega
theorem avm (m e k:Nat):T3 m m e k=k:=by unfold T3;split;rfl;split;omega;split;omega;rfl
theorem avn (s m k:Nat):T3 s m m k=k:=by unfold T3;split;rfl;split;omega;split;omega;rfl
theorem at4 {d s0 r0 s:Nat} {B:List Int} (h:aln w (d+m) s0 r0 A s s) (ha:arI a m b d s0 r0) (h1:kM w a m A) (h2:kM w m b A) (hg:∀ k,gA B k=gA A (T3 s m (d+m-s) k)):
 (a<=s/\s<=d/\s<=m/\d<=d+m-s/\d+m-s<=b)/\kM w a s B/\kM w s d B/\kM w d (d+m-s) B/\kM w (d+m-s) b B/\∀ x y,a<=x->x<d->d<=y->y<b->w (gA B x)<=w (gA B y):=by
 obtain⟨l1,l2,l3⟩:=h.le;obtain⟨o1,o2⟩:=ha.ord;obtain⟨m1,m2⟩:=ha.mid;have hb:a<=s/\s<=d/\s<=m/\d<=d+m-s/\d+m-s<=b:=by rcases ha.bnd with⟨b1,b2,b3⟩|⟨b1,b2,b3⟩<;>omega
 obtain⟨c1,c2,c3,c4,c5⟩:=hb;have g1:∀ k,k<s->gA B k=gA A k:=fun k hk=>by rw[hg];unfold T3;rw[if_pos hk]
 have g2:∀ k,s<=k->k<d->gA B k=gA A (k+(m-s)):=fun k hk hk'=>by rw[hg];unfold T3;rw[if_neg (by omega),if_pos (by omega)]
 have g3:∀ k,d<=k->k<d+m-s->gA B k=gA A (k-(d-s)):=fun k hk hk'=>by rw[hg];unfold T3;rw[if_neg (by omega),if_neg (by omega),if_pos (by omega)];congr 1;omega
 have g4:∀ k,d+m-s<=k->gA B k=gA A k:=fun k hk=>by rw[hg];unfold T3;rw[if_neg (by omega),if_neg (by omega),if_neg (by omega)]
 have k1:∀ x y,a<=x->x<s->d+m-s<=y->y<b->w (gA A x)<=w (gA A y):=fun x y x1 x2 y1 y2=>by
  have hs:s0<s:=by rcases ha.bnd with⟨b1,b2,b3⟩|⟨b1,b2,b3⟩<;>omega
  have q1:=h.lo (s-1) (by omega) (by omega)
  have q2:=h1.le (i:=x) (j:=s-1) x1 (by omega) (by omega)
  have q3:=h2.le (i:=d+m-1-(s-1)) (j:=y) (by omega) (by omega) y2
  omega
 have k2:∀ x y,m<=x->x<d+m-s->s<=y->y<m->w (gA A x)<=w (gA A y):=fun x y x1 x2 y1 y2=>by
  have hs:s<r0:=by rcases ha.bnd with⟨b1,b2,b3⟩|⟨b1,b2,b3⟩<;>omega
  have q1:=h.hi s (Nat.le_refl _) hs;have q2:=h2.le (i:=x) (j:=d+m-1-s) x1 (by omega) (by omega)
  have q3:=h1.le (i:=s) (j:=y) (by omega) y1 y2
  omega
 refine⟨⟨c1,c2,c3,c4,c5⟩,fun i j i1 i2 i3=>?_,fun i j i1 i2 i3=>?_,fun i j i1 i2 i3=>?_,fun i j i1 i2 i3=>?_,fun x y x1 x2 y1 y2=>?_⟩
 ·rw[g1 i (by omega),g1 j (by omega)];exact h1 i j i1 i2 (by omega)
 ·rw[g2 i i1 (by omega),g2 j (by omega) i3];exact h2 _ _ (by omega) (by omega) (by omega)
 ·rw[g3 i i1 (by omega),g3 j (by omega) i3];exact h1 _ _ (by omega) (by omega) (by omega)
 ·rw[g4 i i1,g4 j (by omega)];exact h2 i j (by omega) i2 i3
 ·by_cases e1:x<s
  ·rw[g1 x e1];by_cases e2:y<d+m-s
   ·rw[g3 y y1 e2];exact h1.le x1 (by omega) (by omega)
   ·rw[g4 y (by omega)];exact k1 x y x1 e1 (by omega) y2
  ·rw[g2 x (by omega) x2]
   by_cases e2:y<d+m-s
   ·rw[g3 y y1 e2];exact k2 _ _ (by omega) (by omega) (by omega) (by omega)
   ·rw[g4 y (by omega)];exact h2.le (by omega) (by omega) y2
theorem aqj {d:Nat} {B C D:List Int} (hB:∀ x y,a<=x->x<d->d<=y->y<b->w (gA B x)<=w (gA B y)) (hp:hG a d B C) (hq:hG d b C D) (hC:kM w a d C) (hD:kM w d b D):kM w a b D:=fun i j i1 i2 i3=>by
 rcases Nat.lt_or_ge j d with h|h
 ·exact hC.keep hq (.inl (Nat.le_refl _)) i j i1 i2 h
 ·rcases Nat.lt_or_ge i d with h'|h'
  ·rw[hq.out i (by omega)]
   obtain⟨x,x1,x2,ex⟩:=hp.mem i i1 h';obtain⟨y,y1,y2,ey⟩:=hq.mem j h i3;rw[ex,ey,hp.out y (by omega)]
   exact hB x y x1 x2 y1 y2
  ·exact hD i j h' i2 i3
end
/-! ### Blocks -/
def aD0 (w:Int->Int) (n x y:Nat) (A:List Int):Prop:=∀ t,kM w (y+t*x) (min (y+t*x+x) n) A
def alM (w:Int->Int) (z u:Nat) (A:List Int):Prop:=∀ t,t<u->kM w (t*z) (t*z+z) A
theorem aD0.next {w:Int->Int} {n x y:Nat} {A B:List Int} (h:aD0 w n x y A) (hp:hG y (y+2*x) A B):aD0 w n x (y+2*x) B:=fun t=>by
 have:=h (t+2);rw[Nat.add_mul]at this;rw[show y+2*x+t*x=y+(t*x+2*x) by omega]
 exact this.keep hp (.inr (by omega))
theorem alM.next {w:Int->Int} {z u:Nat} {A B:List Int} (h:alM w z u A) (hp:hG (u*z) (u*z+z) A B) (hs:kM w (u*z) (u*z+z) B):alM w z (u+1) B:=fun t ht=>by
 rcases Nat.lt_or_eq_of_le (Nat.le_of_lt_succ ht)with h'|rfl
 ·refine(h t h').keep hp (.inl ?_);have:(t+1)*z<=u*z:=Nat.mul_le_mul_right z h';rw[Nat.add_mul]at this;omega
 ·exact hs
theorem alM.zero (w:Int->Int) (z:Nat) (A:List Int):alM w z 0 A:=fun t ht=>by omega
theorem alM.fin {w:Int->Int} {n z u:Nat} {A B:List Int} (h:alM w z u A) (hz:0<z) (hu:u*z<=n) (hn:n<u*z+z) (hp:hG (u*z) n A B) (hs:kM w (u*z) n B):aD0 w n z 0 B:=fun t=>by
 rw[Nat.zero_add];rcases Nat.lt_trichotomy t u with h'|rfl|h'
 ·have:(t+1)*z<=u*z:=Nat.mul_le_mul_right z h';rw[Nat.add_mul]at this;exact((h t h').keep hp (.inl (by omega))).sub (Nat.le_refl _) (Nat.min_le_left _ _)
 ·exact hs.sub (Nat.le_refl _) (Nat.min_le_right _ _)
 ·have:(u+1)*z<=t*z:=Nat.mul_le_mul_right z h';rw[Nat.add_mul]at this;intro i j h1 h2 h3;have:=Nat.lt_of_lt_of_le h3 (Nat.min_le_right _ _);omega
theorem aD0.whole {w:Int->Int} {n x:Nat} {A:List Int} (h:aD0 w n x 0 A) (hx:n<=x):kM w 0 n A:=by
 have:=h 0;rw[Nat.zero_mul,Nat.zero_add,Nat.zero_add,Nat.min_eq_right hx]at this;exact this
theorem aD0.two {w:Int->Int} {n x y:Nat} {A:List Int} (h:aD0 w n x y A):kM w y (min (y+x) n) A/\kM w (y+x) (min (y+x+x) n) A:=by
 have h0:=h 0;have h1:=h 1;rw[Nat.zero_mul,Nat.add_zero]at h0;rw[Nat.one_mul]at h1;exact⟨h0,h1⟩
end Go.dg
end
section
namespace Go.dg
theorem Kz.aAw {q:Int->Bool} {R:List Int} {lo hi m:Nat} (h:Kz q R lo hi) (hs:∀ i j,i<=j->j<R.length->q (R.getD j 0)=true->q (R.getD i 0)=true) (hm:lo<=m) (hm':m<hi) (hy:q (R.getD m 0)=true):Kz q R (m+1) hi:=by
 have ht:=h.top;exact⟨hm',ht,fun i hi=>hs i m (by omega) (by omega) hy,h.no⟩
theorem Kz.ay4 {q:Int->Bool} {R:List Int} {lo hi m:Nat} (h:Kz q R lo hi) (hs:∀ i j,i<=j->j<R.length->q (R.getD j 0)=true->q (R.getD i 0)=true) (hm:lo<=m) (hm':m<hi) (hy:q (R.getD m 0)=false):Kz q R lo m:=by
 have ht:=h.top;refine⟨hm,by omega,h.ni,fun i h1 h2=>?_⟩
 rw[Bool.eq_false_iff];intro h3;have:=hs m i h1 h2 h3;rw[this]at hy;cases hy
theorem Kz.axJ {q:Int->Bool} {R:List Int} {lo:Nat} (h:Kz q R lo lo):R.countP q=lo:=by
 have ht:=h.top;rw[<-List.take_append_drop lo R,List.countP_append];have h1:(R.take lo).countP q=(R.take lo).length:=by
  rw[List.countP_eq_length];intro x hx;obtain⟨i,hi,rfl⟩:=List.mem_iff_getElem.1 hx;rw[List.length_take]at hi;have:=h.ni i (by omega)
  rw[List.getD_eq_getElem?_getD,List.getElem?_eq_getElem (by omega)]at this
  rw[List.getElem_take];exact this
 have h2:(R.drop lo).countP q=0:=by
  rw[List.countP_eq_zero];intro x hx;obtain⟨i,hi,rfl⟩:=List.mem_iff_getElem.1 hx;rw[List.length_drop]at hi;have:=h.no (lo+i) (by omega) (by omega)
  rw[List.getD_eq_getElem?_getD,List.getElem?_eq_getElem (by omega)]at this
  rw[List.getElem_drop];simpa using this
 rw[h1,h2,List.length_take];omega
end Go.dg
end
section
namespace Go.dg
theorem at6 (f:Int):∀ (A B:List Bk) (p q:Nat),p<2^A.length->wN f (A++B) (p+2^A.length*q)=wN f A p+wN f B q
 |[],B,p,q,h=>by
  have:p=0:=by simp at h;omega
  subst this;simp[wN]
 |b::A,B,p,q,h=>by
  have ih:=at6 f A B (p / 2) q (akx (by simpa using h))
  have e1:(p+2^(A.length+1)*q)%2=p%2:=by rw[Nat.pow_succ,Nat.mul_comm _ 2,Nat.mul_assoc];omega
  have e2:(p+2^(A.length+1)*q) / 2=p / 2+2^A.length*q:=by rw[Nat.pow_succ,Nat.mul_comm _ 2,Nat.mul_assoc];omega
  rw[List.cons_append,wN,wN,List.length_cons,e1,e2,ih];omega
theorem Bn:∀ (n:Nat) {l:List Int},l.Nodup->(∀ x∈l,0<=x/\x<(n:Int))->l.length<=n
 |0,l,_,h=>by
  cases l with
  |nil=>exact Nat.le_refl _
  |cons x l=>have:=h x (List.mem_cons_self ..);omega
 |n+1,l,hn,h=>by
  have h1:(l.erase (n:Int)).Nodup:=hn.erase _;have h2:∀ x∈l.erase (n:Int),0<=x/\x<(n:Int):=fun x hx=>by
   have hm:=List.mem_of_mem_erase hx;have hne:x≠(n:Int):=fun e=>by subst e;exact(List.Nodup.not_mem_erase hn) hx
   have:=h x hm;omega
  have h3:=Bn n h1 h2;have h4:l.length<=(l.erase (n:Int)).length+1:=by
   rw[List.length_erase];split<;>omega
  omega
theorem atM {n:Nat} {l:List Int} (hn:l.Nodup) (h:∀ x∈l,0<=x/\x<(n:Int)) (hl:l.length=n) {x:Int} (h0:0<=x) (h1:x<(n:Int)):x∈l:=Classical.byContradiction fun hx=>by
 have:=Bn n (l:=x::l) (List.nodup_cons.2 ⟨hx,hn⟩) (fun y hy=>by
  rcases List.mem_cons.1 hy with rfl|hy
  ·exact⟨h0,h1⟩
  ·exact h y hy)
 simp only[List.length_cons]at this;omega
theorem as4 {q:Int->Bool} {R:List Int} (hs:∀ i j,i<=j->j<R.length->q (R.getD j 0)=true->q (R.getD i 0)=true):R.countP q<=R.length/\(∀ j,j<R.countP q->q (R.getD j 0)=true)/\∀ j,R.countP q<=j->j<R.length->q (R.getD j 0)=false:=by
 have key:∃ m,Kz q R m m:=by
  by_cases h:∃ m,m<R.length/\q (R.getD m 0)=false
  ·obtain⟨m,hm,hq⟩:=h;have:∀ k,k<=m->(∃ i,i<=k/\q (R.getD i 0)=false/\∀ j,j<i->q (R.getD j 0)=true)\/∀ j,j<k->q (R.getD j 0)=true:=by
    intro k;induction k with
    |zero=>intro _;exact .inr fun j hj=>absurd hj (Nat.not_lt_zero j)
    |succ k ih=>
     intro hk;rcases ih (by omega)with⟨i,h1,h2,h3⟩|h3
     ·exact .inl ⟨i,by omega,h2,h3⟩
     ·cases azy:q (R.getD k 0)with
      |false=>exact .inl ⟨k,by omega,azy,h3⟩
      |true=>
       refine .inr fun j hj=>?_
       rcases Nat.lt_or_eq_of_le (Nat.le_of_lt_succ hj)with h|rfl
       ·exact h3 j h
       ·exact azy
   have hgo:∃ i,i<=m/\q (R.getD i 0)=false/\∀ j,j<i->q (R.getD j 0)=true:=by
    rcases this m (Nat.le_refl _)with h|h
    ·exact h
    ·exact⟨m,Nat.le_refl _,hq,h⟩
   obtain⟨i,h1,h2,h3⟩:=hgo;refine⟨i,Nat.le_refl _,by omega,h3,fun j hj akD=>?_⟩
   rw[Bool.eq_false_iff];intro h4;rw[hs i j hj akD h4]at h2;cases h2
  ·refine⟨R.length,Nat.le_refl _,Nat.le_refl _,fun i hi=>?_,fun i h1 h2=>by omega⟩
   cases aAm:q (R.getD i 0)with
   |true=>rfl
   |false=>exact absurd ⟨i,hi,aAm⟩ h
 obtain⟨m,hm⟩:=key;rw[hm.axJ];exact⟨hm.top,hm.ni,hm.no⟩
end Go.dg
end
section
namespace Go.dg
open Go.Lib
def alj:List Int->Int->List Int
 |[],n=>[n]
 |x::l,n=>if x<n then x::alj l n else if x=n then x::l else n::x::l
theorem amd:∀ {l:List Int} {n v:Int},v∈alj l n<->v=n\/v∈l
 |[],n,v=>by simp[alj]
 |x::l,n,v=>by
  rw[alj];split
  ·rw[List.mem_cons,amd,List.mem_cons];constructor
   ·rintro(h|h|h)
    ·exact .inr (.inl h)
    ·exact .inl h
    ·exact .inr (.inr h)
   ·rintro(h|h|h)
    ·exact .inr (.inl h)
    ·exact .inl h
    ·exact .inr (.inr h)
  ·split
   ·rename_i h;rw[List.mem_cons];constructor
    ·exact .inr
    ·rintro(e|e)
     ·exact .inl (e.trans h.symm)
     ·exact e
   ·rw[List.mem_cons]
theorem arl:∀ {l:List Int} {n:Int},l.Pairwise (· <·)->(alj l n).Pairwise (· <·)
 |[],n,_=>by simp[alj]
 |x::l,n,h=>by
  have h':=List.pairwise_cons.1 h;rw[alj];split
  ·rename_i hx;refine List.pairwise_cons.2 ⟨fun y hy=>?_,arl h'.2⟩
   rcases amd.1 hy with rfl|hy
   ·exact hx
   ·exact h'.1 y hy
  ·split
   ·exact h
   ·rename_i h1 h2;refine List.pairwise_cons.2 ⟨fun y hy=>?_,h⟩
    rcases List.mem_cons.1 hy with rfl|hy
    ·omega
    ·have:=h'.1 y hy;omega
theorem aqe:∀ {l:List Int} {n:Int},l.length<=(alj l n).length/\(alj l n).length<=l.length+1
 |[],n=>by simp[alj]
 |x::l,n=>by
  have ih:=aqe (l:=l) (n:=n);rw[alj];split
  ·simp only[List.length_cons];omega
  ·split<;>simp
def avv (f:Int) (L:List Bk) (k:Int) (l:List Int) (s:Nat):List Int:=
 if 1000<l.length then l else if(blk s:Int)=k then alj l (wN f L s-f)else l
def ap8 (f:Int) (L:List Bk) (k:Int) (i:Nat):List Int:=((List.range i).drop 1).foldl (avv f L k) []
def aoZ (f:Int) (L:List Bk) (k:Int):List Int:=ap8 f L k (2^L.length)
theorem aou (f:Int) (L:List Bk) (k:Int):ap8 f L k 1=[]:=rfl
theorem avg {f:Int} {L:List Bk} {k:Int} {i:Nat} (h:1<=i):ap8 f L k (i+1)=avv f L k (ap8 f L k i) i:=by
 unfold ap8;rw[List.range_succ,List.drop_append_of_le_length (by rw[List.length_range];exact h),List.foldl_append];rfl
structure axs (f:Int) (L:List Bk) (k:Int) (i:Nat) (l:List Int):Prop where
 up:l.Pairwise (· <·)
 Kg:l.length<=1001
 snd:∀ v∈l,∃ s,s<i/\1<=s/\(blk s:Int)=k/\wN f L s-f=v
 all:l.length<=1000->∀ s,s<i->1<=s->(blk s:Int)=k->wN f L s-f∈l
theorem atI {f:Int} {L:List Bk} {k:Int}:∀ {i:Nat},1<=i->axs f L k i (ap8 f L k i)
 |0,h=>by omega
 |1,_=>⟨(by rw[aou];exact List.Pairwise.nil),(by rw[aou];simp),(fun v h=>by rw[aou]at h;cases h),(fun _ s h1 h2=>by omega)⟩
 |i+2,_=>by
  have ih:=atI (f:=f) (L:=L) (k:=k) (i:=i+1) (by omega)
  rw[avg (by omega)]
  unfold avv;have ND:∀ v,(∃ s,s<i+1/\1<=s/\(blk s:Int)=k/\wN f L s-f=v)->∃ s,s<i+2/\1<=s/\(blk s:Int)=k/\wN f L s-f=v:=fun v ⟨s,h1,h2⟩=>⟨s,by omega,h2⟩
  split
  ·rename_i h;exact⟨ih.up,ih.Kg,fun v hv=>ND v (ih.snd v hv),fun h'=>by omega⟩
  ·rename_i h;split
   ·rename_i hb;have hl:=aqe (l:=ap8 f L k (i+1)) (n:=wN f L (i+1)-f);refine⟨arl ih.up,by omega,fun v hv=>?_,fun h' s h1 h2 h3=>?_⟩
    ·rcases amd.1 hv with rfl|hv
     ·exact⟨i+1,by omega,by omega,hb,rfl⟩
     ·exact ND v (ih.snd v hv)
    ·rw[amd];rcases Nat.lt_or_eq_of_le (Nat.le_of_lt_succ h1)with h4|h4
     ·exact .inr (ih.all (by omega) s h4 h2 h3)
     ·exact .inl (by rw[h4])
   ·rename_i hb;refine⟨ih.up,ih.Kg,fun v hv=>ND v (ih.snd v hv),fun h' s h1 h2 h3=>?_⟩
    rcases Nat.lt_or_eq_of_le (Nat.le_of_lt_succ h1)with h4|h4
    ·exact ih.all h' s h4 h2 h3
    ·subst h4;exact absurd h3 hb
theorem an9:∀ {l m:List Int},l.Pairwise (· <·)->m.Pairwise (· <·)->(∀ x∈l,x∈m)->l.length<=m.length
 |[],_,_,_,_=>Nat.zero_le _
 |x::l,[],_,_,h=>by have:=h x (List.mem_cons_self ..);cases this
 |x::l,y::m,hl,hm,h=>by
  have hl':=List.pairwise_cons.1 hl;have hm':=List.pairwise_cons.1 hm;have hxy:y<=x:=by
   rcases List.mem_cons.1 (h x (List.mem_cons_self ..))with e|e
   ·omega
   ·have:=hm'.1 x e;omega
  have:=an9 hl'.2 hm'.2 fun z hz=>by
   have hxz:=hl'.1 z hz;rcases List.mem_cons.1 (h z (List.mem_cons_of_mem _ hz))with e|e
   ·omega
   ·exact e
  simp only[List.length_cons];omega
theorem ap7 {f:Int} {L:List Bk} {k:Nat} {v:Int} (hk:1<=k) (hn:L.length<=20):v∈aIi f L k<->∃ s,s<2^L.length/\1<=s/\(blk s:Int)=(k:Int)/\wN f L s-f=v:=by
 rw[ap6,List.mem_map];constructor
 ·rintro⟨s,hs,rfl⟩;obtain⟨h1,h2⟩:=alx hs;refine⟨s,h1,?_,by rw[alN (by omega) h1,h2],rfl⟩
  rcases Nat.eq_zero_or_pos s with rfl|h
  ·rw[akJ]at h2;omega
  ·exact h
 ·rintro⟨s,h1,h2,h3,rfl⟩;rw[alN (by omega) h1]at h3
  exact⟨s,anv h1 (by omega),rfl⟩
theorem ayA {f:Int} {L:List Bk} {k:Nat} (hk:1<=k) (hn:L.length<=20):
 ((aoZ f L k).length<=1000->aoZ f L k=compact (adp (aIi f L k)))/\((aoZ f L k).length<=1000<->(compact (adp (aIi f L k))).length<=1000):=by
 have ho:axs f L k (2^L.length) (aoZ f L k):=atI (Nat.two_pow_pos _);obtain⟨h1,h2⟩:=afm (aIi f L k);have hsub:∀ v∈aoZ f L k,v∈compact (adp (aIi f L k)):=fun v hv=>by
  rw[h2,ap7 hk hn];obtain⟨s,a,b,c,d⟩:=ho.snd v hv;exact⟨s,a,b,c,d⟩
 have heq:(aoZ f L k).length<=1000->aoZ f L k=compact (adp (aIi f L k)):=fun h=>by
  refine aeL ho.up h1 fun v=>⟨hsub v,fun hv=>?_⟩
  rw[h2,ap7 hk hn]at hv;obtain⟨s,a,b,c,rfl⟩:=hv;exact ho.all h s a b c
 refine⟨heq,fun h=>by rw[<-heq h];exact h,fun h=>Nat.le_trans (an9 ho.up h1 hsub) h⟩
end Go.dg
end
