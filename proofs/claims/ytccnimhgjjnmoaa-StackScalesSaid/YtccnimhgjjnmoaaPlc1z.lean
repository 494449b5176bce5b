/-
  Texts of the claims: Plc1z. No condition: lemmas and contracts.
-/
import Derived.Test.YtccnimhgjjnmoaaPla6z
import Derived.Test.YtccnimhgjjnmoaaPlb1z
set_option linter.all false
set_option maxRecDepth 100000
set_option maxHeartbeats 40000000
section
namespace Go.dg
theorem aEp:∀ (L:List Bk) (x:Int),pos L x<=L.length
 |[],_=>Nat.le_refl _
 |b::L,x=>by have:=aEp L x;simp only[pos,List.length_cons];split<;>omega
theorem aD8:∀ {L:List Bk} {x:Int},pos L x<L.length->(L.getD (pos L x) (0,0)).1=x
 |[],_,h=>by simp at h
 |b::L,x,h=>by
  unfold pos at h ⊢;by_cases e:b.1=x
  ·simp only[if_pos e];exact e
  ·simp only[if_neg e,List.length_cons]at h ⊢;exact aD8 (L:=L) (by omega)
theorem aFa {L:List Bk} (h:aos L) {i j:Nat} (hij:i<j) (hj:j<L.length):(L.getD i (0,0)).1<(L.getD j (0,0)).1:=by
 have:=List.pairwise_iff_getElem.1 h i j (by omega) hj hij
 rw[List.getD_eq_getElem?_getD,List.getD_eq_getElem?_getD,List.getElem?_eq_getElem hj,List.getElem?_eq_getElem (by omega)]
 exact this
theorem pos_at {L:List Bk} (h:aos L) {i:Nat} (hi:i<L.length):pos L (L.getD i (0,0)).1=i:=by
 induction L generalizing i with
 |nil=>simp at hi
 |cons b L ih=>
  have hp:=List.pairwise_cons.1 h;cases i with
  |zero=>simp[pos]
  |succ i=>
   have hi':i<L.length:=by simp at hi;omega
   have hm:L.getD i (0,0)∈L:=by rw[List.getD_eq_getElem?_getD,List.getElem?_eq_getElem hi'];exact List.getElem_mem hi'
   have:=hp.1 _ hm;simp only[List.getD_cons_succ,pos];rw[if_neg (by omega),ih hp.2 hi']
def aD2 (L:List Bk):Option Int->List Int->Int×Int×Nat
 |_,[]=>(0,0,0)
 |p,x::l=>fy L p x (aD2 L (some x) l)
theorem aD6 (L:List Bk) (p:Option Int) (x:Int) (l:List Int):aD2 L p (x::l)=fy L p x (aD2 L (some x) l):=rfl
theorem aFX (f:Int):∀ {L:List Bk} {p s:Nat},p<L.length->s%2^(p+1)=0->wN f L (2^p+s)=(L.getD p (0,0)).2+f+wN f L s
 |[],_,_,h,_=>by simp at h
 |b::L,0,s,_,h=>by
  have h1:(2^0+s)%2=1:=by simp at h ⊢;omega
  have h2:(2^0+s) / 2=s / 2:=by simp at h ⊢;omega
  have h3:¬s%2=1:=by simp at h;omega
  simp only[wN,h1,h2,if_true,if_neg h3,List.getD_cons_zero];omega
 |b::L,p+1,s,h,hs=>by
  have hd:s%2=0:=by
   have:2∣2^(p+1+1):=⟨2^(p+1),by rw[Nat.pow_succ,Nat.mul_comm]⟩
   exact Nat.mod_eq_zero_of_dvd (Nat.dvd_trans this (Nat.dvd_of_mod_eq_zero hs))
  have h1:(2^(p+1)+s)%2=0:=by rw[Nat.pow_succ];omega
  have h2:(2^(p+1)+s) / 2=2^p+s / 2:=by rw[Nat.pow_succ];omega
  have h3:s / 2%2^(p+1)=0:=by
   obtain⟨c,hc⟩:=Nat.dvd_of_mod_eq_zero hs;rw[hc,Nat.pow_succ 2 (p+1),show 2^(p+1)*2*c / 2=2^(p+1)*c by rw[Nat.mul_assoc,Nat.mul_left_comm,Nat.mul_div_cancel_left _ (by omega)]]
   exact Nat.mul_mod_right _ _
  have ih:=aFX f (L:=L) (p:=p) (s:=s / 2) (by simp at h;omega) h3
  simp only[wN,h1,h2,hd,List.getD_cons_succ];simp only[Nat.zero_ne_one,if_false];omega
theorem aEe (f:Int) {L:List Bk} (hL:aos L):∀ (l:List Int) (p:Option Int),(aD2 L p l).1=0->
 (aD2 L p l).2.1+l.length*f=wN f L (aD2 L p l).2.2/\(aD2 L p l).2.2<2^L.length/\(match p with|some y=>pos L y<L.length->(aD2 L p l).2.2%2^(pos L y+1)=0|none=>True)
 |[],p,_=>by
  refine⟨by simp[aD2,akU],Nat.two_pow_pos _,?_⟩
  cases p with
  |none=>trivial
  |some y=>intro _;simp[aD2]
 |x::l,p,h=>by
  rw[aD6]at h ⊢;unfold fy at h ⊢;by_cases e1:pos L x=L.length
  ·rw[if_pos e1]at h;simp at h
  by_cases e2:az4 p x=true
  ·rw[if_neg e1,if_pos e2]at h;simp at h
  rcases hr:aD2 L (some x) l with⟨e,n,s⟩;rw[if_neg e1,if_neg e2]at h ⊢;rw[hr]at h;dsimp only at h ⊢;by_cases e0:e=0
  ·subst e0;rw[if_pos rfl]at h ⊢;dsimp only;have hx:pos L x<L.length:=by have:=aEp L x;omega
   obtain⟨h1,h2,h3⟩:=aEe f hL l (some x) (by rw[hr])
   rw[hr]at h1 h2 h3;dsimp only at h1 h2 h3;have h4:=h3 hx;have hlt:2^pos L x+s<2^L.length:=by
    obtain⟨c,hc⟩:=Nat.dvd_of_mod_eq_zero h4;obtain⟨d,hd⟩:∃ d,L.length=pos L x+1+d:=⟨L.length-(pos L x+1),by omega⟩
    rw[hd,Nat.pow_add]at h2 ⊢;rw[hc]at h2 ⊢;have h5:c<2^d:=Nat.lt_of_mul_lt_mul_left h2;have h6:2^(pos L x+1)*(c+1)<=2^(pos L x+1)*2^d:=Nat.mul_le_mul_left _ h5;have h7:2^pos L x<2^(pos L x+1):=Nat.pow_lt_pow_right (by omega) (by omega)
    rw[Nat.mul_add]at h6;omega
   refine⟨?_,hlt,?_⟩
   ·rw[aFX f hx h4,<-h1];unfold lenOf;simp only[List.length_cons];have:((l.length+1:Nat):Int)*f=l.length*f+f:=by rw[Int.natCast_add,Int.add_mul];simp
    omega
   ·cases p with
    |none=>trivial
    |some y=>
     intro hy;simp only[az4,decide_eq_true_eq]at e2;have hlt:pos L y<pos L x:=Classical.byContradiction fun hn=>by
      rcases Nat.lt_or_eq_of_le (Nat.le_of_not_lt hn)with h8|h8
      ·have:=aFa hL h8 hy;rw[aD8 hy,aD8 hx]at this;omega
      ·have a1:=aD8 hy;have a2:=aD8 hx;rw[h8]at a2;rw[a1]at a2;omega
     have d1:2^(pos L y+1)∣2^pos L x:=Nat.pow_dvd_pow 2 hlt;have d2:2^(pos L y+1)∣s:=Nat.dvd_trans (Nat.pow_dvd_pow 2 (by omega)) (Nat.dvd_of_mod_eq_zero h4)
     exact Nat.mod_eq_zero_of_dvd (Nat.dvd_add d1 d2)
  ·rw[if_neg e0]at h;exact absurd h e0
end Go.dg
end
section
namespace Go.dg
def aEa (n:Int) (s:Nat) (r:Int×Int×Nat):Int×Int×Nat:=if r.1=0 then(0,n+r.2.1,s+r.2.2)else(r.1,0,0)
def tU (l:List Int) (i:Nat):Option Int:=if i=0 then none else some (l.getD (i-1) 0)
theorem aGb (L:List Bk):∀ (l:List Int) (p:Option Int),(aD2 L p l).1≠0->aD2 L p l=((aD2 L p l).1,0,0)
 |[],p,h=>by simp[aD2]at h
 |x::l,p,h=>by
  rw[aD6]at h ⊢;unfold fy at h ⊢;split
  ·rfl
  ·split
   ·rfl
   ·split
    ·rename_i h1 h2 h3;rw[if_neg h1,if_neg h2,if_pos h3]at h;exact absurd rfl h
    ·rfl
theorem aEP (L:List Bk) (p:Option Int) (l:List Int):aEa 0 0 (aD2 L p l)=aD2 L p l:=by
 unfold aEa;by_cases h:(aD2 L p l).1=0
 ·rw[if_pos h];rcases hr:aD2 L p l with⟨e,n,s⟩;rw[hr]at h;dsimp only at h ⊢;rw[h,Int.zero_add,Nat.zero_add]
 ·rw[if_neg h,<-aGb L l p h]
section
variable {L:List Bk} {l:List Int} {i:Nat} {n:Int} {s:Nat}
theorem aEv {l:List Int} {i:Nat} (h:i<l.length):l.drop i=l.getD i 0::l.drop (i+1):=by
 rw[List.drop_eq_getElem_cons h,List.getD_eq_getElem?_getD,List.getElem?_eq_getElem h];rfl
theorem aFx (hi:i<l.length) (h:aD2 L none l=aEa n s (aD2 L (tU l i) (l.drop i))) (hp:pos L (l.getD i 0)=L.length):aD2 L none l=(5,0,0):=by
 rw[h,aEv hi,aD6];unfold fy;rw[if_pos hp];rfl
theorem aFf (hi:i<l.length) (h:aD2 L none l=aEa n s (aD2 L (tU l i) (l.drop i))) (hp:pos L (l.getD i 0)<L.length) (h0:0<i) (ht:l.getD i 0<=l.getD (i-1) 0):aD2 L none l=(6,0,0):=by
 rw[h,aEv hi,aD6];unfold fy tU;rw[if_neg (by omega),if_neg (by omega:¬i=0),if_pos (by simpa[az4]using ht)];rfl
theorem aFw (hi:i<l.length) (h:aD2 L none l=aEa n s (aD2 L (tU l i) (l.drop i))) (hp:pos L (l.getD i 0)<L.length) (h0:i=0\/l.getD (i-1) 0<l.getD i 0):
 aD2 L none l=aEa (n+lenOf L (l.getD i 0)) (s+2^pos L (l.getD i 0)) (aD2 L (tU l (i+1)) (l.drop (i+1))):=by
 rw[h,aEv hi,aD6];have hp1:tU l (i+1)=some (l.getD i 0):=by unfold tU;rw[if_neg (by omega),Nat.add_sub_cancel]
 have hp2:az4 (tU l i) (l.getD i 0)=false:=by
  unfold tU;rcases h0 with rfl|h0
  ·rfl
  ·split
   ·rfl
   ·simp only[az4,decide_eq_false_iff_not];omega
 rw[hp1];rcases hr:aD2 L (some (l.getD i 0)) (l.drop (i+1))with⟨e,m,u⟩;unfold fy;rw[if_neg (by omega),hp2,if_neg (by simp)]
 unfold aEa;by_cases he:e=0
 ·subst he;dsimp only;rw[if_pos rfl];simp only[if_pos];rw[Int.add_assoc,Nat.add_assoc]
 ·dsimp only;rw[if_neg he];dsimp only;rw[if_neg he,if_neg he]
theorem aFV (hi:l.length<=i) (h:aD2 L none l=aEa n s (aD2 L (tU l i) (l.drop i))):aD2 L none l=(0,n,s):=by
 rw[h,List.drop_eq_nil_of_le hi];unfold aD2 aEa;simp
end
end Go.dg
end
