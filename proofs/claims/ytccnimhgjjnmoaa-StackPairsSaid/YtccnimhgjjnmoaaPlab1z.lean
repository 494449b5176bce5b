/-
  Texts of the claims: Plab1z. No condition: lemmas and contracts.
-/
import Derived.Test.YtccnimhgjjnmoaaPla6z
import Derived.Test.YtccnimhgjjnmoaaPld1z
import Derived.Test.YtccnimhgjjnmoaaPlf1z
import Derived.Test.YtccnimhgjjnmoaaPlp1z
import Derived.Test.YtccnimhgjjnmoaaPls1z
set_option linter.all false
set_option maxRecDepth 100000
set_option maxHeartbeats 40000000
section
namespace Go.dg
theorem aoW:∀ (L:List Bk) (b:Bk) (s:Nat),eg (L++[b]) s=if gi L.length s=true then eg L s++[b.1]else eg L s
 |[],b,s=>by
  unfold gi;by_cases e:s%2=1<;>simp[eg,e]
 |a::L,b,s=>by
  simp only[List.cons_append,eg,List.length_cons,aus,aoW L b (s / 2)];by_cases e:s%2=1<;>by_cases e':gi L.length (s / 2)=true<;>simp[e,e']
theorem ava {L:List Bk} {k:Nat} (h:k<L.length) (s:Nat):eg (L.take (k+1)) s=if gi k s=true then eg (L.take k) s++[(bk L k).1]else eg (L.take k) s:=by
 rw[amJ h,aoW,List.length_take,Nat.min_eq_left (by omega)]
theorem arb:∀ (L:List Bk) (s:Nat),(eg L s).length<=L.length
 |[],_=>Nat.le_refl _
 |b::L,s=>by
  have:=arb L (s / 2);simp only[eg,List.length_cons];by_cases e:s%2=1
  ·rw[if_pos e,List.length_cons];omega
  ·rw[if_neg e];omega
/-! ### Blocks -/
theorem aut {s:Nat} (h:s<2^62):blk s=s%2+blk (s / 2):=by
 unfold blk;rw[show cnt 62 s=s%2+cnt 61 (s / 2)from rfl,ane (n:=61) (m:=62) (by omega) (akx h)]
theorem axy (s:Nat):blk s<=62:=ajs 62 s
theorem azg:(2:Nat)^62=4611686018427387904:=by decide
theorem auu:blk 0=0:=akJ 62
/-! ### The order,place by place -/
theorem as6 {n k a b:Nat} (h:k<n):l7 (n-k) (a / 2^k) (b / 2^k)=if gi k a=gi k b then l7 (n-(k+1)) (a / 2^(k+1)) (b / 2^(k+1))else gi k a:=by
 obtain⟨m,hm⟩:∃ m,n-k=m+1:=⟨n-k-1,by omega⟩
 have hm':n-(k+1)=m:=by omega
 have hd:∀ x:Nat,x / 2^k / 2=x / 2^(k+1):=fun x=>by rw[Nat.div_div_eq_div_mul,Nat.pow_succ]
 rw[hm,hm',l7,hd,hd];unfold gi;by_cases e:a / 2^k%2=b / 2^k%2
 ·rw[if_pos e,if_pos (by rw[e])]
 ·rw[if_neg e,if_neg (fun h=>e (by
   have h1:=Nat.mod_two_eq_zero_or_one (a / 2^k);have h2:=Nat.mod_two_eq_zero_or_one (b / 2^k);rcases h1 with h1|h1<;>rcases h2 with h2|h2<;>rw[h1,h2]at h ⊢<;>simp at h))]
theorem aup {n a b:Nat} (hn:n<=62) (ha:a<2^n) (hb:b<2^n) (h:((blk a:Int)!=(blk b:Int))=true):eA n a b=decide ((blk a:Int)<(blk b:Int)):=by
 rw[alN hn ha,alN hn hb]at h ⊢;have h:¬cnt n a=cnt n b:=fun e=>by rw[e]at h;simp at h
 unfold eA;rw[if_neg h,Bool.eq_iff_iff,decide_eq_true_eq,decide_eq_true_eq];omega
theorem auo {n a b:Nat} (hn:n<=62) (ha:a<2^n) (hb:b<2^n) (h:((blk a:Int)!=(blk b:Int))=false):eA n a b=l7 n a b:=by
 rw[alN hn ha,alN hn hb]at h;have h:cnt n a=cnt n b:=by have:(cnt n a:Int)=cnt n b:=by simpa using h
                                                        omega
 unfold eA;rw[if_pos h]
theorem ap9 {n a:Nat} (hn:n<=20) (h:a<2^n):a<1048576:=Nat.lt_of_lt_of_le h (akO hn)
end Go.dg
end
section
namespace Go.dg
theorem atq (l t f:Int) (L:List Bk):amI L.length (gf l t f L):=fun z hz=>by
 obtain⟨s,rfl,h1,_⟩:=aoq.1 hz;exact⟨by omega,by rw[Int.toNat_natCast];exact h1⟩
end Go.dg
end
