/-
  Texts of the claims: Ply1z. No condition: lemmas and contracts.
-/
import Derived.Test.YtccnimhgjjnmoaaPla6z
import Derived.Test.YtccnimhgjjnmoaaPlc1z
import Derived.Test.YtccnimhgjjnmoaaPlg1z
import Derived.Test.YtccnimhgjjnmoaaPlj1z
import Derived.Test.YtccnimhgjjnmoaaPln1z
import Derived.Test.YtccnimhgjjnmoaaPlq1z
set_option linter.all false
set_option maxRecDepth 100000
set_option maxHeartbeats 40000000
section
namespace Go.dg
/-! ### A further block -/
theorem aFz {f:Int} {L:List Bk} {b:Bk} {u:Nat} (hu:u<2^L.length):wN f (L++[b]) u=wN f L u:=by
 rw[amX,aoP hu];simp
theorem aFs {l t f:Int} {L:List Bk} {b:Bk} {u:Nat} (hu:u<2^L.length):akv l t f (L++[b]) u=akv l t f L u:=by
 rw[apQ,apQ,aFz hu]
theorem aFv {L:List Bk} {b:Bk} {u:Nat} (hu:u<2^L.length):u<2^(L++[b]).length:=by
 rw[List.length_append,List.length_singleton,Nat.pow_succ];omega
theorem aF5 (l t f:Int) (L:List Bk) (b:Bk):(gf l t f L).length<=(gf l t f (L++[b])).length:=by
 unfold gf RK;rw[List.length_map,List.length_map,List.length_append,List.length_singleton,Nat.pow_succ];have h1:(List.range (2^L.length)).filter (akv l t f L)=(List.range (2^L.length)).filter (akv l t f (L++[b])):=List.filter_congr fun u hu=>(aFs (List.mem_range.1 hu)).symm
 rw[h1];exact(List.Sublist.filter _ (List.range_sublist.2 (by omega))).length_le
theorem aE8 {b:Bk}:∀ {L:List Bk} {u:Nat},u<2^L.length->eg (L++[b]) u=eg L u
 |[],u,h=>by
  have:u=0:=by simp at h;omega
  subst this;rfl
 |a::L,u,h=>by
  have ih:=aE8 (b:=b) (L:=L) (akx (by simpa using h))
  show(if u%2=1 then a.1::eg (L++[b]) (u / 2)else eg (L++[b]) (u / 2))=if u%2=1 then a.1::eg L (u / 2)else eg L (u / 2)
  rw[ih]
theorem aGw {f l:Int} {L:List Bk} {b:Bk} (hf:0<=f) (hL:ak1 L) (hn:L≠[]):dst (wN f (L++[b]) (x9 l f (L++[b]))-f-l)<=dst (wN f L (x9 l f L)-f-l):=by
 obtain⟨h1,h2,-,-,-⟩:=atN (l:=l) hf hL hn;have:=aFT (f:=f) (l:=l) (L:=L++[b]) (by simp) (aFv h1) h2
 rwa[aFz h1]at this
/-! ### A greater tolerance -/
end Go.dg
end
