/-
  Texts of the claims on chapter 3: Yk11. No condition: lemmas and contracts.
-/
import Derived.Test.YthejmgnkenokpaaDoorYk9
import Derived.Test.YthejmgnkenokpaaDoorYk10
import Derived.Test.YthejmgnkenokpaaDoorQ21
import Derived.Test.YthejmgnkenokpaaDoorYk4
import Derived.Test.YthejmgnkenokpaaDoorYk6
set_option linter.all false
set_option maxRecDepth 100000
set_option maxHeartbeats 4000000
section
namespace Go.Proofs.YthejmgnkenokpaaDoor
open Go Go.Sy Go.bK
variable {Γ : bn}
def WU (D : Int -> Int -> List Wk -> Int -> List aa) (Rk : Int -> Int -> List Wk -> Int -> (cM -> Prop) -> Prop) : au:=.new fun args rg K => match args with
 | [.agg [.v (.int .i64 n0),.v (.int .i64 n1),x0],.a (.v (.int .i64 n2))] => (match ca 60 kW rg x0 with | some (q0,L0) => bk false (q0 ++ (D n0 n1 L0 n2)) (Rk n0 n1 L0 n2 K) | _ => False)
 | _ => False
theorem XO {f : FuncId} {D : Int -> Int -> List Wk -> Int -> List aa} {R : Int -> Int -> List Wk -> Int -> cM} {Rk : Int -> Int -> List Wk -> Int -> (cM -> Prop) -> Prop} (h : au.Ok Tryd.prog Γ f (abC D R)) (hk : ∀ (n0 : Int) (n1 : Int) (L0 : List Wk) (n2 : Int) K,Rk n0 n1 L0 n2 K -> K (R n0 n1 L0 n2)) : au.Ok Tryd.prog Γ f (WU D Rk):=by
 intro args rg K hC
 refine h args rg K ?_
 (try unfold WU at hC)
 (try unfold abC)
 (try dsimp only at hC ⊢)
 split at hC
 next n0 n1 x0 n2 =>
  split at hC
  next q0 L0 hx0 =>
   (try dsimp only)
   (try simp only [hx0])
   rw [aV] at hC ⊢
   exact ⟨hC.1,hk _ _ _ _ K hC.2⟩
  next => exact hC.elim
 next => exact hC.elim
def Xl : au:=WU (fun _ _ L _ => [(aa.of (L.length <= 800000))]) (fun n P L p K => ((bf n P L p == 0) = true -> K ⟨[.arr 60 kW (yN n P L p) true true],.bF [.a (.sl 0 [] 0 (yN n P L p).length),.a (vI 0)]⟩) /\ ((bf n P L p == 0) = false -> K ⟨[],.bF [.a (.v (.slice none 0 0)),.a (vI (bf n P L p))]⟩))
theorem Xx : au.Ok Tryd.prog Γ 40 Xl:=XO Xw (by
 intro n P L p K ⟨h1,h2⟩
 unfold VW
 cases hb : bf n P L p == 0
 ·exact h2 hb
 ·exact h1 hb)
theorem Yd (n P : Int) (L : List Wk) (p : Int) : (yN n P L p).length <= 8 * P.toNat * P.toNat:=V6 n P L p P.toNat
attribute [local irreducible] bD bf o6 pb af yN
end Go.Proofs.YthejmgnkenokpaaDoor
end
section
namespace Go.Proofs.YthejmgnkenokpaaDoor
open Go Go.Sy Go.bK
variable {Γ : bn}
theorem Xd {n P : Int} {L : List Wk} {p : Int} (h : bf n P L p = 0) : bD n P L = 0:=by
 unfold bf at h
 by_cases h1 : bD n P L = 0
 ·exact h1
 ·exact absurd ((if_neg h1).symm.trans h) h1
attribute [local irreducible] bD bf af ap aY aQ
end Go.Proofs.YthejmgnkenokpaaDoor
end
