/-
  Texts of the claims on chapter 3: Q20. No condition: lemmas and contracts.
-/
import Derived.Test.YthejmgnkenokpaaDoorQ19
set_option linter.all false
set_option maxRecDepth 100000
set_option maxHeartbeats 4000000
section
namespace Go.bK
theorem Zc {n : Int} {G : List Sg} {H : Int -> Int} {M : Int} (hM : ∀ v,-M <= H v /\ H v <= M) (x : Int) : -M <= tS n G H x /\ tS n G H x <= M:=by
 unfold tS
 have:=hM (aK n G x)
 rcases JQ n G x with h | h | h <;> rw [h] <;> omega
end Go.bK
end
