/-
  Texts of the claims on chapter 3: Q19. No condition: lemmas and contracts.
-/
import Derived.Test.YthejmgnkenokpaaGreatDoorQ18
set_option linter.all false
set_option maxRecDepth 100000
set_option maxHeartbeats 4000000
section
namespace Go.bK
def Yw (n : Int) (H : Int -> Int -> Int) (w : Wk) : Prop:=∀ x,aM n x -> H w.1 x + H w.2.1 (aX n w.2.2 x) = H w.1 0 + H w.2.1 (aX n w.2.2 0)
end Go.bK
end
