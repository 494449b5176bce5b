/-
  Texts of the claims on chapter 3: Yk1. No condition: lemmas and contracts.
-/
import Derived.Test.YthejmgnkenokpaaGreatDoorProg
import Derived.Test.YthejmgnkenokpaaGreatDoorSy5
import Derived.KernelRfl
import Derived.Test.YthejmgnkenokpaaGreatDoorPl1
import Derived.Test.YthejmgnkenokpaaGreatDoorCards
import Derived.Test.YthejmgnkenokpaaGreatDoorTie
import Derived.ProofKit
import Derived.Deep.DeepHandedRow
import Derived.Deep.Slices
import Derived.Lib.LaidTab
import Derived.Lib.SmallJoins
import Derived.Stop.LaidErr
import Derived.Carry
set_option linter.all false
set_option maxRecDepth 100000
set_option maxHeartbeats 4000000
namespace Go.Proofs.YthejmgnkenokpaaGreatDoor
theorem ah {n m : Nat} (h : Nat.ble n m = true) : n <= m := Nat.le_of_ble_eq_true h
theorem aq {b x : Bool} {q : Prop} (h : b = x) (h' : b = !x) : q := by subst h; cases b <;> cases h'
theorem aS {r a n : Nat} (h : r ∈ [a]) (h' : Nat.ble (a + 1) n = true) : r < n := by cases List.mem_singleton.1 h; exact Nat.le_of_ble_eq_true h'
theorem aT {r a n : Nat} {l : List Nat} (h : r ∈ [a]) (h' : Nat.ble (Go.Sy.rn l a + 1) n = true) : Go.Sy.rn l r < n := by cases List.mem_singleton.1 h; exact Nat.le_of_ble_eq_true h'
end Go.Proofs.YthejmgnkenokpaaGreatDoor
section
namespace Go.Proofs.YthejmgnkenokpaaGreatDoor
open Go Go.Sy
def jV : wc where
 ty:=.node none (.node (some (.word)) (.node (some (.int .i64)) (.node (some (.st [(0,1),(1,1),(2,1),(3,1)] 4)) (.node (some (.word)) (.node (some (.word)) (.node none (.node (some (.word)) (.node (some (.word)) .nil .nil) .nil) (.node (some (.word)) .nil .nil)) (.node (some (.st [(0,1),(1,1)] 2)) (.node (some (.int .u64)) .nil .nil) .nil)) (.node (some (.st [(0,1),(1,1)] 2)) (.node (some (.word)) (.node (some (.map 3 4)) .nil .nil) (.node (some (.word)) .nil .nil)) (.node (some (.word)) (.node (some (.word)) .nil .nil) (.node (some (.ar 5 1 32)) .nil .nil)))) (.node (some (.st [(0,1),(1,1),(2,1)] 3)) (.node (some (.word)) (.node (some (.word)) (.node (some (.word)) .nil .nil) (.node (some (.word)) .nil .nil)) (.node (some (.word)) (.node (some (.sl 5 1)) .nil .nil) (.node (some (.ar 192 1 20)) .nil .nil))) (.node (some (.word)) (.node (some (.st [(0,1),(1,2)] 3)) .nil (.node (some (.word)) .nil .nil)) (.node (some (.word)) .nil (.node (some (.word)) .nil .nil))))) (.node (some (.str)) (.node (some (.st [(0,1)] 1)) (.node (some (.word)) (.node (some (.word)) (.node (some (.word)) .nil .nil) (.node (some (.word)) .nil .nil)) (.node (some (.word)) (.node (some (.word)) .nil .nil) (.node (some (.word)) .nil .nil))) (.node (some (.word)) (.node (some (.word)) (.node (some (.word)) .nil .nil) .nil) (.node (some (.sl 9 1)) (.node (some (.word)) .nil .nil) (.node (some (.st [(0,1),(1,1),(2,1),(3,1)] 4)) .nil .nil)))) (.node (some (.word)) (.node none (.node none (.node (some (.ar 4 1 2)) .nil .nil) (.node (some (.int .u64)) .nil .nil)) (.node (some (.st [(0,1),(1,2)] 3)) (.node (some (.word)) .nil .nil) (.node (some (.st [(0,1),(1,1)] 2)) .nil .nil))) (.node (some (.word)) (.node (some (.word)) (.node (some (.word)) .nil .nil) (.node (some (.word)) .nil .nil)) (.node (some (.word)) (.node (some (.word)) .nil .nil) (.node (some (.int .i32)) .nil .nil)))))) (.node (some (.int .u8)) (.node (some (.str)) (.node (some (.word)) (.node (some (.word)) (.node none (.node (some (.word)) .nil .nil) (.node (some (.word)) .nil .nil)) (.node (some (.word)) (.node (some (.word)) .nil .nil) (.node (some (.word)) .nil .nil))) (.node (some (.sl 3 1)) (.node (some (.word)) (.node (some (.st [(0,1),(1,1),(2,1)] 3)) .nil .nil) (.node (some (.word)) .nil .nil)) (.node (some (.word)) .nil (.node (some (.word)) .nil .nil)))) (.node (some (.sl 49 1)) (.node (some (.word)) (.node (some (.word)) (.node (some (.sl 87 3)) .nil .nil) (.node (some (.word)) .nil .nil)) (.node (some (.word)) (.node (some (.word)) .nil .nil) (.node (some (.ar 5 1 256)) .nil .nil))) (.node (some (.word)) (.node none .nil (.node (some (.st [(0,1),(1,1),(2,1)] 3)) .nil .nil)) (.node (some (.word)) (.node (some (.word)) .nil .nil) (.node (some (.int .u8)) .nil .nil))))) (.node (some (.st [(0,1),(1,1)] 2)) (.node (some (.int .i32)) (.node (some (.word)) (.node (some (.word)) (.node (some (.word)) .nil .nil) (.node (some (.int .i64)) .nil .nil)) (.node (some (.word)) (.node (some (.word)) .nil .nil) (.node (some (.st [(0,1)] 1)) .nil .nil))) (.node none (.node (some (.word)) (.node (some (.word)) .nil .nil) .nil) (.node (some (.word)) (.node (some (.word)) .nil .nil) (.node (some (.st [(0,0)] 0)) .nil .nil)))) (.node (some (.int .i64)) (.node (some (.st [(0,1),(1,1),(2,1)] 3)) (.node (some (.word)) (.node (some (.word)) .nil .nil) (.node (some (.word)) .nil .nil)) (.node (some (.st [(0,3),(3,1)] 4)) (.node (some (.st [(0,1)] 1)) .nil .nil) .nil)) (.node (some (.word)) (.node (some (.word)) (.node (some (.word)) .nil .nil) (.node (some (.ar 5 1 24)) .nil .nil)) (.node (some (.word)) (.node (some (.word)) .nil .nil) (.node (some (.st [(0,1),(1,1),(2,1),(3,1),(4,1),(5,1),(6,1),(7,1),(8,1),(9,1),(10,1)] 11)) .nil .nil))))))) (.node (some (.int .i64)) (.node (some (.bool)) (.node (some (.st [(0,1),(1,1),(2,1),(3,1)] 4)) (.node (some (.word)) (.node (some (.word)) (.node (some (.word)) (.node (some (.word)) .nil .nil) (.node (some (.int .u64)) .nil .nil)) (.node (some (.st [(0,1),(1,1)] 2)) (.node (some (.word)) .nil .nil) (.node (some (.word)) .nil .nil))) (.node (some (.st [(0,1),(1,1)] 2)) (.node (some (.word)) (.node (some (.st [(0,1),(1,1),(2,1)] 3)) .nil .nil) (.node (some (.word)) .nil .nil)) (.node (some (.word)) (.node (some (.word)) .nil .nil) (.node (some (.ar 5 1 64)) .nil .nil)))) (.node (some (.st [(0,1),(1,1),(2,1)] 3)) (.node (some (.word)) (.node (some (.word)) (.node (some (.word)) .nil .nil) (.node (some (.word)) .nil .nil)) (.node (some (.sl 109 4)) (.node (some (.word)) .nil .nil) (.node (some (.ar 5 1 65)) .nil .nil))) (.node (some (.word)) (.node (some (.word)) (.node (some (.word)) .nil .nil) (.node (some (.st [(0,1),(1,1),(2,1)] 3)) .nil .nil)) (.node none (.node (some (.word)) .nil .nil) (.node (some (.int .u8)) .nil .nil))))) (.node (some (.int .u64)) (.node (some (.word)) (.node none (.node none (.node (some (.word)) .nil .nil) (.node (some (.word)) .nil .nil)) (.node (some (.word)) (.node (some (.word)) .nil .nil) (.node (some (.st [(0,1)] 1)) .nil .nil))) (.node (some (.sl 48 2)) (.node (some (.word)) (.node (some (.word)) .nil .nil) (.node (some (.word)) .nil .nil)) (.node (some (.word)) (.node (some (.word)) .nil .nil) .nil))) (.node (some (.word)) (.node (some (.word)) (.node (some (.word)) (.node (some (.sl 52 1)) .nil .nil) (.node (some (.word)) .nil .nil)) (.node (some (.st [(0,3),(3,1)] 4)) (.node (some (.st [(0,1)] 1)) .nil .nil) (.node (some (.ar 235 2 16)) .nil .nil))) (.node none (.node none (.node (some (.word)) .nil .nil) (.node (some (.word)) .nil .nil)) (.node (some (.word)) (.node (some (.word)) .nil .nil) (.node (some (.int .i32)) .nil .nil)))))) (.node (some (.int .u8)) (.node (some (.str)) (.node (some (.st [(0,1)] 1)) (.node (some (.word)) (.node (some (.word)) (.node (some (.map 3 3)) .nil .nil) (.node (some (.word)) .nil .nil)) (.node (some (.word)) (.node (some (.word)) .nil .nil) (.node (some (.word)) .nil .nil))) (.node none (.node (some (.map 87 49)) (.node (some (.word)) .nil .nil) (.node (some (.word)) .nil .nil)) (.node (some (.word)) (.node (some (.word)) .nil .nil) (.node (some (.st [(0,1),(1,1),(2,1),(3,1)] 4)) .nil .nil)))) (.node (some (.word)) (.node (some (.word)) (.node (some (.word)) (.node (some (.word)) .nil .nil) (.node (some (.word)) .nil .nil)) (.node (some (.st [(0,1),(1,2)] 3)) .nil (.node (some (.st [(0,1),(1,1)] 2)) .nil .nil))) (.node (some (.word)) (.node (some (.word)) (.node (some (.word)) .nil .nil) (.node (some (.word)) .nil .nil)) (.node (some (.word)) (.node (some (.word)) .nil .nil) (.node (some (.word)) .nil .nil))))) (.node (some (.st [(0,1),(1,1)] 2)) (.node (some (.sl 46 3)) (.node none (.node (some (.word)) (.node (some (.word)) .nil .nil) .nil) (.node (some (.word)) (.node (some (.word)) .nil .nil) (.node (some (.word)) .nil .nil))) (.node (some (.word)) (.node (some (.st [(0,1),(1,2)] 3)) (.node (some (.word)) .nil .nil) (.node (some (.word)) .nil .nil)) (.node (some (.word)) (.node (some (.int .i64)) .nil .nil) (.node (some (.st [(0,0)] 0)) .nil .nil)))) (.node none (.node (some (.st [(0,1),(1,1),(2,1)] 3)) (.node (some (.word)) (.node (some (.sl 4 1)) .nil .nil) (.node (some (.word)) .nil .nil)) (.node (some (.word)) (.node (some (.ar 173 1 8)) .nil .nil) (.node (some (.word)) .nil .nil))) (.node (some (.word)) (.node (some (.word)) (.node (some (.word)) .nil .nil) (.node (some (.word)) .nil .nil)) (.node none (.node (some (.int .u32)) .nil .nil) (.node (some (.st [(0,1),(1,1),(2,1),(3,1),(4,1),(5,1),(6,1),(7,1),(8,1),(9,1),(10,1)] 11)) .nil .nil)))))))
 zero:=.node none (.node (some ([.v .nilFunc])) (.node (some ([.v (.int .i64 0)])) (.node (some ([.v (.int .i64 0),.v (.int .i64 0),.ff,.v (.int .u8 0)])) (.node (some ([.v (.pointer none)])) (.node (some ([.v .nilFunc])) (.node none (.node (some ([.v .nilFunc])) .nil .nil) (.node (some ([.v .nilFunc])) .nil .nil)) (.node (some ([.v (.slice none 0 0),.v (.slice none 0 0)])) (.node (some ([.v (.int .u64 0)])) .nil .nil) .nil)) (.node (some ([.v (.int .i64 0),.ff])) (.node (some ([.v .nilFunc])) (.node (some ([.v (.map none)])) .nil .nil) (.node (some ([.v (.pointer none)])) .nil .nil)) (.node (some ([.v .nilFunc])) (.node (some ([.v .nilFunc])) .nil .nil) (.node (some ([.v (.int .u8 0),.v (.int .u8 0),.v (.int .u8 0),.v (.int .u8 0),.v (.int .u8 0),.v (.int .u8 0),.v (.int .u8 0),.v (.int .u8 0),.v (.int .u8 0),.v (.int .u8 0),.v (.int .u8 0),.v (.int .u8 0),.v (.int .u8 0),.v (.int .u8 0),.v (.int .u8 0),.v (.int .u8 0),.v (.int .u8 0),.v (.int .u8 0),.v (.int .u8 0),.v (.int .u8 0),.v (.int .u8 0),.v (.int .u8 0),.v (.int .u8 0),.v (.int .u8 0),.v (.int .u8 0),.v (.int .u8 0),.v (.int .u8 0),.v (.int .u8 0),.v (.int .u8 0),.v (.int .u8 0),.v (.int .u8 0),.v (.int .u8 0)])) .nil .nil)))) (.node (some ([.v (.int .i64 0),.v (.int .i64 0),.v (.slice none 0 0)])) (.node (some ([.v .nilFunc])) (.node (some ([.v .nilFunc])) (.node (some ([.v .nilFunc])) .nil .nil) (.node (some ([.v .nilFunc])) .nil .nil)) (.node (some ([.v .nilFunc])) (.node (some ([.v (.slice none 0 0)])) .nil .nil) (.node (some ([.v (.int .u64 0),.v (.int .u64 0),.v (.int .u64 0),.v (.int .u64 0),.v (.int .u64 0),.v (.int .u64 0),.v (.int .u64 0),.v (.int .u64 0),.v (.int .u64 0),.v (.int .u64 0),.v (.int .u64 0),.v (.int .u64 0),.v (.int .u64 0),.v (.int .u64 0),.v (.int .u64 0),.v (.int .u64 0),.v (.int .u64 0),.v (.int .u64 0),.v (.int .u64 0),.v (.int .u64 0)])) .nil .nil))) (.node (some ([.v .nilFunc])) (.node (some ([.v (.int .i64 0),.v (.int .i64 0),.ff])) .nil (.node (some ([.v .nilFunc])) .nil .nil)) (.node (some ([.v .nilIface])) .nil (.node (some ([.v .nilFunc])) .nil .nil))))) (.node (some ([.v (.string ByteArray.empty)])) (.node (some ([.v (.pointer none)])) (.node (some ([.v .nilFunc])) (.node (some ([.v .nilFunc])) (.node (some ([.v .nilFunc])) .nil .nil) (.node (some ([.v .nilFunc])) .nil .nil)) (.node (some ([.v .nilFunc])) (.node (some ([.v .nilFunc])) .nil .nil) (.node (some ([.v (.pointer none)])) .nil .nil))) (.node (some ([.v .nilFunc])) (.node (some ([.v .nilFunc])) (.node (some ([.v .nilFunc])) .nil .nil) .nil) (.node (some ([.v (.slice none 0 0)])) (.node (some ([.v (.pointer none)])) .nil .nil) (.node (some ([.v (.pointer none),.v (.pointer none),.v (.pointer none),.v (.string ByteArray.empty)])) .nil .nil)))) (.node (some ([.v .nilFunc])) (.node none (.node none (.node (some ([.ff,.ff])) .nil .nil) (.node (some ([.v (.int .u64 0)])) .nil .nil)) (.node (some ([.v (.int .i64 0),.v (.int .i64 0),.ff])) (.node (some ([.v .nilFunc])) .nil .nil) (.node (some ([.v (.int .u8 0),.v (.int .u8 0)])) .nil .nil))) (.node (some ([.v .nilFunc])) (.node (some ([.v .nilFunc])) (.node (some ([.v .nilFunc])) .nil .nil) (.node (some ([.v (.pointer none)])) .nil .nil)) (.node (some ([.v .nilFunc])) (.node (some ([.v .nilFunc])) .nil .nil) (.node (some ([.v (.int .i32 0)])) .nil .nil)))))) (.node (some ([.v (.int .u8 0)])) (.node (some ([.v (.string ByteArray.empty)])) (.node (some ([.v (.pointer none)])) (.node (some ([.v .nilFunc])) (.node none (.node (some ([.v .nilFunc])) .nil .nil) (.node (some ([.v .nilFunc])) .nil .nil)) (.node (some ([.v .nilFunc])) (.node (some ([.v .nilFunc])) .nil .nil) (.node (some ([.v .nilFunc])) .nil .nil))) (.node (some ([.v (.slice none 0 0)])) (.node (some ([.v .nilFunc])) (.node (some ([.v (.slice none 0 0),.v (.slice none 0 0),.v (.map none)])) .nil .nil) (.node (some ([.v .nilFunc])) .nil .nil)) (.node (some ([.v .nilFunc])) .nil (.node (some ([.v .nilFunc])) .nil .nil)))) (.node (some ([.v (.slice none 0 0)])) (.node (some ([.v .nilFunc])) (.node (some ([.v .nilFunc])) (.node (some ([.v (.slice none 0 0)])) .nil .nil) (.node (some ([.v .nilFunc])) .nil .nil)) (.node (some ([.v .nilFunc])) (.node (some ([.v .nilFunc])) .nil .nil) (.node (some ([.v (.int .u8 0),.v (.int .u8 0),.v (.int .u8 0),.v (.int .u8 0),.v (.int .u8 0),.v (.int .u8 0),.v (.int .u8 0),.v (.int .u8 0),.v (.int .u8 0),.v (.int .u8 0),.v (.int .u8 0),.v (.int .u8 0),.v (.int .u8 0),.v (.int .u8 0),.v (.int .u8 0),.v (.int .u8 0),.v (.int .u8 0),.v (.int .u8 0),.v (.int .u8 0),.v (.int .u8 0),.v (.int .u8 0),.v (.int .u8 0),.v (.int .u8 0),.v (.int .u8 0),.v (.int .u8 0),.v (.int .u8 0),.v (.int .u8 0),.v (.int .u8 0),.v (.int .u8 0),.v (.int .u8 0),.v (.int .u8 0),.v (.int .u8 0),.v (.int .u8 0),.v (.int .u8 0),.v (.int .u8 0),.v (.int .u8 0),.v (.int .u8 0),.v (.int .u8 0),.v (.int .u8 0),.v (.int .u8 0),.v (.int .u8 0),.v (.int .u8 0),.v (.int .u8 0),.v (.int .u8 0),.v (.int .u8 0),.v (.int .u8 0),.v (.int .u8 0),.v (.int .u8 0),.v (.int .u8 0),.v (.int .u8 0),.v (.int .u8 0),.v (.int .u8 0),.v (.int .u8 0),.v (.int .u8 0),.v (.int .u8 0),.v (.int .u8 0),.v (.int .u8 0),.v (.int .u8 0),.v (.int .u8 0),.v (.int .u8 0),.v (.int .u8 0),.v (.int .u8 0),.v (.int .u8 0),.v (.int .u8 0),.v (.int .u8 0),.v (.int .u8 0),.v (.int .u8 0),.v (.int .u8 0),.v (.int .u8 0),.v (.int .u8 0),.v (.int .u8 0),.v (.int .u8 0),.v (.int .u8 0),.v (.int .u8 0),.v (.int .u8 0),.v (.int .u8 0),.v (.int .u8 0),.v (.int .u8 0),.v (.int .u8 0),.v (.int .u8 0),.v (.int .u8 0),.v (.int .u8 0),.v (.int .u8 0),.v (.int .u8 0),.v (.int .u8 0),.v (.int .u8 0),.v (.int .u8 0),.v (.int .u8 0),.v (.int .u8 0),.v (.int .u8 0),.v (.int .u8 0),.v (.int .u8 0),.v (.int .u8 0),.v (.int .u8 0),.v (.int .u8 0),.v (.int .u8 0),.v (.int .u8 0),.v (.int .u8 0),.v (.int .u8 0),.v (.int .u8 0),.v (.int .u8 0),.v (.int .u8 0),.v (.int .u8 0),.v (.int .u8 0),.v (.int .u8 0),.v (.int .u8 0),.v (.int .u8 0),.v (.int .u8 0),.v (.int .u8 0),.v (.int .u8 0),.v (.int .u8 0),.v (.int .u8 0),.v (.int .u8 0),.v (.int .u8 0),.v (.int .u8 0),.v (.int .u8 0),.v (.int .u8 0),.v (.int .u8 0),.v (.int .u8 0),.v (.int .u8 0),.v (.int .u8 0),.v (.int .u8 0),.v (.int .u8 0),.v (.int .u8 0),.v (.int .u8 0),.v (.int .u8 0),.v (.int .u8 0),.v (.int .u8 0),.v (.int .u8 0),.v (.int .u8 0),.v (.int .u8 0),.v (.int .u8 0),.v (.int .u8 0),.v (.int .u8 0),.v (.int .u8 0),.v (.int .u8 0),.v (.int .u8 0),.v (.int .u8 0),.v (.int .u8 0),.v (.int .u8 0),.v (.int .u8 0),.v (.int .u8 0),.v (.int .u8 0),.v (.int .u8 0),.v (.int .u8 0),.v (.int .u8 0),.v (.int .u8 0),.v (.int .u8 0),.v (.int .u8 0),.v (.int .u8 0),.v (.int .u8 0),.v (.int .u8 0),.v (.int .u8 0),.v (.int .u8 0),.v (.int .u8 0),.v (.int .u8 0),.v (.int .u8 0),.v (.int .u8 0),.v (.int .u8 0),.v (.int .u8 0),.v (.int .u8 0),.v (.int .u8 0),.v (.int .u8 0),.v (.int .u8 0),.v (.int .u8 0),.v (.int .u8 0),.v (.int .u8 0),.v (.int .u8 0),.v (.int .u8 0),.v (.int .u8 0),.v (.int .u8 0),.v (.int .u8 0),.v (.int .u8 0),.v (.int .u8 0),.v (.int .u8 0),.v (.int .u8 0),.v (.int .u8 0),.v (.int .u8 0),.v (.int .u8 0),.v (.int .u8 0),.v (.int .u8 0),.v (.int .u8 0),.v (.int .u8 0),.v (.int .u8 0),.v (.int .u8 0),.v (.int .u8 0),.v (.int .u8 0),.v (.int .u8 0),.v (.int .u8 0),.v (.int .u8 0),.v (.int .u8 0),.v (.int .u8 0),.v (.int .u8 0),.v (.int .u8 0),.v (.int .u8 0),.v (.int .u8 0),.v (.int .u8 0),.v (.int .u8 0),.v (.int .u8 0),.v (.int .u8 0),.v (.int .u8 0),.v (.int .u8 0),.v (.int .u8 0),.v (.int .u8 0),.v (.int .u8 0),.v (.int .u8 0),.v (.int .u8 0),.v (.int .u8 0),.v (.int .u8 0),.v (.int .u8 0),.v (.int .u8 0),.v (.int .u8 0),.v (.int .u8 0),.v (.int .u8 0),.v (.int .u8 0),.v (.int .u8 0),.v (.int .u8 0),.v (.int .u8 0),.v (.int .u8 0),.v (.int .u8 0),.v (.int .u8 0),.v (.int .u8 0),.v (.int .u8 0),.v (.int .u8 0),.v (.int .u8 0),.v (.int .u8 0),.v (.int .u8 0),.v (.int .u8 0),.v (.int .u8 0),.v (.int .u8 0),.v (.int .u8 0),.v (.int .u8 0),.v (.int .u8 0),.v (.int .u8 0),.v (.int .u8 0),.v (.int .u8 0),.v (.int .u8 0),.v (.int .u8 0),.v (.int .u8 0),.v (.int .u8 0),.v (.int .u8 0),.v (.int .u8 0),.v (.int .u8 0),.v (.int .u8 0),.v (.int .u8 0),.v (.int .u8 0),.v (.int .u8 0),.v (.int .u8 0),.v (.int .u8 0),.v (.int .u8 0),.v (.int .u8 0),.v (.int .u8 0),.v (.int .u8 0),.v (.int .u8 0),.v (.int .u8 0),.v (.int .u8 0)])) .nil .nil))) (.node (some ([.v .nilFunc])) (.node none .nil (.node (some ([.v (.string ByteArray.empty),.v (.string ByteArray.empty),.v .nilIface])) .nil .nil)) (.node (some ([.v .nilFunc])) (.node (some ([.v .nilFunc])) .nil .nil) (.node (some ([.v (.int .u8 0)])) .nil .nil))))) (.node (some ([.v (.string ByteArray.empty),.v (.int .u64 0)])) (.node (some ([.v (.int .i32 0)])) (.node (some ([.v .nilFunc])) (.node (some ([.v .nilFunc])) (.node (some ([.v .nilFunc])) .nil .nil) (.node (some ([.v (.int .i64 0)])) .nil .nil)) (.node (some ([.v .nilFunc])) (.node (some ([.v .nilFunc])) .nil .nil) (.node (some ([.v (.string ByteArray.empty)])) .nil .nil))) (.node none (.node (some ([.v .nilFunc])) (.node (some ([.v .nilFunc])) .nil .nil) .nil) (.node (some ([.v .nilFunc])) (.node (some ([.v .nilFunc])) .nil .nil) .nil))) (.node (some ([.v (.int .i64 0)])) (.node (some ([.v (.int .i64 0),.v (.int .i64 0),.v (.int .i64 0)])) (.node (some ([.v .nilFunc])) (.node (some ([.v .nilFunc])) .nil .nil) (.node (some ([.v .nilFunc])) .nil .nil)) (.node (some ([.v (.int .i64 0),.v (.int .i64 0),.ff,.v (.slice none 0 0)])) (.node (some ([.v .nilFunc])) .nil .nil) .nil)) (.node (some ([.v .nilFunc])) (.node (some ([.v .nilFunc])) (.node (some ([.v .nilFunc])) .nil .nil) (.node (some ([.v (.int .u8 0),.v (.int .u8 0),.v (.int .u8 0),.v (.int .u8 0),.v (.int .u8 0),.v (.int .u8 0),.v (.int .u8 0),.v (.int .u8 0),.v (.int .u8 0),.v (.int .u8 0),.v (.int .u8 0),.v (.int .u8 0),.v (.int .u8 0),.v (.int .u8 0),.v (.int .u8 0),.v (.int .u8 0),.v (.int .u8 0),.v (.int .u8 0),.v (.int .u8 0),.v (.int .u8 0),.v (.int .u8 0),.v (.int .u8 0),.v (.int .u8 0),.v (.int .u8 0)])) .nil .nil)) (.node (some ([.v .nilFunc])) (.node (some ([.v .nilFunc])) .nil .nil) (.node (some ([.v (.int .u64 0),.v (.int .u64 0),.v (.int .u32 0),.v (.int .u8 0),.v (.int .u8 0),.v (.int .u8 0),.v (.int .u8 0),.v .nilFunc,.v (.pointer none),.v (.int .i32 0),.v (.int .i32 0)])) .nil .nil))))))) (.node (some ([.v (.int .i64 0)])) (.node (some ([.ff])) (.node (some ([.v (.int .i64 0),.v (.int .i64 0),.ff,.v (.int .u8 0)])) (.node (some ([.v (.pointer none)])) (.node (some ([.v .nilFunc])) (.node (some ([.v .nilFunc])) (.node (some ([.v .nilFunc])) .nil .nil) (.node (some ([.v (.int .u64 0)])) .nil .nil)) (.node (some ([.v (.slice none 0 0),.v (.slice none 0 0)])) (.node (some ([.v .nilFunc])) .nil .nil) (.node (some ([.v .nilFunc])) .nil .nil))) (.node (some ([.v (.int .i64 0),.ff])) (.node (some ([.v .nilFunc])) (.node (some ([.v (.slice none 0 0),.v (.slice none 0 0),.v (.map none)])) .nil .nil) (.node (some ([.v .nilFunc])) .nil .nil)) (.node (some ([.v .nilFunc])) (.node (some ([.v .nilFunc])) .nil .nil) (.node (some ([.v (.int .u8 0),.v (.int .u8 0),.v (.int .u8 0),.v (.int .u8 0),.v (.int .u8 0),.v (.int .u8 0),.v (.int .u8 0),.v (.int .u8 0),.v (.int .u8 0),.v (.int .u8 0),.v (.int .u8 0),.v (.int .u8 0),.v (.int .u8 0),.v (.int .u8 0),.v (.int .u8 0),.v (.int .u8 0),.v (.int .u8 0),.v (.int .u8 0),.v (.int .u8 0),.v (.int .u8 0),.v (.int .u8 0),.v (.int .u8 0),.v (.int .u8 0),.v (.int .u8 0),.v (.int .u8 0),.v (.int .u8 0),.v (.int .u8 0),.v (.int .u8 0),.v (.int .u8 0),.v (.int .u8 0),.v (.int .u8 0),.v (.int .u8 0),.v (.int .u8 0),.v (.int .u8 0),.v (.int .u8 0),.v (.int .u8 0),.v (.int .u8 0),.v (.int .u8 0),.v (.int .u8 0),.v (.int .u8 0),.v (.int .u8 0),.v (.int .u8 0),.v (.int .u8 0),.v (.int .u8 0),.v (.int .u8 0),.v (.int .u8 0),.v (.int .u8 0),.v (.int .u8 0),.v (.int .u8 0),.v (.int .u8 0),.v (.int .u8 0),.v (.int .u8 0),.v (.int .u8 0),.v (.int .u8 0),.v (.int .u8 0),.v (.int .u8 0),.v (.int .u8 0),.v (.int .u8 0),.v (.int .u8 0),.v (.int .u8 0),.v (.int .u8 0),.v (.int .u8 0),.v (.int .u8 0),.v (.int .u8 0)])) .nil .nil)))) (.node (some ([.v (.int .i64 0),.v (.int .i64 0),.v (.slice none 0 0)])) (.node (some ([.v .nilFunc])) (.node (some ([.v .nilFunc])) (.node (some ([.v .nilFunc])) .nil .nil) (.node (some ([.v (.pointer none)])) .nil .nil)) (.node (some ([.v (.slice none 0 0)])) (.node (some ([.v .nilFunc])) .nil .nil) (.node (some ([.v (.int .u8 0),.v (.int .u8 0),.v (.int .u8 0),.v (.int .u8 0),.v (.int .u8 0),.v (.int .u8 0),.v (.int .u8 0),.v (.int .u8 0),.v (.int .u8 0),.v (.int .u8 0),.v (.int .u8 0),.v (.int .u8 0),.v (.int .u8 0),.v (.int .u8 0),.v (.int .u8 0),.v (.int .u8 0),.v (.int .u8 0),.v (.int .u8 0),.v (.int .u8 0),.v (.int .u8 0),.v (.int .u8 0),.v (.int .u8 0),.v (.int .u8 0),.v (.int .u8 0),.v (.int .u8 0),.v (.int .u8 0),.v (.int .u8 0),.v (.int .u8 0),.v (.int .u8 0),.v (.int .u8 0),.v (.int .u8 0),.v (.int .u8 0),.v (.int .u8 0),.v (.int .u8 0),.v (.int .u8 0),.v (.int .u8 0),.v (.int .u8 0),.v (.int .u8 0),.v (.int .u8 0),.v (.int .u8 0),.v (.int .u8 0),.v (.int .u8 0),.v (.int .u8 0),.v (.int .u8 0),.v (.int .u8 0),.v (.int .u8 0),.v (.int .u8 0),.v (.int .u8 0),.v (.int .u8 0),.v (.int .u8 0),.v (.int .u8 0),.v (.int .u8 0),.v (.int .u8 0),.v (.int .u8 0),.v (.int .u8 0),.v (.int .u8 0),.v (.int .u8 0),.v (.int .u8 0),.v (.int .u8 0),.v (.int .u8 0),.v (.int .u8 0),.v (.int .u8 0),.v (.int .u8 0),.v (.int .u8 0),.v (.int .u8 0)])) .nil .nil))) (.node (some ([.v .nilFunc])) (.node (some ([.v .nilFunc])) (.node (some ([.v .nilFunc])) .nil .nil) (.node (some ([.v (.string ByteArray.empty),.v (.string ByteArray.empty),.v .nilIface])) .nil .nil)) (.node none (.node (some ([.v .nilFunc])) .nil .nil) (.node (some ([.v (.int .u8 0)])) .nil .nil))))) (.node (some ([.v (.int .u64 0)])) (.node (some ([.v .nilIface])) (.node none (.node none (.node (some ([.v .nilFunc])) .nil .nil) (.node (some ([.v .nilFunc])) .nil .nil)) (.node (some ([.v .nilFunc])) (.node (some ([.v .nilFunc])) .nil .nil) (.node (some ([.v (.string ByteArray.empty)])) .nil .nil))) (.node (some ([.v (.slice none 0 0)])) (.node (some ([.v .nilFunc])) (.node (some ([.v .nilFunc])) .nil .nil) (.node (some ([.v .nilFunc])) .nil .nil)) (.node (some ([.v .nilFunc])) (.node (some ([.v .nilFunc])) .nil .nil) .nil))) (.node (some ([.v .nilFunc])) (.node (some ([.v .nilFunc])) (.node (some ([.v .nilFunc])) (.node (some ([.v (.slice none 0 0)])) .nil .nil) (.node (some ([.v .nilFunc])) .nil .nil)) (.node (some ([.v (.int .i64 0),.v (.int .i64 0),.ff,.v (.slice none 0 0)])) (.node (some ([.v .nilFunc])) .nil .nil) (.node (some ([.v (.int .u8 0),.v (.int .u8 0),.v (.int .u8 0),.v (.int .u8 0),.v (.int .u8 0),.v (.int .u8 0),.v (.int .u8 0),.v (.int .u8 0),.v (.int .u8 0),.v (.int .u8 0),.v (.int .u8 0),.v (.int .u8 0),.v (.int .u8 0),.v (.int .u8 0),.v (.int .u8 0),.v (.int .u8 0),.v (.int .u8 0),.v (.int .u8 0),.v (.int .u8 0),.v (.int .u8 0),.v (.int .u8 0),.v (.int .u8 0),.v (.int .u8 0),.v (.int .u8 0),.v (.int .u8 0),.v (.int .u8 0),.v (.int .u8 0),.v (.int .u8 0),.v (.int .u8 0),.v (.int .u8 0),.v (.int .u8 0),.v (.int .u8 0)])) .nil .nil))) (.node none (.node none (.node (some ([.v .nilFunc])) .nil .nil) (.node (some ([.v .nilFunc])) .nil .nil)) (.node (some ([.v .nilFunc])) (.node (some ([.v .nilFunc])) .nil .nil) (.node (some ([.v (.int .i32 0)])) .nil .nil)))))) (.node (some ([.v (.int .u8 0)])) (.node (some ([.v (.string ByteArray.empty)])) (.node (some ([.v (.pointer none)])) (.node (some ([.v .nilFunc])) (.node (some ([.v .nilFunc])) (.node (some ([.v (.map none)])) .nil .nil) (.node (some ([.v .nilFunc])) .nil .nil)) (.node (some ([.v .nilFunc])) (.node (some ([.v .nilFunc])) .nil .nil) (.node (some ([.v (.pointer none)])) .nil .nil))) (.node none (.node (some ([.v (.map none)])) (.node (some ([.v .nilFunc])) .nil .nil) (.node (some ([.v .nilFunc])) .nil .nil)) (.node (some ([.v .nilFunc])) (.node (some ([.v .nilFunc])) .nil .nil) (.node (some ([.v (.pointer none),.v (.pointer none),.v (.pointer none),.v (.string ByteArray.empty)])) .nil .nil)))) (.node (some ([.v .nilFunc])) (.node (some ([.v .nilFunc])) (.node (some ([.v .nilFunc])) (.node (some ([.v .nilFunc])) .nil .nil) (.node (some ([.v .nilFunc])) .nil .nil)) (.node (some ([.v (.int .i64 0),.v (.int .i64 0),.ff])) .nil (.node (some ([.v (.int .u8 0),.v (.int .u8 0)])) .nil .nil))) (.node (some ([.v .nilFunc])) (.node (some ([.v .nilFunc])) (.node (some ([.v .nilFunc])) .nil .nil) (.node (some ([.v .nilFunc])) .nil .nil)) (.node (some ([.v .nilFunc])) (.node (some ([.v .nilFunc])) .nil .nil) (.node (some ([.v .nilFunc])) .nil .nil))))) (.node (some ([.v (.string ByteArray.empty),.v (.int .u64 0)])) (.node (some ([.v (.slice none 0 0)])) (.node none (.node (some ([.v .nilFunc])) (.node (some ([.v .nilFunc])) .nil .nil) .nil) (.node (some ([.v .nilFunc])) (.node (some ([.v .nilFunc])) .nil .nil) (.node (some ([.v .nilFunc])) .nil .nil))) (.node (some ([.v .nilFunc])) (.node (some ([.v (.int .i64 0),.v (.int .i64 0),.ff])) (.node (some ([.v .nilFunc])) .nil .nil) (.node (some ([.v .nilFunc])) .nil .nil)) (.node (some ([.v .nilIface])) (.node (some ([.v (.int .i64 0)])) .nil .nil) .nil))) (.node none (.node (some ([.v (.int .i64 0),.v (.int .i64 0),.v (.int .i64 0)])) (.node (some ([.v .nilFunc])) (.node (some ([.v (.slice none 0 0)])) .nil .nil) (.node (some ([.v .nilFunc])) .nil .nil)) (.node (some ([.v .nilFunc])) (.node (some ([.v .nilFunc,.v .nilFunc,.v .nilFunc,.v .nilFunc,.v .nilFunc,.v .nilFunc,.v .nilFunc,.v .nilFunc])) .nil .nil) (.node (some ([.v .nilFunc])) .nil .nil))) (.node (some ([.v .nilFunc])) (.node (some ([.v .nilFunc])) (.node (some ([.v .nilFunc])) .nil .nil) (.node (some ([.v .nilFunc])) .nil .nil)) (.node none (.node (some ([.v (.int .u32 0)])) .nil .nil) (.node (some ([.v (.int .u64 0),.v (.int .u64 0),.v (.int .u32 0),.v (.int .u8 0),.v (.int .u8 0),.v (.int .u8 0),.v (.int .u8 0),.v .nilFunc,.v (.pointer none),.v (.int .i32 0),.v (.int .i32 0)])) .nil .nil)))))))
 kd:=.node none (.node none (.node (some ([.int .i64])) (.node (some ([.int .i64,.int .i64,.bool,.int .u8])) (.node none (.node none .nil (.node (some ([.sl 3 [.int .i64],.sl 3 [.int .i64]])) (.node (some ([.int .u64])) .nil .nil) .nil)) (.node (some ([.int .i64,.bool])) .nil (.node none .nil (.node (some ([.int .u8,.int .u8,.int .u8,.int .u8,.int .u8,.int .u8,.int .u8,.int .u8,.int .u8,.int .u8,.int .u8,.int .u8,.int .u8,.int .u8,.int .u8,.int .u8,.int .u8,.int .u8,.int .u8,.int .u8,.int .u8,.int .u8,.int .u8,.int .u8,.int .u8,.int .u8,.int .u8,.int .u8,.int .u8,.int .u8,.int .u8,.int .u8])) .nil .nil)))) (.node (some ([.int .i64,.int .i64,.sl 46 [.int .i64,.int .i64,.int .i64]])) (.node none .nil (.node none (.node (some ([.sl 5 [.int .u8]])) .nil .nil) (.node (some ([.int .u64,.int .u64,.int .u64,.int .u64,.int .u64,.int .u64,.int .u64,.int .u64,.int .u64,.int .u64,.int .u64,.int .u64,.int .u64,.int .u64,.int .u64,.int .u64,.int .u64,.int .u64,.int .u64,.int .u64])) .nil .nil))) (.node none (.node (some ([.int .i64,.int .i64,.bool])) .nil .nil) .nil))) (.node (some ([.str])) (.node none .nil (.node none .nil (.node (some ([.sl 9 [.str]])) .nil .nil))) (.node none (.node none (.node none (.node (some ([.bool,.bool])) .nil .nil) (.node (some ([.int .u64])) .nil .nil)) (.node (some ([.int .i64,.int .i64,.bool])) .nil (.node (some ([.int .u8,.int .u8])) .nil .nil))) (.node none .nil (.node none .nil (.node (some ([.int .i32])) .nil .nil)))))) (.node (some ([.int .u8])) (.node (some ([.str])) (.node none .nil (.node (some ([.sl 3 [.int .i64]])) .nil .nil)) (.node (some ([.sl 49 [.sl 3 [.int .i64]]])) (.node none (.node none (.node (some ([.sl 87 [.int .i64,.int .i64,.bool]])) .nil .nil) .nil) (.node none .nil (.node (some ([.int .u8,.int .u8,.int .u8,.int .u8,.int .u8,.int .u8,.int .u8,.int .u8,.int .u8,.int .u8,.int .u8,.int .u8,.int .u8,.int .u8,.int .u8,.int .u8,.int .u8,.int .u8,.int .u8,.int .u8,.int .u8,.int .u8,.int .u8,.int .u8,.int .u8,.int .u8,.int .u8,.int .u8,.int .u8,.int .u8,.int .u8,.int .u8,.int .u8,.int .u8,.int .u8,.int .u8,.int .u8,.int .u8,.int .u8,.int .u8,.int .u8,.int .u8,.int .u8,.int .u8,.int .u8,.int .u8,.int .u8,.int .u8,.int .u8,.int .u8,.int .u8,.int .u8,.int .u8,.int .u8,.int .u8,.int .u8,.int .u8,.int .u8,.int .u8,.int .u8,.int .u8,.int .u8,.int .u8,.int .u8,.int .u8,.int .u8,.int .u8,.int .u8,.int .u8,.int .u8,.int .u8,.int .u8,.int .u8,.int .u8,.int .u8,.int .u8,.int .u8,.int .u8,.int .u8,.int .u8,.int .u8,.int .u8,.int .u8,.int .u8,.int .u8,.int .u8,.int .u8,.int .u8,.int .u8,.int .u8,.int .u8,.int .u8,.int .u8,.int .u8,.int .u8,.int .u8,.int .u8,.int .u8,.int .u8,.int .u8,.int .u8,.int .u8,.int .u8,.int .u8,.int .u8,.int .u8,.int .u8,.int .u8,.int .u8,.int .u8,.int .u8,.int .u8,.int .u8,.int .u8,.int .u8,.int .u8,.int .u8,.int .u8,.int .u8,.int .u8,.int .u8,.int .u8,.int .u8,.int .u8,.int .u8,.int .u8,.int .u8,.int .u8,.int .u8,.int .u8,.int .u8,.int .u8,.int .u8,.int .u8,.int .u8,.int .u8,.int .u8,.int .u8,.int .u8,.int .u8,.int .u8,.int .u8,.int .u8,.int .u8,.int .u8,.int .u8,.int .u8,.int .u8,.int .u8,.int .u8,.int .u8,.int .u8,.int .u8,.int .u8,.int .u8,.int .u8,.int .u8,.int .u8,.int .u8,.int .u8,.int .u8,.int .u8,.int .u8,.int .u8,.int .u8,.int .u8,.int .u8,.int .u8,.int .u8,.int .u8,.int .u8,.int .u8,.int .u8,.int .u8,.int .u8,.int .u8,.int .u8,.int .u8,.int .u8,.int .u8,.int .u8,.int .u8,.int .u8,.int .u8,.int .u8,.int .u8,.int .u8,.int .u8,.int .u8,.int .u8,.int .u8,.int .u8,.int .u8,.int .u8,.int .u8,.int .u8,.int .u8,.int .u8,.int .u8,.int .u8,.int .u8,.int .u8,.int .u8,.int .u8,.int .u8,.int .u8,.int .u8,.int .u8,.int .u8,.int .u8,.int .u8,.int .u8,.int .u8,.int .u8,.int .u8,.int .u8,.int .u8,.int .u8,.int .u8,.int .u8,.int .u8,.int .u8,.int .u8,.int .u8,.int .u8,.int .u8,.int .u8,.int .u8,.int .u8,.int .u8,.int .u8,.int .u8,.int .u8,.int .u8,.int .u8,.int .u8,.int .u8,.int .u8,.int .u8,.int .u8,.int .u8,.int .u8,.int .u8,.int .u8,.int .u8,.int .u8,.int .u8,.int .u8,.int .u8,.int .u8,.int .u8,.int .u8,.int .u8,.int .u8,.int .u8,.int .u8])) .nil .nil))) (.node none .nil (.node none .nil (.node (some ([.int .u8])) .nil .nil))))) (.node (some ([.str,.int .u64])) (.node (some ([.int .i32])) (.node none (.node none .nil (.node (some ([.int .i64])) .nil .nil)) (.node none .nil (.node (some ([.str])) .nil .nil))) .nil) (.node (some ([.int .i64])) (.node (some ([.int .i64,.int .i64,.int .i64])) .nil (.node (some ([.int .i64,.int .i64,.bool,.sl 3 [.int .i64]])) .nil .nil)) (.node none (.node none .nil (.node (some ([.int .u8,.int .u8,.int .u8,.int .u8,.int .u8,.int .u8,.int .u8,.int .u8,.int .u8,.int .u8,.int .u8,.int .u8,.int .u8,.int .u8,.int .u8,.int .u8,.int .u8,.int .u8,.int .u8,.int .u8,.int .u8,.int .u8,.int .u8,.int .u8])) .nil .nil)) .nil))))) (.node (some ([.int .i64])) (.node (some ([.bool])) (.node (some ([.int .i64,.int .i64,.bool,.int .u8])) (.node none (.node none (.node none .nil (.node (some ([.int .u64])) .nil .nil)) (.node (some ([.sl 3 [.int .i64],.sl 3 [.int .i64]])) .nil .nil)) (.node (some ([.int .i64,.bool])) .nil (.node none .nil (.node (some ([.int .u8,.int .u8,.int .u8,.int .u8,.int .u8,.int .u8,.int .u8,.int .u8,.int .u8,.int .u8,.int .u8,.int .u8,.int .u8,.int .u8,.int .u8,.int .u8,.int .u8,.int .u8,.int .u8,.int .u8,.int .u8,.int .u8,.int .u8,.int .u8,.int .u8,.int .u8,.int .u8,.int .u8,.int .u8,.int .u8,.int .u8,.int .u8,.int .u8,.int .u8,.int .u8,.int .u8,.int .u8,.int .u8,.int .u8,.int .u8,.int .u8,.int .u8,.int .u8,.int .u8,.int .u8,.int .u8,.int .u8,.int .u8,.int .u8,.int .u8,.int .u8,.int .u8,.int .u8,.int .u8,.int .u8,.int .u8,.int .u8,.int .u8,.int .u8,.int .u8,.int .u8,.int .u8,.int .u8,.int .u8])) .nil .nil)))) (.node (some ([.int .i64,.int .i64,.sl 46 [.int .i64,.int .i64,.int .i64]])) (.node none .nil (.node (some ([.sl 109 [.int .i64,.int .i64,.bool,.sl 3 [.int .i64]]])) .nil (.node (some ([.int .u8,.int .u8,.int .u8,.int .u8,.int .u8,.int .u8,.int .u8,.int .u8,.int .u8,.int .u8,.int .u8,.int .u8,.int .u8,.int .u8,.int .u8,.int .u8,.int .u8,.int .u8,.int .u8,.int .u8,.int .u8,.int .u8,.int .u8,.int .u8,.int .u8,.int .u8,.int .u8,.int .u8,.int .u8,.int .u8,.int .u8,.int .u8,.int .u8,.int .u8,.int .u8,.int .u8,.int .u8,.int .u8,.int .u8,.int .u8,.int .u8,.int .u8,.int .u8,.int .u8,.int .u8,.int .u8,.int .u8,.int .u8,.int .u8,.int .u8,.int .u8,.int .u8,.int .u8,.int .u8,.int .u8,.int .u8,.int .u8,.int .u8,.int .u8,.int .u8,.int .u8,.int .u8,.int .u8,.int .u8,.int .u8])) .nil .nil))) (.node none .nil (.node none .nil (.node (some ([.int .u8])) .nil .nil))))) (.node (some ([.int .u64])) (.node none (.node none .nil (.node none .nil (.node (some ([.str])) .nil .nil))) (.node (some ([.sl 48 [.int .i64,.bool]])) .nil .nil)) (.node none (.node none (.node none (.node (some ([.sl 52 [.sl 48 [.int .i64,.bool]]])) .nil .nil) .nil) (.node (some ([.int .i64,.int .i64,.bool,.sl 3 [.int .i64]])) .nil (.node (some ([.int .u8,.int .u8,.int .u8,.int .u8,.int .u8,.int .u8,.int .u8,.int .u8,.int .u8,.int .u8,.int .u8,.int .u8,.int .u8,.int .u8,.int .u8,.int .u8,.int .u8,.int .u8,.int .u8,.int .u8,.int .u8,.int .u8,.int .u8,.int .u8,.int .u8,.int .u8,.int .u8,.int .u8,.int .u8,.int .u8,.int .u8,.int .u8])) .nil .nil))) (.node none .nil (.node none .nil (.node (some ([.int .i32])) .nil .nil)))))) (.node (some ([.int .u8])) (.node (some ([.str])) .nil (.node none (.node none .nil (.node (some ([.int .i64,.int .i64,.bool])) .nil (.node (some ([.int .u8,.int .u8])) .nil .nil))) .nil)) (.node (some ([.str,.int .u64])) (.node (some ([.sl 46 [.int .i64,.int .i64,.int .i64]])) .nil (.node none (.node (some ([.int .i64,.int .i64,.bool])) .nil .nil) (.node none (.node (some ([.int .i64])) .nil .nil) .nil))) (.node none (.node (some ([.int .i64,.int .i64,.int .i64])) (.node none (.node (some ([.sl 4 [.bool]])) .nil .nil) .nil) .nil) (.node none .nil (.node none (.node (some ([.int .u32])) .nil .nil) .nil))))))
 sc:=.node none (.node none (.node (some (.int .i64)) (.node none (.node none (.node none .nil (.node none (.node (some (.int .u64)) .nil .nil) .nil)) .nil) (.node none (.node none .nil (.node none (.node (some (.sl 5 [.int .u8])) .nil .nil) .nil)) .nil)) (.node (some (.str)) (.node none .nil (.node none .nil (.node (some (.sl 9 [.str])) .nil .nil))) (.node none (.node none (.node none .nil (.node (some (.int .u64)) .nil .nil)) .nil) (.node none .nil (.node none .nil (.node (some (.int .i32)) .nil .nil)))))) (.node (some (.int .u8)) (.node (some (.str)) (.node none .nil (.node (some (.sl 3 [.int .i64])) .nil .nil)) (.node (some (.sl 49 [.sl 3 [.int .i64]])) (.node none (.node none (.node (some (.sl 87 [.int .i64,.int .i64,.bool])) .nil .nil) .nil) .nil) (.node none .nil (.node none .nil (.node (some (.int .u8)) .nil .nil))))) (.node none (.node (some (.int .i32)) (.node none (.node none .nil (.node (some (.int .i64)) .nil .nil)) .nil) .nil) (.node (some (.int .i64)) .nil .nil)))) (.node (some (.int .i64)) (.node (some (.bool)) (.node none (.node none (.node none (.node none .nil (.node (some (.int .u64)) .nil .nil)) .nil) .nil) (.node none (.node none .nil (.node (some (.sl 109 [.int .i64,.int .i64,.bool,.sl 3 [.int .i64]])) .nil .nil)) (.node none .nil (.node none .nil (.node (some (.int .u8)) .nil .nil))))) (.node (some (.int .u64)) (.node none .nil (.node (some (.sl 48 [.int .i64,.bool])) .nil .nil)) (.node none (.node none (.node none (.node (some (.sl 52 [.sl 48 [.int .i64,.bool]])) .nil .nil) .nil) .nil) (.node none .nil (.node none .nil (.node (some (.int .i32)) .nil .nil)))))) (.node (some (.int .u8)) (.node (some (.str)) .nil .nil) (.node none (.node (some (.sl 46 [.int .i64,.int .i64,.int .i64])) .nil (.node none .nil (.node none (.node (some (.int .i64)) .nil .nil) .nil))) (.node none (.node none (.node none (.node (some (.sl 4 [.bool])) .nil .nil) .nil) .nil) (.node none .nil (.node none (.node (some (.int .u32)) .nil .nil) .nil))))))
 eqs:=.node none (.node none (.node none (.node none (.node none .nil (.node (some ([0,1])) .nil .nil)) (.node none .nil (.node none (.node (some ([0,0,1])) .nil .nil) .nil))) (.node none .nil (.node none (.node none .nil (.node (some ([0,0,1])) .nil (.node (some ([0,0])) .nil .nil))) .nil))) (.node none .nil (.node none (.node none (.node none .nil (.node none .nil (.node (some ([2])) .nil .nil))) .nil) (.node none (.node (some ([0,0,0])) .nil .nil) .nil)))) (.node none (.node none (.node none (.node none .nil (.node (some ([0,1])) .nil .nil)) .nil) (.node none (.node none (.node none .nil (.node none .nil (.node (some ([2])) .nil .nil))) .nil) .nil)) (.node none (.node none .nil (.node none (.node none .nil (.node (some ([0,0,1])) .nil (.node (some ([0,0])) .nil .nil))) .nil)) (.node none (.node none .nil (.node none (.node (some ([0,0,1])) .nil .nil) .nil)) (.node none (.node (some ([0,0,0])) .nil .nil) .nil))))
 lf:=.node none (.node none (.node none (.node none (.node none (.node none .nil (.node (some ([true,true])) .nil .nil)) (.node (some ([true,true])) .nil .nil)) (.node (some ([true,true,true])) .nil (.node none (.node (some ([true,false])) .nil .nil) .nil))) (.node none .nil (.node none (.node none .nil (.node (some ([true,false])) .nil (.node (some ([true,true])) .nil .nil))) .nil))) (.node none (.node none (.node none .nil (.node none (.node none (.node (some ([true,true,true])) .nil .nil) .nil) .nil)) (.node none .nil (.node none (.node none .nil (.node (some ([true,true,true])) .nil .nil)) .nil))) (.node none (.node none (.node none .nil (.node none .nil (.node (some ([true])) .nil .nil))) .nil) (.node none (.node (some ([true,true,true])) .nil (.node (some ([false,true])) (.node (some ([true])) .nil .nil) .nil)) .nil)))) (.node none (.node none (.node none (.node none (.node none .nil (.node (some ([true,true])) .nil .nil)) (.node (some ([true,true])) (.node none (.node (some ([true,true,true])) .nil .nil) .nil) .nil)) (.node (some ([true,true,true])) .nil (.node none (.node none .nil (.node (some ([true,true,true])) .nil .nil)) .nil))) (.node none (.node none (.node none .nil (.node none .nil (.node (some ([true])) .nil .nil))) .nil) (.node none (.node none .nil (.node (some ([false,true])) (.node (some ([true])) .nil .nil) .nil)) .nil))) (.node none (.node none .nil (.node none (.node none .nil (.node (some ([true,false])) .nil (.node (some ([true,true])) .nil .nil))) .nil)) (.node none (.node none .nil (.node none (.node (some ([true,false])) .nil .nil) .nil)) (.node none (.node (some ([true,true,true])) .nil .nil) .nil))))
theorem LX : F2 Tryz.prog jV where
 ty:=by kernel_rfl
 zero:=by kernel_rfl
 kd:=by kernel_rfl
 sc:=by kernel_rfl
 eqs:=by kernel_rfl
 lf:=by kernel_rfl
theorem mixed : Tryz.prog.follows .mixedOrders = true:=by kernel_rfl
end Go.Proofs.YthejmgnkenokpaaGreatDoor
end
section
namespace Go.Proofs.YthejmgnkenokpaaGreatDoor
open Go Go.Sy Go.bK
variable {Γ : bn}
abbrev vI (n : Int) : At:=.v (.int .i64 n)
abbrev kI : List CK:=[.int .i64]
abbrev kB : List CK:=[.bool]
abbrev kG : List CK:=[.int .i64,.bool]
abbrev kX : List CK:=[.int .i64,.int .i64,.bool]
abbrev kW : List CK:=[.int .i64,.int .i64,.int .i64]
abbrev kT : List CK:=[.sl 3 kI]
theorem aj {f : FuncId} {fn : Func} (h : Tryz.prog.funcs[f]? = some fn) (h2 : (fn.name == "runtime.NumGoroutine") = false) {c : Code} (h3 : fn.body = some c) : bQ Tryz.prog f ⟨fn.ntmps, c, fn.results.toList⟩ :=
 ⟨fn,h,h2,h3,rfl,by simp⟩
noncomputable def bo (fn : Func) : Body:=match fn.body with | some c => ⟨fn.ntmps,c,fn.results.toList⟩ | none => ⟨0,.skip,[]⟩
theorem cg {f : FuncId} {fn : Func} (h : Tryz.prog.funcs[f]? = some fn) (h2 : (fn.name == "runtime.NumGoroutine") = false) {c : Code} (h3 : fn.body = some c) : bQ Tryz.prog f (bo fn) := by
 have : bo fn = ⟨fn.ntmps,c,fn.results.toList⟩:=by unfold bo;rw [h3]
 rw [this];exact aj h h2 h3
theorem aP {l : List (Nat × au)} (hl : aR Tryz.prog Γ l) {bs : List (Nat × Body)} (hb : bq Tryz.prog bs) (aN : Bool) (un : Nat) : aL Tryz.prog Γ (jV.env l bs aN un) :=
 ⟨mixed,fun f c h => (hl.h f c h).1,fun f b h => hb.h f b h,jV.OX LX hl bs aN un⟩
theorem _root_.Go.Sy.aL.vU {E : Env} (h : aL Tryz.prog Γ E) (o : Nat -> Option OT) : aL Tryz.prog Γ { E with tree:=o }:=⟨h.mixed,h.fn,h.inl,{ h.env with }⟩
theorem _root_.Go.Sy.aL.Ju {E : Env} (h : aL Tryz.prog Γ E) (o : Nat -> Option (List Nat)) : aL Tryz.prog Γ { E with ord:=o }:=⟨h.mixed,h.fn,h.inl,{ h.env with }⟩
theorem _root_.Go.Sy.aL.NA {E : Env} (h : aL Tryz.prog Γ E) (o : Nat -> Option (Nat × OT)) : aL Tryz.prog Γ { E with htr:=o }:=⟨h.mixed,h.fn,h.inl,{ h.env with }⟩
theorem _root_.Go.Sy.aL.strs {E : Env} (h : aL Tryz.prog Γ E) (o : Nat -> Option (List Nat × OT)) : aL Tryz.prog Γ { E with str:=o }:=⟨h.mixed,h.fn,h.inl,{ h.env with }⟩
theorem _root_.Go.Sy.aL.wy {E : Env} (h : aL Tryz.prog Γ E) (o : Nat -> Bool) : aL Tryz.prog Γ { E with cut:=o }:=⟨h.mixed,h.fn,h.inl,{ h.env with }⟩
noncomputable def JB (c : Code) : List (Array Tmp × Code × Code) :=
 Code.rec (motive:=fun _ => List (Array Tmp × Code × Code)) [] (fun _ _ _ => []) (fun _ _ fa fb => List.rec fb (fun x _ ih => x :: ih) fa) (fun _ _ _ fa fb => List.rec fb (fun x _ ih => x :: ih) fa)
  (fun _ _ f => f) (fun _ f => f) (fun _ ps a b _ fb => (ps,a,b) :: fb) (fun _ => []) (fun _ f => f) (fun _ => []) (fun _ => []) [] (fun _ => []) c
noncomputable def wT (f : Func) (k : Nat) : Array Tmp × Code × Code:=match (JB (bo f).code)[k]? with | some x => x | none => (#[],.skip,.skip)
noncomputable def ac5 (f : Func) (k : Nat) (fn : FuncId) (T : Array Value) (D : Nat) : Loop:={ state:=.ready,pending:=none,fn:=fn,tmps:=T,params:=(wT f k).1,assign:=(wT f k).2.1,body:=(wT f k).2.2,defers:=D }
theorem R6 (h : true = false) : False:=by cases h
theorem R3 (h : false = true) : False:=by cases h
def IA : Nat -> Tr
 | 0 => .nil
 | d + 1 => .node (.a .any) (IA d) (IA d)
def aan : List Nat -> List Tm -> Tr -> Tr
 | i :: is,x :: xs,t => aan is xs (t.put i x)
 | _,_,t => t
def aI (n : Nat) (is : List Nat) (xs : List Tm) : Sl:=⟨n,aan is xs (IA (jg n))⟩
def ac1 (te : TypeId) (tg : List CK) (rg : List az) : At -> Option (List aa × List (ai tg))
 | .sl r π lo n => (match (rg.getD r .dead).dn π with | some (q,⟨oO,bX,xs⟩) => (match pF oO te,aau bX tg with | some _,some h => some (q ++ [(aa.of (lo = 0)),(aa.of (n = xs.length))],jz h.down xs) | _,_ => none) | _ => none)
 | .v (.slice none 0 0) => some ([],[])
 | .z => some ([],[])
 | _ => none
theorem bP {te : TypeId} {tg : List CK} (ci : tg ≠ []) {rg : List az} {x : At} {q : List aa} {L : List (ai tg)} (h : ac1 te tg rg x = some (q,L)) (hq : bW q) :
  ∃ e : Option (Nat × Path),∀ (is : gd) (k n : Nat),is[k]? = some e -> k < n -> yp is n x (.sl k [] 0 L.length) /\ agV rg is n k (.arr te tg L false false):=by
 unfold ac1 at h
 split at h
 ·rename_i r π lo n
  split at h
  ·rename_i q0 oO bX xs hd
   split at h
   ·rename_i h1 h2 _ _
    obtain ⟨rfl,rfl⟩:=Prod.mk.inj (Option.some.inj h)
    obtain rfl:=h1.down
    obtain ⟨h2⟩:=h2
    subst h2
    obtain ⟨h1,h2,h3,_⟩:=(aH _ _).1 hq
    simp only [aa.ae] at h2 h3
    subst h2 h3
    exact ⟨some (r,π),fun is k m hi hm => ⟨.inr ⟨r,π,rfl,hm,hi⟩,rfl,rfl,.inr ⟨r,π,q0,hi,hd,h1⟩⟩⟩
   ·cases h
  ·cases h
 ·obtain ⟨rfl,rfl⟩:=Prod.mk.inj (Option.some.inj h)
  exact ⟨none,fun is k m hi hm => ⟨.inl ⟨.inl rfl,rfl,rfl,hm,hi⟩,rfl,rfl,.inl ⟨hi,rfl,ci⟩⟩⟩
 ·obtain ⟨rfl,rfl⟩:=Prod.mk.inj (Option.some.inj h)
  exact ⟨none,fun is k m hi hm => ⟨.inl ⟨.inr rfl,rfl,rfl,hm,hi⟩,rfl,rfl,.inl ⟨hi,rfl,ci⟩⟩⟩
 ·cases h
theorem Bz {is : gd} {n : Nat} {c : CK} {x : At} {v : c.ty} (h : c.fX x = some v) : yp is n x (c.pl v):=by
 cases c with
 | sl e tg => cases x <;> simp only [CK.fX] at h <;> cases h
 | int k =>
   cases x <;> simp only [CK.fX] at h <;> try (cases h;done)
   rename_i y
   cases y <;> simp only [CK.of] at h <;> try (cases h;done)
   split at h
   ·rename_i hk;obtain rfl:=cw hk;obtain rfl:=Option.some.inj h;rfl
   ·cases h
 | bool =>
   cases x <;> simp only [CK.fX] at h <;> try (cases h;done)
   ·rename_i y
    cases y <;> simp only [CK.of] at h <;> try (cases h;done)
    obtain rfl:=Option.some.inj h;exact .inl rfl
   ·obtain rfl:=Option.some.inj h;exact .inr (.inl ⟨rfl,rfl⟩)
   ·obtain rfl:=Option.some.inj h;exact .inr (.inr ⟨rfl,rfl⟩)
 | str =>
   cases x <;> simp only [CK.fX] at h <;> try (cases h;done)
   rename_i y
   cases y <;> simp only [CK.of] at h <;> try (cases h;done)
   obtain rfl:=Option.some.inj h;rfl
theorem oC {is : gd} {n : Nat} : ∀ {kk : List CK} {l : List At} {v : ai kk},eu kk l = some v -> rE is n l (ai.lV kk v)
 | [],[],_,_ => trivial
 | [],_ :: _,_,h => by cases h
 | [c],[x],v,h => ⟨Bz (c:=c) h,trivial⟩
 | [c],[],_,h => by cases h
 | [c],_ :: _ :: _,_,h => by cases h
 | _ :: _ :: _,[],_,h => by cases h
 | c :: c' :: cs,x :: xs,v,h => by
   have h : (match c.fX x,eu (c' :: cs) xs with | some y,some z => some ((y,z) : c.ty × ai (c' :: cs)) | _,_ => none) = some v:=h
   split at h
   ·rename_i u z h1 h2
    obtain rfl:=Option.some.inj h
    exact ⟨Bz h1,oC (kk:=c' :: cs) h2⟩
   ·cases h
def fN (D : Int -> List aa) (F : Int -> Tm) : au:=.fn fun args rg => match args with
 | [.a (.v (.int .i64 n0))] => some (D n0,F n0)
 | _ => none
theorem y9 {f : FuncId} {b : Body} {E : Env} {d : Nat} (hP : aL Tryz.prog Γ E) (hb : bQ Tryz.prog f b) {D : Int -> List aa} {F : Int -> Tm} (hp : ∀ (n0 : Int),(F n0).plain = true)
  (H : ∀ (n0 : Int),bW (D n0) -> cQ E d b [.a (vI n0)] [] (fun x _ => iL x (F n0))) : au.Ok Tryz.prog Γ f (fN D F):=au.er (d:=d) hP hb (by
 intro args rg q t hF hq
 split at hF
 next n0 =>
  obtain ⟨rfl,rfl⟩:=Prod.mk.inj (Option.some.inj hF);clear hF
  have hD:=hq
  refine ⟨hp _,[],[.a (vI n0)],[],⟨⟨rfl,trivial⟩,fun r g hg => ?_⟩,H _ hD⟩
  cases hg
 next => cases hF)
def Kf (D : Int -> Int -> List aa) (F : Int -> Int -> Tm) : au:=.fn fun args rg => match args with
 | [.a (.v (.int .i64 n0)),.a (.v (.int .i64 n1))] => some (D n0 n1,F n0 n1)
 | _ => none
theorem An {f : FuncId} {b : Body} {E : Env} {d : Nat} (hP : aL Tryz.prog Γ E) (hb : bQ Tryz.prog f b) {D : Int -> Int -> List aa} {F : Int -> Int -> Tm} (hp : ∀ (n0 : Int) (n1 : Int),(F n0 n1).plain = true)
  (H : ∀ (n0 : Int) (n1 : Int),bW (D n0 n1) -> cQ E d b [.a (vI n0),.a (vI n1)] [] (fun x _ => iL x (F n0 n1))) : au.Ok Tryz.prog Γ f (Kf D F):=au.er (d:=d) hP hb (by
 intro args rg q t hF hq
 split at hF
 next n0 n1 =>
  obtain ⟨rfl,rfl⟩:=Prod.mk.inj (Option.some.inj hF);clear hF
  have hD:=hq
  refine ⟨hp _ _,[],[.a (vI n0),.a (vI n1)],[],⟨⟨rfl,rfl,trivial⟩,fun r g hg => ?_⟩,H _ _ hD⟩
  cases hg
 next => cases hF)
def ja (D : Int -> Int -> Int -> List aa) (F : Int -> Int -> Int -> Tm) : au:=.fn fun args rg => match args with
 | [.a (.v (.int .i64 n0)),.a (.v (.int .i64 n1)),.a (.v (.int .i64 n2))] => some (D n0 n1 n2,F n0 n1 n2)
 | _ => none
theorem ep {f : FuncId} {b : Body} {E : Env} {d : Nat} (hP : aL Tryz.prog Γ E) (hb : bQ Tryz.prog f b) {D : Int -> Int -> Int -> List aa} {F : Int -> Int -> Int -> Tm} (hp : ∀ (n0 : Int) (n1 : Int) (n2 : Int),(F n0 n1 n2).plain = true)
  (H : ∀ (n0 : Int) (n1 : Int) (n2 : Int),bW (D n0 n1 n2) -> cQ E d b [.a (vI n0),.a (vI n1),.a (vI n2)] [] (fun x _ => iL x (F n0 n1 n2))) : au.Ok Tryz.prog Γ f (ja D F):=au.er (d:=d) hP hb (by
 intro args rg q t hF hq
 split at hF
 next n0 n1 n2 =>
  obtain ⟨rfl,rfl⟩:=Prod.mk.inj (Option.some.inj hF);clear hF
  have hD:=hq
  refine ⟨hp _ _ _,[],[.a (vI n0),.a (vI n1),.a (vI n2)],[],⟨⟨rfl,rfl,rfl,trivial⟩,fun r g hg => ?_⟩,H _ _ _ hD⟩
  cases hg
 next => cases hF)
end Go.Proofs.YthejmgnkenokpaaGreatDoor
end
section
namespace Go.Proofs.YthejmgnkenokpaaGreatDoor
open Go Go.Sy Go.bK Go.ChangeShapes Go.WideShapes Go.RowKit
theorem own : ownKnob Tryz.prog.godebug = none:=by kernel_rfl
theorem laidOut : laidOutB Tryz.prog = true:=by kernel_rfl
theorem yY {H : Type} {enc : TypeId × Value -> H} {W W' : World} (hb : Below W.heap.size W W') :
  ∀ (ts : List TypeId) (vs : List Value) (ds : List (DataW H)) (ps : List MemPlace),ts.all (fun t => Tryz.prog.readableRec t && decide (t < Tryz.prog.types.size)) = true ->
   DataW.TrodAll enc Tryz.prog W 0 (fun _ => true) true ts vs ds ps -> (∀ x ∈ ps,x.block < W.heap.size) -> DataW.TrodAll enc Tryz.prog W' 0 (fun b => decide (b < W.heap.size)) true ts vs ds ps:=by
 intro ts
 induction ts with
 | nil =>
   intro vs ds ps _ h _
   obtain ⟨rfl,rfl,rfl⟩:=trodAll_nil h
   exact rfl
 | cons t ts ih =>
   intro vs ds ps ht h hlt
   obtain ⟨v,vs,d,ds,p,q,rfl,rfl,rfl,h1,h2⟩:=trodAll_cons h
   rw [List.all_cons,Bool.and_eq_true,Bool.and_eq_true,decide_eq_true_eq] at ht
   exact ⟨p,q,Below.trod laidOut ht.1.1 ht.1.2 h1 hb (fun x hx => hlt x (List.mem_append_left _ hx)),ih vs ds q ht.2 h2 (fun x hx => hlt x (List.mem_append_right _ hx)),rfl⟩
theorem rF {H : Type} {enc : TypeId × Value -> H} {f : Func} {s : ChangeSpec} {W W' : World} {args : Array Value} {ds gs : List (DataW H)} {before : List MemPlace}
  (RH : f.resultTypes = #[4]) (hvars : s.vars = []) (hps : f.params.toList.all (fun t => Tryz.prog.readableRec t && decide (t < Tryz.prog.types.size)) = true)
  (hW : DataW.Whole enc Tryz.prog f.params.toList s.vars false W args.toList ds gs before) (hfn : (s.fn H (ds ++ [])) = { results:=[.lit (.bool true)],args:=ds })
  (hb : Below W.heap.size W W') : s.post enc Tryz.prog f false true false false W args (.bool true) W':=by
 have xQ:=hW
 obtain ⟨p,q,hA,hV,rfl,hfz,iP⟩:=hW
 rw [hvars] at hV
 obtain ⟨rfl,rfl⟩:=trodVars_none hV
 have hlt:=fun x (hx : x ∈ p ++ []) => xQ.lt x hx
 refine ⟨ds,[],p ++ [],[],p,[],xQ,?_,?_,?_,Below.frame hb _,(fun h => by cases h)⟩
 ·rw [hfn,RH]
  exact trodAll_mk1 (shut_bool Tryz.underlying4 true)
 ·rw [hfn]
  exact yY hb _ _ _ _ hps hA (fun x hx => hlt x (List.mem_append_left _ hx))
 ·rw [hvars,hfn]
  exact rfl
/-! ### Arguments opened -/
structure Er (w : World) (te : TypeId) (tg : List CK) (xs : List (ai tg)) (I : RI) : Prop where
 ar : Ar.aA w (fun _ => I) [] ⟨te,tg,xs⟩
 lt : I.aC = false -> I.b < w.heap.size
section
variable {H : Type} {enc : TypeId × Value -> H} {w : World} {base : Nat} {spare : Nat -> Bool} {held : Bool}
theorem agA {r : Reach} {b0 : Nat} {v : Value} {d : DataW H} {p : List MemPlace} (hv : Value.okWide Tryz.prog w r b0 3 v) (h : DataW.Trod enc Tryz.prog w base spare held 3 v d p) : ∃ n,v = .int .i64 n:=by
 obtain ⟨n,rfl,_,_,hw⟩:=open_int Tryz.underlying3 hv h
 exact ⟨n,rfl⟩
theorem kf {fuel : Nat} {c : Value} {y : DataW H × List MemPlace} (h : DataW.trod enc Tryz.prog w base spare held fuel 3 [c] = some y) : ∃ n,c = .int .i64 n:=by
 obtain ⟨n,h1,_,hw⟩:=DataW.trod_int Tryz.underlying3 h
 simp only [List.cons.injEq,and_true] at h1
 exact ⟨n,h1⟩
theorem EZ {tg : List CK} {te : TypeId} {m : Nat} {X : Nat -> ai tg} {i : Nat} (hi : i < m) : Ar.get ⟨te,tg,(List.range m).map X⟩ i = X i:=by
 simp only [Ar.get,List.getD_eq_getElem?_getD,List.getElem?_map,List.getElem?_range hi,Option.map_some,Option.getD_some]
theorem KF {t te : TypeId} {tg : List CK} (ci : tg ≠ []) (ht : Tryz.prog.underlying t = some (.slice te)) (hc : Tryz.prog.cellsOf te = tg.length)
  (hone : ∀ (fuel : Nat) (cs : List Value) (y : DataW H × List MemPlace),cs.length = tg.length -> DataW.trod enc Tryz.prog w base spare held fuel te cs = some y -> ∃ x : ai tg,∀ η i,ai.aA η [] i 0 tg x cs)
  {fuel : Nat} {v : Value} {y : DataW H × List MemPlace} (hlt : ∀ a len cap,v = .slice (some a) len cap -> a.spot = none /\ a.block < w.heap.size) (h : DataW.trod enc Tryz.prog w base spare held fuel t [v] = some y) :
  ∃ (I : RI) (xs : List (ai tg)),I.head 0 xs.length v /\ Er w te tg xs I:=by
 rcases Go.Deep.open_slice ht h with ⟨hv,_⟩ | ⟨a,len,cap,m,n,D,Pl,hv,_,hl,hm,Ns,_,hx⟩
 ·simp only [List.cons.injEq,and_true] at hv
  subst hv
  exact ⟨⟨0,0,tg.length,0,true⟩,[],⟨fun _ => ⟨rfl,_,rfl⟩,(fun h => by cases h)⟩,⟨ci,rfl,fun _ => rfl,(fun h => by cases h),fun i hi => by simp at hi⟩,(fun h => by cases h)⟩
 ·simp only [List.cons.injEq,and_true] at hv
  subst hv
  obtain ⟨hs,hb⟩:=hlt a len cap rfl
  have hml : len <= m:=by rw [Ns];split <;> omega
  rw [hc] at hx
  have hX : ∀ i,i < len -> ∃ p : ai tg × List Value,w.cells? base (a.add (i * tg.length)) tg.length = some p.2 /\ ∀ η j,ai.aA η [] j 0 tg p.1 p.2:=fun i hi => by
   obtain ⟨cs,h1,h2⟩:=hx i (by omega)
   obtain ⟨_,h3,_⟩:=World.cells?_some h1
   obtain ⟨x,h4⟩:=hone _ _ _ h3 h2
   exact ⟨(x,cs),h1,h4⟩
  have : Inhabited (ai tg × List Value):=⟨(ai.d tg,[])⟩
  obtain ⟨X,hX⟩:=Go.Deep.choose_lt hX
  obtain ⟨blk,off,spot⟩:=a
  obtain rfl : spot = none:=hs
  refine ⟨⟨blk,off,tg.length,cap,false⟩,(List.range len).map fun i => (X i).1,⟨(fun h => by cases h),fun _ => ⟨by simpa using hl,some ⟨blk,off,none⟩,by simp,fun _ => by simp [RI.at]⟩⟩,⟨ci,rfl,(fun h => by cases h),fun _ => by simpa using hl,fun i hi => ?_⟩,fun _ => hb⟩
  have hi' : i < len:=by simpa using hi
  obtain ⟨h1,h2⟩:=hX i hi'
  obtain ⟨_,h3,h4⟩:=World.cells?_some h1
  refine ⟨(X i).2,?_,fun s y hs => ?_⟩
  ·have:=EZ (te:=te) (X:=fun i => (X i).1) hi'
   rw [this]
   exact h2 _ _
  ·have dZ : s < tg.length:=by rw [<- h3];exact (List.getElem?_eq_some_iff.1 hs).1
   have:=h4 s dZ
   rw [hs] at this
   rw [<- this]
   congr 1
   show (⟨blk,off + (i * tg.length + s),none⟩ : Addr) = ((Addr.mk blk off none).add (i * tg.length)).add s
   rw [Addr.add_lit,Addr.add_lit,Nat.add_assoc]
theorem NN (fuel : Nat) (cs : List Value) (y : DataW H × List MemPlace) (hl : cs.length = kI.length) (h : DataW.trod enc Tryz.prog w base spare held fuel 3 cs = some y) : ∃ x : ai kI,∀ η i,ai.aA η [] i 0 kI x cs:=by
 match cs,hl with
 | [c],_ =>
   obtain ⟨n,rfl⟩:=kf h
   exact ⟨n,fun η i => ⟨_,rfl,rfl⟩⟩
theorem BS {r : Reach} {b0 : Nat} {t e : TypeId} (hu : Tryz.prog.underlying t = some (.slice e)) {v : Value} (hv : Cell.okWide Tryz.prog w r b0 t v) : ∀ a len cap,v = .slice (some a) len cap -> a.spot = none /\ a.block < w.heap.size:=by
 rintro a len cap rfl
 simp only [hu,Cell.okWide,Cell.ok] at hv
 obtain ⟨_,_,_,h1,row,cells,h2,_⟩:=hv
 refine ⟨h1,?_⟩
 unfold World.shape? at h2
 rcases Nat.lt_or_ge a.block w.heap.size with h3 | h3
 ·exact h3
 ·rw [Array.getElem?_eq_none h3] at h2;simp at h2
theorem CR {r : Reach} {b0 : Nat} {t e : TypeId} (hu : Tryz.prog.underlying t = some (.slice e)) {v : Value} (hv : Value.okWide Tryz.prog w r b0 t v) : Cell.okWide Tryz.prog w r b0 t v:=by
 simpa only [Value.okWide,hu] using hv
theorem NO (fuel : Nat) (cs : List Value) (y : DataW H × List MemPlace) (hl : cs.length = kW.length) (h : DataW.trod enc Tryz.prog w base spare held fuel 46 cs = some y) : ∃ x : ai kW,∀ η i,ai.aA η [] i 0 kW x cs:=by
 match cs,hl with
 | [c0,c1,c2],_ =>
   obtain ⟨xs,n,_,_,_,hlen,hf⟩:=DataW.trod_struct Tryz.underlying46 h
   match xs,hlen with
   | [y0,y1,y2],_ =>
     have e : Tryz.prog.cellsOf 3 = 1:=by kernel_rfl
     obtain ⟨a,rfl⟩:=kf (c:=c0) (by simpa [e] using hf 0 _ rfl)
     obtain ⟨b,rfl⟩:=kf (c:=c1) (by simpa [e] using hf 1 _ rfl)
     obtain ⟨c,rfl⟩:=kf (c:=c2) (by simpa [e] using hf 2 _ rfl)
     exact ⟨(a,b,c),fun η i => ⟨_,_,rfl,rfl,_,_,rfl,rfl,_,rfl,rfl⟩⟩
theorem FD : Tryz.prog.cellTypes Tryz.prog.depth 24 = some [3,3,22]:=by kernel_rfl
theorem IE {r : Reach} {b0 : Nat} {v : Value} {d : DataW H} {p : List MemPlace} (hv : Value.okWide Tryz.prog w r b0 24 v) (h : DataW.Trod enc Tryz.prog w base spare held 24 v d p) :
  ∃ (S P : Int) (c : Value) (I : RI) (xs : List (ai kW)),v = .agg #[.int .i64 S,.int .i64 P,c] /\ I.head 0 xs.length c /\ Er w 46 kW xs I:=by
 have j6:=hv
 simp only [Value.okWide,Tryz.underlying24] at j6
 obtain ⟨cs,rfl,hsz,ts,hts,-,hrow⟩:=j6
 obtain rfl : ts = [3,3,22]:=Option.some.inj (hts.symm.trans FD)
 obtain ⟨l⟩:=cs
 have hl : l.length = 3:=hsz.trans (by kernel_rfl)
 match l,hl with
 | [c0,c1,c2],_ =>
   obtain ⟨fuel,hf⟩:=h
   obtain ⟨xs,n,_,_,_,hlen,hf⟩:=DataW.trod_struct Tryz.underlying24 hf
   match xs,hlen with
   | [y0,y1,y2],_ =>
     have e : Tryz.prog.cellsOf 3 = 1:=by kernel_rfl
     have e' : Tryz.prog.cellsOf 22 = 1:=by kernel_rfl
     obtain ⟨a,rfl⟩:=kf (c:=c0) (by simpa [e,Value.cells] using hf 0 _ rfl)
     obtain ⟨b,rfl⟩:=kf (c:=c1) (by simpa [e,Value.cells] using hf 1 _ rfl)
     obtain ⟨u,hu,hc⟩:=hrow 2 c2 rfl
     obtain rfl : (22 : TypeId) = u:=Option.some.inj hu
     obtain ⟨I,ys,h1,h2⟩:=KF (t:=22) (te:=46) (tg:=kW) (by simp [kW]) Tryz.underlying22 (by kernel_rfl) NO (BS Tryz.underlying22 hc) (v:=c2) (by simpa [e',Value.cells] using hf 2 _ rfl)
     exact ⟨a,b,c2,I,ys,rfl,h1,h2⟩
end
/-! ### A statement's walk -/
structure sN where
 te : TypeId
 tg : List CK
 xs : List (ai tg)
 I : RI
def sN.ok (w : World) (A : sN) : Prop:=aaa A.tg = true /\ Er w A.te A.tg A.xs A.I
def sN.Kz (A : sN) : az:=.arr A.te A.tg A.xs false false
def RZ : bn:=⟨0,fun _ => True,fun _ _ _ _ => trivial⟩
theorem ok_int {N : Nat} {ρ : Keys} (n : Int) : Tm.ok N ρ (.a (.v (.int .i64 n))) (.int .i64 n):=⟨rfl,rfl⟩
theorem Pf {N : Nat} {ρ : Keys} {r n : Nat} {v : Value} (hr : r < N) (h : (ρ r []).head 0 n v) : Tm.ok N ρ (.a (.sl r [] 0 n)) v:=⟨hr,h⟩
theorem Lz {N : Nat} {ρ : Keys} {r n : Nat} {S P : Int} {v : Value} (hr : r < N) (h : (ρ r []).head 0 n v) : Tm.ok N ρ (.agg [.v (.int .i64 S),.v (.int .i64 P),.sl r [] 0 n]) (.agg #[.int .i64 S,.int .i64 P,v]):=⟨[_,_,_],rfl,⟨rfl,rfl⟩,⟨rfl,rfl⟩,⟨hr,h⟩,trivial⟩
/-! ### The listed tables -/
def Pc : List (String × DataW Unit) := [("math/bits.deBruijn32tab", Rows.laid_math_bits_deBruijn32tab), ("math/bits.deBruijn64tab", Rows.laid_math_bits_deBruijn64tab), ("internal/strconv.uint64pow10", Rows.laid_internal_strconv_uint64pow10)]
def Pb : Nat -> Option (List Int)
 | 3 => some [1,10,100,1000,10000,100000,1000000,10000000,100000000,1000000000,10000000000,100000000000,1000000000000,10000000000000,100000000000000,1000000000000000,10000000000000000,100000000000000000,1000000000000000000,10000000000000000000]
 | 6 => some [0,1,28,2,29,14,24,3,30,22,20,15,25,17,4,8,31,27,13,23,21,19,16,7,26,12,18,6,11,5,10,9]
 | 7 => some [0,1,56,2,57,49,28,3,61,58,42,50,38,29,17,4,62,47,59,36,45,43,51,22,53,39,33,30,24,18,12,5,63,55,48,27,60,41,37,16,46,35,44,21,52,32,23,11,54,26,40,15,34,20,31,10,25,14,19,9,13,8,7,6]
 | _ => none
def NQ : Nat -> IntKind
 | 3 => .u64
 | _ => .u8
def A5 (g : Nat) (h : Array Obj) : Array Obj:=h.modify g fun o => match o,Pb g with
 | .cells _ t frozen,some zs => .cells (zs.map fun z => Value.int (NQ g) z).toArray t frozen
 | o,_ => o
noncomputable def dR (os : Os) : World :=
 { World.holding Tryz.prog os ⟨#[],#[],[]⟩ with heap:=A5 7 (A5 6 (A5 3 (World.holding Tryz.prog os ⟨#[],#[],[]⟩).heap)) }
theorem B8 (os : Os) (args : Array Value) : ((dR os).forCall (fun _ _ => 0) ⟨#[],args,[]⟩).variablesB Tryz.checked.prog = true:=by kernel_rfl
theorem B7 (os : Os) (args : Array Value) : ((((dR os).forCall (fun _ _ => 0) ⟨#[],args,[]⟩).heap.toList.drop Tryz.checked.prog.globals.size).take ((begin Tryz.checked.prog (fun _ _ => 0) default).world.heap.size - Tryz.checked.prog.globals.size) =
   (begin Tryz.checked.prog (fun _ _ => 0) default).world.heap.toList.drop Tryz.checked.prog.globals.size):=by kernel_rfl
theorem B6 (os : Os) (args : Array Value) : laidMet Tryz.prog Pc ((dR os).forCall (fun _ _ => 0) ⟨#[],args,[]⟩).memory :=
 laidMet_of_run' 8 (by kernel_rfl) (by kernel_rfl)
def BC (t : TypeId) : Bool:=t == 3 || t == 24 || t == 49 || t == 46
theorem CS (t : TypeId) (h : BC t = true) : Tryz.prog.wantsStandIn t = false:=by
 simp only [BC,Bool.or_eq_true,beq_iff_eq] at h
 rcases h with ((rfl | rfl) | rfl) | rfl
 ·exact (show Tryz.prog.wantsStandIn 3 = false by kernel_rfl)
 ·exact (show Tryz.prog.wantsStandIn 24 = false by kernel_rfl)
 ·exact (show Tryz.prog.wantsStandIn 49 = false by kernel_rfl)
 ·exact (show Tryz.prog.wantsStandIn 46 = false by kernel_rfl)
theorem Fq : Tryz.pinned.checked.prog = Tryz.prog:=rfl
theorem NX : true = Tryz.prog.looks []:=by kernel_rfl
end Go.Proofs.YthejmgnkenokpaaGreatDoor
end
section
namespace Go.Proofs.YthejmgnkenokpaaGreatDoor
open Go Go.Sy Go.bK
variable {Γ : bn}
def J2 : au:=ja (fun n0 n1 n2 => [(aa.of (-1000 <= n0 /\ n0 <= 1000)),(aa.of (-1000 <= n1 /\ n1 <= 1000)),(aa.of (-1000 <= n2 /\ n2 <= 1000))]) (fun n0 n1 n2 => .bF [.a (vI (n1)),.a (vI (n2))])
theorem IJ : au.Ok Tryz.prog Γ 147 J2:=ep (d:=0) (aP aR.nil bq.nil false 0) (aj Tryz.func147 rfl rfl) (fun _ _ _ => rfl) (by
 intro n0 n1 n2 ⟨h0,h1,h2,_⟩
 simp only [aa.ae] at h0 h1 h2
 repeat' ((conv => whnf);first | apply And.intro | (intro h9;try (have h8 : (_ : Bool) = _:=h9;clear h8;revert h9;subst_vars;intro h9;exact aq h9 (by assumption))))
 all_goals try (conv => whnf)
 all_goals try first | (apply Tk.mk <;> kernel_rfl) | exact ⟨ah rfl⟩ | exact ⟨rfl⟩ | exact ⟨trivial⟩
 all_goals subst_vars
 all_goals try first | rfl | contradiction | (apply Ob.mk;first | (simp only [ag,ak,aa.ae];omega) | ((try simp only [aa.ae]);(try dsimp only);omega))
 all_goals first
  | trivial)
def J3 : au:=ja (fun n0 n1 n2 => [(aa.of (-1000 <= n0 /\ n0 <= 1000)),(aa.of (-1000 <= n1 /\ n1 <= 1000)),(aa.of (-1000 <= n2 /\ n2 <= 1000))]) (fun n0 n1 n2 => .bF [.a (vI (n2)),.a (vI (n0 - 1 - n1))])
theorem IK : au.Ok Tryz.prog Γ 148 J3:=ep (d:=0) (aP aR.nil bq.nil false 0) (aj Tryz.func148 rfl rfl) (fun _ _ _ => rfl) (by
 intro n0 n1 n2 ⟨h0,h1,h2,_⟩
 simp only [aa.ae] at h0 h1 h2
 repeat' ((conv => whnf);first | apply And.intro | (intro h9;try (have h8 : (_ : Bool) = _:=h9;clear h8;revert h9;subst_vars;intro h9;exact aq h9 (by assumption))))
 all_goals try (conv => whnf)
 all_goals try first | (apply Tk.mk <;> kernel_rfl) | exact ⟨ah rfl⟩ | exact ⟨rfl⟩ | exact ⟨trivial⟩
 all_goals subst_vars
 all_goals try first | rfl | contradiction | (apply Ob.mk;first | (simp only [ag,ak,aa.ae];omega) | ((try simp only [aa.ae]);(try dsimp only);omega))
 all_goals first
  | trivial)
def J4 : au:=ja (fun n0 n1 n2 => [(aa.of (-1000 <= n0 /\ n0 <= 1000)),(aa.of (-1000 <= n1 /\ n1 <= 1000)),(aa.of (-1000 <= n2 /\ n2 <= 1000))]) (fun n0 n1 n2 => .bF [.a (vI (n0 - 1 - n1)),.a (vI (n0 - 1 - n2))])
theorem IL : au.Ok Tryz.prog Γ 149 J4:=ep (d:=0) (aP aR.nil bq.nil false 0) (aj Tryz.func149 rfl rfl) (fun _ _ _ => rfl) (by
 intro n0 n1 n2 ⟨h0,h1,h2,_⟩
 simp only [aa.ae] at h0 h1 h2
 repeat' ((conv => whnf);first | apply And.intro | (intro h9;try (have h8 : (_ : Bool) = _:=h9;clear h8;revert h9;subst_vars;intro h9;exact aq h9 (by assumption))))
 all_goals try (conv => whnf)
 all_goals try first | (apply Tk.mk <;> kernel_rfl) | exact ⟨ah rfl⟩ | exact ⟨rfl⟩ | exact ⟨trivial⟩
 all_goals subst_vars
 all_goals try first | rfl | contradiction | (apply Ob.mk;first | (simp only [ag,ak,aa.ae];omega) | ((try simp only [aa.ae]);(try dsimp only);omega))
 all_goals first
  | trivial)
def J5 : au:=ja (fun n0 n1 n2 => [(aa.of (-1000 <= n0 /\ n0 <= 1000)),(aa.of (-1000 <= n1 /\ n1 <= 1000)),(aa.of (-1000 <= n2 /\ n2 <= 1000))]) (fun n0 n1 n2 => .bF [.a (vI (n0 - 1 - n2)),.a (vI (n1))])
theorem IM : au.Ok Tryz.prog Γ 150 J5:=ep (d:=0) (aP aR.nil bq.nil false 0) (aj Tryz.func150 rfl rfl) (fun _ _ _ => rfl) (by
 intro n0 n1 n2 ⟨h0,h1,h2,_⟩
 simp only [aa.ae] at h0 h1 h2
 repeat' ((conv => whnf);first | apply And.intro | (intro h9;try (have h8 : (_ : Bool) = _:=h9;clear h8;revert h9;subst_vars;intro h9;exact aq h9 (by assumption))))
 all_goals try (conv => whnf)
 all_goals try first | (apply Tk.mk <;> kernel_rfl) | exact ⟨ah rfl⟩ | exact ⟨rfl⟩ | exact ⟨trivial⟩
 all_goals subst_vars
 all_goals try first | rfl | contradiction | (apply Ob.mk;first | (simp only [ag,ak,aa.ae];omega) | ((try simp only [aa.ae]);(try dsimp only);omega))
 all_goals first
  | trivial)
def J6 : au:=ja (fun n0 n1 n2 => [(aa.of (-1000 <= n0 /\ n0 <= 1000)),(aa.of (-1000 <= n1 /\ n1 <= 1000)),(aa.of (-1000 <= n2 /\ n2 <= 1000))]) (fun n0 n1 n2 => .bF [.a (vI (n1)),.a (vI (n0 - 1 - n2))])
theorem IN : au.Ok Tryz.prog Γ 151 J6:=ep (d:=0) (aP aR.nil bq.nil false 0) (aj Tryz.func151 rfl rfl) (fun _ _ _ => rfl) (by
 intro n0 n1 n2 ⟨h0,h1,h2,_⟩
 simp only [aa.ae] at h0 h1 h2
 repeat' ((conv => whnf);first | apply And.intro | (intro h9;try (have h8 : (_ : Bool) = _:=h9;clear h8;revert h9;subst_vars;intro h9;exact aq h9 (by assumption))))
 all_goals try (conv => whnf)
 all_goals try first | (apply Tk.mk <;> kernel_rfl) | exact ⟨ah rfl⟩ | exact ⟨rfl⟩ | exact ⟨trivial⟩
 all_goals subst_vars
 all_goals try first | rfl | contradiction | (apply Ob.mk;first | (simp only [ag,ak,aa.ae];omega) | ((try simp only [aa.ae]);(try dsimp only);omega))
 all_goals first
  | trivial)
def J7 : au:=ja (fun n0 n1 n2 => [(aa.of (-1000 <= n0 /\ n0 <= 1000)),(aa.of (-1000 <= n1 /\ n1 <= 1000)),(aa.of (-1000 <= n2 /\ n2 <= 1000))]) (fun n0 n1 n2 => .bF [.a (vI (n2)),.a (vI (n1))])
theorem IP : au.Ok Tryz.prog Γ 152 J7:=ep (d:=0) (aP aR.nil bq.nil false 0) (aj Tryz.func152 rfl rfl) (fun _ _ _ => rfl) (by
 intro n0 n1 n2 ⟨h0,h1,h2,_⟩
 simp only [aa.ae] at h0 h1 h2
 repeat' ((conv => whnf);first | apply And.intro | (intro h9;try (have h8 : (_ : Bool) = _:=h9;clear h8;revert h9;subst_vars;intro h9;exact aq h9 (by assumption))))
 all_goals try (conv => whnf)
 all_goals try first | (apply Tk.mk <;> kernel_rfl) | exact ⟨ah rfl⟩ | exact ⟨rfl⟩ | exact ⟨trivial⟩
 all_goals subst_vars
 all_goals try first | rfl | contradiction | (apply Ob.mk;first | (simp only [ag,ak,aa.ae];omega) | ((try simp only [aa.ae]);(try dsimp only);omega))
 all_goals first
  | trivial)
def J8 : au:=ja (fun n0 n1 n2 => [(aa.of (-1000 <= n0 /\ n0 <= 1000)),(aa.of (-1000 <= n1 /\ n1 <= 1000)),(aa.of (-1000 <= n2 /\ n2 <= 1000))]) (fun n0 n1 n2 => .bF [.a (vI (n0 - 1 - n1)),.a (vI (n2))])
theorem IQ : au.Ok Tryz.prog Γ 153 J8:=ep (d:=0) (aP aR.nil bq.nil false 0) (aj Tryz.func153 rfl rfl) (fun _ _ _ => rfl) (by
 intro n0 n1 n2 ⟨h0,h1,h2,_⟩
 simp only [aa.ae] at h0 h1 h2
 repeat' ((conv => whnf);first | apply And.intro | (intro h9;try (have h8 : (_ : Bool) = _:=h9;clear h8;revert h9;subst_vars;intro h9;exact aq h9 (by assumption))))
 all_goals try (conv => whnf)
 all_goals try first | (apply Tk.mk <;> kernel_rfl) | exact ⟨ah rfl⟩ | exact ⟨rfl⟩ | exact ⟨trivial⟩
 all_goals subst_vars
 all_goals try first | rfl | contradiction | (apply Ob.mk;first | (simp only [ag,ak,aa.ae];omega) | ((try simp only [aa.ae]);(try dsimp only);omega))
 all_goals first
  | trivial)
def J9 : au:=ja (fun n0 n1 n2 => [(aa.of (-1000 <= n0 /\ n0 <= 1000)),(aa.of (-1000 <= n1 /\ n1 <= 1000)),(aa.of (-1000 <= n2 /\ n2 <= 1000))]) (fun n0 n1 n2 => .bF [.a (vI (n0 - 1 - n2)),.a (vI (n0 - 1 - n1))])
theorem IR : au.Ok Tryz.prog Γ 154 J9:=ep (d:=0) (aP aR.nil bq.nil false 0) (aj Tryz.func154 rfl rfl) (fun _ _ _ => rfl) (by
 intro n0 n1 n2 ⟨h0,h1,h2,_⟩
 simp only [aa.ae] at h0 h1 h2
 repeat' ((conv => whnf);first | apply And.intro | (intro h9;try (have h8 : (_ : Bool) = _:=h9;clear h8;revert h9;subst_vars;intro h9;exact aq h9 (by assumption))))
 all_goals try (conv => whnf)
 all_goals try first | (apply Tk.mk <;> kernel_rfl) | exact ⟨ah rfl⟩ | exact ⟨rfl⟩ | exact ⟨trivial⟩
 all_goals subst_vars
 all_goals try first | rfl | contradiction | (apply Ob.mk;first | (simp only [ag,ak,aa.ae];omega) | ((try simp only [aa.ae]);(try dsimp only);omega))
 all_goals first
  | trivial)
def uG : au:=.new fun args _ K => match args with
 | [] => K ⟨[],.agg [.fn 147 [],.fn 148 [],.fn 149 [],.fn 150 [],.fn 151 [],.fn 152 [],.fn 153 [],.fn 154 []]⟩
 | _ => False
theorem yJ : au.Ok Tryz.prog Γ 118 uG:=au.fM (d:=0) (aP aR.nil bq.nil false 0) (aj Tryz.func118 rfl rfl) (by
 intro args rg K hC
 split at hC
 next =>
  refine ⟨[],[],[],⟨trivial,fun r g hg => by cases hg⟩,bu K,?_,fun x st h => h⟩
  repeat' ((conv => whnf);(first | apply And.intro | intro _))
  all_goals try (conv => whnf)
  all_goals exact .base ⟨_,[],hC,trivial,rfl,⟨⟨rfl,rfl⟩,⟨rfl,rfl⟩,⟨rfl,rfl⟩,⟨rfl,rfl⟩,⟨rfl,rfl⟩,⟨rfl,rfl⟩,⟨rfl,rfl⟩,⟨rfl,rfl⟩,trivial⟩⟩
 next => exact hC.elim)
end Go.Proofs.YthejmgnkenokpaaGreatDoor
end
section
namespace Go.Proofs.YthejmgnkenokpaaGreatDoor
open Go Go.Sy Go.bK
variable {Γ : bn}
noncomputable def C5 : List (Nat × au):=[(118,uG),(147,J2),(148,J3),(149,J4),(150,J5),(151,J6),(152,J7),(153,J8),(154,J9)]
theorem Eo : aR Tryz.prog Γ C5:=(((((((((aR.nil.cons (aj Tryz.func154 rfl rfl).fn IR).cons (aj Tryz.func153 rfl rfl).fn IQ).cons (aj Tryz.func152 rfl rfl).fn IP).cons (aj Tryz.func151 rfl rfl).fn IN).cons (aj Tryz.func150 rfl rfl).fn IM).cons (aj Tryz.func149 rfl rfl).fn IL).cons (aj Tryz.func148 rfl rfl).fn IK).cons (aj Tryz.func147 rfl rfl).fn IJ).cons (aj Tryz.func118 rfl rfl).fn yJ)
def Js (id : Nat) : Option (List Nat):=match Nat.beq id 1 with | true => some [1,4,5,6,7,8,9,10,0,2,3,11,12,13,14,15,16] | false => none
noncomputable def IY : Env:={ jV.env C5 [] false 0 with ord:=Js }
theorem CJ : aL Tryz.prog Γ IY:=(aP Eo bq.nil false 0).Ju _
theorem gw (n t x : Nat) : aX n t x = (((lW n t (x / n) (x % n)).1 * n + (lW n t (x / n) (x % n)).2 : Nat) : Int):=rfl
def ke : au:=ja (fun n t x => [(aa.of (1 <= n /\ n <= 6)),(aa.of (0 <= t /\ t <= 7)),(aa.of (0 <= x /\ x < n * n))]) (fun n t x => .a (vI (aX n t x)))
theorem iK : au.Ok Tryz.prog Γ 83 ke:=ep (d:=0) CJ (aj Tryz.func83 rfl rfl) (fun _ _ _ => rfl) (by
 intro n t x ⟨hn,ht,hx,_⟩
 simp only [aa.ae] at hn ht hx
 have en : n = 1 \/ n = 2 \/ n = 3 \/ n = 4 \/ n = 5 \/ n = 6:=by omega
 have et : t = 0 \/ t = 1 \/ t = 2 \/ t = 3 \/ t = 4 \/ t = 5 \/ t = 6 \/ t = 7:=by omega
 obtain ⟨k,rfl⟩ : ∃ k : Nat,x = (k : Int):=⟨x.toNat,by omega⟩
 rcases en with rfl | rfl | rfl | rfl | rfl | rfl
 ·have f1 : (k : Int).tdiv 1 = ((k / 1 : Nat) : Int):=Int.ofNat_tdiv k 1
  have f2 : (k : Int).tmod 1 = ((k % 1 : Nat) : Int):=Int.ofNat_tmod k 1
  rcases et with rfl | rfl | rfl | rfl | rfl | rfl | rfl | rfl
  all_goals
   repeat' ((conv => whnf);first | apply And.intro | (intro h9;try (have h8 : (_ : Bool) = _:=h9;clear h8;revert h9;subst_vars;intro h9;exact aq h9 (by assumption))))
   all_goals try (conv => whnf)
   all_goals try first | (apply Tk.mk <;> kernel_rfl) | exact ⟨ah rfl⟩ | exact ⟨rfl⟩ | exact ⟨trivial⟩
   all_goals subst_vars
   all_goals try first | rfl | contradiction | (apply Ob.mk;first | (simp only [ag,ak,aa.ae];omega) | ((try simp only [aa.ae]);(try dsimp only);omega))
   all_goals first
    | (refine Eq.trans ?_ (gw _ _ _).symm;simp only [lW];omega)
 ·have f1 : (k : Int).tdiv 2 = ((k / 2 : Nat) : Int):=Int.ofNat_tdiv k 2
  have f2 : (k : Int).tmod 2 = ((k % 2 : Nat) : Int):=Int.ofNat_tmod k 2
  rcases et with rfl | rfl | rfl | rfl | rfl | rfl | rfl | rfl
  all_goals
   repeat' ((conv => whnf);first | apply And.intro | (intro h9;try (have h8 : (_ : Bool) = _:=h9;clear h8;revert h9;subst_vars;intro h9;exact aq h9 (by assumption))))
   all_goals try (conv => whnf)
   all_goals try first | (apply Tk.mk <;> kernel_rfl) | exact ⟨ah rfl⟩ | exact ⟨rfl⟩ | exact ⟨trivial⟩
   all_goals subst_vars
   all_goals try first | rfl | contradiction | (apply Ob.mk;first | (simp only [ag,ak,aa.ae];omega) | ((try simp only [aa.ae]);(try dsimp only);omega))
   all_goals first
    | (refine Eq.trans ?_ (gw _ _ _).symm;simp only [lW];omega)
 ·have f1 : (k : Int).tdiv 3 = ((k / 3 : Nat) : Int):=Int.ofNat_tdiv k 3
  have f2 : (k : Int).tmod 3 = ((k % 3 : Nat) : Int):=Int.ofNat_tmod k 3
  rcases et with rfl | rfl | rfl | rfl | rfl | rfl | rfl | rfl
  all_goals
   repeat' ((conv => whnf);first | apply And.intro | (intro h9;try (have h8 : (_ : Bool) = _:=h9;clear h8;revert h9;subst_vars;intro h9;exact aq h9 (by assumption))))
   all_goals try (conv => whnf)
   all_goals try first | (apply Tk.mk <;> kernel_rfl) | exact ⟨ah rfl⟩ | exact ⟨rfl⟩ | exact ⟨trivial⟩
   all_goals subst_vars
   all_goals try first | rfl | contradiction | (apply Ob.mk;first | (simp only [ag,ak,aa.ae];omega) | ((try simp only [aa.ae]);(try dsimp only);omega))
   all_goals first
    | (refine Eq.trans ?_ (gw _ _ _).symm;simp only [lW];omega)
 ·have f1 : (k : Int).tdiv 4 = ((k / 4 : Nat) : Int):=Int.ofNat_tdiv k 4
  have f2 : (k : Int).tmod 4 = ((k % 4 : Nat) : Int):=Int.ofNat_tmod k 4
  rcases et with rfl | rfl | rfl | rfl | rfl | rfl | rfl | rfl
  all_goals
   repeat' ((conv => whnf);first | apply And.intro | (intro h9;try (have h8 : (_ : Bool) = _:=h9;clear h8;revert h9;subst_vars;intro h9;exact aq h9 (by assumption))))
   all_goals try (conv => whnf)
   all_goals try first | (apply Tk.mk <;> kernel_rfl) | exact ⟨ah rfl⟩ | exact ⟨rfl⟩ | exact ⟨trivial⟩
   all_goals subst_vars
   all_goals try first | rfl | contradiction | (apply Ob.mk;first | (simp only [ag,ak,aa.ae];omega) | ((try simp only [aa.ae]);(try dsimp only);omega))
   all_goals first
    | (refine Eq.trans ?_ (gw _ _ _).symm;simp only [lW];omega)
 ·have f1 : (k : Int).tdiv 5 = ((k / 5 : Nat) : Int):=Int.ofNat_tdiv k 5
  have f2 : (k : Int).tmod 5 = ((k % 5 : Nat) : Int):=Int.ofNat_tmod k 5
  rcases et with rfl | rfl | rfl | rfl | rfl | rfl | rfl | rfl
  all_goals
   repeat' ((conv => whnf);first | apply And.intro | (intro h9;try (have h8 : (_ : Bool) = _:=h9;clear h8;revert h9;subst_vars;intro h9;exact aq h9 (by assumption))))
   all_goals try (conv => whnf)
   all_goals try first | (apply Tk.mk <;> kernel_rfl) | exact ⟨ah rfl⟩ | exact ⟨rfl⟩ | exact ⟨trivial⟩
   all_goals subst_vars
   all_goals try first | rfl | contradiction | (apply Ob.mk;first | (simp only [ag,ak,aa.ae];omega) | ((try simp only [aa.ae]);(try dsimp only);omega))
   all_goals first
    | (refine Eq.trans ?_ (gw _ _ _).symm;simp only [lW];omega)
 ·have f1 : (k : Int).tdiv 6 = ((k / 6 : Nat) : Int):=Int.ofNat_tdiv k 6
  have f2 : (k : Int).tmod 6 = ((k % 6 : Nat) : Int):=Int.ofNat_tmod k 6
  rcases et with rfl | rfl | rfl | rfl | rfl | rfl | rfl | rfl
  all_goals
   repeat' ((conv => whnf);first | apply And.intro | (intro h9;try (have h8 : (_ : Bool) = _:=h9;clear h8;revert h9;subst_vars;intro h9;exact aq h9 (by assumption))))
   all_goals try (conv => whnf)
   all_goals try first | (apply Tk.mk <;> kernel_rfl) | exact ⟨ah rfl⟩ | exact ⟨rfl⟩ | exact ⟨trivial⟩
   all_goals subst_vars
   all_goals try first | rfl | contradiction | (apply Ob.mk;first | (simp only [ag,ak,aa.ae];omega) | ((try simp only [aa.ae]);(try dsimp only);omega))
   all_goals first
    | (refine Eq.trans ?_ (gw _ _ _).symm;simp only [lW];omega))
end Go.Proofs.YthejmgnkenokpaaGreatDoor
end
section
namespace Go.Proofs.YthejmgnkenokpaaGreatDoor
open Go Go.Sy Go.bK
variable {Γ : bn}
def cz (n t x : Int) : Int × Int:=if aQ n 1 6 = true /\ aQ t 0 7 = true /\ aQ x 0 (n * n - 1) = true then (aX n t x,0) else (0,1)
theorem mw {n t x : Int} (h : aQ n 1 6 = false \/ aQ t 0 7 = false \/ aQ x 0 (n * n - 1) = false) : cz n t x = (0,1):=by
 unfold cz
 rw [if_neg]
 rintro ⟨h1,h2,h3⟩
 rcases h with h | h | h
 ·rw [h1] at h;cases h
 ·rw [h2] at h;cases h
 ·rw [h3] at h;cases h
theorem BY {n t x : Int} (h1 : aQ n 1 6 = true) (h2 : aQ t 0 7 = true) (h3 : aQ x 0 (n * n - 1) = true) : cz n t x = (aX n t x,0):=if_pos ⟨h1,h2,h3⟩
theorem sJ {n : Int} (h : 1 <= n /\ n <= 6) : 1 <= n * n /\ n * n <= 36:=by
 have en : n = 1 \/ n = 2 \/ n = 3 \/ n = 4 \/ n = 5 \/ n = 6:=by omega
 rcases en with rfl | rfl | rfl | rfl | rfl | rfl <;> exact ⟨by decide,by decide⟩
def gK : au:=ja (fun _ _ _ => []) (fun n lo hi => bl (aQ n lo hi))
theorem fw : au.Ok Tryz.prog Γ 59 gK:=ep (d:=0) (aP aR.nil bq.nil false 0) (aj Tryz.func59 rfl rfl) (fun _ _ _ => rfl) (by
 intro n lo hi _
 repeat' ((conv => whnf);(first | apply And.intro | intro _))
 all_goals try (conv => whnf)
 all_goals try exact Tk.mk (by kernel_rfl)
 all_goals subst_vars
 all_goals (simp_all [aQ] <;> omega))
def mg : au:=ja (fun _ _ _ => []) (fun n lo hi => bl (aQ n lo hi))
theorem jx : au.Ok Tryz.prog Γ 21 mg:=ep (d:=0) (aP aR.nil bq.nil false 0) (aj Tryz.func21 rfl rfl) (fun _ _ _ => rfl) (by
 intro n lo hi _
 repeat' ((conv => whnf);(first | apply And.intro | intro _))
 all_goals try (conv => whnf)
 all_goals try exact Tk.mk (by kernel_rfl)
 all_goals subst_vars
 all_goals (simp_all [aQ] <;> omega))
def mC : au:=fN (fun _ => []) (fun n => bl (aQ n 0 7))
noncomputable def KX : List (Nat × au):=[(59,gK)]
theorem Em : aR Tryz.prog Γ KX:=(aR.nil.cons (aj Tryz.func59 rfl rfl).fn fw)
theorem kE : au.Ok Tryz.prog Γ 66 mC:=y9 (d:=0) (aP Em bq.nil false 0) (aj Tryz.func66 rfl rfl) (fun _ => rfl) (by
 intro n _
 repeat' ((conv => whnf);first | apply And.intro | (intro h9;try (have h8 : (_ : Bool) = _:=h9;clear h8;revert h9;subst_vars;intro h9;exact aq h9 (by assumption))))
 all_goals try (conv => whnf)
 all_goals try first | (apply Tk.mk <;> kernel_rfl) | exact ⟨ah rfl⟩ | exact ⟨rfl⟩ | exact ⟨trivial⟩
 all_goals subst_vars
 all_goals try first | rfl | contradiction | (apply Ob.mk;first | (simp only [ag,ak,aa.ae];omega) | ((try simp only [aa.ae]);(try dsimp only);omega)))
def zN : au:=ja (fun _ _ _ => []) (fun n t x => .bF [.a (vI (cz n t x).1),.a (vI (cz n t x).2)])
noncomputable def ON : List (Nat × au):=[(59,gK),(83,ke),(66,mC)]
theorem Iq : aR Tryz.prog Γ ON:=(((aR.nil.cons (aj Tryz.func66 rfl rfl).fn kE).cons (aj Tryz.func83 rfl rfl).fn iK).cons (aj Tryz.func59 rfl rfl).fn fw)
theorem xy : au.Ok Tryz.prog Γ 43 zN:=ep (d:=0) (aP Iq bq.nil false 0) (aj Tryz.func43 rfl rfl) (fun _ _ _ => rfl) (by
 intro n t x _
 cases h1 : aQ n 1 6
 ·have e1 : (!aQ n 1 6) = true:=by rw [h1];rfl
  rw [mw (.inl h1)]
  repeat' ((conv => whnf);first | apply And.intro | (intro h9;try (have h8 : (_ : Bool) = _:=h9;clear h8;revert h9;subst_vars;intro h9;exact aq h9 (by assumption))))
  all_goals try (conv => whnf)
  all_goals try first | (apply Tk.mk <;> kernel_rfl) | exact ⟨ah rfl⟩ | exact ⟨rfl⟩ | exact ⟨trivial⟩
  all_goals subst_vars
  all_goals try first | rfl | contradiction | (apply Ob.mk;first | (simp only [ag,ak,aa.ae];omega) | ((try simp only [aa.ae]);(try dsimp only);omega))
  all_goals first
   | trivial
 have e1 : (!aQ n 1 6) = false:=by rw [h1];rfl
 have q1:=bA.1 h1
 cases h2 : aQ t 0 7
 ·have e2 : (!aQ t 0 7) = true:=by rw [h2];rfl
  rw [mw (.inr (.inl h2))]
  repeat' ((conv => whnf);first | apply And.intro | (intro h9;try (have h8 : (_ : Bool) = _:=h9;clear h8;revert h9;subst_vars;intro h9;exact aq h9 (by assumption))))
  all_goals try (conv => whnf)
  all_goals try first | (apply Tk.mk <;> kernel_rfl) | exact ⟨ah rfl⟩ | exact ⟨rfl⟩ | exact ⟨trivial⟩
  all_goals subst_vars
  all_goals try first | rfl | contradiction | (apply Ob.mk;first | (simp only [ag,ak,aa.ae];omega) | ((try simp only [aa.ae]);(try dsimp only);omega))
  all_goals first
   | trivial
 have e2 : (!aQ t 0 7) = false:=by rw [h2];rfl
 have q2:=bA.1 h2
 have q4 : 1 <= n * n /\ n * n <= 36:=sJ q1
 cases h3 : aQ x 0 (n * n - 1)
 ·have e3 : (!aQ x 0 (n * n - 1)) = true:=by rw [h3];rfl
  rw [mw (.inr (.inr h3))]
  repeat' ((conv => whnf);first | apply And.intro | (intro h9;try (have h8 : (_ : Bool) = _:=h9;clear h8;revert h9;subst_vars;intro h9;exact aq h9 (by assumption))))
  all_goals try (conv => whnf)
  all_goals try first | (apply Tk.mk <;> kernel_rfl) | exact ⟨ah rfl⟩ | exact ⟨rfl⟩ | exact ⟨trivial⟩
  all_goals subst_vars
  all_goals try first | rfl | contradiction | (apply Ob.mk;first | (simp only [ag,ak,aa.ae];omega) | ((try simp only [aa.ae]);(try dsimp only);omega))
  all_goals first
   | trivial
 have e3 : (!aQ x 0 (n * n - 1)) = false:=by rw [h3];rfl
 have q3:=bA.1 h3
 rw [BY h1 h2 h3]
 repeat' ((conv => whnf);first | apply And.intro | (intro h9;try (have h8 : (_ : Bool) = _:=h9;clear h8;revert h9;subst_vars;intro h9;exact aq h9 (by assumption))))
 all_goals try (conv => whnf)
 all_goals try first | (apply Tk.mk <;> kernel_rfl) | exact ⟨ah rfl⟩ | exact ⟨rfl⟩ | exact ⟨trivial⟩
 all_goals subst_vars
 all_goals try first | rfl | contradiction | (apply Ob.mk;first | (simp only [ag,ak,aa.ae];omega) | ((try simp only [aa.ae]);(try dsimp only);omega))
 all_goals first
  | trivial)
end Go.Proofs.YthejmgnkenokpaaGreatDoor
end
section
namespace Go.Proofs.YthejmgnkenokpaaGreatDoor
open Go Go.Sy Go.bK
variable {Γ : bn}
noncomputable def Mg : List (Nat × au):=[(83,ke)]
theorem KU : aR Tryz.prog Γ Mg:=(aR.nil.cons (aj Tryz.func83 rfl rfl).fn iK)
noncomputable def Da : List (Nat × Body):=[(82,bo Tryz.f82),(117,bo Tryz.f117)]
theorem EA : bq Tryz.prog Da:=((bq.nil.cons (cg Tryz.func117 rfl rfl)).cons (cg Tryz.func82 rfl rfl))
noncomputable def OW : Env:=jV.env Mg Da false 0
theorem IW : aL Tryz.prog Γ OW:=aP KU EA false 0
def gG (a b i k : Nat) : Bool:=dG k fun x => td 3 i x == td 3 b (td 3 a x)
theorem vN {a b i k : Nat} : gG a b i (k + 1) = (gG a b i k && (td 3 i k == td 3 b (td 3 a k))):=by
 unfold gG dG
 rw [List.range_succ,List.all_append]
 simp
theorem K8 {a b i : Nat} (ha : a < 8) (hb : b < 8) (hi : i < 8) (h : gG a b i 9 = true) : (i : Int) = bJ a b:=by
 have h1 : agree a b i = true:=h
 rw [xk ha hb hi] at h1
 have:=eq_of_beq h1
 unfold bJ
 rw [this];rfl
theorem Gs {a b : Nat} (ha : a < 8) (hb : b < 8) (h : ∀ t,t < 8 -> agree a b t = false) : False:=by
 have:=h _ (og ha hb)
 rw [xk ha hb (og ha hb)] at this
 simp at this
theorem Pk {a b i k : Nat} (h : gG a b i k = false) : false = gG a b i (k + 1):=by rw [vN,h];rfl
theorem Pm {a b i k : Nat} (h : gG a b i k = true) : (aX 3 i k == aX 3 b (aX 3 a k)) = gG a b i (k + 1):=by
 rw [vN,h,Bool.true_and]
 have e : aX 3 b (aX 3 a k) = ((td 3 b (td 3 a k) : Nat) : Int):=rfl
 have e2 : aX 3 i k = ((td 3 i k : Nat) : Int):=rfl
 rw [e,e2]
 rw [Bool.eq_iff_iff,beq_iff_eq,beq_iff_eq]
 omega
def nk : au:=Kf (fun a b => [(aa.of (0 <= a /\ a <= 7)),(aa.of (0 <= b /\ b <= 7))]) (fun a b => .a (vI (bJ a b)))
attribute [local irreducible] aX bJ gG agree
theorem mB : au.Ok Tryz.prog Γ 84 nk:=An (d:=3) IW (aj Tryz.func84 rfl rfl) (fun _ _ => rfl) (by
 intro a b ⟨ha,hb,_⟩
 simp only [aa.ae] at ha hb
 obtain ⟨a,rfl⟩ : ∃ k : Nat,a = (k : Int):=⟨a.toNat,by omega⟩
 obtain ⟨b,rfl⟩ : ∃ k : Nat,b = (k : Int):=⟨b.toNat,by omega⟩
 repeat' ((conv => whnf);(first | apply And.intro | intro _))
 all_goals try (conv => whnf)
 refine ⟨Nat,fun i => i <= 8 /\ ∀ t,t < i -> agree a b t = false,fun i => ⟨aI 28 [2,3,8] [.a (.p 0 [] 0 0),.a (.p 1 [] 0 0),.a (vI i)],[],[.box true [vI a],.box true [vI b]]⟩,fun i => 8 - i,0,[],⟨Nat.zero_le _,fun t h => absurd h (Nat.not_lt_zero _)⟩,?_,?_⟩
 ·repeat' ((conv => whnf);(first | apply And.intro | intro _))
  all_goals first | rfl | trivial | exact ah rfl | exact aS ‹_› rfl | exact aT ‹_› rfl | ((repeat' first | rfl | constructor);done)
 rintro i ⟨hi,hno⟩
 by_cases hi1 : i < 8
 ·have p0 : decide ((i : Int) < 8) = true:=decide_eq_true (by omega)
  repeat' ((conv => whnf);first | apply And.intro | (intro h9;try (have h8 : (_ : Bool) = _:=h9;clear h8;revert h9;subst_vars;intro h9;exact aq h9 (by assumption))))
  all_goals try (conv => whnf)
  all_goals try first | (apply Tk.mk <;> kernel_rfl) | exact ⟨ah rfl⟩ | exact ⟨rfl⟩ | exact ⟨trivial⟩
  all_goals subst_vars
  all_goals try first | rfl | contradiction | (apply Ob.mk;first | (simp only [ag,ak,aa.ae];omega) | ((try simp only [aa.ae]);(try dsimp only);omega))
  ·trivial
  rename_i l fn T
  refine ⟨Nat,fun k => k <= 9,fun k => ⟨aI 15 [0,1,6,7] [.a (.yl 5),.a (.p 4 [] 0 0),.a (vI 9),.a (vI k)],[aI 28 [2,3,5,6,8] [.a (.p 0 [] 0 0),.a (.p 1 [] 0 0),.a (.p 2 [] 0 0),.a (.p 3 [] 0 0),.a (vI i)]],[.box true [vI a],.box true [vI b],.box true [vI i],.box true [.v (.bool (gG a b i k))],.box true [vI 3],.lp l (aI 28 [2,3,5,6,8] [.a (.p 0 [] 0 0),.a (.p 1 [] 0 0),.a (.p 2 [] 0 0),.a (.p 3 [] 0 0),.a (vI i)]) (ac5 Tryz.f84 0 fn T h9) .ready none]⟩,fun k => 9 - k,0,[],Nat.zero_le _,?_,?_⟩
  ·repeat' ((conv => whnf);(first | apply And.intro | intro _))
   all_goals first | rfl | trivial | exact ah rfl | exact aS ‹_› rfl | exact aT ‹_› rfl | ((repeat' first | rfl | constructor);done) | exact ⟨rfl,rfl,rfl,rfl,rfl⟩ | (unfold gG;rfl)
  rintro k hk
  by_cases cB : k < 9
  ·have p1 : decide ((k : Int) < 9) = true:=decide_eq_true (by omega)
   have g1 : aX 3 a k = ((td 3 a k : Nat) : Int):=by unfold aX;rfl
   have g2:=FA (n:=3) (a:=a) (x:=k) (by omega) (by omega) cB
   have g3 : aX 3 b (aX 3 a k) = ((td 3 b (td 3 a k) : Nat) : Int):=by unfold aX;rfl
   have n1:=@Pk a b i k
   have n2:=@Pm a b i k
   cases hs : gG a b i k
   ·repeat' ((conv => whnf);first | apply And.intro | (intro h9;try (have h8 : (_ : Bool) = _:=h9;clear h8;revert h9;subst_vars;intro h9;exact aq h9 (by assumption))))
    all_goals try (conv => whnf)
    all_goals try first | (apply Tk.mk <;> kernel_rfl) | exact ⟨ah rfl⟩ | exact ⟨rfl⟩ | exact ⟨trivial⟩
    all_goals subst_vars
    all_goals try first | rfl | contradiction | (apply Ob.mk;first | (simp only [ag,ak,aa.ae];omega) | ((try simp only [aa.ae]);(try dsimp only);omega))
    refine ⟨k + 1,[],cB,?_,by show 9 - (k + 1) < 9 - k;omega⟩
    repeat' ((conv => whnf);(first | apply And.intro | intro _))
    all_goals first | rfl | trivial | exact ah rfl | exact aS ‹_› rfl | exact aT ‹_› rfl | ((repeat' first | rfl | constructor);done) | exact ⟨rfl,rfl,rfl,rfl,rfl⟩ | exact n1 hs | exact (n1 hs).symm | exact n2 hs | exact (n2 hs).symm
   repeat' ((conv => whnf);first | apply And.intro | (intro h9;try (have h8 : (_ : Bool) = _:=h9;clear h8;revert h9;subst_vars;intro h9;exact aq h9 (by assumption))))
   all_goals try (conv => whnf)
   all_goals try first | (apply Tk.mk <;> kernel_rfl) | exact ⟨ah rfl⟩ | exact ⟨rfl⟩ | exact ⟨trivial⟩
   all_goals subst_vars
   all_goals try first | rfl | contradiction | (apply Ob.mk;first | (simp only [ag,ak,aa.ae];omega) | ((try simp only [aa.ae]);(try dsimp only);omega))
   refine ⟨k + 1,[],cB,?_,by show 9 - (k + 1) < 9 - k;omega⟩
   repeat' ((conv => whnf);(first | apply And.intro | intro _))
   all_goals first | rfl | trivial | exact ah rfl | exact aS ‹_› rfl | exact aT ‹_› rfl | ((repeat' first | rfl | constructor);done) | exact ⟨rfl,rfl,rfl,rfl,rfl⟩ | exact n1 hs | exact (n1 hs).symm | exact n2 hs | exact (n2 hs).symm
  have p1 : decide ((k : Int) < 9) = false:=decide_eq_false (by omega)
  obtain rfl : k = 9:=by omega
  cases hs : gG a b i 9
  ·repeat' ((conv => whnf);first | apply And.intro | (intro h9;try (have h8 : (_ : Bool) = _:=h9;clear h8;revert h9;subst_vars;intro h9;exact aq h9 (by assumption))))
   all_goals try (conv => whnf)
   all_goals try first | (apply Tk.mk <;> kernel_rfl) | exact ⟨ah rfl⟩ | exact ⟨rfl⟩ | exact ⟨trivial⟩
   all_goals subst_vars
   all_goals try first | rfl | contradiction | (apply Ob.mk;first | (simp only [ag,ak,aa.ae];omega) | ((try simp only [aa.ae]);(try dsimp only);omega))
   refine ⟨i + 1,[],⟨hi1,fun t ht => (Nat.lt_succ_iff_lt_or_eq.1 ht).elim (hno t) (fun e => e ▸ (show agree a b i = false by unfold agree;unfold gG at hs;exact hs))⟩,?_,by show 8 - (i + 1) < 8 - i;omega⟩
   repeat' ((conv => whnf);(first | apply And.intro | intro _))
   all_goals first | rfl | trivial | exact ah rfl | exact aS ‹_› rfl | exact aT ‹_› rfl | ((repeat' first | rfl | constructor);done)
  repeat' ((conv => whnf);first | apply And.intro | (intro h9;try (have h8 : (_ : Bool) = _:=h9;clear h8;revert h9;subst_vars;intro h9;exact aq h9 (by assumption))))
  all_goals try (conv => whnf)
  all_goals try first | (apply Tk.mk <;> kernel_rfl) | exact ⟨ah rfl⟩ | exact ⟨rfl⟩ | exact ⟨trivial⟩
  all_goals subst_vars
  all_goals try first | rfl | contradiction | (apply Ob.mk;first | (simp only [ag,ak,aa.ae];omega) | ((try simp only [aa.ae]);(try dsimp only);omega))
  exact K8 (by omega) (by omega) hi1 hs
 have p0 : decide ((i : Int) < 8) = false:=decide_eq_false (by omega)
 exact (Gs (a:=a) (b:=b) (by omega) (by omega) fun t ht => hno t (by omega)).elim)
end Go.Proofs.YthejmgnkenokpaaGreatDoor
end
section
namespace Go.Proofs.YthejmgnkenokpaaGreatDoor
open Go Go.Sy Go.bK
variable {Γ : bn}
theorem yb {a : Nat} (ha : a < 8) (h : ∀ t,t < 8 -> (cmp a t == 0) = false) : False:=by
 have:=h _ (gW ha).1
 rw [wK ha (gW ha).1] at this
 simp at this
def aY (a b : Int) : Int × Int:=match aQ a 0 7,aQ b 0 7 with | true,true => (bJ a b,0) | _,_ => (0,1)
attribute [local irreducible] aX bJ cD b9
def qq : au:=fN (fun a => [(aa.of (0 <= a /\ a <= 7))]) (fun a => .a (vI (cD a)))
noncomputable def Iv : List (Nat × au):=[(84,nk)]
theorem Cu : aR Tryz.prog Γ Iv:=(aR.nil.cons (aj Tryz.func84 rfl rfl).fn mB)
theorem qt : au.Ok Tryz.prog Γ 155 qq:=y9 (d:=0) (aP Cu bq.nil false 0) (aj Tryz.func155 rfl rfl) (fun _ => rfl) (by
 intro a ⟨ha,_⟩
 simp only [aa.ae] at ha
 obtain ⟨a,rfl⟩ : ∃ k : Nat,a = (k : Int):=⟨a.toNat,by omega⟩
 repeat' ((conv => whnf);(first | apply And.intro | intro _))
 all_goals try (conv => whnf)
 refine ⟨Nat,fun i => i <= 8 /\ ∀ t,t < i -> (cmp a t == 0) = false,fun i => ⟨aI 13 [0,4] [.a (vI a),.a (vI i)],[],[]⟩,fun i => 8 - i,0,[],⟨Nat.zero_le _,fun t h => absurd h (Nat.not_lt_zero _)⟩,?_,?_⟩
 ·repeat' ((conv => whnf);(first | apply And.intro | intro _))
  all_goals first | rfl | trivial | exact ah rfl | exact aS ‹_› rfl | exact aT ‹_› rfl | ((repeat' first | rfl | constructor);done)
 rintro i ⟨hi,hno⟩
 by_cases hi1 : i < 8
 ·have p0 : decide ((i : Int) < 8) = true:=decide_eq_true (by omega)
  have g1 : bJ a i = ((cmp a i : Nat) : Int):=by unfold bJ;rfl
  cases hs : cmp a i == 0
  ·have p1 : (bJ a i == 0) = false:=by rw [g1];rw [beq_eq_false_iff_ne] at hs ⊢;omega
   repeat' ((conv => whnf);first | apply And.intro | (intro h9;try (have h8 : (_ : Bool) = _:=h9;clear h8;revert h9;subst_vars;intro h9;exact aq h9 (by assumption))))
   all_goals try (conv => whnf)
   all_goals try first | (apply Tk.mk <;> kernel_rfl) | exact ⟨ah rfl⟩ | exact ⟨rfl⟩ | exact ⟨trivial⟩
   all_goals subst_vars
   all_goals try first | rfl | contradiction | (apply Ob.mk;first | (simp only [ag,ak,aa.ae];omega) | ((try simp only [aa.ae]);(try dsimp only);omega))
   refine ⟨i + 1,[],⟨hi1,fun t ht => (Nat.lt_succ_iff_lt_or_eq.1 ht).elim (hno t) (fun e => e ▸ hs)⟩,?_,by show 8 - (i + 1) < 8 - i;omega⟩
   repeat' ((conv => whnf);(first | apply And.intro | intro _))
   all_goals first | rfl | trivial | exact ah rfl | exact aS ‹_› rfl | exact aT ‹_› rfl | ((repeat' first | rfl | constructor);done)
  have p1 : (bJ a i == 0) = true:=by rw [g1];rw [beq_iff_eq] at hs ⊢;omega
  repeat' ((conv => whnf);first | apply And.intro | (intro h9;try (have h8 : (_ : Bool) = _:=h9;clear h8;revert h9;subst_vars;intro h9;exact aq h9 (by assumption))))
  all_goals try (conv => whnf)
  all_goals try first | (apply Tk.mk <;> kernel_rfl) | exact ⟨ah rfl⟩ | exact ⟨rfl⟩ | exact ⟨trivial⟩
  all_goals subst_vars
  all_goals try first | rfl | contradiction | (apply Ob.mk;first | (simp only [ag,ak,aa.ae];omega) | ((try simp only [aa.ae]);(try dsimp only);omega))
  all_goals (rw [wK (by omega) hi1] at hs;have:=eq_of_beq hs;unfold cD;rw [this];rfl)
 exact (yb (a:=a) (by omega) fun t ht => hno t (by omega)).elim)
def qm : au:=Kf (fun _ _ => []) (fun a b => .bF [.a (vI (aY a b).1),.a (vI (aY a b).2)])
noncomputable def Ik : List (Nat × au):=[(66,mC),(84,nk)]
theorem Cp : aR Tryz.prog Γ Ik:=((aR.nil.cons (aj Tryz.func84 rfl rfl).fn mB).cons (aj Tryz.func66 rfl rfl).fn kE)
theorem qn : au.Ok Tryz.prog Γ 44 qm:=An (d:=0) (aP Cp bq.nil false 0) (aj Tryz.func44 rfl rfl) (fun _ _ => rfl) (by
 intro a b _
 cases h1 : aQ a 0 7
 ·have e1 : (!aQ a 0 7) = true:=by rw [h1];rfl
  rw [show aY a b = (0,1) by unfold aY;rw [h1]]
  repeat' ((conv => whnf);first | apply And.intro | (intro h9;try (have h8 : (_ : Bool) = _:=h9;clear h8;revert h9;subst_vars;intro h9;exact aq h9 (by assumption))))
  all_goals try (conv => whnf)
  all_goals try first | (apply Tk.mk <;> kernel_rfl) | exact ⟨ah rfl⟩ | exact ⟨rfl⟩ | exact ⟨trivial⟩
  all_goals subst_vars
  all_goals try first | rfl | contradiction | (apply Ob.mk;first | (simp only [ag,ak,aa.ae];omega) | ((try simp only [aa.ae]);(try dsimp only);omega))
  all_goals first
   | trivial
 have e1 : (!aQ a 0 7) = false:=by rw [h1];rfl
 have q1:=bA.1 h1
 cases h2 : aQ b 0 7
 ·have e2 : (!aQ b 0 7) = true:=by rw [h2];rfl
  rw [show aY a b = (0,1) by unfold aY;rw [h1,h2]]
  repeat' ((conv => whnf);first | apply And.intro | (intro h9;try (have h8 : (_ : Bool) = _:=h9;clear h8;revert h9;subst_vars;intro h9;exact aq h9 (by assumption))))
  all_goals try (conv => whnf)
  all_goals try first | (apply Tk.mk <;> kernel_rfl) | exact ⟨ah rfl⟩ | exact ⟨rfl⟩ | exact ⟨trivial⟩
  all_goals subst_vars
  all_goals try first | rfl | contradiction | (apply Ob.mk;first | (simp only [ag,ak,aa.ae];omega) | ((try simp only [aa.ae]);(try dsimp only);omega))
  all_goals first
   | trivial
 have e2 : (!aQ b 0 7) = false:=by rw [h2];rfl
 have q2:=bA.1 h2
 rw [show aY a b = (bJ a b,0) by unfold aY;rw [h1,h2]]
 repeat' ((conv => whnf);first | apply And.intro | (intro h9;try (have h8 : (_ : Bool) = _:=h9;clear h8;revert h9;subst_vars;intro h9;exact aq h9 (by assumption))))
 all_goals try (conv => whnf)
 all_goals try first | (apply Tk.mk <;> kernel_rfl) | exact ⟨ah rfl⟩ | exact ⟨rfl⟩ | exact ⟨trivial⟩
 all_goals subst_vars
 all_goals try first | rfl | contradiction | (apply Ob.mk;first | (simp only [ag,ak,aa.ae];omega) | ((try simp only [aa.ae]);(try dsimp only);omega))
 all_goals first
  | trivial)
end Go.Proofs.YthejmgnkenokpaaGreatDoor
end
section
namespace Go.Proofs.YthejmgnkenokpaaGreatDoor
open Go Go.Sy Go.bK
variable {Γ : bn}
theorem LI {n t x : Nat} (fin : (b9 n t x (t % 4)).1 * n + (b9 n t x (t % 4)).2 = td n t x) : ((b9 n t x (t % 4)).1 : Int) * (n : Int) + ((b9 n t x (t % 4)).2 : Int) = aX n t x:=by
 have : aX n t x = ((td n t x : Nat) : Int):=rfl
 rw [this,<- fin];push_cast;rfl
theorem Pg {n t x : Nat} (h4 : t < 4) : b9 n t x 0 = (x / n,x % n):=by unfold b9;rw [if_pos h4];rfl
theorem Ph {n t x : Nat} (h4 : ¬ t < 4) : b9 n t x 0 = (x / n,n - 1 - x % n):=by unfold b9;rw [if_neg h4];rfl
attribute [local irreducible] aX b9
def nQ : au:=ja (fun n t x => [(aa.of (1 <= n /\ n <= 6)),(aa.of (0 <= t /\ t <= 7)),(aa.of (0 <= x /\ x < n * n))]) (fun n t x => .a (vI (aX n t x)))
theorem Z2 : au.Ok Tryz.prog Γ 63 nQ:=ep (d:=0) (aP aR.nil bq.nil false 0) (aj Tryz.func63 rfl rfl) (fun _ _ _ => rfl) (by
 intro n t x ⟨hn,ht,hx,_⟩
 simp only [aa.ae] at hn ht hx
 obtain ⟨n,rfl⟩ : ∃ k : Nat,n = (k : Int):=⟨n.toNat,by omega⟩
 obtain ⟨t,rfl⟩ : ∃ k : Nat,t = (k : Int):=⟨t.toNat,by omega⟩
 obtain ⟨x,rfl⟩ : ∃ k : Nat,x = (k : Int):=⟨x.toNat,by omega⟩
 have cq : x < n * n:=by have:=hx.2;exact_mod_cast this
 have Sq : x < 36:=Nat.lt_of_lt_of_le cq (Nat.mul_le_mul (by omega : n <= 6) (by omega : n <= 6))
 have f1 : (x : Int).tdiv (n : Int) = ((x / n : Nat) : Int):=Int.ofNat_tdiv x n
 have f2 : (x : Int).tmod (n : Int) = ((x % n : Nat) : Int):=Int.ofNat_tmod x n
 have f3 : (t : Int).tmod 4 = ((t % 4 : Nat) : Int):=Int.ofNat_tmod t 4
 have f4 : x / n < n:=Nat.div_lt_of_lt_mul cq
 have f5 : x % n < n:=Nat.mod_lt _ (by omega)
 have fl:=fun k => JE (n:=n) (t:=t) (x:=x) (by omega) cq k
 have fin:=JF (n:=n) (t:=t) (x:=x) (by omega) (by omega) cq
 have ff:=LI fin
 have fb : ((b9 n t x (t % 4)).1 : Int) * (n : Int) <= 36 /\ 0 <= ((b9 n t x (t % 4)).1 : Int) * (n : Int):=by
  have h1:=fl (t % 4)
  have h2 : (b9 n t x (t % 4)).1 * n <= 6 * 6:=Nat.mul_le_mul (by omega) (by omega)
  exact_mod_cast And.intro h2 (Nat.zero_le _)
 by_cases h4 : t < 4
 ·have p0 : decide ((t : Int) >= 4) = false:=decide_eq_false (by omega)
  have q0 : decide ((t : Int) < 4) = true:=decide_eq_true (by omega)
  have z0 : b9 n t x 0 = (x / n,x % n):=Pg h4
  generalize x / n = q at *
  generalize x % n = r at *
  have zs:=fun k => CT (n:=n) (x:=x) h4 k
  repeat' ((conv => whnf);first | apply And.intro | (intro h9;try (have h8 : (_ : Bool) = _:=h9;clear h8;revert h9;subst_vars;intro h9;exact aq h9 (by assumption))))
  all_goals try (conv => whnf)
  all_goals try first | (apply Tk.mk <;> kernel_rfl) | exact ⟨ah rfl⟩ | exact ⟨rfl⟩ | exact ⟨trivial⟩
  all_goals subst_vars
  all_goals try first | rfl | contradiction | (apply Ob.mk;first | (simp only [ag,ak,aa.ae];omega) | ((try simp only [aa.ae]);(try dsimp only);omega))
  refine ⟨Nat,fun k => k <= t % 4,fun k => ⟨aI 49 [0,1,7,8,9] [.a (vI n),.a (vI t),.a (vI ((b9 n t x k).1 : Int)),.a (vI ((b9 n t x k).2 : Int)),.a (vI (((t % 4 : Nat) : Int) - (k : Int)))],[],[]⟩,fun k => t % 4 - k,0,[],Nat.zero_le _,?_,?_⟩
  ·have e9 : ((t % 4 : Nat) : Int) = ((t % 4 : Nat) : Int) - ((0 : Nat) : Int):=by omega
   subst_vars
   repeat' ((conv => whnf);(first | apply And.intro | intro _))
   all_goals first | rfl | trivial | exact ah rfl | (rw [z0];exact f1) | (rw [z0];exact f2) | (rw [z0];show _ = ((n - 1 - r : Nat) : Int);omega) | exact f1 | exact f2 | exact e5.symm | (rw [f2];exact e5.symm) | (exact f3.trans e9) | (rw [f1];done) | omega
  rintro k hk
  have fk:=fl k
  by_cases cB : k < t % 4
  ·have p1 : decide (((t % 4 : Nat) : Int) - (k : Int) > 0) = true:=decide_eq_true (by omega)
   repeat' ((conv => whnf);first | apply And.intro | (intro h9;try (have h8 : (_ : Bool) = _:=h9;clear h8;revert h9;subst_vars;intro h9;exact aq h9 (by assumption))))
   all_goals try (conv => whnf)
   all_goals try first | (apply Tk.mk <;> kernel_rfl) | exact ⟨ah rfl⟩ | exact ⟨rfl⟩ | exact ⟨trivial⟩
   all_goals subst_vars
   all_goals try first | rfl | contradiction | (apply Ob.mk;first | (simp only [ag,ak,aa.ae];omega) | ((try simp only [aa.ae]);(try dsimp only);omega))
   refine ⟨k + 1,[],cB,?_,by show t % 4 - (k + 1) < t % 4 - k;omega⟩
   have e1 : ((n - 1 - (b9 n t x k).1 : Nat) : Int) = (n : Int) - 1 - ((b9 n t x k).1 : Int):=by omega
   have e2 : ((t % 4 : Nat) : Int) - ((k + 1 : Nat) : Int) = ((t % 4 : Nat) : Int) - (k : Int) - 1:=by omega
   repeat' ((conv => whnf);(first | apply And.intro | intro _))
   all_goals first | rfl | trivial | exact ah rfl | exact aS ‹_› rfl | exact aT ‹_› rfl | ((repeat' first | rfl | constructor);done) | exact e2.symm | exact e2 | (rw [zs k];done) | (rw [zs k];exact e1.symm) | (rw [zs k];exact e1) | omega
  have p1 : decide (((t % 4 : Nat) : Int) - (k : Int) > 0) = false:=decide_eq_false (by omega)
  obtain rfl : t % 4 = k:=by omega
  repeat' ((conv => whnf);first | apply And.intro | (intro h9;try (have h8 : (_ : Bool) = _:=h9;clear h8;revert h9;subst_vars;intro h9;exact aq h9 (by assumption))))
  all_goals try (conv => whnf)
  all_goals try first | (apply Tk.mk <;> kernel_rfl) | exact ⟨ah rfl⟩ | exact ⟨rfl⟩ | exact ⟨trivial⟩
  all_goals subst_vars
  all_goals try first | rfl | contradiction | (apply Ob.mk;first | (simp only [ag,ak,aa.ae];omega) | ((try simp only [aa.ae]);(try dsimp only);omega))
  all_goals exact ff
 have p0 : decide ((t : Int) >= 4) = true:=decide_eq_true (by omega)
 have q0 : decide ((t : Int) < 4) = false:=decide_eq_false (by omega)
 have z0 : b9 n t x 0 = (x / n,n - 1 - x % n):=Ph h4
 generalize x / n = q at *
 generalize x % n = r at *
 have e5 : ((n - 1 - r : Nat) : Int) = (n : Int) - 1 - (r : Int):=by omega
 have zs:=fun k => CU (n:=n) (x:=x) h4 k
 repeat' ((conv => whnf);first | apply And.intro | (intro h9;try (have h8 : (_ : Bool) = _:=h9;clear h8;revert h9;subst_vars;intro h9;exact aq h9 (by assumption))))
 all_goals try (conv => whnf)
 all_goals try first | (apply Tk.mk <;> kernel_rfl) | exact ⟨ah rfl⟩ | exact ⟨rfl⟩ | exact ⟨trivial⟩
 all_goals subst_vars
 all_goals try first | rfl | contradiction | (apply Ob.mk;first | (simp only [ag,ak,aa.ae];omega) | ((try simp only [aa.ae]);(try dsimp only);omega))
 refine ⟨Nat,fun k => k <= t % 4,fun k => ⟨aI 49 [0,1,7,8,9] [.a (vI n),.a (vI t),.a (vI ((b9 n t x k).1 : Int)),.a (vI ((b9 n t x k).2 : Int)),.a (vI (((t % 4 : Nat) : Int) - (k : Int)))],[],[]⟩,fun k => t % 4 - k,0,[],Nat.zero_le _,?_,?_⟩
 ·have e9 : ((t % 4 : Nat) : Int) = ((t % 4 : Nat) : Int) - ((0 : Nat) : Int):=by omega
  subst_vars
  repeat' ((conv => whnf);(first | apply And.intro | intro _))
  all_goals first | rfl | trivial | exact ah rfl | (rw [z0];exact f1) | (rw [z0];exact f2) | (rw [z0];show _ = ((n - 1 - r : Nat) : Int);omega) | exact f1 | exact f2 | exact e5.symm | (rw [f2];exact e5.symm) | (exact f3.trans e9) | (rw [f1];done) | omega
 rintro k hk
 have fk:=fl k
 by_cases cB : k < t % 4
 ·have p1 : decide (((t % 4 : Nat) : Int) - (k : Int) > 0) = true:=decide_eq_true (by omega)
  repeat' ((conv => whnf);first | apply And.intro | (intro h9;try (have h8 : (_ : Bool) = _:=h9;clear h8;revert h9;subst_vars;intro h9;exact aq h9 (by assumption))))
  all_goals try (conv => whnf)
  all_goals try first | (apply Tk.mk <;> kernel_rfl) | exact ⟨ah rfl⟩ | exact ⟨rfl⟩ | exact ⟨trivial⟩
  all_goals subst_vars
  all_goals try first | rfl | contradiction | (apply Ob.mk;first | (simp only [ag,ak,aa.ae];omega) | ((try simp only [aa.ae]);(try dsimp only);omega))
  refine ⟨k + 1,[],cB,?_,by show t % 4 - (k + 1) < t % 4 - k;omega⟩
  have e1 : ((n - 1 - (b9 n t x k).2 : Nat) : Int) = (n : Int) - 1 - ((b9 n t x k).2 : Int):=by omega
  have e2 : ((t % 4 : Nat) : Int) - ((k + 1 : Nat) : Int) = ((t % 4 : Nat) : Int) - (k : Int) - 1:=by omega
  repeat' ((conv => whnf);(first | apply And.intro | intro _))
  all_goals first | rfl | trivial | exact ah rfl | exact aS ‹_› rfl | exact aT ‹_› rfl | ((repeat' first | rfl | constructor);done) | exact e2.symm | exact e2 | (rw [zs k];done) | (rw [zs k];exact e1.symm) | (rw [zs k];exact e1) | omega
 have p1 : decide (((t % 4 : Nat) : Int) - (k : Int) > 0) = false:=decide_eq_false (by omega)
 obtain rfl : t % 4 = k:=by omega
 repeat' ((conv => whnf);first | apply And.intro | (intro h9;try (have h8 : (_ : Bool) = _:=h9;clear h8;revert h9;subst_vars;intro h9;exact aq h9 (by assumption))))
 all_goals try (conv => whnf)
 all_goals try first | (apply Tk.mk <;> kernel_rfl) | exact ⟨ah rfl⟩ | exact ⟨rfl⟩ | exact ⟨trivial⟩
 all_goals subst_vars
 all_goals try first | rfl | contradiction | (apply Ob.mk;first | (simp only [ag,ak,aa.ae];omega) | ((try simp only [aa.ae]);(try dsimp only);omega))
 all_goals exact ff)
end Go.Proofs.YthejmgnkenokpaaGreatDoor
end
section
namespace Go.Proofs.YthejmgnkenokpaaGreatDoor
open Go Go.Sy Go.bK
variable {Γ : bn}
theorem xb (n t x : Nat) : aX n t x = ((td n t x : Nat) : Int):=rfl
theorem zu {a b : Nat} (ha : a < 8) (hb : b < 8) (h : ∀ t,t < 8 -> kS a b t = false) : False:=by
 have:=h _ (og ha hb)
 rw [uu ha hb (og ha hb)] at this
 simp at this
attribute [local irreducible] aX bJ cD kS
def rY : au:=Kf (fun a b => [(aa.of (0 <= a /\ a <= 7)),(aa.of (0 <= b /\ b <= 7))]) (fun a b => .a (vI (bJ a b)))
noncomputable def Ma : List (Nat × au):=[(63,nQ)]
theorem FM : aR Tryz.prog Γ Ma:=(aR.nil.cons (aj Tryz.func63 rfl rfl).fn Z2)
theorem oR : au.Ok Tryz.prog Γ 134 rY:=An (d:=0) (aP FM bq.nil false 0) (aj Tryz.func134 rfl rfl) (fun _ _ => rfl) (by
 intro a b ⟨ha,hb,_⟩
 simp only [aa.ae] at ha hb
 obtain ⟨a,rfl⟩ : ∃ k : Nat,a = (k : Int):=⟨a.toNat,by omega⟩
 obtain ⟨b,rfl⟩ : ∃ k : Nat,b = (k : Int):=⟨b.toNat,by omega⟩
 have g2:=FA (n:=4) (a:=a) (x:=1) (by omega) (by omega) (by omega)
 have g1 : aX 4 a 1 = ((td 4 a 1 : Nat) : Int):=xb 4 a 1
 have g3 : aX 4 b (aX 4 a 1) = ((td 4 b (td 4 a 1) : Nat) : Int):=by rw [g1];exact xb 4 b _
 repeat' ((conv => whnf);first | apply And.intro | (intro h9;try (have h8 : (_ : Bool) = _:=h9;clear h8;revert h9;subst_vars;intro h9;exact aq h9 (by assumption))))
 all_goals try (conv => whnf)
 all_goals try first | (apply Tk.mk <;> kernel_rfl) | exact ⟨ah rfl⟩ | exact ⟨rfl⟩ | exact ⟨trivial⟩
 all_goals subst_vars
 all_goals try first | rfl | contradiction | (apply Ob.mk;first | (simp only [ag,ak,aa.ae];omega) | ((try simp only [aa.ae]);(try dsimp only);omega))
 refine ⟨Nat,fun i => i <= 8 /\ ∀ t,t < i -> kS a b t = false,fun i => ⟨aI 20 [5,6] [.a (vI (aX 4 b (aX 4 a 1))),.a (vI i)],[],[]⟩,fun i => 8 - i,0,[],⟨Nat.zero_le _,fun t h => absurd h (Nat.not_lt_zero _)⟩,?_,?_⟩
 ·repeat' ((conv => whnf);(first | apply And.intro | intro _))
  all_goals first | rfl | trivial | exact ah rfl | exact aS ‹_› rfl | exact aT ‹_› rfl | ((repeat' first | rfl | constructor);done)
 rintro i ⟨hi,hno⟩
 by_cases hi1 : i < 8
 ·have p0 : decide ((i : Int) < 8) = true:=decide_eq_true (by omega)
  have g4 : aX 4 i 1 = ((td 4 i 1 : Nat) : Int):=xb 4 i 1
  cases hs : kS a b i
  ·have p1 : (aX 4 i 1 == aX 4 b (aX 4 a 1)) = false:=by rw [g4,g3];unfold kS at hs;rw [beq_eq_false_iff_ne] at hs ⊢;omega
   repeat' ((conv => whnf);first | apply And.intro | (intro h9;try (have h8 : (_ : Bool) = _:=h9;clear h8;revert h9;subst_vars;intro h9;exact aq h9 (by assumption))))
   all_goals try (conv => whnf)
   all_goals try first | (apply Tk.mk <;> kernel_rfl) | exact ⟨ah rfl⟩ | exact ⟨rfl⟩ | exact ⟨trivial⟩
   all_goals subst_vars
   all_goals try first | rfl | contradiction | (apply Ob.mk;first | (simp only [ag,ak,aa.ae];omega) | ((try simp only [aa.ae]);(try dsimp only);omega))
   refine ⟨i + 1,[],⟨hi1,fun t ht => (Nat.lt_succ_iff_lt_or_eq.1 ht).elim (hno t) (fun e => e ▸ hs)⟩,?_,by show 8 - (i + 1) < 8 - i;omega⟩
   repeat' ((conv => whnf);(first | apply And.intro | intro _))
   all_goals first | rfl | trivial | exact ah rfl | exact aS ‹_› rfl | exact aT ‹_› rfl | ((repeat' first | rfl | constructor);done)
  have p1 : (aX 4 i 1 == aX 4 b (aX 4 a 1)) = true:=by rw [g4,g3];unfold kS at hs;rw [beq_iff_eq] at hs ⊢;omega
  repeat' ((conv => whnf);first | apply And.intro | (intro h9;try (have h8 : (_ : Bool) = _:=h9;clear h8;revert h9;subst_vars;intro h9;exact aq h9 (by assumption))))
  all_goals try (conv => whnf)
  all_goals try first | (apply Tk.mk <;> kernel_rfl) | exact ⟨ah rfl⟩ | exact ⟨rfl⟩ | exact ⟨trivial⟩
  all_goals subst_vars
  all_goals try first | rfl | contradiction | (apply Ob.mk;first | (simp only [ag,ak,aa.ae];omega) | ((try simp only [aa.ae]);(try dsimp only);omega))
  all_goals (rw [uu (by omega) (by omega) hi1] at hs;have:=eq_of_beq hs;unfold bJ;rw [this];rfl)
 exact (zu (a:=a) (b:=b) (by omega) (by omega) fun t ht => hno t (by omega)).elim)
def zF : au:=fN (fun a => [(aa.of (0 <= a /\ a <= 7))]) (fun a => .a (vI (cD a)))
noncomputable def OM : List (Nat × au):=[(134,rY)]
theorem Ij : aR Tryz.prog Γ OM:=(aR.nil.cons (aj Tryz.func134 rfl rfl).fn oR)
theorem xu : au.Ok Tryz.prog Γ 135 zF:=y9 (d:=0) (aP Ij bq.nil false 0) (aj Tryz.func135 rfl rfl) (fun _ => rfl) (by
 intro a ⟨ha,_⟩
 simp only [aa.ae] at ha
 obtain ⟨a,rfl⟩ : ∃ k : Nat,a = (k : Int):=⟨a.toNat,by omega⟩
 repeat' ((conv => whnf);(first | apply And.intro | intro _))
 all_goals try (conv => whnf)
 refine ⟨Nat,fun i => i <= 8 /\ ∀ t,t < i -> (cmp a t == 0) = false,fun i => ⟨aI 13 [0,3] [.a (vI a),.a (vI i)],[],[]⟩,fun i => 8 - i,0,[],⟨Nat.zero_le _,fun t h => absurd h (Nat.not_lt_zero _)⟩,?_,?_⟩
 ·repeat' ((conv => whnf);(first | apply And.intro | intro _))
  all_goals first | rfl | trivial | exact ah rfl | exact aS ‹_› rfl | exact aT ‹_› rfl | ((repeat' first | rfl | constructor);done)
 rintro i ⟨hi,hno⟩
 by_cases hi1 : i < 8
 ·have p0 : decide ((i : Int) < 8) = true:=decide_eq_true (by omega)
  have g1 : bJ a i = ((cmp a i : Nat) : Int):=by unfold bJ;rfl
  cases hs : cmp a i == 0
  ·have p1 : (bJ a i == 0) = false:=by rw [g1];rw [beq_eq_false_iff_ne] at hs ⊢;omega
   repeat' ((conv => whnf);first | apply And.intro | (intro h9;try (have h8 : (_ : Bool) = _:=h9;clear h8;revert h9;subst_vars;intro h9;exact aq h9 (by assumption))))
   all_goals try (conv => whnf)
   all_goals try first | (apply Tk.mk <;> kernel_rfl) | exact ⟨ah rfl⟩ | exact ⟨rfl⟩ | exact ⟨trivial⟩
   all_goals subst_vars
   all_goals try first | rfl | contradiction | (apply Ob.mk;first | (simp only [ag,ak,aa.ae];omega) | ((try simp only [aa.ae]);(try dsimp only);omega))
   refine ⟨i + 1,[],⟨hi1,fun t ht => (Nat.lt_succ_iff_lt_or_eq.1 ht).elim (hno t) (fun e => e ▸ hs)⟩,?_,by show 8 - (i + 1) < 8 - i;omega⟩
   repeat' ((conv => whnf);(first | apply And.intro | intro _))
   all_goals first | rfl | trivial | exact ah rfl | exact aS ‹_› rfl | exact aT ‹_› rfl | ((repeat' first | rfl | constructor);done)
  have p1 : (bJ a i == 0) = true:=by rw [g1];rw [beq_iff_eq] at hs ⊢;omega
  repeat' ((conv => whnf);first | apply And.intro | (intro h9;try (have h8 : (_ : Bool) = _:=h9;clear h8;revert h9;subst_vars;intro h9;exact aq h9 (by assumption))))
  all_goals try (conv => whnf)
  all_goals try first | (apply Tk.mk <;> kernel_rfl) | exact ⟨ah rfl⟩ | exact ⟨rfl⟩ | exact ⟨trivial⟩
  all_goals subst_vars
  all_goals try first | rfl | contradiction | (apply Ob.mk;first | (simp only [ag,ak,aa.ae];omega) | ((try simp only [aa.ae]);(try dsimp only);omega))
  all_goals (rw [wK (by omega) hi1] at hs;have:=eq_of_beq hs;unfold cD;rw [this];rfl)
 exact (yb (a:=a) (by omega) fun t ht => hno t (by omega)).elim)
end Go.Proofs.YthejmgnkenokpaaGreatDoor
end
