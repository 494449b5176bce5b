/-
  Texts of the claims on chapter 3: Yk1c. No condition: lemmas and contracts.
-/
import Derived.Test.YthejmgnkenokpaaGreatDoorProg
import Derived.Test.YthejmgnkenokpaaGreatDoorSy5c
import Derived.KernelRfl
import Derived.Test.YthejmgnkenokpaaGreatDoorPl1c
import Derived.Test.YthejmgnkenokpaaGreatDoorCards
import Derived.Test.YthejmgnkenokpaaGreatDoorTie
import Derived.ProofKit
import Derived.Deep.DeepHandedRow
import Derived.Deep.Slices
import Derived.Lib.LaidTab
import Derived.Lib.SmallJoins
import Derived.Stop.LaidErr
import Derived.Carry
set_option linter.all false
set_option maxRecDepth 100000
set_option maxHeartbeats 4000000
namespace Go.Proofs.YthejmgnkenokpaaGreatDoor
theorem ah {n m : Nat} (h : Nat.ble n m = true) : n <= m := Nat.le_of_ble_eq_true h
theorem aq {b x : Bool} {q : Prop} (h : b = x) (h' : b = !x) : q := by subst h; cases b <;> cases h'
theorem aS {r a n : Nat} (h : r ∈ [a]) (h' : Nat.ble (a + 1) n = true) : r < n := by cases List.mem_singleton.1 h; exact Nat.le_of_ble_eq_true h'
theorem aT {r a n : Nat} {l : List Nat} (h : r ∈ [a]) (h' : Nat.ble (Go.Sy.rn l a + 1) n = true) : Go.Sy.rn l r < n := by cases List.mem_singleton.1 h; exact Nat.le_of_ble_eq_true h'
end Go.Proofs.YthejmgnkenokpaaGreatDoor
section
namespace Go.Proofs.YthejmgnkenokpaaGreatDoor
open Go Go.Sy
def jV : wc where
 ty:=.node none (.node (some (.word)) (.node (some (.int .i64)) (.node (some (.st [(0,1),(1,1),(2,1),(3,1)] 4)) (.node (some (.word)) (.node (some (.word)) (.node none (.node (some (.word)) (.node (some (.word)) .nil .nil) .nil) (.node (some (.word)) .nil .nil)) (.node (some (.st [(0,1),(1,1)] 2)) (.node (some (.int .u64)) .nil .nil) .nil)) (.node (some (.st [(0,1),(1,1)] 2)) (.node (some (.word)) (.node (some (.map 3 4)) .nil .nil) (.node (some (.word)) .nil .nil)) (.node (some (.word)) (.node (some (.word)) .nil .nil) (.node (some (.ar 5 1 32)) .nil .nil)))) (.node (some (.st [(0,1),(1,1),(2,1)] 3)) (.node (some (.word)) (.node (some (.word)) (.node (some (.word)) .nil .nil) (.node (some (.word)) .nil .nil)) (.node (some (.word)) (.node (some (.sl 5 1)) .nil .nil) (.node (some (.ar 192 1 20)) .nil .nil))) (.node (some (.word)) (.node (some (.st [(0,1),(1,2)] 3)) .nil (.node (some (.word)) .nil .nil)) (.node (some (.word)) .nil (.node (some (.word)) .nil .nil))))) (.node (some (.str)) (.node (some (.st [(0,1)] 1)) (.node (some (.word)) (.node (some (.word)) (.node (some (.word)) .nil .nil) (.node (some (.word)) .nil .nil)) (.node (some (.word)) (.node (some (.word)) .nil .nil) (.node (some (.word)) .nil .nil))) (.node (some (.word)) (.node (some (.word)) (.node (some (.word)) .nil .nil) .nil) (.node (some (.sl 9 1)) (.node (some (.word)) .nil .nil) (.node (some (.st [(0,1),(1,1),(2,1),(3,1)] 4)) .nil .nil)))) (.node (some (.word)) (.node none (.node none (.node (some (.ar 4 1 2)) .nil .nil) (.node (some (.int .u64)) .nil .nil)) (.node (some (.st [(0,1),(1,2)] 3)) (.node (some (.word)) .nil .nil) (.node (some (.st [(0,1),(1,1)] 2)) .nil .nil))) (.node (some (.word)) (.node (some (.word)) (.node (some (.word)) .nil .nil) (.node (some (.word)) .nil .nil)) (.node (some (.word)) (.node (some (.word)) .nil .nil) (.node (some (.int .i32)) .nil .nil)))))) (.node (some (.int .u8)) (.node (some (.str)) (.node (some (.word)) (.node (some (.word)) (.node none (.node (some (.word)) .nil .nil) (.node (some (.word)) .nil .nil)) (.node (some (.word)) (.node (some (.word)) .nil .nil) (.node (some (.word)) .nil .nil))) (.node (some (.sl 3 1)) (.node (some (.word)) (.node (some (.st [(0,1),(1,1),(2,1)] 3)) .nil .nil) (.node (some (.word)) .nil .nil)) (.node (some (.word)) .nil (.node (some (.word)) .nil .nil)))) (.node (some (.sl 49 1)) (.node (some (.word)) (.node (some (.word)) (.node (some (.sl 87 3)) .nil .nil) (.node (some (.word)) .nil .nil)) (.node (some (.word)) (.node (some (.word)) .nil .nil) (.node (some (.ar 5 1 256)) .nil .nil))) (.node (some (.word)) (.node none .nil (.node (some (.st [(0,1),(1,1),(2,1)] 3)) .nil .nil)) (.node (some (.word)) (.node (some (.word)) .nil .nil) (.node (some (.int .u8)) .nil .nil))))) (.node (some (.st [(0,1),(1,1)] 2)) (.node (some (.int .i32)) (.node (some (.word)) (.node (some (.word)) (.node (some (.word)) .nil .nil) (.node (some (.int .i64)) .nil .nil)) (.node (some (.word)) (.node (some (.word)) .nil .nil) (.node (some (.st [(0,1)] 1)) .nil .nil))) (.node none (.node (some (.word)) (.node (some (.word)) .nil .nil) .nil) (.node (some (.word)) (.node (some (.word)) .nil .nil) (.node (some (.st [(0,0)] 0)) .nil .nil)))) (.node (some (.int .i64)) (.node (some (.st [(0,1),(1,1),(2,1)] 3)) (.node (some (.word)) (.node (some (.word)) .nil .nil) (.node (some (.word)) .nil .nil)) (.node (some (.st [(0,3),(3,1)] 4)) (.node (some (.st [(0,1)] 1)) .nil .nil) .nil)) (.node (some (.word)) (.node (some (.word)) (.node (some (.word)) .nil .nil) (.node (some (.ar 5 1 24)) .nil .nil)) (.node (some (.word)) (.node (some (.word)) .nil .nil) (.node (some (.st [(0,1),(1,1),(2,1),(3,1),(4,1),(5,1),(6,1),(7,1),(8,1),(9,1),(10,1)] 11)) .nil .nil))))))) (.node (some (.int .i64)) (.node (some (.bool)) (.node (some (.st [(0,1),(1,1),(2,1),(3,1)] 4)) (.node (some (.word)) (.node (some (.word)) (.node (some (.word)) (.node (some (.word)) .nil .nil) (.node (some (.int .u64)) .nil .nil)) (.node (some (.st [(0,1),(1,1)] 2)) (.node (some (.word)) .nil .nil) (.node (some (.word)) .nil .nil))) (.node (some (.st [(0,1),(1,1)] 2)) (.node (some (.word)) (.node (some (.st [(0,1),(1,1),(2,1)] 3)) .nil .nil) (.node (some (.word)) .nil .nil)) (.node (some (.word)) (.node (some (.word)) .nil .nil) (.node (some (.ar 5 1 64)) .nil .nil)))) (.node (some (.st [(0,1),(1,1),(2,1)] 3)) (.node (some (.word)) (.node (some (.word)) (.node (some (.word)) .nil .nil) (.node (some (.word)) .nil .nil)) (.node (some (.sl 109 4)) (.node (some (.word)) .nil .nil) (.node (some (.ar 5 1 65)) .nil .nil))) (.node (some (.word)) (.node (some (.word)) (.node (some (.word)) .nil .nil) (.node (some (.st [(0,1),(1,1),(2,1)] 3)) .nil .nil)) (.node none (.node (some (.word)) .nil .nil) (.node (some (.int .u8)) .nil .nil))))) (.node (some (.int .u64)) (.node (some (.word)) (.node none (.node none (.node (some (.word)) .nil .nil) (.node (some (.word)) .nil .nil)) (.node (some (.word)) (.node (some (.word)) .nil .nil) (.node (some (.st [(0,1)] 1)) .nil .nil))) (.node (some (.sl 48 2)) (.node (some (.word)) (.node (some (.word)) .nil .nil) (.node (some (.word)) .nil .nil)) (.node (some (.word)) (.node (some (.word)) .nil .nil) .nil))) (.node (some (.word)) (.node (some (.word)) (.node (some (.word)) (.node (some (.sl 52 1)) .nil .nil) (.node (some (.word)) .nil .nil)) (.node (some (.st [(0,3),(3,1)] 4)) (.node (some (.st [(0,1)] 1)) .nil .nil) (.node (some (.ar 235 2 16)) .nil .nil))) (.node none (.node none (.node (some (.word)) .nil .nil) (.node (some (.word)) .nil .nil)) (.node (some (.word)) (.node (some (.word)) .nil .nil) (.node (some (.int .i32)) .nil .nil)))))) (.node (some (.int .u8)) (.node (some (.str)) (.node (some (.st [(0,1)] 1)) (.node (some (.word)) (.node (some (.word)) (.node (some (.map 3 3)) .nil .nil) (.node (some (.word)) .nil .nil)) (.node (some (.word)) (.node (some (.word)) .nil .nil) (.node (some (.word)) .nil .nil))) (.node none (.node (some (.map 87 49)) (.node (some (.word)) .nil .nil) (.node (some (.word)) .nil .nil)) (.node (some (.word)) (.node (some (.word)) .nil .nil) (.node (some (.st [(0,1),(1,1),(2,1),(3,1)] 4)) .nil .nil)))) (.node (some (.word)) (.node (some (.word)) (.node (some (.word)) (.node (some (.word)) .nil .nil) (.node (some (.word)) .nil .nil)) (.node (some (.st [(0,1),(1,2)] 3)) .nil (.node (some (.st [(0,1),(1,1)] 2)) .nil .nil))) (.node (some (.word)) (.node (some (.word)) (.node (some (.word)) .nil .nil) (.node (some (.word)) .nil .nil)) (.node (some (.word)) (.node (some (.word)) .nil .nil) (.node (some (.word)) .nil .nil))))) (.node (some (.st [(0,1),(1,1)] 2)) (.node (some (.sl 46 3)) (.node none (.node (some (.word)) (.node (some (.word)) .nil .nil) .nil) (.node (some (.word)) (.node (some (.word)) .nil .nil) (.node (some (.word)) .nil .nil))) (.node (some (.word)) (.node (some (.st [(0,1),(1,2)] 3)) (.node (some (.word)) .nil .nil) (.node (some (.word)) .nil .nil)) (.node (some (.word)) (.node (some (.int .i64)) .nil .nil) (.node (some (.st [(0,0)] 0)) .nil .nil)))) (.node none (.node (some (.st [(0,1),(1,1),(2,1)] 3)) (.node (some (.word)) (.node (some (.sl 4 1)) .nil .nil) (.node (some (.word)) .nil .nil)) (.node (some (.word)) (.node (some (.ar 173 1 8)) .nil .nil) (.node (some (.word)) .nil .nil))) (.node (some (.word)) (.node (some (.word)) (.node (some (.word)) .nil .nil) (.node (some (.word)) .nil .nil)) (.node none (.node (some (.int .u32)) .nil .nil) (.node (some (.st [(0,1),(1,1),(2,1),(3,1),(4,1),(5,1),(6,1),(7,1),(8,1),(9,1),(10,1)] 11)) .nil .nil)))))))
 zero:=.node none (.node (some ([.v .nilFunc])) (.node (some ([.v (.int .i64 0)])) (.node (some ([.v (.int .i64 0),.v (.int .i64 0),.ff,.v (.int .u8 0)])) (.node (some ([.v (.pointer none)])) (.node (some ([.v .nilFunc])) (.node none (.node (some ([.v .nilFunc])) .nil .nil) (.node (some ([.v .nilFunc])) .nil .nil)) (.node (some ([.v (.slice none 0 0),.v (.slice none 0 0)])) (.node (some ([.v (.int .u64 0)])) .nil .nil) .nil)) (.node (some ([.v (.int .i64 0),.ff])) (.node (some ([.v .nilFunc])) (.node (some ([.v (.map none)])) .nil .nil) (.node (some ([.v (.pointer none)])) .nil .nil)) (.node (some ([.v .nilFunc])) (.node (some ([.v .nilFunc])) .nil .nil) (.node (some ([.v (.int .u8 0),.v (.int .u8 0),.v (.int .u8 0),.v (.int .u8 0),.v (.int .u8 0),.v (.int .u8 0),.v (.int .u8 0),.v (.int .u8 0),.v (.int .u8 0),.v (.int .u8 0),.v (.int .u8 0),.v (.int .u8 0),.v (.int .u8 0),.v (.int .u8 0),.v (.int .u8 0),.v (.int .u8 0),.v (.int .u8 0),.v (.int .u8 0),.v (.int .u8 0),.v (.int .u8 0),.v (.int .u8 0),.v (.int .u8 0),.v (.int .u8 0),.v (.int .u8 0),.v (.int .u8 0),.v (.int .u8 0),.v (.int .u8 0),.v (.int .u8 0),.v (.int .u8 0),.v (.int .u8 0),.v (.int .u8 0),.v (.int .u8 0)])) .nil .nil)))) (.node (some ([.v (.int .i64 0),.v (.int .i64 0),.v (.slice none 0 0)])) (.node (some ([.v .nilFunc])) (.node (some ([.v .nilFunc])) (.node (some ([.v .nilFunc])) .nil .nil) (.node (some ([.v .nilFunc])) .nil .nil)) (.node (some ([.v .nilFunc])) (.node (some ([.v (.slice none 0 0)])) .nil .nil) (.node (some ([.v (.int .u64 0),.v (.int .u64 0),.v (.int .u64 0),.v (.int .u64 0),.v (.int .u64 0),.v (.int .u64 0),.v (.int .u64 0),.v (.int .u64 0),.v (.int .u64 0),.v (.int .u64 0),.v (.int .u64 0),.v (.int .u64 0),.v (.int .u64 0),.v (.int .u64 0),.v (.int .u64 0),.v (.int .u64 0),.v (.int .u64 0),.v (.int .u64 0),.v (.int .u64 0),.v (.int .u64 0)])) .nil .nil))) (.node (some ([.v .nilFunc])) (.node (some ([.v (.int .i64 0),.v (.int .i64 0),.ff])) .nil (.node (some ([.v .nilFunc])) .nil .nil)) (.node (some ([.v .nilIface])) .nil (.node (some ([.v .nilFunc])) .nil .nil))))) (.node (some ([.v (.string ByteArray.empty)])) (.node (some ([.v (.pointer none)])) (.node (some ([.v .nilFunc])) (.node (some ([.v .nilFunc])) (.node (some ([.v .nilFunc])) .nil .nil) (.node (some ([.v .nilFunc])) .nil .nil)) (.node (some ([.v .nilFunc])) (.node (some ([.v .nilFunc])) .nil .nil) (.node (some ([.v (.pointer none)])) .nil .nil))) (.node (some ([.v .nilFunc])) (.node (some ([.v .nilFunc])) (.node (some ([.v .nilFunc])) .nil .nil) .nil) (.node (some ([.v (.slice none 0 0)])) (.node (some ([.v (.pointer none)])) .nil .nil) (.node (some ([.v (.pointer none),.v (.pointer none),.v (.pointer none),.v (.string ByteArray.empty)])) .nil .nil)))) (.node (some ([.v .nilFunc])) (.node none (.node none (.node (some ([.ff,.ff])) .nil .nil) (.node (some ([.v (.int .u64 0)])) .nil .nil)) (.node (some ([.v (.int .i64 0),.v (.int .i64 0),.ff])) (.node (some ([.v .nilFunc])) .nil .nil) (.node (some ([.v (.int .u8 0),.v (.int .u8 0)])) .nil .nil))) (.node (some ([.v .nilFunc])) (.node (some ([.v .nilFunc])) (.node (some ([.v .nilFunc])) .nil .nil) (.node (some ([.v (.pointer none)])) .nil .nil)) (.node (some ([.v .nilFunc])) (.node (some ([.v .nilFunc])) .nil .nil) (.node (some ([.v (.int .i32 0)])) .nil .nil)))))) (.node (some ([.v (.int .u8 0)])) (.node (some ([.v (.string ByteArray.empty)])) (.node (some ([.v (.pointer none)])) (.node (some ([.v .nilFunc])) (.node none (.node (some ([.v .nilFunc])) .nil .nil) (.node (some ([.v .nilFunc])) .nil .nil)) (.node (some ([.v .nilFunc])) (.node (some ([.v .nilFunc])) .nil .nil) (.node (some ([.v .nilFunc])) .nil .nil))) (.node (some ([.v (.slice none 0 0)])) (.node (some ([.v .nilFunc])) (.node (some ([.v (.slice none 0 0),.v (.slice none 0 0),.v (.map none)])) .nil .nil) (.node (some ([.v .nilFunc])) .nil .nil)) (.node (some ([.v .nilFunc])) .nil (.node (some ([.v .nilFunc])) .nil .nil)))) (.node (some ([.v (.slice none 0 0)])) (.node (some ([.v .nilFunc])) (.node (some ([.v .nilFunc])) (.node (some ([.v (.slice none 0 0)])) .nil .nil) (.node (some ([.v .nilFunc])) .nil .nil)) (.node (some ([.v .nilFunc])) (.node (some ([.v .nilFunc])) .nil .nil) (.node (some ([.v (.int .u8 0),.v (.int .u8 0),.v (.int .u8 0),.v (.int .u8 0),.v (.int .u8 0),.v (.int .u8 0),.v (.int .u8 0),.v (.int .u8 0),.v (.int .u8 0),.v (.int .u8 0),.v (.int .u8 0),.v (.int .u8 0),.v (.int .u8 0),.v (.int .u8 0),.v (.int .u8 0),.v (.int .u8 0),.v (.int .u8 0),.v (.int .u8 0),.v (.int .u8 0),.v (.int .u8 0),.v (.int .u8 0),.v (.int .u8 0),.v (.int .u8 0),.v (.int .u8 0),.v (.int .u8 0),.v (.int .u8 0),.v (.int .u8 0),.v (.int .u8 0),.v (.int .u8 0),.v (.int .u8 0),.v (.int .u8 0),.v (.int .u8 0),.v (.int .u8 0),.v (.int .u8 0),.v (.int .u8 0),.v (.int .u8 0),.v (.int .u8 0),.v (.int .u8 0),.v (.int .u8 0),.v (.int .u8 0),.v (.int .u8 0),.v (.int .u8 0),.v (.int .u8 0),.v (.int .u8 0),.v (.int .u8 0),.v (.int .u8 0),.v (.int .u8 0),.v (.int .u8 0),.v (.int .u8 0),.v (.int .u8 0),.v (.int .u8 0),.v (.int .u8 0),.v (.int .u8 0),.v (.int .u8 0),.v (.int .u8 0),.v (.int .u8 0),.v (.int .u8 0),.v (.int .u8 0),.v (.int .u8 0),.v (.int .u8 0),.v (.int .u8 0),.v (.int .u8 0),.v (.int .u8 0),.v (.int .u8 0),.v (.int .u8 0),.v (.int .u8 0),.v (.int .u8 0),.v (.int .u8 0),.v (.int .u8 0),.v (.int .u8 0),.v (.int .u8 0),.v (.int .u8 0),.v (.int .u8 0),.v (.int .u8 0),.v (.int .u8 0),.v (.int .u8 0),.v (.int .u8 0),.v (.int .u8 0),.v (.int .u8 0),.v (.int .u8 0),.v (.int .u8 0),.v (.int .u8 0),.v (.int .u8 0),.v (.int .u8 0),.v (.int .u8 0),.v (.int .u8 0),.v (.int .u8 0),.v (.int .u8 0),.v (.int .u8 0),.v (.int .u8 0),.v (.int .u8 0),.v (.int .u8 0),.v (.int .u8 0),.v (.int .u8 0),.v (.int .u8 0),.v (.int .u8 0),.v (.int .u8 0),.v (.int .u8 0),.v (.int .u8 0),.v (.int .u8 0),.v (.int .u8 0),.v (.int .u8 0),.v (.int .u8 0),.v (.int .u8 0),.v (.int .u8 0),.v (.int .u8 0),.v (.int .u8 0),.v (.int .u8 0),.v (.int .u8 0),.v (.int .u8 0),.v (.int .u8 0),.v (.int .u8 0),.v (.int .u8 0),.v (.int .u8 0),.v (.int .u8 0),.v (.int .u8 0),.v (.int .u8 0),.v (.int .u8 0),.v (.int .u8 0),.v (.int .u8 0),.v (.int .u8 0),.v (.int .u8 0),.v (.int .u8 0),.v (.int .u8 0),.v (.int .u8 0),.v (.int .u8 0),.v (.int .u8 0),.v (.int .u8 0),.v (.int .u8 0),.v (.int .u8 0),.v (.int .u8 0),.v (.int .u8 0),.v (.int .u8 0),.v (.int .u8 0),.v (.int .u8 0),.v (.int .u8 0),.v (.int .u8 0),.v (.int .u8 0),.v (.int .u8 0),.v (.int .u8 0),.v (.int .u8 0),.v (.int .u8 0),.v (.int .u8 0),.v (.int .u8 0),.v (.int .u8 0),.v (.int .u8 0),.v (.int .u8 0),.v (.int .u8 0),.v (.int .u8 0),.v (.int .u8 0),.v (.int .u8 0),.v (.int .u8 0),.v (.int .u8 0),.v (.int .u8 0),.v (.int .u8 0),.v (.int .u8 0),.v (.int .u8 0),.v (.int .u8 0),.v (.int .u8 0),.v (.int .u8 0),.v (.int .u8 0),.v (.int .u8 0),.v (.int .u8 0),.v (.int .u8 0),.v (.int .u8 0),.v (.int .u8 0),.v (.int .u8 0),.v (.int .u8 0),.v (.int .u8 0),.v (.int .u8 0),.v (.int .u8 0),.v (.int .u8 0),.v (.int .u8 0),.v (.int .u8 0),.v (.int .u8 0),.v (.int .u8 0),.v (.int .u8 0),.v (.int .u8 0),.v (.int .u8 0),.v (.int .u8 0),.v (.int .u8 0),.v (.int .u8 0),.v (.int .u8 0),.v (.int .u8 0),.v (.int .u8 0),.v (.int .u8 0),.v (.int .u8 0),.v (.int .u8 0),.v (.int .u8 0),.v (.int .u8 0),.v (.int .u8 0),.v (.int .u8 0),.v (.int .u8 0),.v (.int .u8 0),.v (.int .u8 0),.v (.int .u8 0),.v (.int .u8 0),.v (.int .u8 0),.v (.int .u8 0),.v (.int .u8 0),.v (.int .u8 0),.v (.int .u8 0),.v (.int .u8 0),.v (.int .u8 0),.v (.int .u8 0),.v (.int .u8 0),.v (.int .u8 0),.v (.int .u8 0),.v (.int .u8 0),.v (.int .u8 0),.v (.int .u8 0),.v (.int .u8 0),.v (.int .u8 0),.v (.int .u8 0),.v (.int .u8 0),.v (.int .u8 0),.v (.int .u8 0),.v (.int .u8 0),.v (.int .u8 0),.v (.int .u8 0),.v (.int .u8 0),.v (.int .u8 0),.v (.int .u8 0),.v (.int .u8 0),.v (.int .u8 0),.v (.int .u8 0),.v (.int .u8 0),.v (.int .u8 0),.v (.int .u8 0),.v (.int .u8 0),.v (.int .u8 0),.v (.int .u8 0),.v (.int .u8 0),.v (.int .u8 0),.v (.int .u8 0),.v (.int .u8 0),.v (.int .u8 0),.v (.int .u8 0),.v (.int .u8 0),.v (.int .u8 0),.v (.int .u8 0),.v (.int .u8 0),.v (.int .u8 0),.v (.int .u8 0),.v (.int .u8 0),.v (.int .u8 0),.v (.int .u8 0),.v (.int .u8 0),.v (.int .u8 0),.v (.int .u8 0),.v (.int .u8 0),.v (.int .u8 0),.v (.int .u8 0),.v (.int .u8 0),.v (.int .u8 0),.v (.int .u8 0)])) .nil .nil))) (.node (some ([.v .nilFunc])) (.node none .nil (.node (some ([.v (.string ByteArray.empty),.v (.string ByteArray.empty),.v .nilIface])) .nil .nil)) (.node (some ([.v .nilFunc])) (.node (some ([.v .nilFunc])) .nil .nil) (.node (some ([.v (.int .u8 0)])) .nil .nil))))) (.node (some ([.v (.string ByteArray.empty),.v (.int .u64 0)])) (.node (some ([.v (.int .i32 0)])) (.node (some ([.v .nilFunc])) (.node (some ([.v .nilFunc])) (.node (some ([.v .nilFunc])) .nil .nil) (.node (some ([.v (.int .i64 0)])) .nil .nil)) (.node (some ([.v .nilFunc])) (.node (some ([.v .nilFunc])) .nil .nil) (.node (some ([.v (.string ByteArray.empty)])) .nil .nil))) (.node none (.node (some ([.v .nilFunc])) (.node (some ([.v .nilFunc])) .nil .nil) .nil) (.node (some ([.v .nilFunc])) (.node (some ([.v .nilFunc])) .nil .nil) .nil))) (.node (some ([.v (.int .i64 0)])) (.node (some ([.v (.int .i64 0),.v (.int .i64 0),.v (.int .i64 0)])) (.node (some ([.v .nilFunc])) (.node (some ([.v .nilFunc])) .nil .nil) (.node (some ([.v .nilFunc])) .nil .nil)) (.node (some ([.v (.int .i64 0),.v (.int .i64 0),.ff,.v (.slice none 0 0)])) (.node (some ([.v .nilFunc])) .nil .nil) .nil)) (.node (some ([.v .nilFunc])) (.node (some ([.v .nilFunc])) (.node (some ([.v .nilFunc])) .nil .nil) (.node (some ([.v (.int .u8 0),.v (.int .u8 0),.v (.int .u8 0),.v (.int .u8 0),.v (.int .u8 0),.v (.int .u8 0),.v (.int .u8 0),.v (.int .u8 0),.v (.int .u8 0),.v (.int .u8 0),.v (.int .u8 0),.v (.int .u8 0),.v (.int .u8 0),.v (.int .u8 0),.v (.int .u8 0),.v (.int .u8 0),.v (.int .u8 0),.v (.int .u8 0),.v (.int .u8 0),.v (.int .u8 0),.v (.int .u8 0),.v (.int .u8 0),.v (.int .u8 0),.v (.int .u8 0)])) .nil .nil)) (.node (some ([.v .nilFunc])) (.node (some ([.v .nilFunc])) .nil .nil) (.node (some ([.v (.int .u64 0),.v (.int .u64 0),.v (.int .u32 0),.v (.int .u8 0),.v (.int .u8 0),.v (.int .u8 0),.v (.int .u8 0),.v .nilFunc,.v (.pointer none),.v (.int .i32 0),.v (.int .i32 0)])) .nil .nil))))))) (.node (some ([.v (.int .i64 0)])) (.node (some ([.ff])) (.node (some ([.v (.int .i64 0),.v (.int .i64 0),.ff,.v (.int .u8 0)])) (.node (some ([.v (.pointer none)])) (.node (some ([.v .nilFunc])) (.node (some ([.v .nilFunc])) (.node (some ([.v .nilFunc])) .nil .nil) (.node (some ([.v (.int .u64 0)])) .nil .nil)) (.node (some ([.v (.slice none 0 0),.v (.slice none 0 0)])) (.node (some ([.v .nilFunc])) .nil .nil) (.node (some ([.v .nilFunc])) .nil .nil))) (.node (some ([.v (.int .i64 0),.ff])) (.node (some ([.v .nilFunc])) (.node (some ([.v (.slice none 0 0),.v (.slice none 0 0),.v (.map none)])) .nil .nil) (.node (some ([.v .nilFunc])) .nil .nil)) (.node (some ([.v .nilFunc])) (.node (some ([.v .nilFunc])) .nil .nil) (.node (some ([.v (.int .u8 0),.v (.int .u8 0),.v (.int .u8 0),.v (.int .u8 0),.v (.int .u8 0),.v (.int .u8 0),.v (.int .u8 0),.v (.int .u8 0),.v (.int .u8 0),.v (.int .u8 0),.v (.int .u8 0),.v (.int .u8 0),.v (.int .u8 0),.v (.int .u8 0),.v (.int .u8 0),.v (.int .u8 0),.v (.int .u8 0),.v (.int .u8 0),.v (.int .u8 0),.v (.int .u8 0),.v (.int .u8 0),.v (.int .u8 0),.v (.int .u8 0),.v (.int .u8 0),.v (.int .u8 0),.v (.int .u8 0),.v (.int .u8 0),.v (.int .u8 0),.v (.int .u8 0),.v (.int .u8 0),.v (.int .u8 0),.v (.int .u8 0),.v (.int .u8 0),.v (.int .u8 0),.v (.int .u8 0),.v (.int .u8 0),.v (.int .u8 0),.v (.int .u8 0),.v (.int .u8 0),.v (.int .u8 0),.v (.int .u8 0),.v (.int .u8 0),.v (.int .u8 0),.v (.int .u8 0),.v (.int .u8 0),.v (.int .u8 0),.v (.int .u8 0),.v (.int .u8 0),.v (.int .u8 0),.v (.int .u8 0),.v (.int .u8 0),.v (.int .u8 0),.v (.int .u8 0),.v (.int .u8 0),.v (.int .u8 0),.v (.int .u8 0),.v (.int .u8 0),.v (.int .u8 0),.v (.int .u8 0),.v (.int .u8 0),.v (.int .u8 0),.v (.int .u8 0),.v (.int .u8 0),.v (.int .u8 0)])) .nil .nil)))) (.node (some ([.v (.int .i64 0),.v (.int .i64 0),.v (.slice none 0 0)])) (.node (some ([.v .nilFunc])) (.node (some ([.v .nilFunc])) (.node (some ([.v .nilFunc])) .nil .nil) (.node (some ([.v (.pointer none)])) .nil .nil)) (.node (some ([.v (.slice none 0 0)])) (.node (some ([.v .nilFunc])) .nil .nil) (.node (some ([.v (.int .u8 0),.v (.int .u8 0),.v (.int .u8 0),.v (.int .u8 0),.v (.int .u8 0),.v (.int .u8 0),.v (.int .u8 0),.v (.int .u8 0),.v (.int .u8 0),.v (.int .u8 0),.v (.int .u8 0),.v (.int .u8 0),.v (.int .u8 0),.v (.int .u8 0),.v (.int .u8 0),.v (.int .u8 0),.v (.int .u8 0),.v (.int .u8 0),.v (.int .u8 0),.v (.int .u8 0),.v (.int .u8 0),.v (.int .u8 0),.v (.int .u8 0),.v (.int .u8 0),.v (.int .u8 0),.v (.int .u8 0),.v (.int .u8 0),.v (.int .u8 0),.v (.int .u8 0),.v (.int .u8 0),.v (.int .u8 0),.v (.int .u8 0),.v (.int .u8 0),.v (.int .u8 0),.v (.int .u8 0),.v (.int .u8 0),.v (.int .u8 0),.v (.int .u8 0),.v (.int .u8 0),.v (.int .u8 0),.v (.int .u8 0),.v (.int .u8 0),.v (.int .u8 0),.v (.int .u8 0),.v (.int .u8 0),.v (.int .u8 0),.v (.int .u8 0),.v (.int .u8 0),.v (.int .u8 0),.v (.int .u8 0),.v (.int .u8 0),.v (.int .u8 0),.v (.int .u8 0),.v (.int .u8 0),.v (.int .u8 0),.v (.int .u8 0),.v (.int .u8 0),.v (.int .u8 0),.v (.int .u8 0),.v (.int .u8 0),.v (.int .u8 0),.v (.int .u8 0),.v (.int .u8 0),.v (.int .u8 0),.v (.int .u8 0)])) .nil .nil))) (.node (some ([.v .nilFunc])) (.node (some ([.v .nilFunc])) (.node (some ([.v .nilFunc])) .nil .nil) (.node (some ([.v (.string ByteArray.empty),.v (.string ByteArray.empty),.v .nilIface])) .nil .nil)) (.node none (.node (some ([.v .nilFunc])) .nil .nil) (.node (some ([.v (.int .u8 0)])) .nil .nil))))) (.node (some ([.v (.int .u64 0)])) (.node (some ([.v .nilIface])) (.node none (.node none (.node (some ([.v .nilFunc])) .nil .nil) (.node (some ([.v .nilFunc])) .nil .nil)) (.node (some ([.v .nilFunc])) (.node (some ([.v .nilFunc])) .nil .nil) (.node (some ([.v (.string ByteArray.empty)])) .nil .nil))) (.node (some ([.v (.slice none 0 0)])) (.node (some ([.v .nilFunc])) (.node (some ([.v .nilFunc])) .nil .nil) (.node (some ([.v .nilFunc])) .nil .nil)) (.node (some ([.v .nilFunc])) (.node (some ([.v .nilFunc])) .nil .nil) .nil))) (.node (some ([.v .nilFunc])) (.node (some ([.v .nilFunc])) (.node (some ([.v .nilFunc])) (.node (some ([.v (.slice none 0 0)])) .nil .nil) (.node (some ([.v .nilFunc])) .nil .nil)) (.node (some ([.v (.int .i64 0),.v (.int .i64 0),.ff,.v (.slice none 0 0)])) (.node (some ([.v .nilFunc])) .nil .nil) (.node (some ([.v (.int .u8 0),.v (.int .u8 0),.v (.int .u8 0),.v (.int .u8 0),.v (.int .u8 0),.v (.int .u8 0),.v (.int .u8 0),.v (.int .u8 0),.v (.int .u8 0),.v (.int .u8 0),.v (.int .u8 0),.v (.int .u8 0),.v (.int .u8 0),.v (.int .u8 0),.v (.int .u8 0),.v (.int .u8 0),.v (.int .u8 0),.v (.int .u8 0),.v (.int .u8 0),.v (.int .u8 0),.v (.int .u8 0),.v (.int .u8 0),.v (.int .u8 0),.v (.int .u8 0),.v (.int .u8 0),.v (.int .u8 0),.v (.int .u8 0),.v (.int .u8 0),.v (.int .u8 0),.v (.int .u8 0),.v (.int .u8 0),.v (.int .u8 0)])) .nil .nil))) (.node none (.node none (.node (some ([.v .nilFunc])) .nil .nil) (.node (some ([.v .nilFunc])) .nil .nil)) (.node (some ([.v .nilFunc])) (.node (some ([.v .nilFunc])) .nil .nil) (.node (some ([.v (.int .i32 0)])) .nil .nil)))))) (.node (some ([.v (.int .u8 0)])) (.node (some ([.v (.string ByteArray.empty)])) (.node (some ([.v (.pointer none)])) (.node (some ([.v .nilFunc])) (.node (some ([.v .nilFunc])) (.node (some ([.v (.map none)])) .nil .nil) (.node (some ([.v .nilFunc])) .nil .nil)) (.node (some ([.v .nilFunc])) (.node (some ([.v .nilFunc])) .nil .nil) (.node (some ([.v (.pointer none)])) .nil .nil))) (.node none (.node (some ([.v (.map none)])) (.node (some ([.v .nilFunc])) .nil .nil) (.node (some ([.v .nilFunc])) .nil .nil)) (.node (some ([.v .nilFunc])) (.node (some ([.v .nilFunc])) .nil .nil) (.node (some ([.v (.pointer none),.v (.pointer none),.v (.pointer none),.v (.string ByteArray.empty)])) .nil .nil)))) (.node (some ([.v .nilFunc])) (.node (some ([.v .nilFunc])) (.node (some ([.v .nilFunc])) (.node (some ([.v .nilFunc])) .nil .nil) (.node (some ([.v .nilFunc])) .nil .nil)) (.node (some ([.v (.int .i64 0),.v (.int .i64 0),.ff])) .nil (.node (some ([.v (.int .u8 0),.v (.int .u8 0)])) .nil .nil))) (.node (some ([.v .nilFunc])) (.node (some ([.v .nilFunc])) (.node (some ([.v .nilFunc])) .nil .nil) (.node (some ([.v .nilFunc])) .nil .nil)) (.node (some ([.v .nilFunc])) (.node (some ([.v .nilFunc])) .nil .nil) (.node (some ([.v .nilFunc])) .nil .nil))))) (.node (some ([.v (.string ByteArray.empty),.v (.int .u64 0)])) (.node (some ([.v (.slice none 0 0)])) (.node none (.node (some ([.v .nilFunc])) (.node (some ([.v .nilFunc])) .nil .nil) .nil) (.node (some ([.v .nilFunc])) (.node (some ([.v .nilFunc])) .nil .nil) (.node (some ([.v .nilFunc])) .nil .nil))) (.node (some ([.v .nilFunc])) (.node (some ([.v (.int .i64 0),.v (.int .i64 0),.ff])) (.node (some ([.v .nilFunc])) .nil .nil) (.node (some ([.v .nilFunc])) .nil .nil)) (.node (some ([.v .nilIface])) (.node (some ([.v (.int .i64 0)])) .nil .nil) .nil))) (.node none (.node (some ([.v (.int .i64 0),.v (.int .i64 0),.v (.int .i64 0)])) (.node (some ([.v .nilFunc])) (.node (some ([.v (.slice none 0 0)])) .nil .nil) (.node (some ([.v .nilFunc])) .nil .nil)) (.node (some ([.v .nilFunc])) (.node (some ([.v .nilFunc,.v .nilFunc,.v .nilFunc,.v .nilFunc,.v .nilFunc,.v .nilFunc,.v .nilFunc,.v .nilFunc])) .nil .nil) (.node (some ([.v .nilFunc])) .nil .nil))) (.node (some ([.v .nilFunc])) (.node (some ([.v .nilFunc])) (.node (some ([.v .nilFunc])) .nil .nil) (.node (some ([.v .nilFunc])) .nil .nil)) (.node none (.node (some ([.v (.int .u32 0)])) .nil .nil) (.node (some ([.v (.int .u64 0),.v (.int .u64 0),.v (.int .u32 0),.v (.int .u8 0),.v (.int .u8 0),.v (.int .u8 0),.v (.int .u8 0),.v .nilFunc,.v (.pointer none),.v (.int .i32 0),.v (.int .i32 0)])) .nil .nil)))))))
 kd:=.node none (.node none (.node (some ([.int .i64])) (.node (some ([.int .i64,.int .i64,.bool,.int .u8])) (.node none (.node none .nil (.node (some ([.sl 3 [.int .i64],.sl 3 [.int .i64]])) (.node (some ([.int .u64])) .nil .nil) .nil)) (.node (some ([.int .i64,.bool])) .nil (.node none .nil (.node (some ([.int .u8,.int .u8,.int .u8,.int .u8,.int .u8,.int .u8,.int .u8,.int .u8,.int .u8,.int .u8,.int .u8,.int .u8,.int .u8,.int .u8,.int .u8,.int .u8,.int .u8,.int .u8,.int .u8,.int .u8,.int .u8,.int .u8,.int .u8,.int .u8,.int .u8,.int .u8,.int .u8,.int .u8,.int .u8,.int .u8,.int .u8,.int .u8])) .nil .nil)))) (.node (some ([.int .i64,.int .i64,.sl 46 [.int .i64,.int .i64,.int .i64]])) (.node none .nil (.node none (.node (some ([.sl 5 [.int .u8]])) .nil .nil) (.node (some ([.int .u64,.int .u64,.int .u64,.int .u64,.int .u64,.int .u64,.int .u64,.int .u64,.int .u64,.int .u64,.int .u64,.int .u64,.int .u64,.int .u64,.int .u64,.int .u64,.int .u64,.int .u64,.int .u64,.int .u64])) .nil .nil))) (.node none (.node (some ([.int .i64,.int .i64,.bool])) .nil .nil) .nil))) (.node (some ([.str])) (.node none .nil (.node none .nil (.node (some ([.sl 9 [.str]])) .nil .nil))) (.node none (.node none (.node none (.node (some ([.bool,.bool])) .nil .nil) (.node (some ([.int .u64])) .nil .nil)) (.node (some ([.int .i64,.int .i64,.bool])) .nil (.node (some ([.int .u8,.int .u8])) .nil .nil))) (.node none .nil (.node none .nil (.node (some ([.int .i32])) .nil .nil)))))) (.node (some ([.int .u8])) (.node (some ([.str])) (.node none .nil (.node (some ([.sl 3 [.int .i64]])) .nil .nil)) (.node (some ([.sl 49 [.sl 3 [.int .i64]]])) (.node none (.node none (.node (some ([.sl 87 [.int .i64,.int .i64,.bool]])) .nil .nil) .nil) (.node none .nil (.node (some ([.int .u8,.int .u8,.int .u8,.int .u8,.int .u8,.int .u8,.int .u8,.int .u8,.int .u8,.int .u8,.int .u8,.int .u8,.int .u8,.int .u8,.int .u8,.int .u8,.int .u8,.int .u8,.int .u8,.int .u8,.int .u8,.int .u8,.int .u8,.int .u8,.int .u8,.int .u8,.int .u8,.int .u8,.int .u8,.int .u8,.int .u8,.int .u8,.int .u8,.int .u8,.int .u8,.int .u8,.int .u8,.int .u8,.int .u8,.int .u8,.int .u8,.int .u8,.int .u8,.int .u8,.int .u8,.int .u8,.int .u8,.int .u8,.int .u8,.int .u8,.int .u8,.int .u8,.int .u8,.int .u8,.int .u8,.int .u8,.int .u8,.int .u8,.int .u8,.int .u8,.int .u8,.int .u8,.int .u8,.int .u8,.int .u8,.int .u8,.int .u8,.int .u8,.int .u8,.int .u8,.int .u8,.int .u8,.int .u8,.int .u8,.int .u8,.int .u8,.int .u8,.int .u8,.int .u8,.int .u8,.int .u8,.int .u8,.int .u8,.int .u8,.int .u8,.int .u8,.int .u8,.int .u8,.int .u8,.int .u8,.int .u8,.int .u8,.int .u8,.int .u8,.int .u8,.int .u8,.int .u8,.int .u8,.int .u8,.int .u8,.int .u8,.int .u8,.int .u8,.int .u8,.int .u8,.int .u8,.int .u8,.int .u8,.int .u8,.int .u8,.int .u8,.int .u8,.int .u8,.int .u8,.int .u8,.int .u8,.int .u8,.int .u8,.int .u8,.int .u8,.int .u8,.int .u8,.int .u8,.int .u8,.int .u8,.int .u8,.int .u8,.int .u8,.int .u8,.int .u8,.int .u8,.int .u8,.int .u8,.int .u8,.int .u8,.int .u8,.int .u8,.int .u8,.int .u8,.int .u8,.int .u8,.int .u8,.int .u8,.int .u8,.int .u8,.int .u8,.int .u8,.int .u8,.int .u8,.int .u8,.int .u8,.int .u8,.int .u8,.int .u8,.int .u8,.int .u8,.int .u8,.int .u8,.int .u8,.int .u8,.int .u8,.int .u8,.int .u8,.int .u8,.int .u8,.int .u8,.int .u8,.int .u8,.int .u8,.int .u8,.int .u8,.int .u8,.int .u8,.int .u8,.int .u8,.int .u8,.int .u8,.int .u8,.int .u8,.int .u8,.int .u8,.int .u8,.int .u8,.int .u8,.int .u8,.int .u8,.int .u8,.int .u8,.int .u8,.int .u8,.int .u8,.int .u8,.int .u8,.int .u8,.int .u8,.int .u8,.int .u8,.int .u8,.int .u8,.int .u8,.int .u8,.int .u8,.int .u8,.int .u8,.int .u8,.int .u8,.int .u8,.int .u8,.int .u8,.int .u8,.int .u8,.int .u8,.int .u8,.int .u8,.int .u8,.int .u8,.int .u8,.int .u8,.int .u8,.int .u8,.int .u8,.int .u8,.int .u8,.int .u8,.int .u8,.int .u8,.int .u8,.int .u8,.int .u8,.int .u8,.int .u8,.int .u8,.int .u8,.int .u8,.int .u8,.int .u8,.int .u8,.int .u8,.int .u8,.int .u8,.int .u8,.int .u8,.int .u8,.int .u8,.int .u8,.int .u8,.int .u8,.int .u8,.int .u8,.int .u8,.int .u8,.int .u8,.int .u8,.int .u8,.int .u8,.int .u8])) .nil .nil))) (.node none .nil (.node none .nil (.node (some ([.int .u8])) .nil .nil))))) (.node (some ([.str,.int .u64])) (.node (some ([.int .i32])) (.node none (.node none .nil (.node (some ([.int .i64])) .nil .nil)) (.node none .nil (.node (some ([.str])) .nil .nil))) .nil) (.node (some ([.int .i64])) (.node (some ([.int .i64,.int .i64,.int .i64])) .nil (.node (some ([.int .i64,.int .i64,.bool,.sl 3 [.int .i64]])) .nil .nil)) (.node none (.node none .nil (.node (some ([.int .u8,.int .u8,.int .u8,.int .u8,.int .u8,.int .u8,.int .u8,.int .u8,.int .u8,.int .u8,.int .u8,.int .u8,.int .u8,.int .u8,.int .u8,.int .u8,.int .u8,.int .u8,.int .u8,.int .u8,.int .u8,.int .u8,.int .u8,.int .u8])) .nil .nil)) .nil))))) (.node (some ([.int .i64])) (.node (some ([.bool])) (.node (some ([.int .i64,.int .i64,.bool,.int .u8])) (.node none (.node none (.node none .nil (.node (some ([.int .u64])) .nil .nil)) (.node (some ([.sl 3 [.int .i64],.sl 3 [.int .i64]])) .nil .nil)) (.node (some ([.int .i64,.bool])) .nil (.node none .nil (.node (some ([.int .u8,.int .u8,.int .u8,.int .u8,.int .u8,.int .u8,.int .u8,.int .u8,.int .u8,.int .u8,.int .u8,.int .u8,.int .u8,.int .u8,.int .u8,.int .u8,.int .u8,.int .u8,.int .u8,.int .u8,.int .u8,.int .u8,.int .u8,.int .u8,.int .u8,.int .u8,.int .u8,.int .u8,.int .u8,.int .u8,.int .u8,.int .u8,.int .u8,.int .u8,.int .u8,.int .u8,.int .u8,.int .u8,.int .u8,.int .u8,.int .u8,.int .u8,.int .u8,.int .u8,.int .u8,.int .u8,.int .u8,.int .u8,.int .u8,.int .u8,.int .u8,.int .u8,.int .u8,.int .u8,.int .u8,.int .u8,.int .u8,.int .u8,.int .u8,.int .u8,.int .u8,.int .u8,.int .u8,.int .u8])) .nil .nil)))) (.node (some ([.int .i64,.int .i64,.sl 46 [.int .i64,.int .i64,.int .i64]])) (.node none .nil (.node (some ([.sl 109 [.int .i64,.int .i64,.bool,.sl 3 [.int .i64]]])) .nil (.node (some ([.int .u8,.int .u8,.int .u8,.int .u8,.int .u8,.int .u8,.int .u8,.int .u8,.int .u8,.int .u8,.int .u8,.int .u8,.int .u8,.int .u8,.int .u8,.int .u8,.int .u8,.int .u8,.int .u8,.int .u8,.int .u8,.int .u8,.int .u8,.int .u8,.int .u8,.int .u8,.int .u8,.int .u8,.int .u8,.int .u8,.int .u8,.int .u8,.int .u8,.int .u8,.int .u8,.int .u8,.int .u8,.int .u8,.int .u8,.int .u8,.int .u8,.int .u8,.int .u8,.int .u8,.int .u8,.int .u8,.int .u8,.int .u8,.int .u8,.int .u8,.int .u8,.int .u8,.int .u8,.int .u8,.int .u8,.int .u8,.int .u8,.int .u8,.int .u8,.int .u8,.int .u8,.int .u8,.int .u8,.int .u8,.int .u8])) .nil .nil))) (.node none .nil (.node none .nil (.node (some ([.int .u8])) .nil .nil))))) (.node (some ([.int .u64])) (.node none (.node none .nil (.node none .nil (.node (some ([.str])) .nil .nil))) (.node (some ([.sl 48 [.int .i64,.bool]])) .nil .nil)) (.node none (.node none (.node none (.node (some ([.sl 52 [.sl 48 [.int .i64,.bool]]])) .nil .nil) .nil) (.node (some ([.int .i64,.int .i64,.bool,.sl 3 [.int .i64]])) .nil (.node (some ([.int .u8,.int .u8,.int .u8,.int .u8,.int .u8,.int .u8,.int .u8,.int .u8,.int .u8,.int .u8,.int .u8,.int .u8,.int .u8,.int .u8,.int .u8,.int .u8,.int .u8,.int .u8,.int .u8,.int .u8,.int .u8,.int .u8,.int .u8,.int .u8,.int .u8,.int .u8,.int .u8,.int .u8,.int .u8,.int .u8,.int .u8,.int .u8])) .nil .nil))) (.node none .nil (.node none .nil (.node (some ([.int .i32])) .nil .nil)))))) (.node (some ([.int .u8])) (.node (some ([.str])) .nil (.node none (.node none .nil (.node (some ([.int .i64,.int .i64,.bool])) .nil (.node (some ([.int .u8,.int .u8])) .nil .nil))) .nil)) (.node (some ([.str,.int .u64])) (.node (some ([.sl 46 [.int .i64,.int .i64,.int .i64]])) .nil (.node none (.node (some ([.int .i64,.int .i64,.bool])) .nil .nil) (.node none (.node (some ([.int .i64])) .nil .nil) .nil))) (.node none (.node (some ([.int .i64,.int .i64,.int .i64])) (.node none (.node (some ([.sl 4 [.bool]])) .nil .nil) .nil) .nil) (.node none .nil (.node none (.node (some ([.int .u32])) .nil .nil) .nil))))))
 sc:=.node none (.node none (.node (some (.int .i64)) (.node none (.node none (.node none .nil (.node none (.node (some (.int .u64)) .nil .nil) .nil)) .nil) (.node none (.node none .nil (.node none (.node (some (.sl 5 [.int .u8])) .nil .nil) .nil)) .nil)) (.node (some (.str)) (.node none .nil (.node none .nil (.node (some (.sl 9 [.str])) .nil .nil))) (.node none (.node none (.node none .nil (.node (some (.int .u64)) .nil .nil)) .nil) (.node none .nil (.node none .nil (.node (some (.int .i32)) .nil .nil)))))) (.node (some (.int .u8)) (.node (some (.str)) (.node none .nil (.node (some (.sl 3 [.int .i64])) .nil .nil)) (.node (some (.sl 49 [.sl 3 [.int .i64]])) (.node none (.node none (.node (some (.sl 87 [.int .i64,.int .i64,.bool])) .nil .nil) .nil) .nil) (.node none .nil (.node none .nil (.node (some (.int .u8)) .nil .nil))))) (.node none (.node (some (.int .i32)) (.node none (.node none .nil (.node (some (.int .i64)) .nil .nil)) .nil) .nil) (.node (some (.int .i64)) .nil .nil)))) (.node (some (.int .i64)) (.node (some (.bool)) (.node none (.node none (.node none (.node none .nil (.node (some (.int .u64)) .nil .nil)) .nil) .nil) (.node none (.node none .nil (.node (some (.sl 109 [.int .i64,.int .i64,.bool,.sl 3 [.int .i64]])) .nil .nil)) (.node none .nil (.node none .nil (.node (some (.int .u8)) .nil .nil))))) (.node (some (.int .u64)) (.node none .nil (.node (some (.sl 48 [.int .i64,.bool])) .nil .nil)) (.node none (.node none (.node none (.node (some (.sl 52 [.sl 48 [.int .i64,.bool]])) .nil .nil) .nil) .nil) (.node none .nil (.node none .nil (.node (some (.int .i32)) .nil .nil)))))) (.node (some (.int .u8)) (.node (some (.str)) .nil .nil) (.node none (.node (some (.sl 46 [.int .i64,.int .i64,.int .i64])) .nil (.node none .nil (.node none (.node (some (.int .i64)) .nil .nil) .nil))) (.node none (.node none (.node none (.node (some (.sl 4 [.bool])) .nil .nil) .nil) .nil) (.node none .nil (.node none (.node (some (.int .u32)) .nil .nil) .nil))))))
 eqs:=.node none (.node none (.node none (.node none (.node none .nil (.node (some ([0,1])) .nil .nil)) (.node none .nil (.node none (.node (some ([0,0,1])) .nil .nil) .nil))) (.node none .nil (.node none (.node none .nil (.node (some ([0,0,1])) .nil (.node (some ([0,0])) .nil .nil))) .nil))) (.node none .nil (.node none (.node none (.node none .nil (.node none .nil (.node (some ([2])) .nil .nil))) .nil) (.node none (.node (some ([0,0,0])) .nil .nil) .nil)))) (.node none (.node none (.node none (.node none .nil (.node (some ([0,1])) .nil .nil)) .nil) (.node none (.node none (.node none .nil (.node none .nil (.node (some ([2])) .nil .nil))) .nil) .nil)) (.node none (.node none .nil (.node none (.node none .nil (.node (some ([0,0,1])) .nil (.node (some ([0,0])) .nil .nil))) .nil)) (.node none (.node none .nil (.node none (.node (some ([0,0,1])) .nil .nil) .nil)) (.node none (.node (some ([0,0,0])) .nil .nil) .nil))))
 lf:=.node none (.node none (.node none (.node none (.node none (.node none .nil (.node (some ([true,true])) .nil .nil)) (.node (some ([true,true])) .nil .nil)) (.node (some ([true,true,true])) .nil (.node none (.node (some ([true,false])) .nil .nil) .nil))) (.node none .nil (.node none (.node none .nil (.node (some ([true,false])) .nil (.node (some ([true,true])) .nil .nil))) .nil))) (.node none (.node none (.node none .nil (.node none (.node none (.node (some ([true,true,true])) .nil .nil) .nil) .nil)) (.node none .nil (.node none (.node none .nil (.node (some ([true,true,true])) .nil .nil)) .nil))) (.node none (.node none (.node none .nil (.node none .nil (.node (some ([true])) .nil .nil))) .nil) (.node none (.node (some ([true,true,true])) .nil (.node (some ([false,true])) (.node (some ([true])) .nil .nil) .nil)) .nil)))) (.node none (.node none (.node none (.node none (.node none .nil (.node (some ([true,true])) .nil .nil)) (.node (some ([true,true])) (.node none (.node (some ([true,true,true])) .nil .nil) .nil) .nil)) (.node (some ([true,true,true])) .nil (.node none (.node none .nil (.node (some ([true,true,true])) .nil .nil)) .nil))) (.node none (.node none (.node none .nil (.node none .nil (.node (some ([true])) .nil .nil))) .nil) (.node none (.node none .nil (.node (some ([false,true])) (.node (some ([true])) .nil .nil) .nil)) .nil))) (.node none (.node none .nil (.node none (.node none .nil (.node (some ([true,false])) .nil (.node (some ([true,true])) .nil .nil))) .nil)) (.node none (.node none .nil (.node none (.node (some ([true,false])) .nil .nil) .nil)) (.node none (.node (some ([true,true,true])) .nil .nil) .nil))))
theorem LX : F2 Tryz.prog jV where
 ty:=by kernel_rfl
 zero:=by kernel_rfl
 kd:=by kernel_rfl
 sc:=by kernel_rfl
 eqs:=by kernel_rfl
 lf:=by kernel_rfl
theorem mixed : Tryz.prog.follows .mixedOrders = true:=by kernel_rfl
end Go.Proofs.YthejmgnkenokpaaGreatDoor
end
section
namespace Go.Proofs.YthejmgnkenokpaaGreatDoor
open Go Go.Sy Go.bK
variable {Γ : bn}
abbrev vI (n : Int) : At:=.v (.int .i64 n)
abbrev kI : List CK:=[.int .i64]
abbrev kB : List CK:=[.bool]
abbrev kG : List CK:=[.int .i64,.bool]
abbrev kX : List CK:=[.int .i64,.int .i64,.bool]
abbrev kW : List CK:=[.int .i64,.int .i64,.int .i64]
abbrev kT : List CK:=[.sl 3 kI]
theorem aj {f : FuncId} {fn : Func} (h : Tryz.prog.funcs[f]? = some fn) (h2 : (fn.name == "runtime.NumGoroutine") = false) {c : Code} (h3 : fn.body = some c) : bQ Tryz.prog f ⟨fn.ntmps, c, fn.results.toList⟩ :=
 ⟨fn,h,h2,h3,rfl,by simp⟩
noncomputable def bo (fn : Func) : Body:=match fn.body with | some c => ⟨fn.ntmps,c,fn.results.toList⟩ | none => ⟨0,.skip,[]⟩
theorem cg {f : FuncId} {fn : Func} (h : Tryz.prog.funcs[f]? = some fn) (h2 : (fn.name == "runtime.NumGoroutine") = false) {c : Code} (h3 : fn.body = some c) : bQ Tryz.prog f (bo fn) := by
 have : bo fn = ⟨fn.ntmps,c,fn.results.toList⟩:=by unfold bo;rw [h3]
 rw [this];exact aj h h2 h3
theorem aP {l : List (Nat × au)} (hl : aR Tryz.prog Γ l) {bs : List (Nat × Body)} (hb : bq Tryz.prog bs) (aN : Bool) (un : Nat) : aL Tryz.prog Γ (jV.env l bs aN un) :=
 ⟨mixed,fun f c h => (hl.h f c h).1,fun f b h => hb.h f b h,jV.OX LX hl bs aN un⟩
theorem _root_.Go.Sy.aL.vU {E : Env} (h : aL Tryz.prog Γ E) (o : Nat -> Option OT) : aL Tryz.prog Γ { E with tree:=o }:=⟨h.mixed,h.fn,h.inl,{ h.env with }⟩
theorem _root_.Go.Sy.aL.Ju {E : Env} (h : aL Tryz.prog Γ E) (o : Nat -> Option (List Nat)) : aL Tryz.prog Γ { E with ord:=o }:=⟨h.mixed,h.fn,h.inl,{ h.env with }⟩
theorem _root_.Go.Sy.aL.NA {E : Env} (h : aL Tryz.prog Γ E) (o : Nat -> Option (Nat × OT)) : aL Tryz.prog Γ { E with htr:=o }:=⟨h.mixed,h.fn,h.inl,{ h.env with }⟩
theorem _root_.Go.Sy.aL.strs {E : Env} (h : aL Tryz.prog Γ E) (o : Nat -> Option (List Nat × OT)) : aL Tryz.prog Γ { E with str:=o }:=⟨h.mixed,h.fn,h.inl,{ h.env with }⟩
theorem _root_.Go.Sy.aL.wy {E : Env} (h : aL Tryz.prog Γ E) (o : Nat -> Bool) : aL Tryz.prog Γ { E with cut:=o }:=⟨h.mixed,h.fn,h.inl,{ h.env with }⟩
noncomputable def JB (c : Code) : List (Array Tmp × Code × Code) :=
 Code.rec (motive:=fun _ => List (Array Tmp × Code × Code)) [] (fun _ _ _ => []) (fun _ _ fa fb => List.rec fb (fun x _ ih => x :: ih) fa) (fun _ _ _ fa fb => List.rec fb (fun x _ ih => x :: ih) fa)
  (fun _ _ f => f) (fun _ f => f) (fun _ ps a b _ fb => (ps,a,b) :: fb) (fun _ => []) (fun _ f => f) (fun _ => []) (fun _ => []) [] (fun _ => []) c
noncomputable def wT (f : Func) (k : Nat) : Array Tmp × Code × Code:=match (JB (bo f).code)[k]? with | some x => x | none => (#[],.skip,.skip)
noncomputable def ac5 (f : Func) (k : Nat) (fn : FuncId) (T : Array Value) (D : Nat) : Loop:={ state:=.ready,pending:=none,fn:=fn,tmps:=T,params:=(wT f k).1,assign:=(wT f k).2.1,body:=(wT f k).2.2,defers:=D }
theorem R6 (h : true = false) : False:=by cases h
theorem R3 (h : false = true) : False:=by cases h
def IA : Nat -> Tr
 | 0 => .nil
 | d + 1 => .node (.a .any) (IA d) (IA d)
def aan : List Nat -> List Tm -> Tr -> Tr
 | i :: is,x :: xs,t => aan is xs (t.put i x)
 | _,_,t => t
def aI (n : Nat) (is : List Nat) (xs : List Tm) : Sl:=⟨n,aan is xs (IA (jg n))⟩
def ac1 (te : TypeId) (tg : List CK) (rg : List az) : At -> Option (List aa × List (ai tg))
 | .sl r π lo n => (match (rg.getD r .dead).dn π with | some (q,⟨oO,bX,xs⟩) => (match pF oO te,aau bX tg with | some _,some h => some (q ++ [(aa.of (lo = 0)),(aa.of (n = xs.length))],jz h.down xs) | _,_ => none) | _ => none)
 | .v (.slice none 0 0) => some ([],[])
 | .z => some ([],[])
 | _ => none
theorem bP {te : TypeId} {tg : List CK} (ci : tg ≠ []) {rg : List az} {x : At} {q : List aa} {L : List (ai tg)} (h : ac1 te tg rg x = some (q,L)) (hq : bW q) :
  ∃ e : Option (Nat × Path),∀ (is : gd) (k n : Nat),is[k]? = some e -> k < n -> yp is n x (.sl k [] 0 L.length) /\ agV rg is n k (.arr te tg L false false):=by
 unfold ac1 at h
 split at h
 ·rename_i r π lo n
  split at h
  ·rename_i q0 oO bX xs hd
   split at h
   ·rename_i h1 h2 _ _
    obtain ⟨rfl,rfl⟩:=Prod.mk.inj (Option.some.inj h)
    obtain rfl:=h1.down
    obtain ⟨h2⟩:=h2
    subst h2
    obtain ⟨h1,h2,h3,_⟩:=(aH _ _).1 hq
    simp only [aa.ae] at h2 h3
    subst h2 h3
    exact ⟨some (r,π),fun is k m hi hm => ⟨.inr ⟨r,π,rfl,hm,hi⟩,rfl,rfl,.inr ⟨r,π,q0,hi,hd,h1⟩⟩⟩
   ·cases h
  ·cases h
 ·obtain ⟨rfl,rfl⟩:=Prod.mk.inj (Option.some.inj h)
  exact ⟨none,fun is k m hi hm => ⟨.inl ⟨.inl rfl,rfl,rfl,hm,hi⟩,rfl,rfl,.inl ⟨hi,rfl,ci⟩⟩⟩
 ·obtain ⟨rfl,rfl⟩:=Prod.mk.inj (Option.some.inj h)
  exact ⟨none,fun is k m hi hm => ⟨.inl ⟨.inr rfl,rfl,rfl,hm,hi⟩,rfl,rfl,.inl ⟨hi,rfl,ci⟩⟩⟩
 ·cases h
theorem Bz {is : gd} {n : Nat} {c : CK} {x : At} {v : c.ty} (h : c.fX x = some v) : yp is n x (c.pl v):=by
 cases c with
 | sl e tg => cases x <;> simp only [CK.fX] at h <;> cases h
 | int k =>
   cases x <;> simp only [CK.fX] at h <;> try (cases h;done)
   rename_i y
   cases y <;> simp only [CK.of] at h <;> try (cases h;done)
   split at h
   ·rename_i hk;obtain rfl:=akr hk;obtain rfl:=Option.some.inj h;rfl
   ·cases h
 | bool =>
   cases x <;> simp only [CK.fX] at h <;> try (cases h;done)
   ·rename_i y
    cases y <;> simp only [CK.of] at h <;> try (cases h;done)
    obtain rfl:=Option.some.inj h;exact .inl rfl
   ·obtain rfl:=Option.some.inj h;exact .inr (.inl ⟨rfl,rfl⟩)
   ·obtain rfl:=Option.some.inj h;exact .inr (.inr ⟨rfl,rfl⟩)
 | str =>
   cases x <;> simp only [CK.fX] at h <;> try (cases h;done)
   rename_i y
   cases y <;> simp only [CK.of] at h <;> try (cases h;done)
   obtain rfl:=Option.some.inj h;rfl
theorem oC {is : gd} {n : Nat} : ∀ {kk : List CK} {l : List At} {v : ai kk},eu kk l = some v -> rE is n l (ai.lV kk v)
 | [],[],_,_ => trivial
 | [],_ :: _,_,h => by cases h
 | [c],[x],v,h => ⟨Bz (c:=c) h,trivial⟩
 | [c],[],_,h => by cases h
 | [c],_ :: _ :: _,_,h => by cases h
 | _ :: _ :: _,[],_,h => by cases h
 | c :: c' :: cs,x :: xs,v,h => by
   have h : (match c.fX x,eu (c' :: cs) xs with | some y,some z => some ((y,z) : c.ty × ai (c' :: cs)) | _,_ => none) = some v:=h
   split at h
   ·rename_i u z h1 h2
    obtain rfl:=Option.some.inj h
    exact ⟨Bz h1,oC (kk:=c' :: cs) h2⟩
   ·cases h
def fN (D : Int -> List aa) (F : Int -> Tm) : au:=.fn fun args rg => match args with
 | [.a (.v (.int .i64 n0))] => some (D n0,F n0)
 | _ => none
theorem y9 {f : FuncId} {b : Body} {E : Env} {d : Nat} (hP : aL Tryz.prog Γ E) (hb : bQ Tryz.prog f b) {D : Int -> List aa} {F : Int -> Tm} (hp : ∀ (n0 : Int),(F n0).plain = true)
  (H : ∀ (n0 : Int),bW (D n0) -> cQ E d b [.a (vI n0)] [] (fun x _ => iL x (F n0))) : au.Ok Tryz.prog Γ f (fN D F):=au.er (d:=d) hP hb (by
 intro args rg q t hF hq
 split at hF
 next n0 =>
  obtain ⟨rfl,rfl⟩:=Prod.mk.inj (Option.some.inj hF);clear hF
  have hD:=hq
  refine ⟨hp _,[],[.a (vI n0)],[],⟨⟨rfl,trivial⟩,fun r g hg => ?_⟩,H _ hD⟩
  cases hg
 next => cases hF)
def Kf (D : Int -> Int -> List aa) (F : Int -> Int -> Tm) : au:=.fn fun args rg => match args with
 | [.a (.v (.int .i64 n0)),.a (.v (.int .i64 n1))] => some (D n0 n1,F n0 n1)
 | _ => none
theorem An {f : FuncId} {b : Body} {E : Env} {d : Nat} (hP : aL Tryz.prog Γ E) (hb : bQ Tryz.prog f b) {D : Int -> Int -> List aa} {F : Int -> Int -> Tm} (hp : ∀ (n0 : Int) (n1 : Int),(F n0 n1).plain = true)
  (H : ∀ (n0 : Int) (n1 : Int),bW (D n0 n1) -> cQ E d b [.a (vI n0),.a (vI n1)] [] (fun x _ => iL x (F n0 n1))) : au.Ok Tryz.prog Γ f (Kf D F):=au.er (d:=d) hP hb (by
 intro args rg q t hF hq
 split at hF
 next n0 n1 =>
  obtain ⟨rfl,rfl⟩:=Prod.mk.inj (Option.some.inj hF);clear hF
  have hD:=hq
  refine ⟨hp _ _,[],[.a (vI n0),.a (vI n1)],[],⟨⟨rfl,rfl,trivial⟩,fun r g hg => ?_⟩,H _ _ hD⟩
  cases hg
 next => cases hF)
def ja (D : Int -> Int -> Int -> List aa) (F : Int -> Int -> Int -> Tm) : au:=.fn fun args rg => match args with
 | [.a (.v (.int .i64 n0)),.a (.v (.int .i64 n1)),.a (.v (.int .i64 n2))] => some (D n0 n1 n2,F n0 n1 n2)
 | _ => none
theorem ep {f : FuncId} {b : Body} {E : Env} {d : Nat} (hP : aL Tryz.prog Γ E) (hb : bQ Tryz.prog f b) {D : Int -> Int -> Int -> List aa} {F : Int -> Int -> Int -> Tm} (hp : ∀ (n0 : Int) (n1 : Int) (n2 : Int),(F n0 n1 n2).plain = true)
  (H : ∀ (n0 : Int) (n1 : Int) (n2 : Int),bW (D n0 n1 n2) -> cQ E d b [.a (vI n0),.a (vI n1),.a (vI n2)] [] (fun x _ => iL x (F n0 n1 n2))) : au.Ok Tryz.prog Γ f (ja D F):=au.er (d:=d) hP hb (by
 intro args rg q t hF hq
 split at hF
 next n0 n1 n2 =>
  obtain ⟨rfl,rfl⟩:=Prod.mk.inj (Option.some.inj hF);clear hF
  have hD:=hq
  refine ⟨hp _ _ _,[],[.a (vI n0),.a (vI n1),.a (vI n2)],[],⟨⟨rfl,rfl,rfl,trivial⟩,fun r g hg => ?_⟩,H _ _ _ hD⟩
  cases hg
 next => cases hF)
end Go.Proofs.YthejmgnkenokpaaGreatDoor
end
section
namespace Go.Proofs.YthejmgnkenokpaaGreatDoor
open Go Go.Sy Go.bK Go.ChangeShapes Go.WideShapes Go.RowKit
theorem own : ownKnob Tryz.prog.godebug = none:=by kernel_rfl
theorem laidOut : laidOutB Tryz.prog = true:=by kernel_rfl
theorem yY {H : Type} {enc : TypeId × Value -> H} {W W' : World} (hb : Below W.heap.size W W') :
  ∀ (ts : List TypeId) (vs : List Value) (ds : List (DataW H)) (ps : List MemPlace),ts.all (fun t => Tryz.prog.readableRec t && decide (t < Tryz.prog.types.size)) = true ->
   DataW.TrodAll enc Tryz.prog W 0 (fun _ => true) true ts vs ds ps -> (∀ x ∈ ps,x.block < W.heap.size) -> DataW.TrodAll enc Tryz.prog W' 0 (fun b => decide (b < W.heap.size)) true ts vs ds ps:=by
 intro ts
 induction ts with
 | nil =>
   intro vs ds ps _ h _
   obtain ⟨rfl,rfl,rfl⟩:=trodAll_nil h
   exact rfl
 | cons t ts ih =>
   intro vs ds ps ht h hlt
   obtain ⟨v,vs,d,ds,p,q,rfl,rfl,rfl,h1,h2⟩:=trodAll_cons h
   rw [List.all_cons,Bool.and_eq_true,Bool.and_eq_true,decide_eq_true_eq] at ht
   exact ⟨p,q,Below.trod laidOut ht.1.1 ht.1.2 h1 hb (fun x hx => hlt x (List.mem_append_left _ hx)),ih vs ds q ht.2 h2 (fun x hx => hlt x (List.mem_append_right _ hx)),rfl⟩
theorem rF {H : Type} {enc : TypeId × Value -> H} {f : Func} {s : ChangeSpec} {W W' : World} {args : Array Value} {ds gs : List (DataW H)} {before : List MemPlace}
  (RH : f.resultTypes = #[4]) (hvars : s.vars = []) (hps : f.params.toList.all (fun t => Tryz.prog.readableRec t && decide (t < Tryz.prog.types.size)) = true)
  (hW : DataW.Whole enc Tryz.prog f.params.toList s.vars false W args.toList ds gs before) (hfn : (s.fn H (ds ++ [])) = { results:=[.lit (.bool true)],args:=ds })
  (hb : Below W.heap.size W W') : s.post enc Tryz.prog f false true false false W args (.bool true) W':=by
 have xQ:=hW
 obtain ⟨p,q,hA,hV,rfl,hfz,iP⟩:=hW
 rw [hvars] at hV
 obtain ⟨rfl,rfl⟩:=trodVars_none hV
 have hlt:=fun x (hx : x ∈ p ++ []) => xQ.lt x hx
 refine ⟨ds,[],p ++ [],[],p,[],xQ,?_,?_,?_,Below.frame hb _,(fun h => by cases h)⟩
 ·rw [hfn,RH]
  exact trodAll_mk1 (shut_bool Tryz.underlying4 true)
 ·rw [hfn]
  exact yY hb _ _ _ _ hps hA (fun x hx => hlt x (List.mem_append_left _ hx))
 ·rw [hvars,hfn]
  exact rfl
/-! ### Arguments opened -/
structure Er (w : World) (te : TypeId) (tg : List CK) (xs : List (ai tg)) (I : RI) : Prop where
 ar : Ar.aA w (fun _ => I) [] ⟨te,tg,xs⟩
 lt : I.aC = false -> I.b < w.heap.size
section
variable {H : Type} {enc : TypeId × Value -> H} {w : World} {base : Nat} {spare : Nat -> Bool} {held : Bool}
theorem kf {fuel : Nat} {c : Value} {y : DataW H × List MemPlace} (h : DataW.trod enc Tryz.prog w base spare held fuel 3 [c] = some y) : ∃ n,c = .int .i64 n:=by
 obtain ⟨n,h1,_,hw⟩:=DataW.trod_int Tryz.underlying3 h
 simp only [List.cons.injEq,and_true] at h1
 exact ⟨n,h1⟩
theorem EZ {tg : List CK} {te : TypeId} {m : Nat} {X : Nat -> ai tg} {i : Nat} (hi : i < m) : Ar.get ⟨te,tg,(List.range m).map X⟩ i = X i:=by
 simp only [Ar.get,List.getD_eq_getElem?_getD,List.getElem?_map,List.getElem?_range hi,Option.map_some,Option.getD_some]
theorem KF {t te : TypeId} {tg : List CK} (ci : tg ≠ []) (ht : Tryz.prog.underlying t = some (.slice te)) (hc : Tryz.prog.cellsOf te = tg.length)
  (hone : ∀ (fuel : Nat) (cs : List Value) (y : DataW H × List MemPlace),cs.length = tg.length -> DataW.trod enc Tryz.prog w base spare held fuel te cs = some y -> ∃ x : ai tg,∀ η i,ai.aA η [] i 0 tg x cs)
  {fuel : Nat} {v : Value} {y : DataW H × List MemPlace} (hlt : ∀ a len cap,v = .slice (some a) len cap -> a.spot = none /\ a.block < w.heap.size) (h : DataW.trod enc Tryz.prog w base spare held fuel t [v] = some y) :
  ∃ (I : RI) (xs : List (ai tg)),I.head 0 xs.length v /\ Er w te tg xs I:=by
 rcases Go.Deep.open_slice ht h with ⟨hv,_⟩ | ⟨a,len,cap,m,n,D,Pl,hv,_,hl,hm,Ns,_,hx⟩
 ·simp only [List.cons.injEq,and_true] at hv
  subst hv
  exact ⟨⟨0,0,tg.length,0,true⟩,[],⟨fun _ => ⟨rfl,_,rfl⟩,(fun h => by cases h)⟩,⟨ci,rfl,fun _ => rfl,(fun h => by cases h),fun i hi => by simp at hi⟩,(fun h => by cases h)⟩
 ·simp only [List.cons.injEq,and_true] at hv
  subst hv
  obtain ⟨hs,hb⟩:=hlt a len cap rfl
  have hml : len <= m:=by rw [Ns];split <;> omega
  rw [hc] at hx
  have hX : ∀ i,i < len -> ∃ p : ai tg × List Value,w.cells? base (a.add (i * tg.length)) tg.length = some p.2 /\ ∀ η j,ai.aA η [] j 0 tg p.1 p.2:=fun i hi => by
   obtain ⟨cs,h1,h2⟩:=hx i (by omega)
   obtain ⟨_,h3,_⟩:=World.cells?_some h1
   obtain ⟨x,h4⟩:=hone _ _ _ h3 h2
   exact ⟨(x,cs),h1,h4⟩
  have : Inhabited (ai tg × List Value):=⟨(ai.d tg,[])⟩
  obtain ⟨X,hX⟩:=Go.Deep.choose_lt hX
  obtain ⟨blk,off,spot⟩:=a
  obtain rfl : spot = none:=hs
  refine ⟨⟨blk,off,tg.length,cap,false⟩,(List.range len).map fun i => (X i).1,⟨(fun h => by cases h),fun _ => ⟨by simpa using hl,some ⟨blk,off,none⟩,by simp,fun _ => by simp [RI.at]⟩⟩,⟨ci,rfl,(fun h => by cases h),fun _ => by simpa using hl,fun i hi => ?_⟩,fun _ => hb⟩
  have hi' : i < len:=by simpa using hi
  obtain ⟨h1,h2⟩:=hX i hi'
  obtain ⟨_,h3,h4⟩:=World.cells?_some h1
  refine ⟨(X i).2,?_,fun s y hs => ?_⟩
  ·have:=EZ (te:=te) (X:=fun i => (X i).1) hi'
   rw [this]
   exact h2 _ _
  ·have dZ : s < tg.length:=by rw [<- h3];exact (List.getElem?_eq_some_iff.1 hs).1
   have:=h4 s dZ
   rw [hs] at this
   rw [<- this]
   congr 1
   show (⟨blk,off + (i * tg.length + s),none⟩ : Addr) = ((Addr.mk blk off none).add (i * tg.length)).add s
   rw [Addr.add_lit,Addr.add_lit,Nat.add_assoc]
theorem BS {r : Reach} {b0 : Nat} {t e : TypeId} (hu : Tryz.prog.underlying t = some (.slice e)) {v : Value} (hv : Cell.okWide Tryz.prog w r b0 t v) : ∀ a len cap,v = .slice (some a) len cap -> a.spot = none /\ a.block < w.heap.size:=by
 rintro a len cap rfl
 simp only [hu,Cell.okWide,Cell.ok] at hv
 obtain ⟨_,_,_,h1,row,cells,h2,_⟩:=hv
 refine ⟨h1,?_⟩
 unfold World.shape? at h2
 rcases Nat.lt_or_ge a.block w.heap.size with h3 | h3
 ·exact h3
 ·rw [Array.getElem?_eq_none h3] at h2;simp at h2
theorem NO (fuel : Nat) (cs : List Value) (y : DataW H × List MemPlace) (hl : cs.length = kW.length) (h : DataW.trod enc Tryz.prog w base spare held fuel 46 cs = some y) : ∃ x : ai kW,∀ η i,ai.aA η [] i 0 kW x cs:=by
 match cs,hl with
 | [c0,c1,c2],_ =>
   obtain ⟨xs,n,_,_,_,hlen,hf⟩:=DataW.trod_struct Tryz.underlying46 h
   match xs,hlen with
   | [y0,y1,y2],_ =>
     have e : Tryz.prog.cellsOf 3 = 1:=by kernel_rfl
     obtain ⟨a,rfl⟩:=kf (c:=c0) (by simpa [e] using hf 0 _ rfl)
     obtain ⟨b,rfl⟩:=kf (c:=c1) (by simpa [e] using hf 1 _ rfl)
     obtain ⟨c,rfl⟩:=kf (c:=c2) (by simpa [e] using hf 2 _ rfl)
     exact ⟨(a,b,c),fun η i => ⟨_,_,rfl,rfl,_,_,rfl,rfl,_,rfl,rfl⟩⟩
theorem XZ {r : Reach} {b0 : Nat} {v : Value} {d : DataW H} {p : List MemPlace} (hv : Value.okWide Tryz.prog w r b0 46 v) (h : DataW.Trod enc Tryz.prog w base spare held 46 v d p) : ∃ a b c : Int,v = .agg #[.int .i64 a,.int .i64 b,.int .i64 c]:=by
 have j6:=hv
 simp only [Value.okWide,Tryz.underlying46] at j6
 obtain ⟨cs,rfl,hsz,-⟩:=j6
 obtain ⟨l⟩:=cs
 have hl : l.length = 3:=hsz.trans (by kernel_rfl)
 match l,hl with
 | [c0,c1,c2],_ =>
   obtain ⟨fuel,hf⟩:=h
   obtain ⟨xs,n,_,_,_,hlen,hf⟩:=DataW.trod_struct Tryz.underlying46 hf
   match xs,hlen with
   | [y0,y1,y2],_ =>
     have e : Tryz.prog.cellsOf 3 = 1:=by kernel_rfl
     obtain ⟨a,rfl⟩:=kf (c:=c0) (by simpa [e,Value.cells] using hf 0 _ rfl)
     obtain ⟨b,rfl⟩:=kf (c:=c1) (by simpa [e,Value.cells] using hf 1 _ rfl)
     obtain ⟨c,rfl⟩:=kf (c:=c2) (by simpa [e,Value.cells] using hf 2 _ rfl)
     exact ⟨a,b,c,rfl⟩
theorem FD : Tryz.prog.cellTypes Tryz.prog.depth 24 = some [3,3,22]:=by kernel_rfl
theorem IE {r : Reach} {b0 : Nat} {v : Value} {d : DataW H} {p : List MemPlace} (hv : Value.okWide Tryz.prog w r b0 24 v) (h : DataW.Trod enc Tryz.prog w base spare held 24 v d p) :
  ∃ (S P : Int) (c : Value) (I : RI) (xs : List (ai kW)),v = .agg #[.int .i64 S,.int .i64 P,c] /\ I.head 0 xs.length c /\ Er w 46 kW xs I:=by
 have j6:=hv
 simp only [Value.okWide,Tryz.underlying24] at j6
 obtain ⟨cs,rfl,hsz,ts,hts,-,hrow⟩:=j6
 obtain rfl : ts = [3,3,22]:=Option.some.inj (hts.symm.trans FD)
 obtain ⟨l⟩:=cs
 have hl : l.length = 3:=hsz.trans (by kernel_rfl)
 match l,hl with
 | [c0,c1,c2],_ =>
   obtain ⟨fuel,hf⟩:=h
   obtain ⟨xs,n,_,_,_,hlen,hf⟩:=DataW.trod_struct Tryz.underlying24 hf
   match xs,hlen with
   | [y0,y1,y2],_ =>
     have e : Tryz.prog.cellsOf 3 = 1:=by kernel_rfl
     have e' : Tryz.prog.cellsOf 22 = 1:=by kernel_rfl
     obtain ⟨a,rfl⟩:=kf (c:=c0) (by simpa [e,Value.cells] using hf 0 _ rfl)
     obtain ⟨b,rfl⟩:=kf (c:=c1) (by simpa [e,Value.cells] using hf 1 _ rfl)
     obtain ⟨u,hu,hc⟩:=hrow 2 c2 rfl
     obtain rfl : (22 : TypeId) = u:=Option.some.inj hu
     obtain ⟨I,ys,h1,h2⟩:=KF (t:=22) (te:=46) (tg:=kW) (by simp [kW]) Tryz.underlying22 (by kernel_rfl) NO (BS Tryz.underlying22 hc) (v:=c2) (by simpa [e',Value.cells] using hf 2 _ rfl)
     exact ⟨a,b,c2,I,ys,rfl,h1,h2⟩
end
/-! ### A statement's walk -/
def ky (Is : List RI) : Keys:=fun r _ => Is.getD r ⟨0,0,0,0,true⟩
structure sN where
 te : TypeId
 tg : List CK
 xs : List (ai tg)
 I : RI
def sN.ok (w : World) (A : sN) : Prop:=aaa A.tg = true /\ Er w A.te A.tg A.xs A.I
def sN.akq (A : sN) : az:=.arr A.te A.tg A.xs false false
theorem CQ {w : World} {te : TypeId} {tg : List CK} {xs : List (ai tg)} (hf : aaa tg = true) {I : RI} (h : Ar.aA w (fun _ => I) [] ⟨te,tg,xs⟩) {η : Path -> RI} (hk : η [] = I) : Ar.aA w η [] ⟨te,tg,xs⟩:=by
 subst hk
 exact ⟨h.tg,h.m,h.aC,h.len,fun i hi => by obtain ⟨ys,h1,h2⟩:=h.cell i hi;exact ⟨ys,lA hf h1,h2⟩⟩
theorem LJ {w : World} (As : List sN) (h : ∀ A ∈ As,A.ok w) : cA (fun _ => False) w As.length (ky (As.map (·.I))) (As.map sN.akq) w:=by
 have one : ∀ (r : Nat) (g : az) π o B,(As.map sN.akq)[r]? = some g -> g.has π o B -> ∃ A,A ∈ As /\ ky (As.map (·.I)) r [] = A.I /\ π = [] /\ o = false /\ B = .arr ⟨A.te,A.tg,A.xs⟩:=by
  intro r g π o B hg hh
  rw [List.getElem?_map] at hg
  obtain ⟨A,hA,rfl⟩:=Option.map_eq_some_iff.1 hg
  have hm:=List.mem_of_getElem? hA
  obtain ⟨rfl,ho,rfl⟩:=I4 (h A hm).1 hh
  exact ⟨A,hm,by simp [ky,List.getD_eq_getElem?_getD,List.getElem?_map,hA],rfl,ho,rfl⟩
 constructor
 ·intro r g π o B hg hh
  obtain ⟨A,hm,hk,rfl,rfl,rfl⟩:=one r g π o B hg hh
  exact CQ (h A hm).1 (h A hm).2.ar hk
 ·intro r g π o B hg hh hv
  obtain ⟨A,hm,hk,rfl,rfl,rfl⟩:=one r g π o B hg hh
  rw [hk] at hv ⊢
  exact (h A hm).2.lt hv
 ·intro r g π B hg hh
  obtain ⟨A,hm,hk,rfl,ho,rfl⟩:=one r g π _ B hg hh
  cases ho
 ·intro r r' g g' π aW o' B B' hg _ hh
  obtain ⟨A,hm,hk,rfl,ho,rfl⟩:=one r g π _ B hg hh
  cases ho
theorem YK {N : Nat} {ρ : Keys} (a b c : Int) : Tm.ok N ρ (.agg [.v (.int .i64 a),.v (.int .i64 b),.v (.int .i64 c)]) (.agg #[.int .i64 a,.int .i64 b,.int .i64 c]):=⟨[_,_,_],rfl,⟨rfl,rfl⟩,⟨rfl,rfl⟩,⟨rfl,rfl⟩,trivial⟩
theorem Lz {N : Nat} {ρ : Keys} {r n : Nat} {S P : Int} {v : Value} (hr : r < N) (h : (ρ r []).head 0 n v) : Tm.ok N ρ (.agg [.v (.int .i64 S),.v (.int .i64 P),.sl r [] 0 n]) (.agg #[.int .i64 S,.int .i64 P,v]):=⟨[_,_,_],rfl,⟨rfl,rfl⟩,⟨rfl,rfl⟩,⟨hr,h⟩,trivial⟩
/-! ### The listed tables -/
def Pb : Nat -> Option (List Int)
 | 3 => some [1,10,100,1000,10000,100000,1000000,10000000,100000000,1000000000,10000000000,100000000000,1000000000000,10000000000000,100000000000000,1000000000000000,10000000000000000,100000000000000000,1000000000000000000,10000000000000000000]
 | 6 => some [0,1,28,2,29,14,24,3,30,22,20,15,25,17,4,8,31,27,13,23,21,19,16,7,26,12,18,6,11,5,10,9]
 | 7 => some [0,1,56,2,57,49,28,3,61,58,42,50,38,29,17,4,62,47,59,36,45,43,51,22,53,39,33,30,24,18,12,5,63,55,48,27,60,41,37,16,46,35,44,21,52,32,23,11,54,26,40,15,34,20,31,10,25,14,19,9,13,8,7,6]
 | _ => none
def NQ : Nat -> IntKind
 | 3 => .u64
 | _ => .u8
def BC (t : TypeId) : Bool:=t == 3 || t == 24 || t == 49 || t == 46
theorem CS (t : TypeId) (h : BC t = true) : Tryz.prog.wantsStandIn t = false:=by
 simp only [BC,Bool.or_eq_true,beq_iff_eq] at h
 rcases h with ((rfl | rfl) | rfl) | rfl
 ·exact (show Tryz.prog.wantsStandIn 3 = false by kernel_rfl)
 ·exact (show Tryz.prog.wantsStandIn 24 = false by kernel_rfl)
 ·exact (show Tryz.prog.wantsStandIn 49 = false by kernel_rfl)
 ·exact (show Tryz.prog.wantsStandIn 46 = false by kernel_rfl)
theorem Fq : Tryz.pinned.checked.prog = Tryz.prog:=rfl
theorem NX : true = Tryz.prog.looks []:=by kernel_rfl
end Go.Proofs.YthejmgnkenokpaaGreatDoor
end
