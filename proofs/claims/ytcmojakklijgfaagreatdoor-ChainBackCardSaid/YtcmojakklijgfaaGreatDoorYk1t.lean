/-
  Texts of the claims: Yk1t. No condition: lemmas and contracts.
-/
import Derived.Test.YtcmojakklijgfaaGreatDoorProg
import Derived.Test.YtcmojakklijgfaaGreatDoorSy5t
import Derived.KernelRfl
import Derived.Test.YtcmojakklijgfaaGreatDoorPl1t
set_option linter.all false
set_option maxRecDepth 100000
set_option maxHeartbeats 4000000
namespace Go.Proofs.YtcmojakklijgfaaGreatDoor
theorem leb9 {n m : Nat} (h : Nat.ble n m = true) : n ≤ m := Nat.le_of_ble_eq_true h
theorem bon9 {b x : Bool} {q : Prop} (h : b = x) (h' : b = !x) : q := by subst h; cases b <;> cases h'
theorem mem9 {r a n : Nat} (h : r ∈ [a]) (h' : Nat.ble (a + 1) n = true) : r < n := by cases List.mem_singleton.1 h; exact Nat.le_of_ble_eq_true h'
theorem men9 {r a n : Nat} {l : List Nat} (h : r ∈ [a]) (h' : Nat.ble (Go.Sy.rn l a + 1) n = true) : Go.Sy.rn l r < n := by cases List.mem_singleton.1 h; exact Nat.le_of_ble_eq_true h'
end Go.Proofs.YtcmojakklijgfaaGreatDoor
section
namespace Go.Proofs.YtcmojakklijgfaaGreatDoor
open Go Go.Sy
def tabs : Tabs where
 ty:=.node none (.node (some (.word)) (.node (some (.int .i64)) (.node (some (.st [(0,1),(1,1),(2,1),(3,1)] 4)) (.node (some (.word)) (.node (some (.word)) (.node (some (.word)) (.node (some (.word)) .nil .nil) .nil) (.node (some (.word)) (.node (some (.st [(0,1),(1,1)] 2)) .nil .nil) .nil)) (.node (some (.word)) (.node (some (.sl 41 1)) (.node (some (.word)) .nil .nil) .nil) (.node (some (.word)) (.node (some (.int .i32)) .nil .nil) .nil))) (.node (some (.st [(0,1),(1,1)] 2)) (.node none (.node (some (.sl 9 1)) (.node (some (.word)) .nil .nil) .nil) (.node (some (.word)) (.node (some (.st [(0,1),(1,1),(2,1),(3,1)] 4)) .nil .nil) .nil)) (.node (some (.word)) (.node none (.node (some (.st [(0,1)] 1)) .nil .nil) .nil) (.node (some (.word)) .nil .nil)))) (.node (some (.str)) (.node (some (.st [(0,1)] 1)) (.node (some (.word)) (.node (some (.word)) .nil .nil) (.node (some (.word)) (.node (some (.word)) .nil .nil) .nil)) (.node (some (.st [(0,1),(1,1)] 2)) (.node (some (.word)) (.node (some (.word)) .nil .nil) .nil) (.node (some (.int .i64)) .nil .nil))) (.node (some (.int .i64)) (.node (some (.word)) (.node (some (.word)) (.node (some (.st [(0,1),(1,1),(2,1)] 3)) .nil .nil) .nil) (.node (some (.word)) (.node (some (.word)) .nil .nil) .nil)) (.node (some (.sl 5 1)) (.node (some (.word)) (.node (some (.ar 5 1 65)) .nil .nil) .nil) (.node (some (.sl 4 1)) .nil .nil))))) (.node (some (.int .u8)) (.node (some (.str)) (.node (some (.word)) (.node none (.node (some (.word)) (.node (some (.word)) .nil .nil) .nil) (.node (some (.word)) .nil .nil)) (.node (some (.word)) (.node (some (.word)) .nil .nil) (.node (some (.word)) (.node (some (.st [(0,1),(1,1),(2,1),(3,1),(4,1),(5,1),(6,1),(7,1),(8,1),(9,1),(10,1)] 11)) .nil .nil) .nil))) (.node (some (.word)) (.node (some (.sl 3 1)) (.node (some (.word)) (.node (some (.word)) .nil .nil) .nil) (.node (some (.word)) (.node (some (.st [(0,0)] 0)) .nil .nil) .nil)) (.node (some (.word)) (.node (some (.word)) (.node (some (.ar 133 1 20)) .nil .nil) .nil) (.node (some (.st [(0,1)] 1)) .nil .nil)))) (.node (some (.st [(0,1),(1,1)] 2)) (.node (some (.int .i32)) (.node (some (.word)) (.node (some (.word)) (.node (some (.int .u64)) .nil .nil) .nil) (.node (some (.word)) (.node (some (.ar 5 1 64)) .nil .nil) .nil)) (.node (some (.st [(0,1),(1,1),(2,1)] 3)) (.node none (.node (some (.word)) .nil .nil) .nil) (.node (some (.word)) .nil .nil))) (.node (some (.word)) (.node none (.node (some (.word)) (.node (some (.word)) .nil .nil) .nil) (.node (some (.word)) (.node (some (.int .u8)) .nil .nil) .nil)) (.node (some (.st [(0,1),(1,1)] 2)) (.node (some (.sl 79 1)) (.node (some (.ar 5 1 256)) .nil .nil) .nil) .nil))))) (.node (some (.int .i64)) (.node (some (.bool)) (.node (some (.st [(0,1),(1,1),(2,1),(3,1)] 4)) (.node (some (.word)) (.node (some (.word)) (.node none (.node (some (.word)) .nil .nil) .nil) (.node none (.node (some (.ar 159 2 16)) .nil .nil) .nil)) (.node (some (.word)) (.node (some (.word)) (.node (some (.word)) .nil .nil) .nil) (.node (some (.word)) (.node (some (.int .i32)) .nil .nil) .nil))) (.node (some (.st [(0,1),(1,1)] 2)) (.node (some (.word)) (.node (some (.word)) (.node (some (.int .u64)) .nil .nil) .nil) (.node (some (.word)) .nil .nil)) (.node none (.node (some (.word)) (.node (some (.word)) .nil .nil) .nil) (.node (some (.word)) .nil .nil)))) (.node (some (.int .u64)) (.node (some (.word)) (.node (some (.word)) (.node (some (.word)) (.node (some (.word)) .nil .nil) .nil) (.node (some (.word)) (.node (some (.ar 5 1 32)) .nil .nil) .nil)) (.node (some (.word)) (.node (some (.word)) (.node (some (.word)) .nil .nil) .nil) .nil)) (.node none (.node (some (.sl 51 2)) (.node (some (.word)) (.node (some (.word)) .nil .nil) .nil) (.node (some (.word)) (.node (some (.int .u8)) .nil .nil) .nil)) (.node (some (.st [(0,1),(1,1)] 2)) (.node (some (.word)) (.node (some (.word)) .nil .nil) .nil) (.node (some (.word)) .nil .nil))))) (.node (some (.int .u8)) (.node (some (.str)) (.node (some (.st [(0,1)] 1)) (.node (some (.word)) (.node (some (.word)) (.node (some (.word)) .nil .nil) .nil) (.node (some (.word)) (.node (some (.word)) .nil .nil) .nil)) (.node (some (.st [(0,1),(1,1)] 2)) (.node (some (.word)) (.node (some (.word)) .nil .nil) .nil) (.node (some (.word)) (.node (some (.st [(0,1),(1,1),(2,1),(3,1),(4,1),(5,1),(6,1),(7,1),(8,1),(9,1),(10,1)] 11)) .nil .nil) .nil))) (.node (some (.word)) (.node none (.node none (.node (some (.st [(0,1),(1,1),(2,1)] 3)) .nil .nil) .nil) (.node (some (.word)) (.node (some (.st [(0,0)] 0)) .nil .nil) .nil)) (.node (some (.word)) (.node (some (.map 3 4)) (.node (some (.int .u32)) .nil .nil) .nil) (.node (some (.st [(0,1)] 1)) .nil .nil)))) (.node (some (.st [(0,1),(1,1)] 2)) (.node (some (.sl 54 3)) (.node (some (.word)) (.node (some (.word)) .nil .nil) (.node (some (.word)) (.node (some (.st [(0,1),(1,1),(2,1),(3,1)] 4)) .nil .nil) .nil)) (.node (some (.st [(0,1),(1,1),(2,1)] 3)) (.node (some (.word)) (.node (some (.st [(0,1)] 1)) .nil .nil) .nil) (.node (some (.word)) .nil .nil))) (.node none (.node (some (.word)) (.node (some (.word)) (.node (some (.ar 5 1 24)) .nil .nil) .nil) (.node (some (.word)) (.node (some (.word)) .nil .nil) .nil)) (.node (some (.word)) (.node none (.node (some (.st [(0,1),(1,1)] 2)) .nil .nil) .nil) (.node (some (.word)) .nil .nil))))))
 zero:=.node none (.node (some ([.v .nilFunc])) (.node (some ([.v (.int .i64 0)])) (.node (some ([.v (.int .i64 0),.v (.int .i64 0),.ff,.v (.int .u8 0)])) (.node (some ([.v (.pointer none)])) (.node (some ([.v .nilFunc])) (.node (some ([.v .nilIface])) (.node (some ([.v .nilFunc])) .nil .nil) .nil) (.node (some ([.v .nilFunc])) (.node (some ([.v (.int .u8 0),.v (.int .u8 0)])) .nil .nil) .nil)) (.node (some ([.v .nilFunc])) (.node (some ([.v (.slice none 0 0)])) (.node (some ([.v .nilFunc])) .nil .nil) .nil) (.node (some ([.v .nilFunc])) (.node (some ([.v (.int .i32 0)])) .nil .nil) .nil))) (.node (some ([.v (.int .i64 0),.v (.slice none 0 0)])) (.node none (.node (some ([.v (.slice none 0 0)])) (.node (some ([.v .nilFunc])) .nil .nil) .nil) (.node (some ([.v .nilFunc])) (.node (some ([.v (.pointer none),.v (.pointer none),.v (.pointer none),.v (.string ByteArray.empty)])) .nil .nil) .nil)) (.node (some ([.v .nilFunc])) (.node none (.node (some ([.v (.string ByteArray.empty)])) .nil .nil) .nil) (.node (some ([.v .nilFunc])) .nil .nil)))) (.node (some ([.v (.string ByteArray.empty)])) (.node (some ([.v (.pointer none)])) (.node (some ([.v .nilFunc])) (.node (some ([.v .nilFunc])) .nil .nil) (.node (some ([.v (.pointer none)])) (.node (some ([.v .nilFunc])) .nil .nil) .nil)) (.node (some ([.v (.int .i64 0),.v (.int .i64 0)])) (.node (some ([.v .nilFunc])) (.node (some ([.v .nilFunc])) .nil .nil) .nil) (.node (some ([.v (.int .i64 0)])) .nil .nil))) (.node (some ([.v (.int .i64 0)])) (.node (some ([.v .nilFunc])) (.node (some ([.v .nilFunc])) (.node (some ([.v (.string ByteArray.empty),.v (.string ByteArray.empty),.v .nilIface])) .nil .nil) .nil) (.node (some ([.v .nilFunc])) (.node (some ([.v .nilFunc])) .nil .nil) .nil)) (.node (some ([.v (.slice none 0 0)])) (.node (some ([.v .nilFunc])) (.node (some ([.v (.int .u8 0),.v (.int .u8 0),.v (.int .u8 0),.v (.int .u8 0),.v (.int .u8 0),.v (.int .u8 0),.v (.int .u8 0),.v (.int .u8 0),.v (.int .u8 0),.v (.int .u8 0),.v (.int .u8 0),.v (.int .u8 0),.v (.int .u8 0),.v (.int .u8 0),.v (.int .u8 0),.v (.int .u8 0),.v (.int .u8 0),.v (.int .u8 0),.v (.int .u8 0),.v (.int .u8 0),.v (.int .u8 0),.v (.int .u8 0),.v (.int .u8 0),.v (.int .u8 0),.v (.int .u8 0),.v (.int .u8 0),.v (.int .u8 0),.v (.int .u8 0),.v (.int .u8 0),.v (.int .u8 0),.v (.int .u8 0),.v (.int .u8 0),.v (.int .u8 0),.v (.int .u8 0),.v (.int .u8 0),.v (.int .u8 0),.v (.int .u8 0),.v (.int .u8 0),.v (.int .u8 0),.v (.int .u8 0),.v (.int .u8 0),.v (.int .u8 0),.v (.int .u8 0),.v (.int .u8 0),.v (.int .u8 0),.v (.int .u8 0),.v (.int .u8 0),.v (.int .u8 0),.v (.int .u8 0),.v (.int .u8 0),.v (.int .u8 0),.v (.int .u8 0),.v (.int .u8 0),.v (.int .u8 0),.v (.int .u8 0),.v (.int .u8 0),.v (.int .u8 0),.v (.int .u8 0),.v (.int .u8 0),.v (.int .u8 0),.v (.int .u8 0),.v (.int .u8 0),.v (.int .u8 0),.v (.int .u8 0),.v (.int .u8 0)])) .nil .nil) .nil) (.node (some ([.v (.slice none 0 0)])) .nil .nil))))) (.node (some ([.v (.int .u8 0)])) (.node (some ([.v (.string ByteArray.empty)])) (.node (some ([.v (.pointer none)])) (.node none (.node (some ([.v .nilFunc])) (.node (some ([.v .nilFunc])) .nil .nil) .nil) (.node (some ([.v .nilFunc])) .nil .nil)) (.node (some ([.v .nilFunc])) (.node (some ([.v .nilFunc])) .nil .nil) (.node (some ([.v .nilFunc])) (.node (some ([.v (.int .u64 0),.v (.int .u64 0),.v (.int .u32 0),.v (.int .u8 0),.v (.int .u8 0),.v (.int .u8 0),.v (.int .u8 0),.v .nilFunc,.v (.pointer none),.v (.int .i32 0),.v (.int .i32 0)])) .nil .nil) .nil))) (.node (some ([.v .nilFunc])) (.node (some ([.v (.slice none 0 0)])) (.node (some ([.v .nilFunc])) (.node (some ([.v .nilFunc])) .nil .nil) .nil) (.node (some ([.v .nilFunc])) .nil .nil)) (.node (some ([.v .nilFunc])) (.node (some ([.v .nilFunc])) (.node (some ([.v (.int .u64 0),.v (.int .u64 0),.v (.int .u64 0),.v (.int .u64 0),.v (.int .u64 0),.v (.int .u64 0),.v (.int .u64 0),.v (.int .u64 0),.v (.int .u64 0),.v (.int .u64 0),.v (.int .u64 0),.v (.int .u64 0),.v (.int .u64 0),.v (.int .u64 0),.v (.int .u64 0),.v (.int .u64 0),.v (.int .u64 0),.v (.int .u64 0),.v (.int .u64 0),.v (.int .u64 0)])) .nil .nil) .nil) (.node (some ([.v (.slice none 0 0)])) .nil .nil)))) (.node (some ([.v (.string ByteArray.empty),.v (.int .u64 0)])) (.node (some ([.v (.int .i32 0)])) (.node (some ([.v .nilFunc])) (.node (some ([.v .nilFunc])) (.node (some ([.v (.int .u64 0)])) .nil .nil) .nil) (.node (some ([.v .nilFunc])) (.node (some ([.v (.int .u8 0),.v (.int .u8 0),.v (.int .u8 0),.v (.int .u8 0),.v (.int .u8 0),.v (.int .u8 0),.v (.int .u8 0),.v (.int .u8 0),.v (.int .u8 0),.v (.int .u8 0),.v (.int .u8 0),.v (.int .u8 0),.v (.int .u8 0),.v (.int .u8 0),.v (.int .u8 0),.v (.int .u8 0),.v (.int .u8 0),.v (.int .u8 0),.v (.int .u8 0),.v (.int .u8 0),.v (.int .u8 0),.v (.int .u8 0),.v (.int .u8 0),.v (.int .u8 0),.v (.int .u8 0),.v (.int .u8 0),.v (.int .u8 0),.v (.int .u8 0),.v (.int .u8 0),.v (.int .u8 0),.v (.int .u8 0),.v (.int .u8 0),.v (.int .u8 0),.v (.int .u8 0),.v (.int .u8 0),.v (.int .u8 0),.v (.int .u8 0),.v (.int .u8 0),.v (.int .u8 0),.v (.int .u8 0),.v (.int .u8 0),.v (.int .u8 0),.v (.int .u8 0),.v (.int .u8 0),.v (.int .u8 0),.v (.int .u8 0),.v (.int .u8 0),.v (.int .u8 0),.v (.int .u8 0),.v (.int .u8 0),.v (.int .u8 0),.v (.int .u8 0),.v (.int .u8 0),.v (.int .u8 0),.v (.int .u8 0),.v (.int .u8 0),.v (.int .u8 0),.v (.int .u8 0),.v (.int .u8 0),.v (.int .u8 0),.v (.int .u8 0),.v (.int .u8 0),.v (.int .u8 0),.v (.int .u8 0)])) .nil .nil) .nil)) (.node (some ([.v (.int .i64 0),.v (.int .i64 0),.v (.int .i64 0)])) (.node none (.node (some ([.v (.pointer none)])) .nil .nil) .nil) (.node (some ([.v .nilFunc])) .nil .nil))) (.node (some ([.v .nilFunc])) (.node none (.node (some ([.v .nilFunc])) (.node (some ([.v (.pointer none)])) .nil .nil) .nil) (.node (some ([.v .nilFunc])) (.node (some ([.v (.int .u8 0)])) .nil .nil) .nil)) (.node (some ([.v (.pointer none),.v (.slice none 0 0)])) (.node (some ([.v (.slice none 0 0)])) (.node (some ([.v (.int .u8 0),.v (.int .u8 0),.v (.int .u8 0),.v (.int .u8 0),.v (.int .u8 0),.v (.int .u8 0),.v (.int .u8 0),.v (.int .u8 0),.v (.int .u8 0),.v (.int .u8 0),.v (.int .u8 0),.v (.int .u8 0),.v (.int .u8 0),.v (.int .u8 0),.v (.int .u8 0),.v (.int .u8 0),.v (.int .u8 0),.v (.int .u8 0),.v (.int .u8 0),.v (.int .u8 0),.v (.int .u8 0),.v (.int .u8 0),.v (.int .u8 0),.v (.int .u8 0),.v (.int .u8 0),.v (.int .u8 0),.v (.int .u8 0),.v (.int .u8 0),.v (.int .u8 0),.v (.int .u8 0),.v (.int .u8 0),.v (.int .u8 0),.v (.int .u8 0),.v (.int .u8 0),.v (.int .u8 0),.v (.int .u8 0),.v (.int .u8 0),.v (.int .u8 0),.v (.int .u8 0),.v (.int .u8 0),.v (.int .u8 0),.v (.int .u8 0),.v (.int .u8 0),.v (.int .u8 0),.v (.int .u8 0),.v (.int .u8 0),.v (.int .u8 0),.v (.int .u8 0),.v (.int .u8 0),.v (.int .u8 0),.v (.int .u8 0),.v (.int .u8 0),.v (.int .u8 0),.v (.int .u8 0),.v (.int .u8 0),.v (.int .u8 0),.v (.int .u8 0),.v (.int .u8 0),.v (.int .u8 0),.v (.int .u8 0),.v (.int .u8 0),.v (.int .u8 0),.v (.int .u8 0),.v (.int .u8 0),.v (.int .u8 0),.v (.int .u8 0),.v (.int .u8 0),.v (.int .u8 0),.v (.int .u8 0),.v (.int .u8 0),.v (.int .u8 0),.v (.int .u8 0),.v (.int .u8 0),.v (.int .u8 0),.v (.int .u8 0),.v (.int .u8 0),.v (.int .u8 0),.v (.int .u8 0),.v (.int .u8 0),.v (.int .u8 0),.v (.int .u8 0),.v (.int .u8 0),.v (.int .u8 0),.v (.int .u8 0),.v (.int .u8 0),.v (.int .u8 0),.v (.int .u8 0),.v (.int .u8 0),.v (.int .u8 0),.v (.int .u8 0),.v (.int .u8 0),.v (.int .u8 0),.v (.int .u8 0),.v (.int .u8 0),.v (.int .u8 0),.v (.int .u8 0),.v (.int .u8 0),.v (.int .u8 0),.v (.int .u8 0),.v (.int .u8 0),.v (.int .u8 0),.v (.int .u8 0),.v (.int .u8 0),.v (.int .u8 0),.v (.int .u8 0),.v (.int .u8 0),.v (.int .u8 0),.v (.int .u8 0),.v (.int .u8 0),.v (.int .u8 0),.v (.int .u8 0),.v (.int .u8 0),.v (.int .u8 0),.v (.int .u8 0),.v (.int .u8 0),.v (.int .u8 0),.v (.int .u8 0),.v (.int .u8 0),.v (.int .u8 0),.v (.int .u8 0),.v (.int .u8 0),.v (.int .u8 0),.v (.int .u8 0),.v (.int .u8 0),.v (.int .u8 0),.v (.int .u8 0),.v (.int .u8 0),.v (.int .u8 0),.v (.int .u8 0),.v (.int .u8 0),.v (.int .u8 0),.v (.int .u8 0),.v (.int .u8 0),.v (.int .u8 0),.v (.int .u8 0),.v (.int .u8 0),.v (.int .u8 0),.v (.int .u8 0),.v (.int .u8 0),.v (.int .u8 0),.v (.int .u8 0),.v (.int .u8 0),.v (.int .u8 0),.v (.int .u8 0),.v (.int .u8 0),.v (.int .u8 0),.v (.int .u8 0),.v (.int .u8 0),.v (.int .u8 0),.v (.int .u8 0),.v (.int .u8 0),.v (.int .u8 0),.v (.int .u8 0),.v (.int .u8 0),.v (.int .u8 0),.v (.int .u8 0),.v (.int .u8 0),.v (.int .u8 0),.v (.int .u8 0),.v (.int .u8 0),.v (.int .u8 0),.v (.int .u8 0),.v (.int .u8 0),.v (.int .u8 0),.v (.int .u8 0),.v (.int .u8 0),.v (.int .u8 0),.v (.int .u8 0),.v (.int .u8 0),.v (.int .u8 0),.v (.int .u8 0),.v (.int .u8 0),.v (.int .u8 0),.v (.int .u8 0),.v (.int .u8 0),.v (.int .u8 0),.v (.int .u8 0),.v (.int .u8 0),.v (.int .u8 0),.v (.int .u8 0),.v (.int .u8 0),.v (.int .u8 0),.v (.int .u8 0),.v (.int .u8 0),.v (.int .u8 0),.v (.int .u8 0),.v (.int .u8 0),.v (.int .u8 0),.v (.int .u8 0),.v (.int .u8 0),.v (.int .u8 0),.v (.int .u8 0),.v (.int .u8 0),.v (.int .u8 0),.v (.int .u8 0),.v (.int .u8 0),.v (.int .u8 0),.v (.int .u8 0),.v (.int .u8 0),.v (.int .u8 0),.v (.int .u8 0),.v (.int .u8 0),.v (.int .u8 0),.v (.int .u8 0),.v (.int .u8 0),.v (.int .u8 0),.v (.int .u8 0),.v (.int .u8 0),.v (.int .u8 0),.v (.int .u8 0),.v (.int .u8 0),.v (.int .u8 0),.v (.int .u8 0),.v (.int .u8 0),.v (.int .u8 0),.v (.int .u8 0),.v (.int .u8 0),.v (.int .u8 0),.v (.int .u8 0),.v (.int .u8 0),.v (.int .u8 0),.v (.int .u8 0),.v (.int .u8 0),.v (.int .u8 0),.v (.int .u8 0),.v (.int .u8 0),.v (.int .u8 0),.v (.int .u8 0),.v (.int .u8 0),.v (.int .u8 0),.v (.int .u8 0),.v (.int .u8 0),.v (.int .u8 0),.v (.int .u8 0),.v (.int .u8 0),.v (.int .u8 0),.v (.int .u8 0),.v (.int .u8 0),.v (.int .u8 0),.v (.int .u8 0),.v (.int .u8 0),.v (.int .u8 0),.v (.int .u8 0),.v (.int .u8 0),.v (.int .u8 0),.v (.int .u8 0),.v (.int .u8 0),.v (.int .u8 0),.v (.int .u8 0),.v (.int .u8 0),.v (.int .u8 0),.v (.int .u8 0),.v (.int .u8 0),.v (.int .u8 0),.v (.int .u8 0),.v (.int .u8 0)])) .nil .nil) .nil) .nil))))) (.node (some ([.v (.int .i64 0)])) (.node (some ([.ff])) (.node (some ([.v (.int .i64 0),.v (.int .i64 0),.ff,.v (.int .u8 0)])) (.node (some ([.v (.pointer none)])) (.node (some ([.v .nilFunc])) (.node none (.node (some ([.v .nilFunc])) .nil .nil) .nil) (.node none (.node (some ([.v (.int .u8 0),.v (.int .u8 0),.v (.int .u8 0),.v (.int .u8 0),.v (.int .u8 0),.v (.int .u8 0),.v (.int .u8 0),.v (.int .u8 0),.v (.int .u8 0),.v (.int .u8 0),.v (.int .u8 0),.v (.int .u8 0),.v (.int .u8 0),.v (.int .u8 0),.v (.int .u8 0),.v (.int .u8 0),.v (.int .u8 0),.v (.int .u8 0),.v (.int .u8 0),.v (.int .u8 0),.v (.int .u8 0),.v (.int .u8 0),.v (.int .u8 0),.v (.int .u8 0),.v (.int .u8 0),.v (.int .u8 0),.v (.int .u8 0),.v (.int .u8 0),.v (.int .u8 0),.v (.int .u8 0),.v (.int .u8 0),.v (.int .u8 0)])) .nil .nil) .nil)) (.node (some ([.v .nilFunc])) (.node (some ([.v .nilFunc])) (.node (some ([.v .nilFunc])) .nil .nil) .nil) (.node (some ([.v .nilFunc])) (.node (some ([.v (.int .i32 0)])) .nil .nil) .nil))) (.node (some ([.v (.int .i64 0),.v (.slice none 0 0)])) (.node (some ([.v .nilFunc])) (.node (some ([.v .nilFunc])) (.node (some ([.v (.int .u64 0)])) .nil .nil) .nil) (.node (some ([.v .nilFunc])) .nil .nil)) (.node none (.node (some ([.v .nilFunc])) (.node (some ([.v .nilFunc])) .nil .nil) .nil) (.node (some ([.v .nilFunc])) .nil .nil)))) (.node (some ([.v (.int .u64 0)])) (.node (some ([.v .nilIface])) (.node (some ([.v .nilFunc])) (.node (some ([.v .nilFunc])) (.node (some ([.v .nilFunc])) .nil .nil) .nil) (.node (some ([.v .nilFunc])) (.node (some ([.v (.int .u8 0),.v (.int .u8 0),.v (.int .u8 0),.v (.int .u8 0),.v (.int .u8 0),.v (.int .u8 0),.v (.int .u8 0),.v (.int .u8 0),.v (.int .u8 0),.v (.int .u8 0),.v (.int .u8 0),.v (.int .u8 0),.v (.int .u8 0),.v (.int .u8 0),.v (.int .u8 0),.v (.int .u8 0),.v (.int .u8 0),.v (.int .u8 0),.v (.int .u8 0),.v (.int .u8 0),.v (.int .u8 0),.v (.int .u8 0),.v (.int .u8 0),.v (.int .u8 0),.v (.int .u8 0),.v (.int .u8 0),.v (.int .u8 0),.v (.int .u8 0),.v (.int .u8 0),.v (.int .u8 0),.v (.int .u8 0),.v (.int .u8 0)])) .nil .nil) .nil)) (.node (some ([.v .nilFunc])) (.node (some ([.v .nilFunc])) (.node (some ([.v .nilFunc])) .nil .nil) .nil) .nil)) (.node none (.node (some ([.v (.slice none 0 0)])) (.node (some ([.v .nilFunc])) (.node (some ([.v .nilFunc])) .nil .nil) .nil) (.node (some ([.v .nilFunc])) (.node (some ([.v (.int .u8 0)])) .nil .nil) .nil)) (.node (some ([.v (.pointer none),.v (.slice none 0 0)])) (.node (some ([.v .nilFunc])) (.node (some ([.v .nilFunc])) .nil .nil) .nil) (.node (some ([.v .nilFunc])) .nil .nil))))) (.node (some ([.v (.int .u8 0)])) (.node (some ([.v (.string ByteArray.empty)])) (.node (some ([.v (.pointer none)])) (.node (some ([.v .nilFunc])) (.node (some ([.v .nilFunc])) (.node (some ([.v .nilFunc])) .nil .nil) .nil) (.node (some ([.v .nilFunc])) (.node (some ([.v .nilFunc])) .nil .nil) .nil)) (.node (some ([.v (.int .i64 0),.v (.int .i64 0)])) (.node (some ([.v .nilFunc])) (.node (some ([.v .nilFunc])) .nil .nil) .nil) (.node (some ([.v .nilFunc])) (.node (some ([.v (.int .u64 0),.v (.int .u64 0),.v (.int .u32 0),.v (.int .u8 0),.v (.int .u8 0),.v (.int .u8 0),.v (.int .u8 0),.v .nilFunc,.v (.pointer none),.v (.int .i32 0),.v (.int .i32 0)])) .nil .nil) .nil))) (.node (some ([.v .nilFunc])) (.node none (.node none (.node (some ([.v (.string ByteArray.empty),.v (.string ByteArray.empty),.v .nilIface])) .nil .nil) .nil) (.node (some ([.v .nilFunc])) .nil .nil)) (.node (some ([.v (.pointer none)])) (.node (some ([.v (.map none)])) (.node (some ([.v (.int .u32 0)])) .nil .nil) .nil) (.node (some ([.v (.slice none 0 0)])) .nil .nil)))) (.node (some ([.v (.string ByteArray.empty),.v (.int .u64 0)])) (.node (some ([.v (.slice none 0 0)])) (.node (some ([.v .nilFunc])) (.node (some ([.v .nilFunc])) .nil .nil) (.node (some ([.v .nilFunc])) (.node (some ([.v (.pointer none),.v (.pointer none),.v (.pointer none),.v (.string ByteArray.empty)])) .nil .nil) .nil)) (.node (some ([.v (.int .i64 0),.v (.int .i64 0),.v (.int .i64 0)])) (.node (some ([.v .nilFunc])) (.node (some ([.v (.string ByteArray.empty)])) .nil .nil) .nil) (.node (some ([.v (.pointer none)])) .nil .nil))) (.node none (.node (some ([.v .nilFunc])) (.node (some ([.v .nilFunc])) (.node (some ([.v (.int .u8 0),.v (.int .u8 0),.v (.int .u8 0),.v (.int .u8 0),.v (.int .u8 0),.v (.int .u8 0),.v (.int .u8 0),.v (.int .u8 0),.v (.int .u8 0),.v (.int .u8 0),.v (.int .u8 0),.v (.int .u8 0),.v (.int .u8 0),.v (.int .u8 0),.v (.int .u8 0),.v (.int .u8 0),.v (.int .u8 0),.v (.int .u8 0),.v (.int .u8 0),.v (.int .u8 0),.v (.int .u8 0),.v (.int .u8 0),.v (.int .u8 0),.v (.int .u8 0)])) .nil .nil) .nil) (.node none (.node (some ([.v .nilFunc])) .nil .nil) .nil)) (.node (some ([.v .nilIface])) (.node none (.node (some ([.v (.int .u8 0),.v (.int .u8 0)])) .nil .nil) .nil) (.node (some ([.v .nilFunc])) .nil .nil))))))
 kd:=.node none (.node none (.node (some ([.int .i64])) (.node (some ([.int .i64,.int .i64,.bool,.int .u8])) (.node none (.node none .nil (.node none (.node (some ([.int .u8,.int .u8])) .nil .nil) .nil)) (.node none (.node (some ([.sl 41 [.sl 3 [.int .i64]]])) .nil .nil) (.node none (.node (some ([.int .i32])) .nil .nil) .nil))) (.node (some ([.int .i64,.sl 54 [.int .i64,.int .i64,.int .i64]])) (.node none (.node (some ([.sl 9 [.str]])) .nil .nil) .nil) (.node none (.node none (.node (some ([.str])) .nil .nil) .nil) .nil))) (.node (some ([.str])) (.node none .nil (.node (some ([.int .i64,.int .i64])) .nil (.node (some ([.int .i64])) .nil .nil))) (.node (some ([.int .i64])) .nil (.node (some ([.sl 5 [.int .u8]])) (.node none (.node (some ([.int .u8,.int .u8,.int .u8,.int .u8,.int .u8,.int .u8,.int .u8,.int .u8,.int .u8,.int .u8,.int .u8,.int .u8,.int .u8,.int .u8,.int .u8,.int .u8,.int .u8,.int .u8,.int .u8,.int .u8,.int .u8,.int .u8,.int .u8,.int .u8,.int .u8,.int .u8,.int .u8,.int .u8,.int .u8,.int .u8,.int .u8,.int .u8,.int .u8,.int .u8,.int .u8,.int .u8,.int .u8,.int .u8,.int .u8,.int .u8,.int .u8,.int .u8,.int .u8,.int .u8,.int .u8,.int .u8,.int .u8,.int .u8,.int .u8,.int .u8,.int .u8,.int .u8,.int .u8,.int .u8,.int .u8,.int .u8,.int .u8,.int .u8,.int .u8,.int .u8,.int .u8,.int .u8,.int .u8,.int .u8,.int .u8])) .nil .nil) .nil) (.node (some ([.sl 4 [.bool]])) .nil .nil))))) (.node (some ([.int .u8])) (.node (some ([.str])) .nil (.node none (.node (some ([.sl 3 [.int .i64]])) .nil .nil) (.node none (.node none (.node (some ([.int .u64,.int .u64,.int .u64,.int .u64,.int .u64,.int .u64,.int .u64,.int .u64,.int .u64,.int .u64,.int .u64,.int .u64,.int .u64,.int .u64,.int .u64,.int .u64,.int .u64,.int .u64,.int .u64,.int .u64])) .nil .nil) .nil) (.node (some ([.sl 3 [.int .i64]])) .nil .nil)))) (.node (some ([.str,.int .u64])) (.node (some ([.int .i32])) (.node none (.node none (.node (some ([.int .u64])) .nil .nil) .nil) (.node none (.node (some ([.int .u8,.int .u8,.int .u8,.int .u8,.int .u8,.int .u8,.int .u8,.int .u8,.int .u8,.int .u8,.int .u8,.int .u8,.int .u8,.int .u8,.int .u8,.int .u8,.int .u8,.int .u8,.int .u8,.int .u8,.int .u8,.int .u8,.int .u8,.int .u8,.int .u8,.int .u8,.int .u8,.int .u8,.int .u8,.int .u8,.int .u8,.int .u8,.int .u8,.int .u8,.int .u8,.int .u8,.int .u8,.int .u8,.int .u8,.int .u8,.int .u8,.int .u8,.int .u8,.int .u8,.int .u8,.int .u8,.int .u8,.int .u8,.int .u8,.int .u8,.int .u8,.int .u8,.int .u8,.int .u8,.int .u8,.int .u8,.int .u8,.int .u8,.int .u8,.int .u8,.int .u8,.int .u8,.int .u8,.int .u8])) .nil .nil) .nil)) (.node (some ([.int .i64,.int .i64,.int .i64])) .nil .nil)) (.node none (.node none .nil (.node none (.node (some ([.int .u8])) .nil .nil) .nil)) (.node none (.node (some ([.sl 79 [.sl 41 [.sl 3 [.int .i64]]]])) (.node (some ([.int .u8,.int .u8,.int .u8,.int .u8,.int .u8,.int .u8,.int .u8,.int .u8,.int .u8,.int .u8,.int .u8,.int .u8,.int .u8,.int .u8,.int .u8,.int .u8,.int .u8,.int .u8,.int .u8,.int .u8,.int .u8,.int .u8,.int .u8,.int .u8,.int .u8,.int .u8,.int .u8,.int .u8,.int .u8,.int .u8,.int .u8,.int .u8,.int .u8,.int .u8,.int .u8,.int .u8,.int .u8,.int .u8,.int .u8,.int .u8,.int .u8,.int .u8,.int .u8,.int .u8,.int .u8,.int .u8,.int .u8,.int .u8,.int .u8,.int .u8,.int .u8,.int .u8,.int .u8,.int .u8,.int .u8,.int .u8,.int .u8,.int .u8,.int .u8,.int .u8,.int .u8,.int .u8,.int .u8,.int .u8,.int .u8,.int .u8,.int .u8,.int .u8,.int .u8,.int .u8,.int .u8,.int .u8,.int .u8,.int .u8,.int .u8,.int .u8,.int .u8,.int .u8,.int .u8,.int .u8,.int .u8,.int .u8,.int .u8,.int .u8,.int .u8,.int .u8,.int .u8,.int .u8,.int .u8,.int .u8,.int .u8,.int .u8,.int .u8,.int .u8,.int .u8,.int .u8,.int .u8,.int .u8,.int .u8,.int .u8,.int .u8,.int .u8,.int .u8,.int .u8,.int .u8,.int .u8,.int .u8,.int .u8,.int .u8,.int .u8,.int .u8,.int .u8,.int .u8,.int .u8,.int .u8,.int .u8,.int .u8,.int .u8,.int .u8,.int .u8,.int .u8,.int .u8,.int .u8,.int .u8,.int .u8,.int .u8,.int .u8,.int .u8,.int .u8,.int .u8,.int .u8,.int .u8,.int .u8,.int .u8,.int .u8,.int .u8,.int .u8,.int .u8,.int .u8,.int .u8,.int .u8,.int .u8,.int .u8,.int .u8,.int .u8,.int .u8,.int .u8,.int .u8,.int .u8,.int .u8,.int .u8,.int .u8,.int .u8,.int .u8,.int .u8,.int .u8,.int .u8,.int .u8,.int .u8,.int .u8,.int .u8,.int .u8,.int .u8,.int .u8,.int .u8,.int .u8,.int .u8,.int .u8,.int .u8,.int .u8,.int .u8,.int .u8,.int .u8,.int .u8,.int .u8,.int .u8,.int .u8,.int .u8,.int .u8,.int .u8,.int .u8,.int .u8,.int .u8,.int .u8,.int .u8,.int .u8,.int .u8,.int .u8,.int .u8,.int .u8,.int .u8,.int .u8,.int .u8,.int .u8,.int .u8,.int .u8,.int .u8,.int .u8,.int .u8,.int .u8,.int .u8,.int .u8,.int .u8,.int .u8,.int .u8,.int .u8,.int .u8,.int .u8,.int .u8,.int .u8,.int .u8,.int .u8,.int .u8,.int .u8,.int .u8,.int .u8,.int .u8,.int .u8,.int .u8,.int .u8,.int .u8,.int .u8,.int .u8,.int .u8,.int .u8,.int .u8,.int .u8,.int .u8,.int .u8,.int .u8,.int .u8,.int .u8,.int .u8,.int .u8,.int .u8,.int .u8,.int .u8,.int .u8,.int .u8,.int .u8,.int .u8,.int .u8,.int .u8,.int .u8,.int .u8,.int .u8,.int .u8,.int .u8,.int .u8,.int .u8,.int .u8,.int .u8,.int .u8,.int .u8,.int .u8,.int .u8])) .nil .nil) .nil) .nil))))) (.node (some ([.int .i64])) (.node (some ([.bool])) (.node (some ([.int .i64,.int .i64,.bool,.int .u8])) (.node none (.node none .nil (.node none (.node (some ([.int .u8,.int .u8,.int .u8,.int .u8,.int .u8,.int .u8,.int .u8,.int .u8,.int .u8,.int .u8,.int .u8,.int .u8,.int .u8,.int .u8,.int .u8,.int .u8,.int .u8,.int .u8,.int .u8,.int .u8,.int .u8,.int .u8,.int .u8,.int .u8,.int .u8,.int .u8,.int .u8,.int .u8,.int .u8,.int .u8,.int .u8,.int .u8])) .nil .nil) .nil)) (.node none .nil (.node none (.node (some ([.int .i32])) .nil .nil) .nil))) (.node (some ([.int .i64,.sl 54 [.int .i64,.int .i64,.int .i64]])) (.node none (.node none (.node (some ([.int .u64])) .nil .nil) .nil) .nil) .nil)) (.node (some ([.int .u64])) (.node none (.node none .nil (.node none (.node (some ([.int .u8,.int .u8,.int .u8,.int .u8,.int .u8,.int .u8,.int .u8,.int .u8,.int .u8,.int .u8,.int .u8,.int .u8,.int .u8,.int .u8,.int .u8,.int .u8,.int .u8,.int .u8,.int .u8,.int .u8,.int .u8,.int .u8,.int .u8,.int .u8,.int .u8,.int .u8,.int .u8,.int .u8,.int .u8,.int .u8,.int .u8,.int .u8])) .nil .nil) .nil)) .nil) (.node none (.node (some ([.sl 51 [.int .i64,.int .i64]])) .nil (.node none (.node (some ([.int .u8])) .nil .nil) .nil)) .nil))) (.node (some ([.int .u8])) (.node (some ([.str])) (.node none .nil (.node (some ([.int .i64,.int .i64])) .nil .nil)) (.node none .nil (.node none (.node none (.node (some ([.int .u32])) .nil .nil) .nil) (.node (some ([.sl 3 [.int .i64]])) .nil .nil)))) (.node (some ([.str,.int .u64])) (.node (some ([.sl 54 [.int .i64,.int .i64,.int .i64]])) .nil (.node (some ([.int .i64,.int .i64,.int .i64])) (.node none (.node (some ([.str])) .nil .nil) .nil) .nil)) (.node none (.node none (.node none (.node (some ([.int .u8,.int .u8,.int .u8,.int .u8,.int .u8,.int .u8,.int .u8,.int .u8,.int .u8,.int .u8,.int .u8,.int .u8,.int .u8,.int .u8,.int .u8,.int .u8,.int .u8,.int .u8,.int .u8,.int .u8,.int .u8,.int .u8,.int .u8,.int .u8])) .nil .nil) .nil) .nil) (.node none (.node none (.node (some ([.int .u8,.int .u8])) .nil .nil) .nil) .nil)))))
 sc:=.node none (.node none (.node (some (.int .i64)) (.node none (.node none .nil (.node none (.node (some (.sl 41 [.sl 3 [.int .i64]])) .nil .nil) (.node none (.node (some (.int .i32)) .nil .nil) .nil))) (.node none (.node none (.node (some (.sl 9 [.str])) .nil .nil) .nil) .nil)) (.node (some (.str)) (.node none .nil (.node none .nil (.node (some (.int .i64)) .nil .nil))) (.node (some (.int .i64)) .nil (.node (some (.sl 5 [.int .u8])) .nil (.node (some (.sl 4 [.bool])) .nil .nil))))) (.node (some (.int .u8)) (.node (some (.str)) .nil (.node none (.node (some (.sl 3 [.int .i64])) .nil .nil) .nil)) (.node none (.node (some (.int .i32)) (.node none (.node none (.node (some (.int .u64)) .nil .nil) .nil) .nil) .nil) (.node none (.node none .nil (.node none (.node (some (.int .u8)) .nil .nil) .nil)) (.node none (.node (some (.sl 79 [.sl 41 [.sl 3 [.int .i64]]])) .nil .nil) .nil))))) (.node (some (.int .i64)) (.node (some (.bool)) (.node none (.node none .nil (.node none .nil (.node none (.node (some (.int .i32)) .nil .nil) .nil))) (.node none (.node none (.node none (.node (some (.int .u64)) .nil .nil) .nil) .nil) .nil)) (.node (some (.int .u64)) .nil (.node none (.node (some (.sl 51 [.int .i64,.int .i64])) .nil (.node none (.node (some (.int .u8)) .nil .nil) .nil)) .nil))) (.node (some (.int .u8)) (.node (some (.str)) .nil (.node none .nil (.node none (.node none (.node (some (.int .u32)) .nil .nil) .nil) .nil))) (.node none (.node (some (.sl 54 [.int .i64,.int .i64,.int .i64])) .nil .nil) .nil)))
 eqs:=.node none (.node none (.node none (.node none (.node none (.node none .nil (.node none (.node (some ([0,0])) .nil .nil) .nil)) .nil) (.node none .nil (.node none (.node none (.node (some ([2])) .nil .nil) .nil) .nil))) (.node none (.node none .nil (.node (some ([0,0])) .nil .nil)) .nil)) (.node none .nil (.node none (.node none .nil (.node (some ([0,0,0])) .nil .nil)) .nil))) (.node none .nil (.node none (.node none (.node none .nil (.node (some ([0,0])) .nil .nil)) .nil) (.node none (.node none .nil (.node (some ([0,0,0])) (.node none (.node (some ([2])) .nil .nil) .nil) .nil)) (.node none .nil (.node none (.node none (.node (some ([0,0])) .nil .nil) .nil) .nil)))))
 lf:=.node none (.node none (.node none (.node none (.node none (.node none .nil (.node none (.node (some ([true,true])) .nil .nil) .nil)) .nil) (.node (some ([true,true])) .nil (.node none (.node none (.node (some ([true])) .nil .nil) .nil) .nil))) (.node none (.node none .nil (.node (some ([true,true])) .nil .nil)) (.node none (.node none (.node none (.node (some ([true,true,true])) .nil .nil) .nil) .nil) .nil))) (.node none (.node none .nil (.node none .nil (.node none .nil (.node (some ([true])) .nil .nil)))) (.node none (.node none .nil (.node (some ([true,true,true])) .nil .nil)) (.node none .nil (.node (some ([true,true])) .nil .nil))))) (.node none (.node none (.node none .nil (.node (some ([true,true])) .nil .nil)) (.node none .nil (.node none .nil (.node (some ([true,true])) .nil .nil)))) (.node none (.node none (.node none .nil (.node (some ([true,true])) .nil .nil)) (.node none (.node none (.node none (.node (some ([true,true,true])) .nil .nil) .nil) .nil) (.node none .nil (.node (some ([true])) .nil .nil)))) (.node none (.node none .nil (.node (some ([true,true,true])) (.node none (.node (some ([true])) .nil .nil) .nil) .nil)) (.node none .nil (.node none (.node none (.node (some ([true,true])) .nil .nil) .nil) .nil)))))
theorem tabs_ok : TabsOk Tryz.prog tabs where
 ty:=by kernel_rfl
 zero:=by kernel_rfl
 kd:=by kernel_rfl
 sc:=by kernel_rfl
 eqs:=by kernel_rfl
 lf:=by kernel_rfl
theorem mixed : Tryz.prog.follows .mixedOrders = true:=by kernel_rfl
end Go.Proofs.YtcmojakklijgfaaGreatDoor
end
section
namespace Go.Proofs.YtcmojakklijgfaaGreatDoor
open Go Go.Sy Go.Chn
variable {Γ : Glob}
abbrev vI (n : Int) : At:=.v (.int .i64 n)
abbrev kI : List CK:=[.int .i64]
abbrev kL : List CK:=[.int .i64,.int .i64,.int .i64]
theorem body_of {f : FuncId} {fn : Func} (h : Tryz.prog.funcs[f]? = some fn) (h2 : (fn.name == "runtime.NumGoroutine") = false) {c : Code} (h3 : fn.body = some c) : BodyOk Tryz.prog f ⟨fn.ntmps, c, fn.results.toList⟩ :=
 ⟨fn,h,h2,h3,rfl,by simp⟩
theorem prog_ok {l : List (Nat × Ctr)} (hl : CsOk Tryz.prog Γ l) {bs : List (Nat × Body)} (hb : BsOk Tryz.prog bs) (conc : Bool) (un : Nat) : ProgOk Tryz.prog Γ (tabs.env l bs conc un) :=
 ⟨mixed,fun f c h => (hl.h f c h).1,fun f b h => hb.h f b h,tabs.envOk tabs_ok hl bs conc un⟩
def nodeB (N n : Int) : Bool:=decide (0 ≤ n) && decide (n < N)
def slOf : At → Bool
 | .sl _ _ _ _ => true
 | .v (.slice none 0 0) => true
 | .z => true
 | _ => false
theorem pas_dead {x : At} (h : slOf x = true) (rg : List Reg) : ∃ (is : Pas) (lo k : Nat),paA is 1 x (.sl 0 [] lo k) ∧ ∀ (r : Nat) (g : Reg),[Reg.dead][r]? = some g → paR rg is 1 r g:=by
 have hd : ∀ (is : Pas) (r : Nat) (g : Reg),[Reg.dead][r]? = some g → paR rg is 1 r g:=fun is r g hg => by
  cases r with
  | zero => obtain rfl:=Option.some.inj hg;trivial
  | succ r => cases hg
 unfold slOf at h
 split at h
 ·rename_i r π lo n;exact ⟨[some (r,π)],lo,n,.inr ⟨r,π,rfl,Nat.zero_lt_one,rfl⟩,hd _⟩
 ·exact ⟨[none],0,0,.inl ⟨.inl rfl,rfl,rfl,Nat.zero_lt_one,rfl⟩,hd _⟩
 ·exact ⟨[none],0,0,.inl ⟨.inr rfl,rfl,rfl,Nat.zero_lt_one,rfl⟩,hd _⟩
 ·cases h
def c64 : Ctr:=.fn fun args _ => match args with
 | [.agg [.v (.int .i64 N),x],.a (.v (.int .i64 n))] => (match slOf x with | true => some ([],.a (.v (.bool (nodeB N n)))) | false => none)
 | _ => none
theorem c64_ok : Ctr.Ok Tryz.prog Γ 52 c64:=Ctr.fn_ok (d:=0) (prog_ok CsOk.nil BsOk.nil false 0) (body_of Tryz.func52 rfl rfl) (by
 intro args rg q t hF hq
 split at hF
 next N x n =>
  split at hF
  next hx =>
   obtain ⟨rfl,rfl⟩:=Prod.mk.inj (Option.some.inj hF);clear hF
   refine ⟨rfl,?_⟩
   obtain ⟨is,lo,k,hp,hr⟩:=pas_dead hx rg
   refine ⟨is,[.agg [vI N,.sl 0 [] lo k],.a (vI n)],[.dead],⟨⟨⟨rfl,hp,trivial⟩,rfl,trivial⟩,hr⟩,?_⟩
   repeat' ((conv => whnf);(first | apply And.intro | intro _))
   all_goals try (conv => whnf)
   all_goals simp only [decide_eq_true_eq,decide_eq_false_iff_not] at *
   ·unfold nodeB;rw [decide_eq_true (show 0 ≤ n by omega)];rfl
   ·unfold nodeB;rw [decide_eq_false (show ¬ 0 ≤ n by omega)];rfl
  next => cases hF
 next => cases hF)
def badL (N : Int) (l : Lk) : Bool:=!nodeB N l.1 || !nodeB N l.2.1 || l.1 == l.2.1 || decide (l.2.2 < -4503599627370496) || decide (l.2.2 > 4503599627370496)
def ckL (N : Int) : Nat → List Lk → Int × Int
 | _,[] => (0,-1)
 | i,l :: L => if badL N l = true then (1,(i : Int)) else ckL N (i + 1) L
def checkF (N : Int) (L : List Lk) : Int × Int:=if N < 1 ∨ N > 60 then (1,-1) else if L.length > 300 then (2,-1) else ckL N 0 L
def lksOf (rg : List Reg) : At → Option (List Duty × List Lk)
 | .sl r π lo n => (match (rg.getD r .dead).dn π with | some (q,⟨54,tg,xs⟩) => (match tagEq tg kL with | some h => some (q ++ [(Duty.of (lo = 0)),(Duty.of (n = xs.length))],castL h.down xs) | none => none) | _ => none)
 | .v (.slice none 0 0) => some ([],[])
 | .z => some ([],[])
 | _ => none
theorem pas_lks {rg : List Reg} {x : At} {q : List Duty} {L : List Lk} (h : lksOf rg x = some (q,L)) (hq : obl q) :
  ∃ is : Pas,paA is 1 x (.sl 0 [] 0 L.length) ∧ ∀ (r : Nat) (g : Reg),[Reg.arr 54 kL L false false][r]? = some g → paR rg is 1 r g:=by
 have one : ∀ (is : Pas),paR rg is 1 0 (Reg.arr 54 kL L false false) → ∀ (r : Nat) (g : Reg),[Reg.arr 54 kL L false false][r]? = some g → paR rg is 1 r g:=fun is h r g hg => by
  cases r with
  | zero => obtain rfl:=Option.some.inj hg;exact h
  | succ r => cases hg
 unfold lksOf at h
 split at h
 ·rename_i r π lo n
  split at h
  ·rename_i q0 tg xs hd
   split at h
   ·rename_i ht _
    obtain ⟨rfl,rfl⟩:=Prod.mk.inj (Option.some.inj h)
    obtain ⟨ht⟩:=ht
    subst ht
    obtain ⟨h1,h2,h3,_⟩:=(obl_append _ _).1 hq
    simp only [Duty.of_p] at h2 h3
    subst h2 h3
    exact ⟨[some (r,π)],.inr ⟨r,π,rfl,Nat.zero_lt_one,rfl⟩,one _ ⟨rfl,rfl,.inr ⟨r,π,q0,rfl,hd,h1⟩⟩⟩
   ·cases h
  ·cases h
 ·obtain ⟨rfl,rfl⟩:=Prod.mk.inj (Option.some.inj h)
  exact ⟨[none],.inl ⟨.inl rfl,rfl,rfl,Nat.zero_lt_one,rfl⟩,one _ ⟨rfl,rfl,.inl ⟨rfl,rfl,by simp⟩⟩⟩
 ·obtain ⟨rfl,rfl⟩:=Prod.mk.inj (Option.some.inj h)
  exact ⟨[none],.inl ⟨.inr rfl,rfl,rfl,Nat.zero_lt_one,rfl⟩,one _ ⟨rfl,rfl,.inl ⟨rfl,rfl,by simp⟩⟩⟩
 ·cases h
def anyT : Nat → Tr
 | 0 => .nil
 | d + 1 => .node (.a .any) (anyT d) (anyT d)
def putsL : List Nat → List Tm → Tr → Tr
 | i :: is,x :: xs,t => putsL is xs (t.put i x)
 | _,_,t => t
def slotsT (n : Nat) (is : List Nat) (xs : List Tm) : Sl:=⟨n,putsL is xs (anyT (depthOf n))⟩
def lk (L : List Lk) (i : Nat) : Lk:=L.getD i (0,0,0)
theorem getL (L : List Lk) (i : Nat) : Ar.get ⟨54,kL,L⟩ i = (lk L i : Tup kL):=rfl
theorem drop_lk {L : List Lk} {i : Nat} (h : i < L.length) : L.drop i = lk L i :: L.drop (i + 1):=by
 rw [List.drop_eq_getElem_cons h]
 simp [lk,List.getD,h]
def L1 : List (Nat × Ctr):=[(52,c64)]
theorem L1_ok : CsOk Tryz.prog Γ L1:=CsOk.nil.cons (body_of Tryz.func52 rfl rfl).fn c64_ok
def c22 : Ctr:=.fn fun args rg => match args with
 | [.agg [.v (.int .i64 N),x]] => (match lksOf rg x with | some (q,L) => some (q ++ [(Duty.of (L.length ≤ cap40))],.tup [.a (vI (checkF N L).1),.a (vI (checkF N L).2)]) | none => none)
 | _ => none
theorem c22_ok : Ctr.Ok Tryz.prog Γ 25 c22:=Ctr.fn_ok (d:=0) (prog_ok L1_ok BsOk.nil false 0) (body_of Tryz.func25 rfl rfl) (by
 intro args rg q t hF hq
 split at hF
 next N x =>
  split at hF
  next q0 L hx =>
   obtain ⟨rfl,rfl⟩:=Prod.mk.inj (Option.some.inj hF);clear hF
   obtain ⟨hq0,hL,_⟩:=(obl_append _ _).1 hq
   simp only [Duty.of_p] at hL
   refine ⟨rfl,?_⟩
   obtain ⟨is,hp,hr⟩:=pas_lks hx hq0
   refine ⟨is,[.agg [vI N,.sl 0 [] 0 L.length]],[.arr 54 kL L false false],⟨⟨⟨rfl,hp,trivial⟩,trivial⟩,hr⟩,?_⟩
   clear hp hr hx hq hq0 is
   have f1 : N < 1 → checkF N L = (1,-1):=fun h => by unfold checkF;rw [if_pos (.inl h)]
   have f2 : N > 60 → checkF N L = (1,-1):=fun h => by unfold checkF;rw [if_pos (.inr h)]
   have f3 : ¬ N < 1 → ¬ N > 60 → L.length > 300 → checkF N L = (2,-1):=fun h h' h2 => by unfold checkF;rw [if_neg (by omega),if_pos h2]
   have f4 : ¬ N < 1 → ¬ N > 60 → ¬ L.length > 300 → checkF N L = ckL N 0 L:=fun h h' h2 => by unfold checkF;rw [if_neg (by omega),if_neg h2]
   generalize checkF N L = res at *
   repeat' ((conv => whnf);(first | apply And.intro | intro _))
   all_goals try (conv => whnf)
   all_goals try trivial
   all_goals try simp only [decide_eq_true_eq,decide_eq_false_iff_not] at *
   all_goals try subst_vars
   ·rw [f1 (by omega)]
   ·rw [f1 (by omega)]
   ·rw [f2 (by omega)]
   ·rw [f2 (by omega)]
   ·rw [f3 (by omega) (by omega) (by omega)]
   ·rw [f3 (by omega) (by omega) (by omega)]
   ·rw [f4 (by omega) (by omega) (by omega)]
    refine ⟨Nat,fun i => i ≤ L.length ∧ ckL N 0 L = ckL N i (L.drop i),fun i => ⟨slotsT 57 [1,19,20,21] [.a (.p 1 [] 0 0),.a (.sl 0 [] 0 L.length),.a (vI L.length),.a (vI i)],[],[.arr 54 kL L false false,.box true [vI N,.sl 0 [] 0 L.length]]⟩,fun i => L.length - i,0,[],⟨Nat.zero_le _,rfl⟩,?_,?_⟩
    ·repeat' ((conv => whnf);(first | apply And.intro | intro _))
     all_goals first | rfl | trivial | exact leb9 rfl | exact ⟨rfl,rfl,rfl⟩
    ·rintro i ⟨hi,hv⟩
     rw [hv]
     repeat' ((conv => whnf);(first | apply And.intro | intro _))
     all_goals try (conv => whnf)
     all_goals try trivial
     all_goals try subst_vars
     all_goals try simp only [getL] at *
     all_goals try dsimp only [kL,Tup,CK.ty] at *
     all_goals try simp only [decide_eq_true_eq,decide_eq_false_iff_not,Nat.zero_add,Int.toNat_natCast,Bool.not_eq_true',Bool.not_eq_false',Bool.not_eq_true,Bool.not_eq_false,Bool.not_not] at *
     all_goals first
      | exact ⟨by simp only [Duty.of_p];omega⟩
      | exact ⟨by simp only [inRQ,inR];omega⟩
      | (rw [drop_lk (show i < L.length by omega),ckL,if_pos (by simp [badL, *])];done)
      | (rw [List.drop_eq_nil_of_le (by omega),ckL];done)
      | skip
     refine ⟨i + 1,[],⟨by omega,?_⟩,?_,by omega⟩
     ·rw [drop_lk (show i < L.length by omega)]
      conv => lhs;rw [ckL]
      rw [if_neg (by simp [badL, *])]
     ·repeat' ((conv => whnf);(first | apply And.intro | intro _))
      all_goals first | rfl | trivial | exact leb9 rfl | exact ⟨rfl,rfl,rfl⟩
  next => cases hF
 next => cases hF)
end Go.Proofs.YtcmojakklijgfaaGreatDoor
end
section
namespace Go.Proofs.YtcmojakklijgfaaGreatDoor
open Go Go.Sy Go.Chn
variable {Γ : Glob}
def rno : At → Option Nat
 | .sl r _ _ _ => some r
 | _ => none
theorem pas_lks' {rg : List Reg} {x : At} {q : List Duty} {L : List Lk} (h : lksOf rg x = some (q,L)) (hq : obl q) :
  ∃ e : Option (Nat × Path),(∀ (is : Pas) n,is[0]? = some e → 0 < n → paA is n x (.sl 0 [] 0 L.length) ∧ paR rg is n 0 (.arr 54 kL L false false)) ∧ ∀ r π,e = some (r,π) → rno x = some r:=by
 unfold lksOf at h
 split at h
 ·rename_i r π lo n
  split at h
  ·rename_i q0 tg xs hd
   split at h
   ·rename_i ht _
    obtain ⟨rfl,rfl⟩:=Prod.mk.inj (Option.some.inj h)
    obtain ⟨ht⟩:=ht
    subst ht
    obtain ⟨h1,h2,h3,_⟩:=(obl_append _ _).1 hq
    simp only [Duty.of_p] at h2 h3
    subst h2 h3
    exact ⟨some (r,π),fun is m hi hm => ⟨.inr ⟨r,π,rfl,hm,hi⟩,rfl,rfl,.inr ⟨r,π,q0,hi,hd,h1⟩⟩,fun r' π' e => by cases e;rfl⟩
   ·cases h
  ·cases h
 ·obtain ⟨rfl,rfl⟩:=Prod.mk.inj (Option.some.inj h)
  exact ⟨none,fun is m hi hm => ⟨.inl ⟨.inl rfl,rfl,rfl,hm,hi⟩,rfl,rfl,.inl ⟨hi,rfl,by simp⟩⟩,fun r' π' e => by cases e⟩
 ·obtain ⟨rfl,rfl⟩:=Prod.mk.inj (Option.some.inj h)
  exact ⟨none,fun is m hi hm => ⟨.inl ⟨.inr rfl,rfl,rfl,hm,hi⟩,rfl,rfl,.inl ⟨hi,rfl,by simp⟩⟩,fun r' π' e => by cases e⟩
 ·cases h
noncomputable def bs2 : List (Nat × Body):=[(78,⟨Tryz.f78.ntmps,(match Tryz.f78.body with | some c => c | none => .skip),Tryz.f78.results.toList⟩),(79,⟨Tryz.f79.ntmps,(match Tryz.f79.body with | some c => c | none => .skip),Tryz.f79.results.toList⟩)]
theorem bs2_ok : BsOk Tryz.prog bs2:=(BsOk.nil.cons (body_of Tryz.func79 rfl rfl)).cons (body_of Tryz.func78 rfl rfl)
noncomputable def b87 : Body:=⟨Tryz.f61.ntmps,(match Tryz.f61.body with | some c => c | none => .skip),Tryz.f61.results.toList⟩
theorem lk_mem {L : List Lk} {i : Nat} (h : i < L.length) : lk L i ∈ L:=by
 have : lk L i = L[i]:=by simp [lk,List.getD,h]
 rw [this];exact List.getElem_mem h
theorem take_lk {L : List Lk} {i : Nat} (h : i < L.length) : L.take (i + 1) = L.take i ++ [lk L i]:=by
 rw [List.take_add_one,List.getElem?_eq_getElem h]
 simp [lk,List.getD,h]
theorem getI (x : List Int) (k : Nat) : Ar.get ⟨3,kI,x⟩ k = (gi x (k : Int) : Tup kI):=rfl
theorem getB (x : List Bool) (k : Nat) : Ar.get ⟨4,[.bool],x⟩ k = (gb x (k : Int) : Tup [.bool]):=rfl
theorem ne_of_bne {a : Int} (h : (a != 1152921504606846976) = true) : ¬ a = Fr:=by simpa [Fr] using h
theorem eq_of_bne {a : Int} (h : (a != 1152921504606846976) = false) : a = Fr:=by simpa [Fr] using h
theorem drop_gi {c : List Int} {lo : Nat} (h : lo < c.length) : c.drop lo = gi c lo :: c.drop (lo + 1):=by
 rw [List.drop_eq_getElem_cons h]
 simp [gi,List.getD,h]
theorem key_ff {lo n : Nat} (h : n ≤ lo) (m : Int) (h1 : ((n - lo : Nat) : Int) = m) (h2 : (m == 0) = false) : False:=by
 simp only [beq_eq_false_iff_ne,ne_eq] at h2
 omega
theorem key_tt {lo n : Nat} (h : lo < n) (m : Int) (h1 : ((n - lo : Nat) : Int) = m) (h2 : (m == 0) = true) : False:=by
 simp only [beq_iff_eq] at h2
 omega
theorem gi_nn (x : List Int) (v : Int) : gi x ((v.toNat : Nat) : Int) = gi x v:=rfl
theorem gb_nn (x : List Bool) (v : Int) : gb x ((v.toNat : Nat) : Int) = gb x v:=rfl
theorem key_lt {i n : Nat} (h : ¬ i < n) (h1 : decide ((i : Int) < (n : Int)) = true) : False:=by
 have:=of_decide_eq_true h1;omega
theorem key_ge {i n : Nat} (h : i < n) (h1 : decide ((i : Int) < (n : Int)) = false) : False:=by
 have:=of_decide_eq_false h1;omega
structure Is {α : Type} (a b : α) : Prop where
 h : a = b
theorem mget_mgb : ∀ (es : List (Int × Bool)) (n : Int),mget es n false = mgb es n
 | [],_ => rfl
 | (k,v) :: es,n => by
   unfold mget mgb
   cases k == n with
   | true => rfl
   | false => exact mget_mgb es n
structure Asks (N : Nat) (L : List Lk) (x : List Int) : Prop where
 n : 1 ≤ N ∧ N ≤ 60
 l : L.length ≤ 301
 ok : Lkx N L x
 ms : ∀ l ∈ L,-288230376151711744 ≤ l.2.2 ∧ l.2.2 ≤ 288230376151711744
 lo : -4611686018427387904 ≤ least L
 beg : Beg N x
theorem Asks.low {N : Nat} {L : List Lk} {x : List Int} (h : Asks N L x) (i : Nat) : -4611686018427387904 ≤ least (L.take i):=by
 have h1:=h.lo
 have h2:=least_append (L.take i) (L.drop i)
 have h3:=least_np (L.drop i)
 rw [List.take_append_drop] at h2
 omega
theorem relax_nil {N : Nat} {L : List Lk} {x : List Int} (ha : Asks N L x) :
  evTopW (tabs.env [] bs2 false 0) 2 b87 [.agg [vI N,.sl 0 [] 0 L.length],.a (.v (.map none)),.a (.sl 1 [] 0 N)] [.arr 54 kL L false false,.arr 3 kI x true true] 1 N
   (fun r st' => eqT r (.a (.v (.bool (relaxF N L [] x).1))) ∧ backW st' 3 kI (relaxF N L [] x).2 N):=by
 have hn:=ha.n
 have hl:=ha.l
 repeat' ((conv => whnf);(first | apply And.intro | intro _))
 all_goals try (conv => whnf)
 all_goals try first | exact ⟨rfl⟩ | exact ⟨by simp only [Duty.of_p,List.length_cons,List.length_nil];omega⟩
 all_goals try rfl
 all_goals try subst_vars
 -- the least sum
 refine ⟨Nat,fun i => i ≤ L.length,fun i => ⟨slotsT 140 [1,2,3,7,8,9,10,25,26,27] [.a (.v (.map none)),.a (.sl 1 [] 0 N),.a (.p 2 [] 0 0),.a (.p 3 [] 0 0),.a (.sl 4 [] 0 N),.a (.sl 5 [] 0 N),.a (vI (least (L.take i))),.a (.sl 0 [] 0 L.length),.a (vI L.length),.a (vI i)],[⟨1,.node (.a (.sl 1 [] 0 N)) .nil .nil⟩],[.arr 54 kL L false false,.arr 3 kI x true true,.box true [vI N,.sl 0 [] 0 L.length],.box true [.v (.slice none 0 0)],.arr 4 [.bool] (List.replicate N false) true true,.arr 3 kI (List.replicate N (0 : Int)) true true]⟩,fun i => L.length - i,0,[],Nat.zero_le _,?_,?_⟩
 ·repeat' ((conv => whnf);(first | apply And.intro | intro _))
  all_goals first | rfl | trivial | exact leb9 rfl | exact ⟨rfl,rfl,rfl⟩ | exact ⟨rfl,rfl,rfl,rfl⟩
 rintro i hi
 have hlo:=ha.low i
 have hup:=least_np (L.take i)
 have hb : i < L.length → -288230376151711744 ≤ (lk L i).2.2 ∧ (lk L i).2.2 ≤ 288230376151711744:=fun h => ha.ms (lk L i) (lk_mem h)
 have e : i < L.length → least (L.take i) + (if (0 : Int) < (lk L i).2.2 then 0 else (lk L i).2.2) = least (L.take (i + 1)):=fun h => by
  rw [take_lk h,least_snoc];split <;> omega
 repeat' ((conv => whnf);(first | apply And.intro | intro _))
 all_goals try (conv => whnf)
 all_goals try exact ⟨leb9 rfl⟩
 all_goals try (refine Ob.mk ?_;(try simp only [Duty.of_p,inRQ]);subst_vars;(try simp only [getL,getI,getB] at *);(try dsimp only [kL,kI,Tup,CK.ty] at *);(try simp only [getL,getI,getB,Duty.of_p,inRQ,inR,cap40,List.length_cons,List.length_nil,List.length_append,List.length_drop] at *);(try dsimp only [kL,kI,Tup,CK.ty] at *);(try simp only [decide_eq_true_eq,decide_eq_false_iff_not,Nat.zero_add,Nat.sub_zero,Nat.add_zero,Int.toNat_natCast,Bool.not_eq_true',Bool.not_eq_false',Bool.not_eq_true,Bool.not_eq_false,Bool.not_not] at *);(all_goals first | omega | (split <;> omega)))
 ·subst_vars
  have hi1 : i < L.length:=by simpa using ‹decide ((i : Int) < L.length) = true›
  refine ⟨i + 1,[],hi1,?_,by show L.length - (i + 1) < L.length - i;omega⟩
  have e:=e hi1
  repeat' ((conv => whnf);(first | apply And.intro | intro _))
  all_goals first | rfl | trivial | exact leb9 rfl | exact ⟨rfl,rfl,rfl⟩ | exact ⟨rfl,rfl,rfl,rfl⟩ | (show least (L.take i) + (if (0 : Int) < (lk L (0 + i)).2.2 then 0 else (lk L (0 + i)).2.2) = least (L.take (i + 1));rw [Nat.zero_add];exact e)
 have hi2 : i = L.length:=by have:=of_decide_eq_false ‹decide ((i : Int) < L.length) = false›;omega
 subst hi2
 rw [List.take_length] at *
 clear hb e hi
 -- the queue's beginning
 refine ⟨Nat,fun i => i ≤ N,fun i => ⟨slotsT 140 [1,2,3,7,8,9,10,38,39] [.a (.v (.map none)),.a (.sl 1 [] 0 N),.a (.p 2 [] 0 0),.a (.p 3 [] 0 0),.a (.sl 4 [] 0 N),.a (.sl 5 [] 0 N),.a (vI (least L)),.a (vI N),.a (vI i)],[⟨1,.node (.a (.sl 1 [] 0 N)) .nil .nil⟩],[.arr 54 kL L false false,.arr 3 kI x true true,.box true [vI N,.sl 0 [] 0 L.length],.box true [.sl 6 [] 0 (qAt x i).length],.arr 4 [.bool] (wAt x N i) true true,.arr 3 kI (List.replicate N (0 : Int)) true true,.arr 3 kI (qAt x i) true true]⟩,fun i => N - i,0,[0,1,2,3,4,5,1000],Nat.zero_le _,?_,?_⟩
 ·repeat' ((conv => whnf);(first | apply And.intro | intro _))
  all_goals first | rfl | trivial | exact leb9 rfl | exact ⟨rfl,rfl,rfl⟩ | exact ⟨rfl,rfl,rfl,rfl⟩
 rintro i hi
 have hx : x.length ≤ N ∧ N ≤ x.length:=by have:=ha.beg.len;omega
 have hw : (wAt x N i).length ≤ N ∧ N ≤ (wAt x N i).length:=by have:=wAt_len x N i;omega
 have hq : (qAt x i).length ≤ N:=nodup_le N _ (qAt_nodup x i) fun v hv => by have:=(qAt_mem x i v).1 hv;omega
 repeat' ((conv => whnf);(first | apply And.intro | intro _))
 all_goals try (conv => whnf)
 all_goals try exact ⟨leb9 rfl⟩
 all_goals try (refine Ob.mk ?_;(try simp only [Duty.of_p,inRQ]);subst_vars;(try simp only [getL,getI,getB] at *);(try dsimp only [kL,kI,Tup,CK.ty] at *);(try simp only [getL,getI,getB,Duty.of_p,inRQ,inR,cap40,List.length_cons,List.length_nil,List.length_append,List.length_drop] at *);(try dsimp only [kL,kI,Tup,CK.ty] at *);(try simp only [decide_eq_true_eq,decide_eq_false_iff_not,Nat.zero_add,Nat.sub_zero,Nat.add_zero,Int.toNat_natCast,Bool.not_eq_true',Bool.not_eq_false',Bool.not_eq_true,Bool.not_eq_false,Bool.not_not] at *);(all_goals first | omega | (split <;> omega)))
 ·subst_vars
  have hi1 : i < N:=by simpa using ‹decide ((i : Int) < N) = true›
  have hne : ¬ gi x i = Fr:=by
   have h1:=ne_of_bne (a:=gi x ((0 + i : Nat) : Int)) (by assumption)
   rw [Nat.zero_add] at h1;exact h1
  have e1 : List.drop 0 (qAt x i) ++ List.take 1 (List.drop 0 [(i : Int)]) = qAt x (i + 1):=by simp [qAt,hne]
  have e2 : (wAt x N i).set (0 + i) true = wAt x N (i + 1):=by simp [wAt,hne]
  have e3 : (qAt x i).length + 1 = (qAt x (i + 1)).length:=by simp [qAt,hne]
  refine ⟨i + 1,[0,1,2,3,4,5,6],hi1,?_,by show N - (i + 1) < N - i;omega⟩
  repeat' ((conv => whnf);(first | apply And.intro | intro _))
  all_goals first | rfl | trivial | exact leb9 rfl | exact ⟨rfl,rfl,rfl⟩ | exact ⟨rfl,rfl,rfl,rfl⟩ | exact ⟨rfl,rfl,e1⟩ | exact ⟨rfl,rfl,e2⟩ | exact e3
 ·subst_vars
  have hi1 : i < N:=by simpa using ‹decide ((i : Int) < N) = true›
  have hne : gi x i = Fr:=by
   have h1:=eq_of_bne (a:=gi x ((0 + i : Nat) : Int)) (by assumption)
   rw [Nat.zero_add] at h1;exact h1
  have e1 : qAt x i = qAt x (i + 1):=by simp [qAt,hne]
  have e2 : wAt x N i = wAt x N (i + 1):=by simp [wAt,hne]
  have e3 : (qAt x i).length = (qAt x (i + 1)).length:=by rw [e1]
  refine ⟨i + 1,[0,1,2,3,4,5,6],hi1,?_,by show N - (i + 1) < N - i;omega⟩
  repeat' ((conv => whnf);(first | apply And.intro | intro _))
  all_goals first | rfl | trivial | exact leb9 rfl | exact ⟨rfl,rfl,rfl⟩ | exact ⟨rfl,rfl,rfl,rfl⟩ | exact ⟨rfl,rfl,e1⟩ | exact ⟨rfl,rfl,e2⟩ | exact e3
 have hi2 : N = i:=by have:=of_decide_eq_false ‹decide ((i : Int) < N) = false›;omega
 subst hi2
 clear hi hx hw hq
 -- node after node
 have hls : least L ≤ 0 ∧ -4611686018427387904 ≤ least L:=by omega
 refine ⟨List Int × Nat × List Int × List Bool × List Int,fun X => X.2.1 ≤ X.2.2.1.length ∧ Sf N (least L) X.1 (X.2.2.1.drop X.2.1) X.2.2.2.1 X.2.2.2.2 ∧ relaxF N L [] x = out N L [] (rest N X.2.2.2.2 + 1) X.1 (X.2.2.1.drop X.2.1) X.2.2.2.1 X.2.2.2.2,
  fun X => ⟨slotsT 140 [1,2,3,7,8,9,10] [.a (.v (.map none)),.a (.sl 1 [] 0 N),.a (.p 2 [] 0 0),.a (.p 3 [] 0 0),.a (.sl 4 [] 0 N),.a (.sl 5 [] 0 N),.a (vI (least L))],[⟨1,.node (.a (.sl 1 [] 0 N)) .nil .nil⟩],[.arr 54 kL L false false,.arr 3 kI X.1 true true,.box true [vI N,.sl 0 [] 0 L.length],.box true [.sl 6 [] X.2.1 (X.2.2.1.length - X.2.1)],.arr 4 [.bool] X.2.2.2.1 true true,.arr 3 kI X.2.2.2.2 true true,.arr 3 kI X.2.2.1 true true]⟩,fun X => rest N X.2.2.2.2,(x,0,qAt x N,wAt x N N,List.replicate N 0),[0,1,2,3,4,5,6],⟨Nat.zero_le _,Sf.init hls.1 ha.beg,by rw [rest_zero];rfl⟩,?_,?_⟩
 ·repeat' ((conv => whnf);(first | apply And.intro | intro _))
  all_goals first | rfl | trivial | exact leb9 rfl | exact ⟨rfl,rfl,rfl⟩ | exact ⟨rfl,rfl,rfl,rfl⟩
 rintro ⟨x',lo,c,w,t⟩ ⟨hlo2,hsf,hrel⟩
 dsimp only at hlo2 hsf hrel
 generalize relaxF N L [] x = res at *
 by_cases hc : lo < c.length
 case neg =>
  have hdr : c.drop lo = []:=List.drop_eq_nil_of_le (by omega)
  rw [hdr] at hrel
  have hrel : res = (true,x'):=hrel
  subst hrel
  repeat' ((conv => whnf);(first | apply And.intro | intro _))
  all_goals try (conv => whnf)
  all_goals try first
   | rfl
   | exact ⟨true,rfl⟩
  all_goals exact (key_ff (lo:=lo) (n:=c.length) (by omega) _ (by assumption) (by assumption)).elim
 have hdr : c.drop lo = gi c lo :: c.drop (lo + 1):=drop_gi hc
 rw [hdr] at hsf hrel
 obtain ⟨hn',hsp⟩:=hsf.pop
 obtain ⟨hx1,hw1,ht1⟩ : (x'.length ≤ N ∧ N ≤ x'.length) ∧ (w.length ≤ N ∧ N ≤ w.length) ∧ (t.length ≤ N ∧ N ≤ t.length):=by
  have:=hsf.lx;have:=hsf.lw;have:=hsf.lt;omega
 have htn:=hsf.rt _ hn'
 have htg : gi (t.set (gi c lo).toNat (gi t (gi c lo) + 1)) (gi c lo) = gi t (gi c lo) + 1:=by rw [gi_set hn'.1 hn'.1 (by have:=hn'.2;omega),if_pos rfl]
 have hn1:=hn'.1
 have hn2:=hn'.2
 by_cases hcmp : gi t (gi c lo) + 1 > (N : Int) + 1
 case pos =>
  have hrel : res = (false,x'):=by rw [hrel];simp only [out];rw [if_pos hcmp]
  subst hrel
  repeat' ((conv => whnf);(first | apply And.intro | intro _))
  all_goals try (conv => whnf)
  all_goals try exact Tk.mk (by kernel_rfl)
  all_goals try exact Tk.mk (by kernel_rfl)
  all_goals try exact (key_tt (lo:=lo) (n:=c.length) (by omega) _ (by assumption) (by assumption)).elim
  all_goals try exact ⟨leb9 rfl⟩
  all_goals try (refine Ob.mk ?_;(try simp only [Duty.of_p,inRQ]);subst_vars;(try dsimp only at *);(try simp only [getL,getI,getB,castL_rfl] at *);(try dsimp only [kL,kI,Tup,CK.ty] at *);(try simp only [getL,getI,getB,gi_nn,gb_nn,castL_rfl,Nat.zero_add,Nat.add_zero,Nat.sub_zero,Int.toNat_zero,Int.toNat_one,Int.toNat_natCast,List.length_set,List.length_drop,List.length_append,List.length_cons,List.length_nil,decide_eq_true_eq,decide_eq_false_iff_not,gt_iff_lt,cap40,inR,htg] at *);(all_goals first | omega | (split <;> omega)))
  all_goals try first
   | rfl
   | exact ⟨true,rfl⟩
  all_goals (exfalso;subst_vars;(try dsimp only at *);(try simp only [getL,getI,getB,castL_rfl] at *);(try dsimp only [kL,kI,Tup,CK.ty] at *);(try simp only [getL,getI,getB,gi_nn,gb_nn,castL_rfl,Nat.zero_add,Nat.add_zero,Nat.sub_zero,Int.toNat_zero,Int.toNat_one,Int.toNat_natCast,List.length_set,List.length_drop,List.length_append,List.length_cons,List.length_nil,decide_eq_true_eq,decide_eq_false_iff_not,gt_iff_lt,cap40,inR,htg] at *);omega)
 replace hrel : Is res (match inn [] (least L) (gi c lo) 0 L x' (c.drop (lo + 1)) (w.set (gi c lo).toNat false) with
   | (false,x,_,_) => (false,x)
   | (true,x,q,w) => out N L [] (rest N t) x q w (t.set (gi c lo).toNat (gi t (gi c lo) + 1))):=⟨by rw [hrel];simp only [out];rw [if_neg hcmp];rfl⟩
 have hst:=hsp.time hn' (by omega)
 have hrs : rest N (t.set (gi c lo).toNat (gi t (gi c lo) + 1)) + 1 = rest N t:=rest_gi hn'.1 (by omega) (by omega)
 repeat' ((conv => whnf);(first | apply And.intro | intro _))
 all_goals try (conv => whnf)
 all_goals try exact Tk.mk (by kernel_rfl)
 all_goals try exact Tk.mk (by kernel_rfl)
 all_goals try exact (key_tt (lo:=lo) (n:=c.length) (by omega) _ (by assumption) (by assumption)).elim
 all_goals try exact ⟨leb9 rfl⟩
 all_goals try (refine Ob.mk ?_;(try simp only [Duty.of_p,inRQ]);subst_vars;(try dsimp only at *);(try simp only [getL,getI,getB,castL_rfl] at *);(try dsimp only [kL,kI,Tup,CK.ty] at *);(try simp only [getL,getI,getB,gi_nn,gb_nn,castL_rfl,Nat.zero_add,Nat.add_zero,Nat.sub_zero,Int.toNat_zero,Int.toNat_one,Int.toNat_natCast,List.length_set,List.length_drop,List.length_append,List.length_cons,List.length_nil,decide_eq_true_eq,decide_eq_false_iff_not,gt_iff_lt,cap40,inR,htg] at *);(all_goals first | omega | (split <;> omega)))
 ·exfalso;subst_vars;(try dsimp only at *);(try simp only [getL,getI,getB,castL_rfl] at *);(try dsimp only [kL,kI,Tup,CK.ty] at *);(try simp only [getL,getI,getB,gi_nn,gb_nn,castL_rfl,Nat.zero_add,Nat.add_zero,Nat.sub_zero,Int.toNat_zero,Int.toNat_one,Int.toNat_natCast,List.length_set,List.length_drop,List.length_append,List.length_cons,List.length_nil,decide_eq_true_eq,decide_eq_false_iff_not,gt_iff_lt,cap40,inR,htg] at *);omega
 ·exfalso;subst_vars;(try dsimp only at *);(try simp only [getL,getI,getB,castL_rfl] at *);(try dsimp only [kL,kI,Tup,CK.ty] at *);(try simp only [getL,getI,getB,gi_nn,gb_nn,castL_rfl,Nat.zero_add,Nat.add_zero,Nat.sub_zero,Int.toNat_zero,Int.toNat_one,Int.toNat_natCast,List.length_set,List.length_drop,List.length_append,List.length_cons,List.length_nil,decide_eq_true_eq,decide_eq_false_iff_not,gt_iff_lt,cap40,inR,htg] at *);omega
 -- link after link
 have e1 : w.set (0 + (gi c lo).toNat) false = w.set (gi c lo).toNat false:=by rw [Nat.zero_add]
 have e2 : t.set (0 + (gi c lo).toNat) (gi t ((0 + (gi c lo).toNat : Nat) : Int) + 1) = t.set (gi c lo).toNat (gi t (gi c lo) + 1):=by rw [Nat.zero_add];rfl
 have e3 : c.length - lo - 1 = c.length - (lo + 1):=by omega
 subst_vars
 refine ⟨Nat × List Int × Nat × List Int × List Bool,fun Y => Y.1 ≤ L.length ∧ Y.2.2.1 ≤ Y.2.2.2.1.length ∧ Sf N (least L) Y.2.1 (Y.2.2.2.1.drop Y.2.2.1) Y.2.2.2.2 (t.set (gi c lo).toNat (gi t (gi c lo) + 1)) ∧
   inn [] (least L) (gi c lo) 0 L x' (c.drop (lo + 1)) (w.set (gi c lo).toNat false) = inn [] (least L) (gi c lo) Y.1 (L.drop Y.1) Y.2.1 (Y.2.2.2.1.drop Y.2.2.1) Y.2.2.2.2,
  fun Y => ⟨slotsT 140 [1,2,3,7,8,9,10,14,77,78,79] [.a (.v (.map none)),.a (.sl 1 [] 0 N),.a (.p 2 [] 0 0),.a (.p 3 [] 0 0),.a (.sl 4 [] 0 N),.a (.sl 5 [] 0 N),.a (vI (least L)),.a (vI (gi c lo)),.a (.sl 0 [] 0 L.length),.a (vI L.length),.a (vI Y.1)],[⟨1,.node (.a (.sl 1 [] 0 N)) .nil .nil⟩],[.arr 54 kL L false false,.arr 3 kI Y.2.1 true true,.box true [vI N,.sl 0 [] 0 L.length],.box true [.sl 6 [] Y.2.2.1 (Y.2.2.2.1.length - Y.2.2.1)],.arr 4 [.bool] Y.2.2.2.2 true true,.arr 3 kI (t.set (gi c lo).toNat (gi t (gi c lo) + 1)) true true,.arr 3 kI Y.2.2.2.1 true true]⟩,fun Y => L.length - Y.1,(0,x',lo + 1,c,w.set (gi c lo).toNat false),[0,1,2,3,4,5,6],⟨Nat.zero_le _,hc,hst,rfl⟩,?_,?_⟩
 ·repeat' ((conv => whnf);(first | apply And.intro | intro _))
  all_goals first | rfl | trivial | exact leb9 rfl | exact ⟨rfl,rfl,rfl⟩ | exact ⟨rfl,rfl,rfl,rfl⟩ | exact ⟨rfl,rfl,e1⟩ | exact ⟨rfl,rfl,e2⟩ | exact e3
 rintro ⟨i,x2,lo2,c2,w2⟩ ⟨hi,hlo3,hsf2,hinn⟩
 dsimp only at hi hlo3 hsf2 hinn
 rw [hinn] at hrel
 have hx2 : (x2.length ≤ N ∧ N ≤ x2.length) ∧ (w2.length ≤ N ∧ N ≤ w2.length):=by have:=hsf2.lx;have:=hsf2.lw;omega
 have hql:=hsf2.qlen
 rw [List.length_drop] at hql
 have hxn:=hsf2.rx _ hn'
 clear e1 e2 e3
 by_cases hi1 : i < L.length
 case neg =>
  have hdn : L.drop i = []:=List.drop_eq_nil_of_le (by omega)
  rw [hdn] at hrel
  replace hrel : res = out N L [] (rest N t) x2 (c2.drop lo2) w2 (t.set (gi c lo).toNat (gi t (gi c lo) + 1)):=hrel.h
  rw [← hrs] at hrel
  repeat' ((conv => whnf);(first | apply And.intro | intro _))
  all_goals try (conv => whnf)
  all_goals try exact (key_lt (i:=i) (n:=L.length) hi1 (by assumption)).elim
  refine ⟨(x2,lo2,c2,w2,t.set (gi c lo).toNat (gi t (gi c lo) + 1)),[0,1,2,3,4,5,6],⟨hlo3,hsf2,hrel⟩,?_,Nat.lt_of_succ_le (Nat.le_of_eq hrs)⟩
  repeat' ((conv => whnf);(first | apply And.intro | intro _))
  all_goals first | rfl | trivial | exact leb9 rfl | exact ⟨rfl,rfl,rfl⟩ | exact ⟨rfl,rfl,rfl,rfl⟩
 have hmem:=lk_mem hi1
 have hnd:=ha.ok.nd _ hmem
 have hms:=ha.ms _ hmem
 have hne:=ha.ok.ne _ hmem
 have hxt:=hsf2.rx _ hnd.2
 have hnd1 : (0 ≤ (lk L i).1 ∧ (lk L i).1 < N) ∧ (0 ≤ (lk L i).2.1 ∧ (lk L i).2.1 < N):=hnd
 repeat' ((conv => whnf);(first | apply And.intro | intro _))
 all_goals try (conv => whnf)
 all_goals try exact Tk.mk (by kernel_rfl)
 all_goals try exact Tk.mk (by kernel_rfl)
 all_goals try exact (key_ge (i:=i) (n:=L.length) hi1 (by assumption)).elim
 all_goals try exact ⟨leb9 rfl⟩
 all_goals try (refine Ob.mk ?_;(try simp only [Duty.of_p,inRQ]);subst_vars;(try dsimp only at *);(try simp only [getL,getI,getB,castL_rfl] at *);(try dsimp only [kL,kI,Tup,CK.ty] at *);(try simp only [getL,getI,getB,gi_nn,gb_nn,castL_rfl,Nat.zero_add,Nat.add_zero,Nat.sub_zero,Int.toNat_zero,Int.toNat_one,Int.toNat_natCast,List.length_set,List.length_drop,List.length_append,List.length_cons,List.length_nil,decide_eq_true_eq,decide_eq_false_iff_not,gt_iff_lt,cap40,inR,Fr] at *);(all_goals first | omega | (split <;> omega)))
 all_goals subst_vars
 ·have r1 : ((lk L (0 + i)).1 != gi c lo) = true:=by assumption
  rw [Nat.zero_add] at r1
  refine ⟨(i + 1,x2,lo2,c2,w2),[0,1,2,3,4,5,6],⟨hi1,hlo3,hsf2,hinn.trans (by rw [drop_lk hi1,inn_skip (skip1 r1)])⟩,?_,by show L.length - (i + 1) < L.length - i;omega⟩
  repeat' ((conv => whnf);(first | apply And.intro | intro _))
  all_goals first | rfl | trivial | exact leb9 rfl | exact ⟨rfl,rfl,rfl⟩ | exact ⟨rfl,rfl,rfl,rfl⟩
 ·have r2 : mget (α:=Bool) [] (i : Int) false = true:=by assumption
  rw [mget_mgb] at r2
  refine ⟨(i + 1,x2,lo2,c2,w2),[0,1,2,3,4,5,6],⟨hi1,hlo3,hsf2,hinn.trans (by rw [drop_lk hi1,inn_skip (skip2 r2)])⟩,?_,by show L.length - (i + 1) < L.length - i;omega⟩
  repeat' ((conv => whnf);(first | apply And.intro | intro _))
  all_goals first | rfl | trivial | exact leb9 rfl | exact ⟨rfl,rfl,rfl⟩ | exact ⟨rfl,rfl,rfl,rfl⟩
 ·have r3 : decide (gi x2 ((0 + (gi c lo).toNat : Nat) : Int) + (lk L (0 + i)).2.2 ≥ gi x2 ((0 + (lk L (0 + i)).2.1.toNat : Nat) : Int)) = true:=by assumption
  simp only [Nat.zero_add,gi_nn,decide_eq_true_eq,decide_eq_false_iff_not] at r3
  refine ⟨(i + 1,x2,lo2,c2,w2),[0,1,2,3,4,5,6],⟨hi1,hlo3,hsf2,hinn.trans (by rw [drop_lk hi1,inn_skip (skip3 r3)])⟩,?_,by show L.length - (i + 1) < L.length - i;omega⟩
  repeat' ((conv => whnf);(first | apply And.intro | intro _))
  all_goals first | rfl | trivial | exact leb9 rfl | exact ⟨rfl,rfl,rfl⟩ | exact ⟨rfl,rfl,rfl,rfl⟩
 ·have r1 : ((lk L (0 + i)).1 != gi c lo) = false:=by assumption
  rw [Nat.zero_add] at r1
  have r2 : mget (α:=Bool) [] (i : Int) false = false:=by assumption
  rw [mget_mgb] at r2
  have r3 : decide (gi x2 ((0 + (gi c lo).toNat : Nat) : Int) + (lk L (0 + i)).2.2 ≥ gi x2 ((0 + (lk L (0 + i)).2.1.toNat : Nat) : Int)) = false:=by assumption
  simp only [Nat.zero_add,gi_nn,decide_eq_true_eq,decide_eq_false_iff_not] at r3
  have hs0:=skip0 (x:=x2) r1 r2 r3
  have eX : x2.set (0 + (lk L (0 + i)).2.1.toNat) (gi x2 ((0 + (gi c lo).toNat : Nat) : Int) + (lk L (0 + i)).2.2) = x2.set (lk L i).2.1.toNat (gi x2 (gi c lo) + (lk L i).2.2):=by simp only [Nat.zero_add,gi_nn]
  have r4 : decide (gi (x2.set (0 + (lk L (0 + i)).2.1.toNat) (gi x2 ((0 + (gi c lo).toNat : Nat) : Int) + (lk L (0 + i)).2.2)) ((0 + (lk L (0 + i)).2.1.toNat : Nat) : Int) < least L) = true:=by assumption
  rw [eX] at r4
  simp only [Nat.zero_add,gi_nn,decide_eq_true_eq,decide_eq_false_iff_not] at r4
  rw [gi_set hnd1.2.1 hnd1.2.1 (by omega),if_pos rfl] at r4
  have hres:=hrel.h
  rw [drop_lk hi1,inn_low hs0 r4] at hres
  replace hres : res = (false,x2.set (lk L i).2.1.toNat (gi x2 (gi c lo) + (lk L i).2.2)):=hres
  rw [hres]
 ·have r1 : ((lk L (0 + i)).1 != gi c lo) = false:=by assumption
  rw [Nat.zero_add] at r1
  have r2 : mget (α:=Bool) [] (i : Int) false = false:=by assumption
  rw [mget_mgb] at r2
  have r3 : decide (gi x2 ((0 + (gi c lo).toNat : Nat) : Int) + (lk L (0 + i)).2.2 ≥ gi x2 ((0 + (lk L (0 + i)).2.1.toNat : Nat) : Int)) = false:=by assumption
  simp only [Nat.zero_add,gi_nn,decide_eq_true_eq,decide_eq_false_iff_not] at r3
  have hs0:=skip0 (x:=x2) r1 r2 r3
  have eX : x2.set (0 + (lk L (0 + i)).2.1.toNat) (gi x2 ((0 + (gi c lo).toNat : Nat) : Int) + (lk L (0 + i)).2.2) = x2.set (lk L i).2.1.toNat (gi x2 (gi c lo) + (lk L i).2.2):=by simp only [Nat.zero_add,gi_nn]
  have r4 : decide (gi (x2.set (0 + (lk L (0 + i)).2.1.toNat) (gi x2 ((0 + (gi c lo).toNat : Nat) : Int) + (lk L (0 + i)).2.2)) ((0 + (lk L (0 + i)).2.1.toNat : Nat) : Int) < least L) = true:=by assumption
  rw [eX] at r4
  simp only [Nat.zero_add,gi_nn,decide_eq_true_eq,decide_eq_false_iff_not] at r4
  rw [gi_set hnd1.2.1 hnd1.2.1 (by omega),if_pos rfl] at r4
  have hres:=hrel.h
  rw [drop_lk hi1,inn_low hs0 r4] at hres
  replace hres : res = (false,x2.set (lk L i).2.1.toNat (gi x2 (gi c lo) + (lk L i).2.2)):=hres
  refine ⟨true,?_⟩
  rw [hres]
  exact congrArg (fun y : List Int => Reg.arr 3 kI y true true) eX
 ·have r1 : ((lk L (0 + i)).1 != gi c lo) = false:=by assumption
  rw [Nat.zero_add] at r1
  have r2 : mget (α:=Bool) [] (i : Int) false = false:=by assumption
  rw [mget_mgb] at r2
  have r3 : decide (gi x2 ((0 + (gi c lo).toNat : Nat) : Int) + (lk L (0 + i)).2.2 ≥ gi x2 ((0 + (lk L (0 + i)).2.1.toNat : Nat) : Int)) = false:=by assumption
  simp only [Nat.zero_add,gi_nn,decide_eq_true_eq,decide_eq_false_iff_not] at r3
  have hs0:=skip0 (x:=x2) r1 r2 r3
  have eX : x2.set (0 + (lk L (0 + i)).2.1.toNat) (gi x2 ((0 + (gi c lo).toNat : Nat) : Int) + (lk L (0 + i)).2.2) = x2.set (lk L i).2.1.toNat (gi x2 (gi c lo) + (lk L i).2.2):=by simp only [Nat.zero_add,gi_nn]
  have r4 : decide (gi (x2.set (0 + (lk L (0 + i)).2.1.toNat) (gi x2 ((0 + (gi c lo).toNat : Nat) : Int) + (lk L (0 + i)).2.2)) ((0 + (lk L (0 + i)).2.1.toNat : Nat) : Int) < least L) = false:=by assumption
  rw [eX] at r4
  simp only [Nat.zero_add,gi_nn,decide_eq_true_eq,decide_eq_false_iff_not] at r4
  rw [gi_set hnd1.2.1 hnd1.2.1 (by omega),if_pos rfl] at r4
  have r5 : (!(gb w2 ((0 + (lk L (0 + i)).2.1.toNat : Nat) : Int))) = true:=by assumption
  simp only [Nat.zero_add,gb_nn,Bool.not_eq_true',Bool.not_eq_false'] at r5
  have hsf3:=hsf2.val (v:=(lk L i).2.1) (c:=gi x2 (gi c lo) + (lk L i).2.2) hnd.2 (by omega) (by omega)
  have hsf4:=hsf3.put hnd.2 (by rw [r5];simp)
  have eW : w2.set (0 + (lk L (0 + i)).2.1.toNat) true = w2.set (lk L i).2.1.toNat true:=by simp only [Nat.zero_add]
  have eQ : c2.drop lo2 ++ List.take 1 (List.drop 0 [(lk L (0 + i)).2.1]) = c2.drop lo2 ++ [(lk L i).2.1]:=by simp only [Nat.zero_add];rfl
  have eN : c2.length - lo2 + 1 = (c2.drop lo2 ++ [(lk L i).2.1]).length - 0:=by simp
  refine ⟨(i + 1,x2.set (lk L i).2.1.toNat (gi x2 (gi c lo) + (lk L i).2.2),0,c2.drop lo2 ++ [(lk L i).2.1],w2.set (lk L i).2.1.toNat true),[0,1,2,3,4,5,6],⟨hi1,Nat.zero_le _,by rw [List.drop_zero];exact hsf4,hinn.trans (by rw [drop_lk hi1,inn_put hs0 r4 r5,List.drop_zero])⟩,?_,by show L.length - (i + 1) < L.length - i;omega⟩
  repeat' ((conv => whnf);(first | apply And.intro | intro _))
  all_goals first | rfl | trivial | exact leb9 rfl | exact ⟨rfl,rfl,rfl⟩ | exact ⟨rfl,rfl,rfl,rfl⟩ | exact ⟨rfl,rfl,eX⟩ | exact ⟨rfl,rfl,eW⟩ | exact ⟨rfl,rfl,eQ⟩ | exact eN
 ·have r1 : ((lk L (0 + i)).1 != gi c lo) = false:=by assumption
  rw [Nat.zero_add] at r1
  have r2 : mget (α:=Bool) [] (i : Int) false = false:=by assumption
  rw [mget_mgb] at r2
  have r3 : decide (gi x2 ((0 + (gi c lo).toNat : Nat) : Int) + (lk L (0 + i)).2.2 ≥ gi x2 ((0 + (lk L (0 + i)).2.1.toNat : Nat) : Int)) = false:=by assumption
  simp only [Nat.zero_add,gi_nn,decide_eq_true_eq,decide_eq_false_iff_not] at r3
  have hs0:=skip0 (x:=x2) r1 r2 r3
  have eX : x2.set (0 + (lk L (0 + i)).2.1.toNat) (gi x2 ((0 + (gi c lo).toNat : Nat) : Int) + (lk L (0 + i)).2.2) = x2.set (lk L i).2.1.toNat (gi x2 (gi c lo) + (lk L i).2.2):=by simp only [Nat.zero_add,gi_nn]
  have r4 : decide (gi (x2.set (0 + (lk L (0 + i)).2.1.toNat) (gi x2 ((0 + (gi c lo).toNat : Nat) : Int) + (lk L (0 + i)).2.2)) ((0 + (lk L (0 + i)).2.1.toNat : Nat) : Int) < least L) = false:=by assumption
  rw [eX] at r4
  simp only [Nat.zero_add,gi_nn,decide_eq_true_eq,decide_eq_false_iff_not] at r4
  rw [gi_set hnd1.2.1 hnd1.2.1 (by omega),if_pos rfl] at r4
  have r5 : (!(gb w2 ((0 + (lk L (0 + i)).2.1.toNat : Nat) : Int))) = false:=by assumption
  simp only [Nat.zero_add,gb_nn,Bool.not_eq_true',Bool.not_eq_false'] at r5
  have hsf3:=hsf2.val (v:=(lk L i).2.1) (c:=gi x2 (gi c lo) + (lk L i).2.2) hnd.2 (by omega) (by omega)
  refine ⟨(i + 1,x2.set (lk L i).2.1.toNat (gi x2 (gi c lo) + (lk L i).2.2),lo2,c2,w2),[0,1,2,3,4,5,6],⟨hi1,hlo3,hsf3,hinn.trans (by rw [drop_lk hi1,inn_wait hs0 r4 r5])⟩,?_,by show L.length - (i + 1) < L.length - i;omega⟩
  repeat' ((conv => whnf);(first | apply And.intro | intro _))
  all_goals first | rfl | trivial | exact leb9 rfl | exact ⟨rfl,rfl,rfl⟩ | exact ⟨rfl,rfl,rfl,rfl⟩ | exact ⟨rfl,rfl,eX⟩
theorem relax_map {N : Nat} {L : List Lk} {x : List Int} {es : List (Int × Bool)} (ha : Asks N L x) :
  evTopW (tabs.env [] bs2 false 0) 2 b87 [.agg [vI N,.sl 0 [] 0 L.length],.a (.mp 2),.a (.sl 1 [] 0 N)] [.arr 54 kL L false false,.arr 3 kI x true true,.map 90 .i64 .bool es false] 1 N
   (fun r st' => eqT r (.a (.v (.bool (relaxF N L es x).1))) ∧ backW st' 3 kI (relaxF N L es x).2 N):=by
 have hn:=ha.n
 have hl:=ha.l
 repeat' ((conv => whnf);(first | apply And.intro | intro _))
 all_goals try (conv => whnf)
 all_goals try first | exact ⟨rfl⟩ | exact ⟨by simp only [Duty.of_p,List.length_cons,List.length_nil];omega⟩
 all_goals try rfl
 all_goals try subst_vars
 -- the least sum
 refine ⟨Nat,fun i => i ≤ L.length,fun i => ⟨slotsT 140 [1,2,3,7,8,9,10,25,26,27] [.a (.mp 2),.a (.sl 1 [] 0 N),.a (.p 3 [] 0 0),.a (.p 4 [] 0 0),.a (.sl 5 [] 0 N),.a (.sl 6 [] 0 N),.a (vI (least (L.take i))),.a (.sl 0 [] 0 L.length),.a (vI L.length),.a (vI i)],[⟨1,.node (.a (.sl 1 [] 0 N)) .nil .nil⟩],[.arr 54 kL L false false,.arr 3 kI x true true,.map 90 .i64 .bool es false,.box true [vI N,.sl 0 [] 0 L.length],.box true [.v (.slice none 0 0)],.arr 4 [.bool] (List.replicate N false) true true,.arr 3 kI (List.replicate N (0 : Int)) true true]⟩,fun i => L.length - i,0,[],Nat.zero_le _,?_,?_⟩
 ·repeat' ((conv => whnf);(first | apply And.intro | intro _))
  all_goals first | rfl | trivial | exact leb9 rfl | exact ⟨rfl,rfl,rfl⟩ | exact ⟨rfl,rfl,rfl,rfl⟩
 rintro i hi
 have hlo:=ha.low i
 have hup:=least_np (L.take i)
 have hb : i < L.length → -288230376151711744 ≤ (lk L i).2.2 ∧ (lk L i).2.2 ≤ 288230376151711744:=fun h => ha.ms (lk L i) (lk_mem h)
 have e : i < L.length → least (L.take i) + (if (0 : Int) < (lk L i).2.2 then 0 else (lk L i).2.2) = least (L.take (i + 1)):=fun h => by
  rw [take_lk h,least_snoc];split <;> omega
 repeat' ((conv => whnf);(first | apply And.intro | intro _))
 all_goals try (conv => whnf)
 all_goals try exact ⟨leb9 rfl⟩
 all_goals try (refine Ob.mk ?_;(try simp only [Duty.of_p,inRQ]);subst_vars;(try simp only [getL,getI,getB] at *);(try dsimp only [kL,kI,Tup,CK.ty] at *);(try simp only [getL,getI,getB,Duty.of_p,inRQ,inR,cap40,List.length_cons,List.length_nil,List.length_append,List.length_drop] at *);(try dsimp only [kL,kI,Tup,CK.ty] at *);(try simp only [decide_eq_true_eq,decide_eq_false_iff_not,Nat.zero_add,Nat.sub_zero,Nat.add_zero,Int.toNat_natCast,Bool.not_eq_true',Bool.not_eq_false',Bool.not_eq_true,Bool.not_eq_false,Bool.not_not] at *);(all_goals first | omega | (split <;> omega)))
 ·subst_vars
  have hi1 : i < L.length:=by simpa using ‹decide ((i : Int) < L.length) = true›
  refine ⟨i + 1,[],hi1,?_,by show L.length - (i + 1) < L.length - i;omega⟩
  have e:=e hi1
  repeat' ((conv => whnf);(first | apply And.intro | intro _))
  all_goals first | rfl | trivial | exact leb9 rfl | exact ⟨rfl,rfl,rfl⟩ | exact ⟨rfl,rfl,rfl,rfl⟩ | (show least (L.take i) + (if (0 : Int) < (lk L (0 + i)).2.2 then 0 else (lk L (0 + i)).2.2) = least (L.take (i + 1));rw [Nat.zero_add];exact e)
 have hi2 : i = L.length:=by have:=of_decide_eq_false ‹decide ((i : Int) < L.length) = false›;omega
 subst hi2
 rw [List.take_length] at *
 clear hb e hi
 -- the queue's beginning
 refine ⟨Nat,fun i => i ≤ N,fun i => ⟨slotsT 140 [1,2,3,7,8,9,10,38,39] [.a (.mp 2),.a (.sl 1 [] 0 N),.a (.p 3 [] 0 0),.a (.p 4 [] 0 0),.a (.sl 5 [] 0 N),.a (.sl 6 [] 0 N),.a (vI (least L)),.a (vI N),.a (vI i)],[⟨1,.node (.a (.sl 1 [] 0 N)) .nil .nil⟩],[.arr 54 kL L false false,.arr 3 kI x true true,.map 90 .i64 .bool es false,.box true [vI N,.sl 0 [] 0 L.length],.box true [.sl 7 [] 0 (qAt x i).length],.arr 4 [.bool] (wAt x N i) true true,.arr 3 kI (List.replicate N (0 : Int)) true true,.arr 3 kI (qAt x i) true true]⟩,fun i => N - i,0,[0,1,2,3,4,5,6,1000],Nat.zero_le _,?_,?_⟩
 ·repeat' ((conv => whnf);(first | apply And.intro | intro _))
  all_goals first | rfl | trivial | exact leb9 rfl | exact ⟨rfl,rfl,rfl⟩ | exact ⟨rfl,rfl,rfl,rfl⟩
 rintro i hi
 have hx : x.length ≤ N ∧ N ≤ x.length:=by have:=ha.beg.len;omega
 have hw : (wAt x N i).length ≤ N ∧ N ≤ (wAt x N i).length:=by have:=wAt_len x N i;omega
 have hq : (qAt x i).length ≤ N:=nodup_le N _ (qAt_nodup x i) fun v hv => by have:=(qAt_mem x i v).1 hv;omega
 repeat' ((conv => whnf);(first | apply And.intro | intro _))
 all_goals try (conv => whnf)
 all_goals try exact ⟨leb9 rfl⟩
 all_goals try (refine Ob.mk ?_;(try simp only [Duty.of_p,inRQ]);subst_vars;(try simp only [getL,getI,getB] at *);(try dsimp only [kL,kI,Tup,CK.ty] at *);(try simp only [getL,getI,getB,Duty.of_p,inRQ,inR,cap40,List.length_cons,List.length_nil,List.length_append,List.length_drop] at *);(try dsimp only [kL,kI,Tup,CK.ty] at *);(try simp only [decide_eq_true_eq,decide_eq_false_iff_not,Nat.zero_add,Nat.sub_zero,Nat.add_zero,Int.toNat_natCast,Bool.not_eq_true',Bool.not_eq_false',Bool.not_eq_true,Bool.not_eq_false,Bool.not_not] at *);(all_goals first | omega | (split <;> omega)))
 ·subst_vars
  have hi1 : i < N:=by simpa using ‹decide ((i : Int) < N) = true›
  have hne : ¬ gi x i = Fr:=by
   have h1:=ne_of_bne (a:=gi x ((0 + i : Nat) : Int)) (by assumption)
   rw [Nat.zero_add] at h1;exact h1
  have e1 : List.drop 0 (qAt x i) ++ List.take 1 (List.drop 0 [(i : Int)]) = qAt x (i + 1):=by simp [qAt,hne]
  have e2 : (wAt x N i).set (0 + i) true = wAt x N (i + 1):=by simp [wAt,hne]
  have e3 : (qAt x i).length + 1 = (qAt x (i + 1)).length:=by simp [qAt,hne]
  refine ⟨i + 1,[0,1,2,3,4,5,6,7],hi1,?_,by show N - (i + 1) < N - i;omega⟩
  repeat' ((conv => whnf);(first | apply And.intro | intro _))
  all_goals first | rfl | trivial | exact leb9 rfl | exact ⟨rfl,rfl,rfl⟩ | exact ⟨rfl,rfl,rfl,rfl⟩ | exact ⟨rfl,rfl,e1⟩ | exact ⟨rfl,rfl,e2⟩ | exact e3
 ·subst_vars
  have hi1 : i < N:=by simpa using ‹decide ((i : Int) < N) = true›
  have hne : gi x i = Fr:=by
   have h1:=eq_of_bne (a:=gi x ((0 + i : Nat) : Int)) (by assumption)
   rw [Nat.zero_add] at h1;exact h1
  have e1 : qAt x i = qAt x (i + 1):=by simp [qAt,hne]
  have e2 : wAt x N i = wAt x N (i + 1):=by simp [wAt,hne]
  have e3 : (qAt x i).length = (qAt x (i + 1)).length:=by rw [e1]
  refine ⟨i + 1,[0,1,2,3,4,5,6,7],hi1,?_,by show N - (i + 1) < N - i;omega⟩
  repeat' ((conv => whnf);(first | apply And.intro | intro _))
  all_goals first | rfl | trivial | exact leb9 rfl | exact ⟨rfl,rfl,rfl⟩ | exact ⟨rfl,rfl,rfl,rfl⟩ | exact ⟨rfl,rfl,e1⟩ | exact ⟨rfl,rfl,e2⟩ | exact e3
 have hi2 : N = i:=by have:=of_decide_eq_false ‹decide ((i : Int) < N) = false›;omega
 subst hi2
 clear hi hx hw hq
 -- node after node
 have hls : least L ≤ 0 ∧ -4611686018427387904 ≤ least L:=by omega
 refine ⟨List Int × Nat × List Int × List Bool × List Int,fun X => X.2.1 ≤ X.2.2.1.length ∧ Sf N (least L) X.1 (X.2.2.1.drop X.2.1) X.2.2.2.1 X.2.2.2.2 ∧ relaxF N L es x = out N L es (rest N X.2.2.2.2 + 1) X.1 (X.2.2.1.drop X.2.1) X.2.2.2.1 X.2.2.2.2,
  fun X => ⟨slotsT 140 [1,2,3,7,8,9,10] [.a (.mp 2),.a (.sl 1 [] 0 N),.a (.p 3 [] 0 0),.a (.p 4 [] 0 0),.a (.sl 5 [] 0 N),.a (.sl 6 [] 0 N),.a (vI (least L))],[⟨1,.node (.a (.sl 1 [] 0 N)) .nil .nil⟩],[.arr 54 kL L false false,.arr 3 kI X.1 true true,.map 90 .i64 .bool es false,.box true [vI N,.sl 0 [] 0 L.length],.box true [.sl 7 [] X.2.1 (X.2.2.1.length - X.2.1)],.arr 4 [.bool] X.2.2.2.1 true true,.arr 3 kI X.2.2.2.2 true true,.arr 3 kI X.2.2.1 true true]⟩,fun X => rest N X.2.2.2.2,(x,0,qAt x N,wAt x N N,List.replicate N 0),[0,1,2,3,4,5,6,7],⟨Nat.zero_le _,Sf.init hls.1 ha.beg,by rw [rest_zero];rfl⟩,?_,?_⟩
 ·repeat' ((conv => whnf);(first | apply And.intro | intro _))
  all_goals first | rfl | trivial | exact leb9 rfl | exact ⟨rfl,rfl,rfl⟩ | exact ⟨rfl,rfl,rfl,rfl⟩
 rintro ⟨x',lo,c,w,t⟩ ⟨hlo2,hsf,hrel⟩
 dsimp only at hlo2 hsf hrel
 generalize relaxF N L es x = res at *
 by_cases hc : lo < c.length
 case neg =>
  have hdr : c.drop lo = []:=List.drop_eq_nil_of_le (by omega)
  rw [hdr] at hrel
  have hrel : res = (true,x'):=hrel
  subst hrel
  repeat' ((conv => whnf);(first | apply And.intro | intro _))
  all_goals try (conv => whnf)
  all_goals try first
   | rfl
   | exact ⟨true,rfl⟩
  all_goals exact (key_ff (lo:=lo) (n:=c.length) (by omega) _ (by assumption) (by assumption)).elim
 have hdr : c.drop lo = gi c lo :: c.drop (lo + 1):=drop_gi hc
 rw [hdr] at hsf hrel
 obtain ⟨hn',hsp⟩:=hsf.pop
 obtain ⟨hx1,hw1,ht1⟩ : (x'.length ≤ N ∧ N ≤ x'.length) ∧ (w.length ≤ N ∧ N ≤ w.length) ∧ (t.length ≤ N ∧ N ≤ t.length):=by
  have:=hsf.lx;have:=hsf.lw;have:=hsf.lt;omega
 have htn:=hsf.rt _ hn'
 have htg : gi (t.set (gi c lo).toNat (gi t (gi c lo) + 1)) (gi c lo) = gi t (gi c lo) + 1:=by rw [gi_set hn'.1 hn'.1 (by have:=hn'.2;omega),if_pos rfl]
 have hn1:=hn'.1
 have hn2:=hn'.2
 by_cases hcmp : gi t (gi c lo) + 1 > (N : Int) + 1
 case pos =>
  have hrel : res = (false,x'):=by rw [hrel];simp only [out];rw [if_pos hcmp]
  subst hrel
  repeat' ((conv => whnf);(first | apply And.intro | intro _))
  all_goals try (conv => whnf)
  all_goals try exact Tk.mk (by kernel_rfl)
  all_goals try exact Tk.mk (by kernel_rfl)
  all_goals try exact (key_tt (lo:=lo) (n:=c.length) (by omega) _ (by assumption) (by assumption)).elim
  all_goals try exact ⟨leb9 rfl⟩
  all_goals try (refine Ob.mk ?_;(try simp only [Duty.of_p,inRQ]);subst_vars;(try dsimp only at *);(try simp only [getL,getI,getB,castL_rfl] at *);(try dsimp only [kL,kI,Tup,CK.ty] at *);(try simp only [getL,getI,getB,gi_nn,gb_nn,castL_rfl,Nat.zero_add,Nat.add_zero,Nat.sub_zero,Int.toNat_zero,Int.toNat_one,Int.toNat_natCast,List.length_set,List.length_drop,List.length_append,List.length_cons,List.length_nil,decide_eq_true_eq,decide_eq_false_iff_not,gt_iff_lt,cap40,inR,htg] at *);(all_goals first | omega | (split <;> omega)))
  all_goals try first
   | rfl
   | exact ⟨true,rfl⟩
  all_goals (exfalso;subst_vars;(try dsimp only at *);(try simp only [getL,getI,getB,castL_rfl] at *);(try dsimp only [kL,kI,Tup,CK.ty] at *);(try simp only [getL,getI,getB,gi_nn,gb_nn,castL_rfl,Nat.zero_add,Nat.add_zero,Nat.sub_zero,Int.toNat_zero,Int.toNat_one,Int.toNat_natCast,List.length_set,List.length_drop,List.length_append,List.length_cons,List.length_nil,decide_eq_true_eq,decide_eq_false_iff_not,gt_iff_lt,cap40,inR,htg] at *);omega)
 replace hrel : Is res (match inn es (least L) (gi c lo) 0 L x' (c.drop (lo + 1)) (w.set (gi c lo).toNat false) with
   | (false,x,_,_) => (false,x)
   | (true,x,q,w) => out N L es (rest N t) x q w (t.set (gi c lo).toNat (gi t (gi c lo) + 1))):=⟨by rw [hrel];simp only [out];rw [if_neg hcmp];rfl⟩
 have hst:=hsp.time hn' (by omega)
 have hrs : rest N (t.set (gi c lo).toNat (gi t (gi c lo) + 1)) + 1 = rest N t:=rest_gi hn'.1 (by omega) (by omega)
 repeat' ((conv => whnf);(first | apply And.intro | intro _))
 all_goals try (conv => whnf)
 all_goals try exact Tk.mk (by kernel_rfl)
 all_goals try exact Tk.mk (by kernel_rfl)
 all_goals try exact (key_tt (lo:=lo) (n:=c.length) (by omega) _ (by assumption) (by assumption)).elim
 all_goals try exact ⟨leb9 rfl⟩
 all_goals try (refine Ob.mk ?_;(try simp only [Duty.of_p,inRQ]);subst_vars;(try dsimp only at *);(try simp only [getL,getI,getB,castL_rfl] at *);(try dsimp only [kL,kI,Tup,CK.ty] at *);(try simp only [getL,getI,getB,gi_nn,gb_nn,castL_rfl,Nat.zero_add,Nat.add_zero,Nat.sub_zero,Int.toNat_zero,Int.toNat_one,Int.toNat_natCast,List.length_set,List.length_drop,List.length_append,List.length_cons,List.length_nil,decide_eq_true_eq,decide_eq_false_iff_not,gt_iff_lt,cap40,inR,htg] at *);(all_goals first | omega | (split <;> omega)))
 ·exfalso;subst_vars;(try dsimp only at *);(try simp only [getL,getI,getB,castL_rfl] at *);(try dsimp only [kL,kI,Tup,CK.ty] at *);(try simp only [getL,getI,getB,gi_nn,gb_nn,castL_rfl,Nat.zero_add,Nat.add_zero,Nat.sub_zero,Int.toNat_zero,Int.toNat_one,Int.toNat_natCast,List.length_set,List.length_drop,List.length_append,List.length_cons,List.length_nil,decide_eq_true_eq,decide_eq_false_iff_not,gt_iff_lt,cap40,inR,htg] at *);omega
 ·exfalso;subst_vars;(try dsimp only at *);(try simp only [getL,getI,getB,castL_rfl] at *);(try dsimp only [kL,kI,Tup,CK.ty] at *);(try simp only [getL,getI,getB,gi_nn,gb_nn,castL_rfl,Nat.zero_add,Nat.add_zero,Nat.sub_zero,Int.toNat_zero,Int.toNat_one,Int.toNat_natCast,List.length_set,List.length_drop,List.length_append,List.length_cons,List.length_nil,decide_eq_true_eq,decide_eq_false_iff_not,gt_iff_lt,cap40,inR,htg] at *);omega
 -- link after link
 have e1 : w.set (0 + (gi c lo).toNat) false = w.set (gi c lo).toNat false:=by rw [Nat.zero_add]
 have e2 : t.set (0 + (gi c lo).toNat) (gi t ((0 + (gi c lo).toNat : Nat) : Int) + 1) = t.set (gi c lo).toNat (gi t (gi c lo) + 1):=by rw [Nat.zero_add];rfl
 have e3 : c.length - lo - 1 = c.length - (lo + 1):=by omega
 subst_vars
 refine ⟨Nat × List Int × Nat × List Int × List Bool,fun Y => Y.1 ≤ L.length ∧ Y.2.2.1 ≤ Y.2.2.2.1.length ∧ Sf N (least L) Y.2.1 (Y.2.2.2.1.drop Y.2.2.1) Y.2.2.2.2 (t.set (gi c lo).toNat (gi t (gi c lo) + 1)) ∧
   inn es (least L) (gi c lo) 0 L x' (c.drop (lo + 1)) (w.set (gi c lo).toNat false) = inn es (least L) (gi c lo) Y.1 (L.drop Y.1) Y.2.1 (Y.2.2.2.1.drop Y.2.2.1) Y.2.2.2.2,
  fun Y => ⟨slotsT 140 [1,2,3,7,8,9,10,14,77,78,79] [.a (.mp 2),.a (.sl 1 [] 0 N),.a (.p 3 [] 0 0),.a (.p 4 [] 0 0),.a (.sl 5 [] 0 N),.a (.sl 6 [] 0 N),.a (vI (least L)),.a (vI (gi c lo)),.a (.sl 0 [] 0 L.length),.a (vI L.length),.a (vI Y.1)],[⟨1,.node (.a (.sl 1 [] 0 N)) .nil .nil⟩],[.arr 54 kL L false false,.arr 3 kI Y.2.1 true true,.map 90 .i64 .bool es false,.box true [vI N,.sl 0 [] 0 L.length],.box true [.sl 7 [] Y.2.2.1 (Y.2.2.2.1.length - Y.2.2.1)],.arr 4 [.bool] Y.2.2.2.2 true true,.arr 3 kI (t.set (gi c lo).toNat (gi t (gi c lo) + 1)) true true,.arr 3 kI Y.2.2.2.1 true true]⟩,fun Y => L.length - Y.1,(0,x',lo + 1,c,w.set (gi c lo).toNat false),[0,1,2,3,4,5,6,7],⟨Nat.zero_le _,hc,hst,rfl⟩,?_,?_⟩
 ·repeat' ((conv => whnf);(first | apply And.intro | intro _))
  all_goals first | rfl | trivial | exact leb9 rfl | exact ⟨rfl,rfl,rfl⟩ | exact ⟨rfl,rfl,rfl,rfl⟩ | exact ⟨rfl,rfl,e1⟩ | exact ⟨rfl,rfl,e2⟩ | exact e3
 rintro ⟨i,x2,lo2,c2,w2⟩ ⟨hi,hlo3,hsf2,hinn⟩
 dsimp only at hi hlo3 hsf2 hinn
 rw [hinn] at hrel
 have hx2 : (x2.length ≤ N ∧ N ≤ x2.length) ∧ (w2.length ≤ N ∧ N ≤ w2.length):=by have:=hsf2.lx;have:=hsf2.lw;omega
 have hql:=hsf2.qlen
 rw [List.length_drop] at hql
 have hxn:=hsf2.rx _ hn'
 clear e1 e2 e3
 by_cases hi1 : i < L.length
 case neg =>
  have hdn : L.drop i = []:=List.drop_eq_nil_of_le (by omega)
  rw [hdn] at hrel
  replace hrel : res = out N L es (rest N t) x2 (c2.drop lo2) w2 (t.set (gi c lo).toNat (gi t (gi c lo) + 1)):=hrel.h
  rw [← hrs] at hrel
  repeat' ((conv => whnf);(first | apply And.intro | intro _))
  all_goals try (conv => whnf)
  all_goals try exact (key_lt (i:=i) (n:=L.length) hi1 (by assumption)).elim
  refine ⟨(x2,lo2,c2,w2,t.set (gi c lo).toNat (gi t (gi c lo) + 1)),[0,1,2,3,4,5,6,7],⟨hlo3,hsf2,hrel⟩,?_,Nat.lt_of_succ_le (Nat.le_of_eq hrs)⟩
  repeat' ((conv => whnf);(first | apply And.intro | intro _))
  all_goals first | rfl | trivial | exact leb9 rfl | exact ⟨rfl,rfl,rfl⟩ | exact ⟨rfl,rfl,rfl,rfl⟩
 have hmem:=lk_mem hi1
 have hnd:=ha.ok.nd _ hmem
 have hms:=ha.ms _ hmem
 have hne:=ha.ok.ne _ hmem
 have hxt:=hsf2.rx _ hnd.2
 have hnd1 : (0 ≤ (lk L i).1 ∧ (lk L i).1 < N) ∧ (0 ≤ (lk L i).2.1 ∧ (lk L i).2.1 < N):=hnd
 repeat' ((conv => whnf);(first | apply And.intro | intro _))
 all_goals try (conv => whnf)
 all_goals try exact Tk.mk (by kernel_rfl)
 all_goals try exact Tk.mk (by kernel_rfl)
 all_goals try exact (key_ge (i:=i) (n:=L.length) hi1 (by assumption)).elim
 all_goals try exact ⟨leb9 rfl⟩
 all_goals try (refine Ob.mk ?_;(try simp only [Duty.of_p,inRQ]);subst_vars;(try dsimp only at *);(try simp only [getL,getI,getB,castL_rfl] at *);(try dsimp only [kL,kI,Tup,CK.ty] at *);(try simp only [getL,getI,getB,gi_nn,gb_nn,castL_rfl,Nat.zero_add,Nat.add_zero,Nat.sub_zero,Int.toNat_zero,Int.toNat_one,Int.toNat_natCast,List.length_set,List.length_drop,List.length_append,List.length_cons,List.length_nil,decide_eq_true_eq,decide_eq_false_iff_not,gt_iff_lt,cap40,inR,Fr] at *);(all_goals first | omega | (split <;> omega)))
 all_goals subst_vars
 ·have r1 : ((lk L (0 + i)).1 != gi c lo) = true:=by assumption
  rw [Nat.zero_add] at r1
  refine ⟨(i + 1,x2,lo2,c2,w2),[0,1,2,3,4,5,6,7],⟨hi1,hlo3,hsf2,hinn.trans (by rw [drop_lk hi1,inn_skip (skip1 r1)])⟩,?_,by show L.length - (i + 1) < L.length - i;omega⟩
  repeat' ((conv => whnf);(first | apply And.intro | intro _))
  all_goals first | rfl | trivial | exact leb9 rfl | exact ⟨rfl,rfl,rfl⟩ | exact ⟨rfl,rfl,rfl,rfl⟩
 ·have r2 : mget (α:=Bool) es (i : Int) false = true:=by assumption
  rw [mget_mgb] at r2
  refine ⟨(i + 1,x2,lo2,c2,w2),[0,1,2,3,4,5,6,7],⟨hi1,hlo3,hsf2,hinn.trans (by rw [drop_lk hi1,inn_skip (skip2 r2)])⟩,?_,by show L.length - (i + 1) < L.length - i;omega⟩
  repeat' ((conv => whnf);(first | apply And.intro | intro _))
  all_goals first | rfl | trivial | exact leb9 rfl | exact ⟨rfl,rfl,rfl⟩ | exact ⟨rfl,rfl,rfl,rfl⟩
 ·have r3 : decide (gi x2 ((0 + (gi c lo).toNat : Nat) : Int) + (lk L (0 + i)).2.2 ≥ gi x2 ((0 + (lk L (0 + i)).2.1.toNat : Nat) : Int)) = true:=by assumption
  simp only [Nat.zero_add,gi_nn,decide_eq_true_eq,decide_eq_false_iff_not] at r3
  refine ⟨(i + 1,x2,lo2,c2,w2),[0,1,2,3,4,5,6,7],⟨hi1,hlo3,hsf2,hinn.trans (by rw [drop_lk hi1,inn_skip (skip3 r3)])⟩,?_,by show L.length - (i + 1) < L.length - i;omega⟩
  repeat' ((conv => whnf);(first | apply And.intro | intro _))
  all_goals first | rfl | trivial | exact leb9 rfl | exact ⟨rfl,rfl,rfl⟩ | exact ⟨rfl,rfl,rfl,rfl⟩
 ·have r1 : ((lk L (0 + i)).1 != gi c lo) = false:=by assumption
  rw [Nat.zero_add] at r1
  have r2 : mget (α:=Bool) es (i : Int) false = false:=by assumption
  rw [mget_mgb] at r2
  have r3 : decide (gi x2 ((0 + (gi c lo).toNat : Nat) : Int) + (lk L (0 + i)).2.2 ≥ gi x2 ((0 + (lk L (0 + i)).2.1.toNat : Nat) : Int)) = false:=by assumption
  simp only [Nat.zero_add,gi_nn,decide_eq_true_eq,decide_eq_false_iff_not] at r3
  have hs0:=skip0 (x:=x2) r1 r2 r3
  have eX : x2.set (0 + (lk L (0 + i)).2.1.toNat) (gi x2 ((0 + (gi c lo).toNat : Nat) : Int) + (lk L (0 + i)).2.2) = x2.set (lk L i).2.1.toNat (gi x2 (gi c lo) + (lk L i).2.2):=by simp only [Nat.zero_add,gi_nn]
  have r4 : decide (gi (x2.set (0 + (lk L (0 + i)).2.1.toNat) (gi x2 ((0 + (gi c lo).toNat : Nat) : Int) + (lk L (0 + i)).2.2)) ((0 + (lk L (0 + i)).2.1.toNat : Nat) : Int) < least L) = true:=by assumption
  rw [eX] at r4
  simp only [Nat.zero_add,gi_nn,decide_eq_true_eq,decide_eq_false_iff_not] at r4
  rw [gi_set hnd1.2.1 hnd1.2.1 (by omega),if_pos rfl] at r4
  have hres:=hrel.h
  rw [drop_lk hi1,inn_low hs0 r4] at hres
  replace hres : res = (false,x2.set (lk L i).2.1.toNat (gi x2 (gi c lo) + (lk L i).2.2)):=hres
  rw [hres]
 ·have r1 : ((lk L (0 + i)).1 != gi c lo) = false:=by assumption
  rw [Nat.zero_add] at r1
  have r2 : mget (α:=Bool) es (i : Int) false = false:=by assumption
  rw [mget_mgb] at r2
  have r3 : decide (gi x2 ((0 + (gi c lo).toNat : Nat) : Int) + (lk L (0 + i)).2.2 ≥ gi x2 ((0 + (lk L (0 + i)).2.1.toNat : Nat) : Int)) = false:=by assumption
  simp only [Nat.zero_add,gi_nn,decide_eq_true_eq,decide_eq_false_iff_not] at r3
  have hs0:=skip0 (x:=x2) r1 r2 r3
  have eX : x2.set (0 + (lk L (0 + i)).2.1.toNat) (gi x2 ((0 + (gi c lo).toNat : Nat) : Int) + (lk L (0 + i)).2.2) = x2.set (lk L i).2.1.toNat (gi x2 (gi c lo) + (lk L i).2.2):=by simp only [Nat.zero_add,gi_nn]
  have r4 : decide (gi (x2.set (0 + (lk L (0 + i)).2.1.toNat) (gi x2 ((0 + (gi c lo).toNat : Nat) : Int) + (lk L (0 + i)).2.2)) ((0 + (lk L (0 + i)).2.1.toNat : Nat) : Int) < least L) = true:=by assumption
  rw [eX] at r4
  simp only [Nat.zero_add,gi_nn,decide_eq_true_eq,decide_eq_false_iff_not] at r4
  rw [gi_set hnd1.2.1 hnd1.2.1 (by omega),if_pos rfl] at r4
  have hres:=hrel.h
  rw [drop_lk hi1,inn_low hs0 r4] at hres
  replace hres : res = (false,x2.set (lk L i).2.1.toNat (gi x2 (gi c lo) + (lk L i).2.2)):=hres
  refine ⟨true,?_⟩
  rw [hres]
  exact congrArg (fun y : List Int => Reg.arr 3 kI y true true) eX
 ·have r1 : ((lk L (0 + i)).1 != gi c lo) = false:=by assumption
  rw [Nat.zero_add] at r1
  have r2 : mget (α:=Bool) es (i : Int) false = false:=by assumption
  rw [mget_mgb] at r2
  have r3 : decide (gi x2 ((0 + (gi c lo).toNat : Nat) : Int) + (lk L (0 + i)).2.2 ≥ gi x2 ((0 + (lk L (0 + i)).2.1.toNat : Nat) : Int)) = false:=by assumption
  simp only [Nat.zero_add,gi_nn,decide_eq_true_eq,decide_eq_false_iff_not] at r3
  have hs0:=skip0 (x:=x2) r1 r2 r3
  have eX : x2.set (0 + (lk L (0 + i)).2.1.toNat) (gi x2 ((0 + (gi c lo).toNat : Nat) : Int) + (lk L (0 + i)).2.2) = x2.set (lk L i).2.1.toNat (gi x2 (gi c lo) + (lk L i).2.2):=by simp only [Nat.zero_add,gi_nn]
  have r4 : decide (gi (x2.set (0 + (lk L (0 + i)).2.1.toNat) (gi x2 ((0 + (gi c lo).toNat : Nat) : Int) + (lk L (0 + i)).2.2)) ((0 + (lk L (0 + i)).2.1.toNat : Nat) : Int) < least L) = false:=by assumption
  rw [eX] at r4
  simp only [Nat.zero_add,gi_nn,decide_eq_true_eq,decide_eq_false_iff_not] at r4
  rw [gi_set hnd1.2.1 hnd1.2.1 (by omega),if_pos rfl] at r4
  have r5 : (!(gb w2 ((0 + (lk L (0 + i)).2.1.toNat : Nat) : Int))) = true:=by assumption
  simp only [Nat.zero_add,gb_nn,Bool.not_eq_true',Bool.not_eq_false'] at r5
  have hsf3:=hsf2.val (v:=(lk L i).2.1) (c:=gi x2 (gi c lo) + (lk L i).2.2) hnd.2 (by omega) (by omega)
  have hsf4:=hsf3.put hnd.2 (by rw [r5];simp)
  have eW : w2.set (0 + (lk L (0 + i)).2.1.toNat) true = w2.set (lk L i).2.1.toNat true:=by simp only [Nat.zero_add]
  have eQ : c2.drop lo2 ++ List.take 1 (List.drop 0 [(lk L (0 + i)).2.1]) = c2.drop lo2 ++ [(lk L i).2.1]:=by simp only [Nat.zero_add];rfl
  have eN : c2.length - lo2 + 1 = (c2.drop lo2 ++ [(lk L i).2.1]).length - 0:=by simp
  refine ⟨(i + 1,x2.set (lk L i).2.1.toNat (gi x2 (gi c lo) + (lk L i).2.2),0,c2.drop lo2 ++ [(lk L i).2.1],w2.set (lk L i).2.1.toNat true),[0,1,2,3,4,5,6,7],⟨hi1,Nat.zero_le _,by rw [List.drop_zero];exact hsf4,hinn.trans (by rw [drop_lk hi1,inn_put hs0 r4 r5,List.drop_zero])⟩,?_,by show L.length - (i + 1) < L.length - i;omega⟩
  repeat' ((conv => whnf);(first | apply And.intro | intro _))
  all_goals first | rfl | trivial | exact leb9 rfl | exact ⟨rfl,rfl,rfl⟩ | exact ⟨rfl,rfl,rfl,rfl⟩ | exact ⟨rfl,rfl,eX⟩ | exact ⟨rfl,rfl,eW⟩ | exact ⟨rfl,rfl,eQ⟩ | exact eN
 ·have r1 : ((lk L (0 + i)).1 != gi c lo) = false:=by assumption
  rw [Nat.zero_add] at r1
  have r2 : mget (α:=Bool) es (i : Int) false = false:=by assumption
  rw [mget_mgb] at r2
  have r3 : decide (gi x2 ((0 + (gi c lo).toNat : Nat) : Int) + (lk L (0 + i)).2.2 ≥ gi x2 ((0 + (lk L (0 + i)).2.1.toNat : Nat) : Int)) = false:=by assumption
  simp only [Nat.zero_add,gi_nn,decide_eq_true_eq,decide_eq_false_iff_not] at r3
  have hs0:=skip0 (x:=x2) r1 r2 r3
  have eX : x2.set (0 + (lk L (0 + i)).2.1.toNat) (gi x2 ((0 + (gi c lo).toNat : Nat) : Int) + (lk L (0 + i)).2.2) = x2.set (lk L i).2.1.toNat (gi x2 (gi c lo) + (lk L i).2.2):=by simp only [Nat.zero_add,gi_nn]
  have r4 : decide (gi (x2.set (0 + (lk L (0 + i)).2.1.toNat) (gi x2 ((0 + (gi c lo).toNat : Nat) : Int) + (lk L (0 + i)).2.2)) ((0 + (lk L (0 + i)).2.1.toNat : Nat) : Int) < least L) = false:=by assumption
  rw [eX] at r4
  simp only [Nat.zero_add,gi_nn,decide_eq_true_eq,decide_eq_false_iff_not] at r4
  rw [gi_set hnd1.2.1 hnd1.2.1 (by omega),if_pos rfl] at r4
  have r5 : (!(gb w2 ((0 + (lk L (0 + i)).2.1.toNat : Nat) : Int))) = false:=by assumption
  simp only [Nat.zero_add,gb_nn,Bool.not_eq_true',Bool.not_eq_false'] at r5
  have hsf3:=hsf2.val (v:=(lk L i).2.1) (c:=gi x2 (gi c lo) + (lk L i).2.2) hnd.2 (by omega) (by omega)
  refine ⟨(i + 1,x2.set (lk L i).2.1.toNat (gi x2 (gi c lo) + (lk L i).2.2),lo2,c2,w2),[0,1,2,3,4,5,6,7],⟨hi1,hlo3,hsf3,hinn.trans (by rw [drop_lk hi1,inn_wait hs0 r4 r5])⟩,?_,by show L.length - (i + 1) < L.length - i;omega⟩
  repeat' ((conv => whnf);(first | apply And.intro | intro _))
  all_goals first | rfl | trivial | exact leb9 rfl | exact ⟨rfl,rfl,rfl⟩ | exact ⟨rfl,rfl,rfl,rfl⟩ | exact ⟨rfl,rfl,eX⟩
end Go.Proofs.YtcmojakklijgfaaGreatDoor
end
section
namespace Go.Proofs.YtcmojakklijgfaaGreatDoor
open Go Go.Sy Go.Chn
variable {Γ : Glob}
def esOf (rg : List Reg) : At → Option (List (Int × Bool))
 | .v (.map none) => some []
 | .mp r => (match rg.getD r .dead with | .map 90 .i64 .bool es _ => some es | _ => none)
 | _ => none
def c87 : Ctr:=.rel fun args rg K => match args with
 | [.agg [.v (.int .i64 N),xs],.a o,.a (.sl r [] 0 k)] =>
   (match lksOf rg xs,esOf rg o,rg.getD r .dead with
    | some (q,L),some es,.arr 3 [.int .i64] x true i => (obl q ∧ N = N.toNat ∧ k = N.toNat ∧ rno xs ≠ some r ∧ Asks N.toNat L x) ∧
      K [(r,.arr 3 kI (relaxF N.toNat L es x).2 true i)] ⟨[],.a (.v (.bool (relaxF N.toNat L es x).1))⟩
    | _,_,_ => False)
 | _ => False
theorem c87_ok : Ctr.Ok Tryz.prog Γ 61 c87:=Ctr.rel1_ok (d:=2) (prog_ok CsOk.nil bs2_ok false 0) (b:=b87) (body_of Tryz.func61 rfl rfl) (by
 intro args rg K hC
 split at hC
 next N xs o r k =>
  split at hC
  next q L es x i hx ho hr =>
   obtain ⟨⟨hq,hN,hk,hne,ha⟩,hK⟩:=hC
   obtain ⟨n,hn⟩ : ∃ n : Nat,N = n:=⟨_,hN⟩
   subst hn
   simp only [Int.toNat_natCast] at hk ha hK
   subst hk
   obtain ⟨e,he1,he2⟩:=pas_lks' hx hq
   have hr':=getD_reg (st:=⟨⟨0,.nil⟩,[],rg⟩) hr (by simp)
   have hdn : (rg.getD r .dead).dn [] = some ([],⟨3,kI,x⟩):=by rw [hr];rfl
   have hpos : 0 < k:=ha.n.1
   unfold esOf at ho
   split at ho
   ·obtain rfl:=Option.some.inj ho
    obtain ⟨p1,p2⟩:=he1 [e,some (r,[])] 2 rfl (by omega)
    refine ⟨[e,some (r,[])],[.agg [vI k,.sl 0 [] 0 L.length],.a (.v (.map none)),.a (.sl 1 [] 0 k)],[.arr 54 kL L false false,.arr 3 kI x false false],r,1,2,k,3,kI,x,_,_,i,
     ⟨⟨⟨rfl,p1,trivial⟩,rfl,.inr ⟨r,[],rfl,by show 1 < 2;omega,rfl⟩,trivial⟩,fun r2 g hg => ?_⟩,rfl,rfl,hr',rfl,hpos,rfl,fun r2 r3 π h1 h2 => ?_,hK,rfl,relax_nil ha⟩
    ·match r2,hg with
     | 0,hg => obtain rfl:=Option.some.inj hg;exact p2
     | 1,hg => obtain rfl:=Option.some.inj hg;exact ⟨rfl,rfl,.inr ⟨r,[],[],rfl,hdn,trivial⟩⟩
    ·match r2,h1 with
     | 0,h1 =>
       have:=he2 r3 π (Option.some.inj h1)
       rw [h2] at this;exact absurd this hne
     | 1,_ => rfl
   ·rename_i rm
    split at ho
    ·rename_i es' om hm
     obtain rfl:=Option.some.inj ho
     have hm':=getD_reg (st:=⟨⟨0,.nil⟩,[],rg⟩) hm (by simp)
     obtain ⟨p1,p2⟩:=he1 [e,some (r,[]),some (rm,[])] 3 rfl (by omega)
     refine ⟨[e,some (r,[]),some (rm,[])],[.agg [vI k,.sl 0 [] 0 L.length],.a (.mp 2),.a (.sl 1 [] 0 k)],[.arr 54 kL L false false,.arr 3 kI x false false,.map 90 .i64 .bool _ false],r,1,2,k,3,kI,x,_,_,i,
      ⟨⟨⟨rfl,p1,trivial⟩,⟨rm,rfl,by show 2 < 3;omega,rfl⟩,.inr ⟨r,[],rfl,by show 1 < 3;omega,rfl⟩,trivial⟩,fun r2 g hg => ?_⟩,rfl,rfl,hr',rfl,hpos,rfl,fun r2 r3 π h1 h2 => ?_,hK,rfl,relax_map ha⟩
     ·match r2,hg with
      | 0,hg => obtain rfl:=Option.some.inj hg;exact p2
      | 1,hg => obtain rfl:=Option.some.inj hg;exact ⟨rfl,rfl,.inr ⟨r,[],[],rfl,hdn,trivial⟩⟩
      | 2,hg => obtain rfl:=Option.some.inj hg;exact ⟨rfl,rm,om,rfl,hm'⟩
     ·match r2,h1 with
      | 0,h1 =>
        have:=he2 r3 π (Option.some.inj h1)
        rw [h2] at this;exact absurd this hne
      | 1,_ => rfl
      | 2,h1 =>
        obtain ⟨rfl,rfl⟩:=Prod.mk.inj (Option.some.inj (Option.some.inj h1))
        rw [h2,hr] at hm;cases hm
    ·cases ho
   ·cases ho
  next => exact hC.elim
 next => exact hC.elim)
end Go.Proofs.YtcmojakklijgfaaGreatDoor
end
section
namespace Go.Proofs.YtcmojakklijgfaaGreatDoor
open Go Go.Sy Go.Chn
variable {Γ : Glob}
structure AskL (N : Nat) (L : List Lk) : Prop where
 n : 1 ≤ N ∧ N ≤ 60
 l : L.length ≤ 300
 ok : Lks N L
theorem AskL.lo {N : Nat} {L : List Lk} (h : AskL N L) : -1351079888211148800 ≤ least L:=by
 have h1:=least_lb L (fun l hl => (h.ok.ms l hl).1)
 have h2:=h.l
 omega
theorem AskL.asks {N : Nat} {L : List Lk} {x : List Int} (h : AskL N L) (hb : Beg N x) : Asks N L x :=
 ⟨h.n,by have:=h.l;omega,h.ok.x,fun l hl => by have:=h.ok.ms l hl;omega,by have:=h.lo;omega,hb⟩
structure AskX (N : Nat) (L : List Lk) : Prop where
 n : 1 ≤ N ∧ N ≤ 60
 l : L.length ≤ 301
 nd : InN N L
 ne : ∀ l ∈ L,l.1 = l.2.1 → 0 ≤ l.2.2
 ms : ∀ l ∈ L,-288230376151711744 ≤ l.2.2 ∧ l.2.2 ≤ 288230376151711744
 lo : -4611686018427387904 ≤ least L
theorem AskL.x {N : Nat} {L : List Lk} (h : AskL N L) : AskX N L :=
 ⟨h.n,by have:=h.l;omega,h.ok.nd,fun l hl e => absurd e (h.ok.ne l hl),fun l hl => by have:=h.ok.ms l hl;omega,by have:=h.lo;omega⟩
def fillF (N i : Nat) : List Int:=List.replicate i Fr ++ List.replicate (N - i) 0
theorem fill_len {N i : Nat} (h : i ≤ N) : (fillF N i).length = N:=by simp [fillF];omega
theorem fill_zero (N : Nat) : fillF N 0 = List.replicate N 0:=by simp [fillF]
theorem fill_all (N : Nat) : fillF N N = List.replicate N Fr:=by simp [fillF]
theorem fill_set {N i : Nat} (h : i < N) : (fillF N i).set i Fr = fillF N (i + 1):=by
 unfold fillF
 rw [List.set_append_right _ _ (by simp),List.length_replicate,Nat.sub_self,show N - i = (N - (i + 1)) + 1 by omega,List.replicate_succ,List.set_cons_zero,List.replicate_succ',List.append_assoc]
 rfl
def from0 (N : Nat) (v : Int) : List Int:=(List.replicate N Fr).set v.toNat 0
theorem from0_gi {N : Nat} {v u : Int} (hv : inN N v) (hu : inN N u) : gi (from0 N v) u = if u = v then 0 else Fr:=by
 unfold from0
 rw [gi_set hv.1 hu.1 (by simpa using hv.2),gi_rep N Fr hu]
theorem from0_beg {N : Nat} {v : Int} (hv : inN N v) : Beg N (from0 N v):=⟨by simp [from0],fun u h0 h1 => by
 rw [from0_gi hv ⟨h0,h1⟩]
 split
 ·exact .inl rfl
 ·exact .inr rfl⟩
def boundsF (N : Nat) (L : List Lk) (es : List (Int × Bool)) (v : Int) : List Int:=(relaxF N L es (from0 N v)).2
noncomputable def b72 : Body:=⟨Tryz.f37.ntmps,(match Tryz.f37.body with | some c => c | none => .skip),Tryz.f37.results.toList⟩
def L2 : List (Nat × Ctr):=[(61,c87)]
theorem L2_ok : CsOk Tryz.prog Γ L2:=CsOk.nil.cons (body_of Tryz.func61 rfl rfl).fn c87_ok
theorem rno_ne {lo k r : Nat} {π : Path} (h : rno (.sl 0 π lo k) = some (r + 1)) : False:=by simp [rno] at h
theorem zero_beg (N : Nat) : Beg N (List.replicate N 0):=⟨by simp,fun v h0 h1 => .inl (gi_rep N 0 ⟨h0,h1⟩)⟩
theorem AskX.okx {N : Nat} {L : List Lk} (h : AskX N L) : Lkx N L (List.replicate N 0) :=
 ⟨h.n.2,h.nd,h.ne,fun u ls v x _ _ _ _ _ hv hx => by rw [gi_rep N 0 hv] at hx;unfold Fr;omega⟩
theorem AskX.asks {N : Nat} {L : List Lk} (h : AskX N L) : Asks N L (List.replicate N 0):=⟨h.n,h.l,h.okx,h.ms,h.lo,zero_beg N⟩
def subF (x : List Int) (f : Int) (i : Nat) : List Int:=(x.take i).map (· - f) ++ x.drop i
theorem sub_zero' (x : List Int) (f : Int) : subF x f 0 = x:=by simp [subF]
theorem sub_all (x : List Int) (f : Int) : subF x f x.length = x.map (· - f):=by simp [subF]
theorem sub_len {x : List Int} {f : Int} (i : Nat) : (subF x f i).length = x.length:=by simp [subF];omega
theorem sub_get {x : List Int} {f : Int} {i : Nat} (h : i < x.length) : gi (subF x f i) i = gi x i:=by
 unfold gi subF
 rw [List.getD_eq_getElem?_getD,List.getD_eq_getElem?_getD,List.getElem?_append_right (by simp;omega),Int.toNat_natCast]
 simp only [List.length_map,List.length_take,List.getElem?_drop]
 rw [Nat.min_eq_left (by omega),Nat.sub_self,Nat.add_zero]
theorem sub_set {x : List Int} {f : Int} {i : Nat} (h : i < x.length) : (subF x f i).set i (gi x i - f) = subF x f (i + 1):=by
 unfold subF
 have e : gi x i = x[i]:=by simp [gi,List.getD,h]
 rw [List.set_append_right _ _ (by simp;omega),List.take_add_one,List.getElem?_eq_getElem h,List.drop_eq_getElem_cons h,e]
 simp only [List.length_map,List.length_take,Option.toList_some,List.map_append,List.map_cons,List.map_nil,List.append_assoc,List.singleton_append]
 rw [Nat.min_eq_left (by omega),Nat.sub_self,List.set_cons_zero]
def solF (N : Nat) (L : List Lk) (es : List (Int × Bool)) : List Int:=(relaxF N L es (List.replicate N 0)).2.map (· - gi (relaxF N L es (List.replicate N 0)).2 0)
noncomputable def b65 : Body:=⟨Tryz.f44.ntmps,(match Tryz.f44.body with | some c => c | none => .skip),Tryz.f44.results.toList⟩
theorem bounds_nil {N : Nat} {L : List Lk} {v : Int} (ha : AskL N L) (hv : inN N v) {K : Res → Prop} (hK : K ⟨[.arr 3 kI (boundsF N L [] v) true true],.a (.sl 0 [] 0 N)⟩) :
  evTop (tabs.env L2 [] false 0) 0 b72 [.agg [vI N,.sl 0 [] 0 L.length],.a (.v (.map none)),.a (vI v)] [.arr 54 kL L false false] (resK K):=by
 have hn:=ha.n
 have hv1:=hv.1
 have hv2:=hv.2
 repeat' ((conv => whnf);(first | apply And.intro | intro _))
 all_goals try (conv => whnf)
 all_goals try exact ⟨leb9 rfl⟩
 all_goals try exact ⟨rfl⟩
 all_goals try (refine Ob.mk ?_;(try simp only [Duty.of_p,inRQ]);subst_vars;(try simp only [getL,getI,getB,castL_rfl] at *);(try dsimp only [kL,kI,Tup,CK.ty] at *);(try simp only [getL,getI,getB,gi_nn,castL_rfl,Nat.zero_add,Nat.add_zero,Nat.sub_zero,Int.toNat_natCast,List.length_set,List.length_replicate,List.length_cons,List.length_nil,decide_eq_true_eq,decide_eq_false_iff_not,cap40,inR] at *);(all_goals first | omega | (split <;> omega)))
 all_goals try rfl
 subst_vars
 refine ⟨Nat,fun i => i ≤ N,fun i => ⟨slotsT 29 [1,2,3,7,13,14] [.a (.v (.map none)),.a (vI v),.a (.p 1 [] 0 0),.a (.sl 2 [] 0 N),.a (vI N),.a (vI i)],[],[.arr 54 kL L false false,.box true [vI N,.sl 0 [] 0 L.length],.arr 3 kI (fillF N i) true true]⟩,fun i => N - i,0,[],Nat.zero_le _,?_,?_⟩
 ·have e0 : List.replicate N (0 : Int) = fillF N 0:=(fill_zero N).symm
  repeat' ((conv => whnf);(first | apply And.intro | intro _))
  all_goals first | rfl | trivial | exact leb9 rfl | exact ⟨rfl,rfl,rfl⟩ | exact ⟨rfl,rfl,rfl,rfl⟩ | exact ⟨rfl,rfl,e0⟩
 rintro i hi
 have hfl : (fillF N i).length ≤ N ∧ N ≤ (fillF N i).length:=by have:=fill_len hi;omega
 by_cases hi1 : i < N
 ·repeat' ((conv => whnf);(first | apply And.intro | intro _))
  all_goals try (conv => whnf)
  all_goals try exact (key_ge (i:=i) (n:=N) hi1 (by assumption)).elim
  all_goals try exact ⟨leb9 rfl⟩
  all_goals try exact ⟨rfl⟩
  all_goals try (refine Ob.mk ?_;(try simp only [Duty.of_p,inRQ]);subst_vars;(try simp only [getL,getI,getB,castL_rfl] at *);(try dsimp only [kL,kI,Tup,CK.ty] at *);(try simp only [getL,getI,getB,gi_nn,castL_rfl,Nat.zero_add,Nat.add_zero,Nat.sub_zero,Int.toNat_natCast,List.length_set,List.length_replicate,List.length_cons,List.length_nil,decide_eq_true_eq,decide_eq_false_iff_not,cap40,inR] at *);(all_goals first | omega | (split <;> omega)))
  subst_vars
  have e1 : (fillF N i).set (0 + i) Fr = fillF N (i + 1):=by rw [Nat.zero_add];exact fill_set hi1
  refine ⟨i + 1,[],hi1,?_,by show N - (i + 1) < N - i;omega⟩
  repeat' ((conv => whnf);(first | apply And.intro | intro _))
  all_goals first | rfl | trivial | exact leb9 rfl | exact ⟨rfl,rfl,rfl⟩ | exact ⟨rfl,rfl,rfl,rfl⟩ | exact ⟨rfl,rfl,e1⟩
 obtain rfl : N = i:=by omega
 have e2 : (fillF N N).set (0 + v.toNat) 0 = from0 N v:=by rw [Nat.zero_add,fill_all];rfl
 have hbeg:=from0_beg hv
 have e3 : (relaxF N L [] ((fillF N N).set (0 + v.toNat) 0)).2 = boundsF N L [] v:=by rw [e2];rfl
 have hask : Asks N L ((fillF N N).set (0 + v.toNat) 0):=ha.asks (by rw [e2];exact hbeg)
 repeat' ((conv => whnf);(first | apply And.intro | intro _))
 all_goals try (conv => whnf)
 all_goals try exact (key_lt (i:=N) (n:=N) hi1 (by assumption)).elim
 all_goals try exact ⟨leb9 rfl⟩
 all_goals try exact ⟨rfl⟩
 all_goals try (refine Ob.mk ?_;(try simp only [Duty.of_p,inRQ]);subst_vars;(try simp only [getL,getI,getB,castL_rfl] at *);(try dsimp only [kL,kI,Tup,CK.ty] at *);(try simp only [getL,getI,getB,gi_nn,castL_rfl,Nat.zero_add,Nat.add_zero,Nat.sub_zero,Int.toNat_natCast,List.length_set,List.length_replicate,List.length_cons,List.length_nil,decide_eq_true_eq,decide_eq_false_iff_not,cap40,inR] at *);(all_goals first | omega | (split <;> omega)))
 all_goals try first
  | rfl
  | exact ⟨rfl,rfl,trivial⟩
 all_goals subst_vars
 all_goals try exact hask
 all_goals try trivial
 all_goals try exact (rno_ne (by assumption)).elim
 exact ⟨_,[2],hK,⟨congrArg (fun y : List Int => Reg.arr 3 kI y true true) e3,rfl,(by simp),trivial⟩,rfl,⟨rfl,rfl,rfl,rfl⟩⟩
theorem bounds_map {N : Nat} {L : List Lk} {v : Int} {es : List (Int × Bool)} (ha : AskL N L) (hv : inN N v) {K : Res → Prop} (hK : K ⟨[.arr 3 kI (boundsF N L es v) true true],.a (.sl 0 [] 0 N)⟩) :
  evTop (tabs.env L2 [] false 0) 0 b72 [.agg [vI N,.sl 0 [] 0 L.length],.a (.mp 1),.a (vI v)] [.arr 54 kL L false false,.map 90 .i64 .bool es false] (resK K):=by
 have hn:=ha.n
 have hv1:=hv.1
 have hv2:=hv.2
 repeat' ((conv => whnf);(first | apply And.intro | intro _))
 all_goals try (conv => whnf)
 all_goals try exact ⟨leb9 rfl⟩
 all_goals try exact ⟨rfl⟩
 all_goals try (refine Ob.mk ?_;(try simp only [Duty.of_p,inRQ]);subst_vars;(try simp only [getL,getI,getB,castL_rfl] at *);(try dsimp only [kL,kI,Tup,CK.ty] at *);(try simp only [getL,getI,getB,gi_nn,castL_rfl,Nat.zero_add,Nat.add_zero,Nat.sub_zero,Int.toNat_natCast,List.length_set,List.length_replicate,List.length_cons,List.length_nil,decide_eq_true_eq,decide_eq_false_iff_not,cap40,inR] at *);(all_goals first | omega | (split <;> omega)))
 all_goals try rfl
 subst_vars
 refine ⟨Nat,fun i => i ≤ N,fun i => ⟨slotsT 29 [1,2,3,7,13,14] [.a (.mp 1),.a (vI v),.a (.p 2 [] 0 0),.a (.sl 3 [] 0 N),.a (vI N),.a (vI i)],[],[.arr 54 kL L false false,.map 90 .i64 .bool es false,.box true [vI N,.sl 0 [] 0 L.length],.arr 3 kI (fillF N i) true true]⟩,fun i => N - i,0,[],Nat.zero_le _,?_,?_⟩
 ·have e0 : List.replicate N (0 : Int) = fillF N 0:=(fill_zero N).symm
  repeat' ((conv => whnf);(first | apply And.intro | intro _))
  all_goals first | rfl | trivial | exact leb9 rfl | exact ⟨rfl,rfl,rfl⟩ | exact ⟨rfl,rfl,rfl,rfl⟩ | exact ⟨rfl,rfl,e0⟩
 rintro i hi
 have hfl : (fillF N i).length ≤ N ∧ N ≤ (fillF N i).length:=by have:=fill_len hi;omega
 by_cases hi1 : i < N
 ·repeat' ((conv => whnf);(first | apply And.intro | intro _))
  all_goals try (conv => whnf)
  all_goals try exact (key_ge (i:=i) (n:=N) hi1 (by assumption)).elim
  all_goals try exact ⟨leb9 rfl⟩
  all_goals try exact ⟨rfl⟩
  all_goals try (refine Ob.mk ?_;(try simp only [Duty.of_p,inRQ]);subst_vars;(try simp only [getL,getI,getB,castL_rfl] at *);(try dsimp only [kL,kI,Tup,CK.ty] at *);(try simp only [getL,getI,getB,gi_nn,castL_rfl,Nat.zero_add,Nat.add_zero,Nat.sub_zero,Int.toNat_natCast,List.length_set,List.length_replicate,List.length_cons,List.length_nil,decide_eq_true_eq,decide_eq_false_iff_not,cap40,inR] at *);(all_goals first | omega | (split <;> omega)))
  subst_vars
  have e1 : (fillF N i).set (0 + i) Fr = fillF N (i + 1):=by rw [Nat.zero_add];exact fill_set hi1
  refine ⟨i + 1,[],hi1,?_,by show N - (i + 1) < N - i;omega⟩
  repeat' ((conv => whnf);(first | apply And.intro | intro _))
  all_goals first | rfl | trivial | exact leb9 rfl | exact ⟨rfl,rfl,rfl⟩ | exact ⟨rfl,rfl,rfl,rfl⟩ | exact ⟨rfl,rfl,e1⟩
 obtain rfl : N = i:=by omega
 have e2 : (fillF N N).set (0 + v.toNat) 0 = from0 N v:=by rw [Nat.zero_add,fill_all];rfl
 have hbeg:=from0_beg hv
 have e3 : (relaxF N L es ((fillF N N).set (0 + v.toNat) 0)).2 = boundsF N L es v:=by rw [e2];rfl
 have hask : Asks N L ((fillF N N).set (0 + v.toNat) 0):=ha.asks (by rw [e2];exact hbeg)
 repeat' ((conv => whnf);(first | apply And.intro | intro _))
 all_goals try (conv => whnf)
 all_goals try exact (key_lt (i:=N) (n:=N) hi1 (by assumption)).elim
 all_goals try exact ⟨leb9 rfl⟩
 all_goals try exact ⟨rfl⟩
 all_goals try (refine Ob.mk ?_;(try simp only [Duty.of_p,inRQ]);subst_vars;(try simp only [getL,getI,getB,castL_rfl] at *);(try dsimp only [kL,kI,Tup,CK.ty] at *);(try simp only [getL,getI,getB,gi_nn,castL_rfl,Nat.zero_add,Nat.add_zero,Nat.sub_zero,Int.toNat_natCast,List.length_set,List.length_replicate,List.length_cons,List.length_nil,decide_eq_true_eq,decide_eq_false_iff_not,cap40,inR] at *);(all_goals first | omega | (split <;> omega)))
 all_goals try first
  | rfl
  | exact ⟨rfl,rfl,trivial⟩
 all_goals subst_vars
 all_goals try exact hask
 all_goals try trivial
 all_goals try exact (rno_ne (by assumption)).elim
 exact ⟨_,[3],hK,⟨congrArg (fun y : List Int => Reg.arr 3 kI y true true) e3,rfl,(by simp),trivial⟩,rfl,⟨rfl,rfl,rfl,rfl⟩⟩
theorem solution_nil {N : Nat} {L : List Lk} (ha : AskX N L) {K : Res → Prop} (hT : (relaxF N L [] (List.replicate N 0)).1 = true → K ⟨[.arr 3 kI (solF N L []) true true],.tup [.a (.sl 0 [] 0 N),.a .tt]⟩)
  (hF : (relaxF N L [] (List.replicate N 0)).1 = false → K ⟨[],.tup [.a (.v (.slice none 0 0)),.a .ff]⟩) :
  evTop (tabs.env L2 [] false 0) 0 b65 [.agg [vI N,.sl 0 [] 0 L.length],.a (.v (.map none))] [.arr 54 kL L false false] (resK K):=by
 have hn:=ha.n
 have hask : Asks N L (List.replicate N 0):=ha.asks
 have hfd:=relax_foundX (es:=[]) ha.okx (zero_beg N)
 have hlb:=ha.lo
 have hl3:=ha.l
 unfold solF at hT
 obtain ⟨hy,hno,hlen0⟩:=hfd
 have hlen : N ≤ (relaxF N L [] (List.replicate N 0)).2.length ∧ (relaxF N L [] (List.replicate N 0)).2.length ≤ N:=by omega
 clear hlen0
 repeat' ((conv => whnf);(first | apply And.intro | intro _))
 all_goals try (conv => whnf)
 all_goals try exact ⟨leb9 rfl⟩
 all_goals try exact ⟨rfl⟩
 all_goals try (refine Ob.mk ?_;(try simp only [Duty.of_p,inRQ]);subst_vars;(try simp only [getL,getI,getB,castL_rfl] at *);(try dsimp only [kL,kI,Tup,CK.ty] at *);(try simp only [getL,getI,getB,gi_nn,castL_rfl,Nat.zero_add,Nat.add_zero,Nat.sub_zero,Int.toNat_natCast,Int.toNat_zero,List.length_set,List.length_replicate,List.length_cons,List.length_nil,decide_eq_true_eq,decide_eq_false_iff_not,cap40,inR] at *);(all_goals first | omega | (split <;> omega)))
 all_goals try first
  | rfl
  | exact ⟨rfl,rfl,trivial⟩
  | exact hask
  | exact (rno_ne (by assumption)).elim
 all_goals subst_vars
 all_goals try trivial
 ·have h0 : (!(relaxF N L [] (List.replicate N 0)).1) = true:=by assumption
  simp only [Bool.not_eq_true'] at h0
  exact ⟨_,[],hF h0,trivial,rfl,⟨rfl,trivial,trivial⟩⟩
 ·exact ⟨by show 0 < List.length (α:=Int) (relaxF N L [] (List.replicate N 0)).2;omega⟩
 have h0 : (!(relaxF N L [] (List.replicate N 0)).1) = false:=by assumption
 simp only [Bool.not_eq_false'] at h0
 have hrg:=(hy h0).2
 have hr0:=hrg 0 ⟨by omega,by omega⟩
 refine ⟨Nat,fun i => i ≤ N,fun i => ⟨slotsT 34 [6,7,21,22] [.a (.sl 2 [] 0 N),.a (vI (gi (relaxF N L [] (List.replicate N 0)).2 0)),.a (vI N),.a (vI i)],[],[.arr 54 kL L false false,.box true [vI N,.sl 0 [] 0 L.length],.arr 3 kI (subF (relaxF N L [] (List.replicate N 0)).2 (gi (relaxF N L [] (List.replicate N 0)).2 0) i) true true]⟩,fun i => N - i,0,[],Nat.zero_le _,?_,?_⟩
 ·have e0 : (relaxF N L [] (List.replicate N 0)).2 = subF (relaxF N L [] (List.replicate N 0)).2 (gi (relaxF N L [] (List.replicate N 0)).2 0) 0:=(sub_zero' _ _).symm
  repeat' ((conv => whnf);(first | apply And.intro | intro _))
  all_goals first | rfl | trivial | exact leb9 rfl | exact ⟨rfl,rfl,rfl⟩ | exact ⟨rfl,rfl,rfl,rfl⟩ | exact ⟨rfl,rfl,e0⟩
 rintro i hi
 have hsl:=sub_len (x:=(relaxF N L [] (List.replicate N 0)).2) (f:=gi (relaxF N L [] (List.replicate N 0)).2 0) i
 have hsl2 : (subF (relaxF N L [] (List.replicate N 0)).2 (gi (relaxF N L [] (List.replicate N 0)).2 0) i).length ≤ N ∧ N ≤ (subF (relaxF N L [] (List.replicate N 0)).2 (gi (relaxF N L [] (List.replicate N 0)).2 0) i).length:=by omega
 clear hsl
 by_cases hi1 : i < N
 ·have hri:=hrg i ⟨by omega,by omega⟩
  have hsg:=sub_get (x:=(relaxF N L [] (List.replicate N 0)).2) (f:=gi (relaxF N L [] (List.replicate N 0)).2 0) (i:=i) (by omega)
  have hFr : Fr = 1152921504606846976:=rfl
  rw [hFr] at hri hr0
  clear hFr
  rw [← hsg] at hri
  repeat' ((conv => whnf);(first | apply And.intro | intro _))
  all_goals try (conv => whnf)
  all_goals try exact (key_ge (i:=i) (n:=N) hi1 (by assumption)).elim
  all_goals try exact ⟨leb9 rfl⟩
  all_goals try exact ⟨rfl⟩
  all_goals try (refine Ob.mk ?_;(try simp only [Duty.of_p,inRQ]);subst_vars;(try simp only [getL,getI,getB,castL_rfl] at *);(try dsimp only [kL,kI,Tup,CK.ty] at *);(try simp only [getL,getI,getB,gi_nn,castL_rfl,Nat.zero_add,Nat.add_zero,Nat.sub_zero,Int.toNat_natCast,Int.toNat_zero,List.length_set,List.length_replicate,List.length_cons,List.length_nil,decide_eq_true_eq,decide_eq_false_iff_not,cap40,inR] at *);(all_goals first | omega | (split <;> omega)))
  subst_vars
  have e1 : (subF (relaxF N L [] (List.replicate N 0)).2 (gi (relaxF N L [] (List.replicate N 0)).2 0) i).set (0 + i) (gi (subF (relaxF N L [] (List.replicate N 0)).2 (gi (relaxF N L [] (List.replicate N 0)).2 0) i) ((0 + i : Nat) : Int) - gi (relaxF N L [] (List.replicate N 0)).2 0) = subF (relaxF N L [] (List.replicate N 0)).2 (gi (relaxF N L [] (List.replicate N 0)).2 0) (i + 1):=by
   rw [Nat.zero_add,hsg];exact sub_set (by omega)
  refine ⟨i + 1,[],hi1,?_,by show N - (i + 1) < N - i;omega⟩
  repeat' ((conv => whnf);(first | apply And.intro | intro _))
  all_goals first | rfl | trivial | exact leb9 rfl | exact ⟨rfl,rfl,rfl⟩ | exact ⟨rfl,rfl,rfl,rfl⟩ | exact ⟨rfl,rfl,e1⟩
 obtain rfl : N = i:=by omega
 have e2 : subF (relaxF N L [] (List.replicate N 0)).2 (gi (relaxF N L [] (List.replicate N 0)).2 0) N = (relaxF N L [] (List.replicate N 0)).2.map (· - gi (relaxF N L [] (List.replicate N 0)).2 0):=by
  have:=sub_all (relaxF N L [] (List.replicate N 0)).2 (gi (relaxF N L [] (List.replicate N 0)).2 0)
  rwa [show (relaxF N L [] (List.replicate N 0)).2.length = N by omega] at this
 repeat' ((conv => whnf);(first | apply And.intro | intro _))
 all_goals try (conv => whnf)
 all_goals try exact (key_lt (i:=N) (n:=N) hi1 (by assumption)).elim
 exact ⟨_,[2],hT h0,⟨congrArg (fun y : List Int => Reg.arr 3 kI y true true) e2,rfl,(by simp),trivial⟩,rfl,⟨⟨rfl,rfl,rfl,rfl⟩,trivial,trivial⟩⟩
theorem solution_map {N : Nat} {L : List Lk} {es : List (Int × Bool)} (ha : AskX N L) {K : Res → Prop} (hT : (relaxF N L es (List.replicate N 0)).1 = true → K ⟨[.arr 3 kI (solF N L es) true true],.tup [.a (.sl 0 [] 0 N),.a .tt]⟩)
  (hF : (relaxF N L es (List.replicate N 0)).1 = false → K ⟨[],.tup [.a (.v (.slice none 0 0)),.a .ff]⟩) :
  evTop (tabs.env L2 [] false 0) 0 b65 [.agg [vI N,.sl 0 [] 0 L.length],.a (.mp 1)] [.arr 54 kL L false false,.map 90 .i64 .bool es false] (resK K):=by
 have hn:=ha.n
 have hask : Asks N L (List.replicate N 0):=ha.asks
 have hfd:=relax_foundX (es:=es) ha.okx (zero_beg N)
 have hlb:=ha.lo
 have hl3:=ha.l
 unfold solF at hT
 obtain ⟨hy,hno,hlen0⟩:=hfd
 have hlen : N ≤ (relaxF N L es (List.replicate N 0)).2.length ∧ (relaxF N L es (List.replicate N 0)).2.length ≤ N:=by omega
 clear hlen0
 repeat' ((conv => whnf);(first | apply And.intro | intro _))
 all_goals try (conv => whnf)
 all_goals try exact ⟨leb9 rfl⟩
 all_goals try exact ⟨rfl⟩
 all_goals try (refine Ob.mk ?_;(try simp only [Duty.of_p,inRQ]);subst_vars;(try simp only [getL,getI,getB,castL_rfl] at *);(try dsimp only [kL,kI,Tup,CK.ty] at *);(try simp only [getL,getI,getB,gi_nn,castL_rfl,Nat.zero_add,Nat.add_zero,Nat.sub_zero,Int.toNat_natCast,Int.toNat_zero,List.length_set,List.length_replicate,List.length_cons,List.length_nil,decide_eq_true_eq,decide_eq_false_iff_not,cap40,inR] at *);(all_goals first | omega | (split <;> omega)))
 all_goals try first
  | rfl
  | exact ⟨rfl,rfl,trivial⟩
  | exact hask
  | exact (rno_ne (by assumption)).elim
 all_goals subst_vars
 all_goals try trivial
 ·have h0 : (!(relaxF N L es (List.replicate N 0)).1) = true:=by assumption
  simp only [Bool.not_eq_true'] at h0
  exact ⟨_,[],hF h0,trivial,rfl,⟨rfl,trivial,trivial⟩⟩
 ·exact ⟨by show 0 < List.length (α:=Int) (relaxF N L es (List.replicate N 0)).2;omega⟩
 have h0 : (!(relaxF N L es (List.replicate N 0)).1) = false:=by assumption
 simp only [Bool.not_eq_false'] at h0
 have hrg:=(hy h0).2
 have hr0:=hrg 0 ⟨by omega,by omega⟩
 refine ⟨Nat,fun i => i ≤ N,fun i => ⟨slotsT 34 [6,7,21,22] [.a (.sl 3 [] 0 N),.a (vI (gi (relaxF N L es (List.replicate N 0)).2 0)),.a (vI N),.a (vI i)],[],[.arr 54 kL L false false,.map 90 .i64 .bool es false,.box true [vI N,.sl 0 [] 0 L.length],.arr 3 kI (subF (relaxF N L es (List.replicate N 0)).2 (gi (relaxF N L es (List.replicate N 0)).2 0) i) true true]⟩,fun i => N - i,0,[],Nat.zero_le _,?_,?_⟩
 ·have e0 : (relaxF N L es (List.replicate N 0)).2 = subF (relaxF N L es (List.replicate N 0)).2 (gi (relaxF N L es (List.replicate N 0)).2 0) 0:=(sub_zero' _ _).symm
  repeat' ((conv => whnf);(first | apply And.intro | intro _))
  all_goals first | rfl | trivial | exact leb9 rfl | exact ⟨rfl,rfl,rfl⟩ | exact ⟨rfl,rfl,rfl,rfl⟩ | exact ⟨rfl,rfl,e0⟩
 rintro i hi
 have hsl:=sub_len (x:=(relaxF N L es (List.replicate N 0)).2) (f:=gi (relaxF N L es (List.replicate N 0)).2 0) i
 have hsl2 : (subF (relaxF N L es (List.replicate N 0)).2 (gi (relaxF N L es (List.replicate N 0)).2 0) i).length ≤ N ∧ N ≤ (subF (relaxF N L es (List.replicate N 0)).2 (gi (relaxF N L es (List.replicate N 0)).2 0) i).length:=by omega
 clear hsl
 by_cases hi1 : i < N
 ·have hri:=hrg i ⟨by omega,by omega⟩
  have hsg:=sub_get (x:=(relaxF N L es (List.replicate N 0)).2) (f:=gi (relaxF N L es (List.replicate N 0)).2 0) (i:=i) (by omega)
  have hFr : Fr = 1152921504606846976:=rfl
  rw [hFr] at hri hr0
  clear hFr
  rw [← hsg] at hri
  repeat' ((conv => whnf);(first | apply And.intro | intro _))
  all_goals try (conv => whnf)
  all_goals try exact (key_ge (i:=i) (n:=N) hi1 (by assumption)).elim
  all_goals try exact ⟨leb9 rfl⟩
  all_goals try exact ⟨rfl⟩
  all_goals try (refine Ob.mk ?_;(try simp only [Duty.of_p,inRQ]);subst_vars;(try simp only [getL,getI,getB,castL_rfl] at *);(try dsimp only [kL,kI,Tup,CK.ty] at *);(try simp only [getL,getI,getB,gi_nn,castL_rfl,Nat.zero_add,Nat.add_zero,Nat.sub_zero,Int.toNat_natCast,Int.toNat_zero,List.length_set,List.length_replicate,List.length_cons,List.length_nil,decide_eq_true_eq,decide_eq_false_iff_not,cap40,inR] at *);(all_goals first | omega | (split <;> omega)))
  subst_vars
  have e1 : (subF (relaxF N L es (List.replicate N 0)).2 (gi (relaxF N L es (List.replicate N 0)).2 0) i).set (0 + i) (gi (subF (relaxF N L es (List.replicate N 0)).2 (gi (relaxF N L es (List.replicate N 0)).2 0) i) ((0 + i : Nat) : Int) - gi (relaxF N L es (List.replicate N 0)).2 0) = subF (relaxF N L es (List.replicate N 0)).2 (gi (relaxF N L es (List.replicate N 0)).2 0) (i + 1):=by
   rw [Nat.zero_add,hsg];exact sub_set (by omega)
  refine ⟨i + 1,[],hi1,?_,by show N - (i + 1) < N - i;omega⟩
  repeat' ((conv => whnf);(first | apply And.intro | intro _))
  all_goals first | rfl | trivial | exact leb9 rfl | exact ⟨rfl,rfl,rfl⟩ | exact ⟨rfl,rfl,rfl,rfl⟩ | exact ⟨rfl,rfl,e1⟩
 obtain rfl : N = i:=by omega
 have e2 : subF (relaxF N L es (List.replicate N 0)).2 (gi (relaxF N L es (List.replicate N 0)).2 0) N = (relaxF N L es (List.replicate N 0)).2.map (· - gi (relaxF N L es (List.replicate N 0)).2 0):=by
  have:=sub_all (relaxF N L es (List.replicate N 0)).2 (gi (relaxF N L es (List.replicate N 0)).2 0)
  rwa [show (relaxF N L es (List.replicate N 0)).2.length = N by omega] at this
 repeat' ((conv => whnf);(first | apply And.intro | intro _))
 all_goals try (conv => whnf)
 all_goals try exact (key_lt (i:=N) (n:=N) hi1 (by assumption)).elim
 exact ⟨_,[3],hT h0,⟨congrArg (fun y : List Int => Reg.arr 3 kI y true true) e2,rfl,(by simp),trivial⟩,rfl,⟨⟨rfl,rfl,rfl,rfl⟩,trivial,trivial⟩⟩
def c72 : Ctr:=.new fun args rg K => match args with
 | [.agg [.v (.int .i64 N),xs],.a o,.a (.v (.int .i64 v))] =>
   (match lksOf rg xs,esOf rg o with
    | some (q,L),some es => (obl q ∧ N = N.toNat ∧ AskL N.toNat L ∧ inN N.toNat v) ∧ K ⟨[.arr 3 kI (boundsF N.toNat L es v) true true],.a (.sl 0 [] 0 N.toNat)⟩
    | _,_ => False)
 | _ => False
def c65x : Ctr:=.new fun args rg K => match args with
 | [.agg [.v (.int .i64 N),xs],.a o] =>
   (match lksOf rg xs,esOf rg o with
    | some (q,L),some es => (obl q ∧ N = N.toNat ∧ AskX N.toNat L) ∧
      ((relaxF N.toNat L es (List.replicate N.toNat 0)).1 = true → K ⟨[.arr 3 kI (solF N.toNat L es) true true],.tup [.a (.sl 0 [] 0 N.toNat),.a .tt]⟩) ∧
      ((relaxF N.toNat L es (List.replicate N.toNat 0)).1 = false → K ⟨[],.tup [.a (.v (.slice none 0 0)),.a .ff]⟩)
    | _,_ => False)
 | _ => False
theorem pas_sys {rg : List Reg} {xs o : At} {q : List Duty} {L : List Lk} {es : List (Int × Bool)} (hx : lksOf rg xs = some (q,L)) (hq : obl q) (ho : esOf rg o = some es) :
  (o = .v (.map none) ∧ es = [] ∧ ∃ is : Pas,paA is 1 xs (.sl 0 [] 0 L.length) ∧ ∀ (r : Nat) (g : Reg),[Reg.arr 54 kL L false false][r]? = some g → paR rg is 1 r g) ∨
  (∃ is : Pas,paA is 2 xs (.sl 0 [] 0 L.length) ∧ paA is 2 o (.mp 1) ∧ ∀ (r : Nat) (g : Reg),[Reg.arr 54 kL L false false,Reg.map 90 .i64 .bool es false][r]? = some g → paR rg is 2 r g):=by
 obtain ⟨e,he1,he2⟩:=pas_lks' hx hq
 unfold esOf at ho
 split at ho
 ·obtain rfl:=Option.some.inj ho
  obtain ⟨p1,p2⟩:=he1 [e] 1 rfl (by omega)
  refine .inl ⟨rfl,rfl,[e],p1,fun r g hg => ?_⟩
  match r,hg with
  | 0,hg => obtain rfl:=Option.some.inj hg;exact p2
 ·rename_i rm
  split at ho
  ·rename_i es' om hm
   obtain rfl:=Option.some.inj ho
   have hm':=getD_reg (st:=⟨⟨0,.nil⟩,[],rg⟩) hm (by simp)
   obtain ⟨p1,p2⟩:=he1 [e,some (rm,[])] 2 rfl (by omega)
   refine .inr ⟨[e,some (rm,[])],p1,⟨rm,rfl,by show 1 < 2;omega,rfl⟩,fun r g hg => ?_⟩
   match r,hg with
   | 0,hg => obtain rfl:=Option.some.inj hg;exact p2
   | 1,hg => obtain rfl:=Option.some.inj hg;exact ⟨rfl,rm,om,rfl,hm'⟩
  ·cases ho
 ·cases ho
theorem c72_ok : Ctr.Ok Tryz.prog Γ 37 c72:=Ctr.new_ok (d:=0) (prog_ok L2_ok BsOk.nil false 0) (b:=b72) (body_of Tryz.func37 rfl rfl) (by
 intro args rg K hC
 split at hC
 next N xs o v =>
  split at hC
  next q L es hx ho =>
   obtain ⟨⟨hq,hN,ha,hv⟩,hK⟩:=hC
   obtain ⟨n,hn⟩ : ∃ n : Nat,N = n:=⟨_,hN⟩
   subst hn
   simp only [Int.toNat_natCast] at ha hv hK
   rcases pas_sys hx hq ho with ⟨rfl,rfl,is,p1,p2⟩ | ⟨is,p1,p2,p3⟩
   ·exact ⟨is,[.agg [vI n,.sl 0 [] 0 L.length],.a (.v (.map none)),.a (vI v)],[.arr 54 kL L false false],⟨⟨⟨rfl,p1,trivial⟩,rfl,rfl,trivial⟩,p2⟩,bounds_nil ha hv hK⟩
   ·exact ⟨is,[.agg [vI n,.sl 0 [] 0 L.length],.a (.mp 1),.a (vI v)],[.arr 54 kL L false false,.map 90 .i64 .bool es false],⟨⟨⟨rfl,p1,trivial⟩,p2,rfl,trivial⟩,p3⟩,bounds_map ha hv hK⟩
  next => exact hC.elim
 next => exact hC.elim)
theorem c65x_ok : Ctr.Ok Tryz.prog Γ 44 c65x:=Ctr.new_ok (d:=0) (prog_ok L2_ok BsOk.nil false 0) (b:=b65) (body_of Tryz.func44 rfl rfl) (by
 intro args rg K hC
 split at hC
 next N xs o =>
  split at hC
  next q L es hx ho =>
   obtain ⟨⟨hq,hN,ha⟩,hT,hF⟩:=hC
   obtain ⟨n,hn⟩ : ∃ n : Nat,N = n:=⟨_,hN⟩
   subst hn
   simp only [Int.toNat_natCast] at ha hT hF
   rcases pas_sys hx hq ho with ⟨rfl,rfl,is,p1,p2⟩ | ⟨is,p1,p2,p3⟩
   ·exact ⟨is,[.agg [vI n,.sl 0 [] 0 L.length],.a (.v (.map none))],[.arr 54 kL L false false],⟨⟨⟨rfl,p1,trivial⟩,rfl,trivial⟩,p2⟩,solution_nil ha hT hF⟩
   ·exact ⟨is,[.agg [vI n,.sl 0 [] 0 L.length],.a (.mp 1)],[.arr 54 kL L false false,.map 90 .i64 .bool es false],⟨⟨⟨rfl,p1,trivial⟩,p2,trivial⟩,p3⟩,solution_map ha hT hF⟩
  next => exact hC.elim
 next => exact hC.elim)
theorem Ctr.new_mono {f : FuncId} {C C' : List Tm → List Reg → (Res → Prop) → Prop} (h : Ctr.Ok Tryz.prog Γ f (.new C)) (hc : ∀ args rg K,C' args rg K → C args rg K) : Ctr.Ok Tryz.prog Γ f (.new C') :=
 fun args rg K hK => h args rg K (hc args rg K hK)
def c65 : Ctr:=.new fun args rg K => match args with
 | [.agg [.v (.int .i64 N),xs],.a o] =>
   (match lksOf rg xs,esOf rg o with
    | some (q,L),some es => (obl q ∧ N = N.toNat ∧ AskL N.toNat L) ∧
      ((relaxF N.toNat L es (List.replicate N.toNat 0)).1 = true → K ⟨[.arr 3 kI (solF N.toNat L es) true true],.tup [.a (.sl 0 [] 0 N.toNat),.a .tt]⟩) ∧
      ((relaxF N.toNat L es (List.replicate N.toNat 0)).1 = false → K ⟨[],.tup [.a (.v (.slice none 0 0)),.a .ff]⟩)
    | _,_ => False)
 | _ => False
theorem c65_ok : Ctr.Ok Tryz.prog Γ 44 c65:=Ctr.new_mono c65x_ok (by
 intro args rg K h
 split at h
 next N xs o =>
  split at h
  next q L es hx ho =>
   obtain ⟨⟨h1,h2,h3⟩,h4⟩:=h
   exact ⟨⟨h1,h2,h3.x⟩,h4⟩
  next => exact h.elim
 next => exact h.elim)
end Go.Proofs.YtcmojakklijgfaaGreatDoor
end
