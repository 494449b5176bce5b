/-
  Texts of the claims: Yka7z. No condition: lemmas and contracts.
-/
import Derived.Test.YtccnimhgjjnmoaaSya1z
import Derived.Test.YtccnimhgjjnmoaaSya2z
import Derived.Test.YtccnimhgjjnmoaaSya3z
import Derived.Test.YtccnimhgjjnmoaaSya4z
import Derived.Test.YtccnimhgjjnmoaaSya5z
import Derived.Test.YtccnimhgjjnmoaaPla6z
import Derived.Test.YtccnimhgjjnmoaaProg
import Derived.KernelRfl
import Derived.Test.YtccnimhgjjnmoaaRows
import Derived.ProofKit
import Derived.Deep.DeepHandedRow
import Derived.Deep.Slices
import Derived.Lib.LaidTab
import Derived.Lib.SmallJoins
import Derived.Stop.LaidErr
import Derived.Carry
import Derived.Shelf.Sort.Plain
import Derived.Ground.Names2Prog
import Derived.Shelf.Slices.CompactI
import Derived.Shelf.Slices.In.SortNone
set_option linter.all false
set_option maxRecDepth 100000
set_option maxHeartbeats 40000000
namespace Go.Proofs.Ytccnimhgjjnmoaa
theorem bA {b x:Bool} {q:Prop} (h:b=!x):b=x->q:=fun h'=>by subst h';cases b<;>cases h
theorem ah {n m:Nat} (h:Nat.ble n m=true):n<=m:=Nat.le_of_ble_eq_true h
theorem aq {b x:Bool} {q:Prop} (h:b=x) (h':b=!x):q:=by subst h;cases b<;>cases h'
theorem aS {r a n:Nat} (h:r∈[a]) (h':Nat.ble (a+1) n=true):r<n:=by cases List.mem_singleton.1 h;exact Nat.le_of_ble_eq_true h'
theorem aT {r a n:Nat} {l:List Nat} (h:r∈[a]) (h':Nat.ble (Go.Sy.rn l a+1) n=true):Go.Sy.rn l r<n:=by cases List.mem_singleton.1 h;exact Nat.le_of_ble_eq_true h'
end Go.Proofs.Ytccnimhgjjnmoaa
section
namespace Go.Proofs.Ytccnimhgjjnmoaa
open Go Go.Sy
def jV:wc where
 ty:=.node none (.node (some (.word)) (.node (some (.int .i64)) (.node (some (.st [(0,1),(1,1),(2,1),(3,1)] 4)) (.node (some (.word)) (.node none (.node (some (.word)) (.node (some (.word)) .nil .nil) .nil) (.node (some (.word)) (.node (some (.st [(0,1),(1,1),(2,1),(3,1)] 4)) .nil .nil) .nil)) (.node (some (.st [(0,1),(1,1),(2,1)] 3)) (.node (some (.word)) (.node (some (.sl 22 1)) .nil .nil) .nil) (.node (some (.map 3 3)) .nil .nil))) (.node (some (.st [(0,1),(1,1),(2,1)] 3)) (.node (some (.word)) (.node (some (.word)) (.node (some (.word)) .nil .nil) .nil) (.node none (.node (some (.word)) .nil .nil) .nil)) (.node (some (.word)) (.node none (.node (some (.word)) .nil .nil) .nil) (.node (some (.st [] 0)) .nil .nil)))) (.node (some (.str)) (.node (some (.st [(0,1)] 1)) (.node (some (.word)) (.node (some (.st [(0,1),(1,1)] 2)) (.node (some (.word)) .nil .nil) .nil) (.node (some (.word)) (.node (some (.word)) .nil .nil) .nil)) (.node (some (.word)) (.node (some (.word)) (.node (some (.int .u64)) .nil .nil) .nil) (.node (some (.word)) .nil .nil))) (.node (some (.sl 3 1)) (.node none (.node (some (.word)) (.node (some (.int .u32)) .nil .nil) .nil) (.node (some (.word)) (.node (some (.st [(0,1),(1,1),(2,1),(3,1),(4,1),(5,1),(6,1),(7,1),(8,1),(9,1),(10,1)] 11)) .nil .nil) .nil)) (.node none (.node (some (.word)) (.node (some (.word)) .nil .nil) .nil) (.node (some (.word)) .nil .nil))))) (.node (some (.int .u8)) (.node (some (.str)) (.node (some (.word)) (.node none (.node (some (.word)) (.node (some (.word)) .nil .nil) .nil) (.node (some (.word)) (.node (some (.st [(0,0)] 0)) .nil .nil) .nil)) (.node (some (.word)) (.node (some (.word)) (.node (some (.word)) .nil .nil) .nil) (.node (some (.word)) .nil .nil))) (.node (some (.word)) (.node (some (.word)) (.node (some (.word)) (.node (some (.word)) .nil .nil) .nil) (.node (some (.word)) (.node (some (.int .i32)) .nil .nil) .nil)) (.node (some (.st [(0,1),(1,1),(2,1)] 3)) (.node (some (.word)) (.node (some (.word)) .nil .nil) .nil) (.node (some (.word)) .nil .nil)))) (.node (some (.st [(0,1),(1,1)] 2)) (.node (some (.int .i32)) (.node (some (.word)) (.node (some (.word)) .nil .nil) (.node (some (.word)) (.node (some (.int .u8)) .nil .nil) .nil)) (.node (some (.word)) (.node (some (.st [(0,1),(1,1)] 2)) (.node (some (.word)) .nil .nil) .nil) (.node (some (.word)) .nil .nil))) (.node none (.node (some (.word)) (.node (some (.word)) (.node (some (.int .u64)) .nil .nil) .nil) (.node (some (.word)) .nil .nil)) (.node (some (.word)) (.node (some (.sl 27 1)) (.node (some (.word)) .nil .nil) .nil) (.node (some (.int .u64)) .nil .nil)))))) (.node (some (.int .i64)) (.node (some (.bool)) (.node (some (.st [(0,1),(1,1),(2,1),(3,1)] 4)) (.node (some (.word)) (.node (some (.word)) (.node (some (.word)) (.node (some (.sl 4 1)) .nil .nil) .nil) (.node (some (.word)) .nil .nil)) (.node (some (.word)) (.node (some (.word)) (.node (some (.word)) .nil .nil) .nil) .nil)) (.node (some (.st [(0,1),(1,1),(2,1)] 3)) (.node none (.node none (.node (some (.word)) .nil .nil) .nil) (.node (some (.word)) (.node (some (.int .i32)) .nil .nil) .nil)) (.node (some (.st [(0,1),(1,1),(2,1)] 3)) (.node (some (.word)) (.node (some (.word)) .nil .nil) .nil) (.node (some (.st [] 0)) .nil .nil)))) (.node (some (.int .u64)) (.node (some (.word)) (.node (some (.word)) (.node (some (.word)) (.node (some (.int .i64)) .nil .nil) .nil) (.node (some (.word)) (.node (some (.int .u8)) .nil .nil) .nil)) (.node (some (.word)) (.node (some (.word)) (.node (some (.word)) .nil .nil) .nil) (.node (some (.word)) .nil .nil))) (.node (some (.int .i64)) (.node (some (.word)) (.node (some (.word)) (.node (some (.word)) .nil .nil) .nil) (.node (some (.word)) (.node (some (.word)) .nil .nil) .nil)) (.node (some (.word)) (.node (some (.word)) (.node (some (.word)) .nil .nil) .nil) (.node (some (.word)) .nil .nil))))) (.node (some (.int .u8)) (.node (some (.str)) (.node (some (.st [(0,1)] 1)) (.node (some (.word)) (.node (some (.st [(0,1),(1,1)] 2)) (.node (some (.word)) .nil .nil) .nil) (.node (some (.word)) (.node (some (.st [(0,0)] 0)) .nil .nil) .nil)) (.node (some (.word)) (.node (some (.word)) (.node (some (.word)) .nil .nil) .nil) (.node (some (.sl 24 3)) .nil .nil))) (.node (some (.word)) (.node (some (.word)) (.node (some (.word)) (.node (some (.word)) .nil .nil) .nil) (.node none (.node (some (.st [(0,1),(1,1),(2,1),(3,1),(4,1),(5,1),(6,1),(7,1),(8,1),(9,1),(10,1)] 11)) .nil .nil) .nil)) (.node (some (.int .u16)) (.node (some (.word)) (.node (some (.word)) .nil .nil) .nil) (.node (some (.word)) .nil .nil)))) (.node (some (.st [(0,1),(1,1)] 2)) (.node (some (.sl 67 2)) (.node (some (.word)) (.node (some (.word)) (.node (some (.word)) .nil .nil) .nil) (.node (some (.word)) (.node (some (.word)) .nil .nil) .nil)) (.node (some (.word)) (.node (some (.st [(0,1),(1,1)] 2)) (.node (some (.word)) .nil .nil) .nil) (.node (some (.word)) .nil .nil))) (.node (some (.word)) (.node (some (.st [(0,1),(1,1),(2,1)] 3)) (.node (some (.word)) (.node (some (.word)) .nil .nil) .nil) (.node (some (.word)) .nil .nil)) (.node (some (.word)) (.node (some (.word)) (.node (some (.st [(0,1),(1,1),(2,1),(3,1)] 4)) .nil .nil) .nil) (.node (some (.word)) .nil .nil))))))
 zero:=.node none (.node (some ([.v .nilFunc])) (.node (some ([.v (.int .i64 0)])) (.node (some ([.v (.int .i64 0),.v (.int .i64 0),.ff,.v (.int .u8 0)])) (.node (some ([.v (.pointer none)])) (.node none (.node (some ([.v .nilFunc])) (.node (some ([.v .nilFunc])) .nil .nil) .nil) (.node (some ([.v .nilFunc])) (.node (some ([.v (.pointer none),.v (.pointer none),.v (.pointer none),.v (.string ByteArray.empty)])) .nil .nil) .nil)) (.node (some ([.v (.int .i64 0),.v (.int .i64 0),.ff])) (.node (some ([.v .nilFunc])) (.node (some ([.v (.slice none 0 0)])) .nil .nil) .nil) (.node (some ([.v (.map none)])) .nil .nil))) (.node (some ([.v (.int .i64 0),.v (.int .i64 0),.v (.int .i64 0)])) (.node (some ([.v .nilFunc])) (.node (some ([.v .nilFunc])) (.node (some ([.v .nilFunc])) .nil .nil) .nil) (.node none (.node (some ([.v (.pointer none)])) .nil .nil) .nil)) (.node (some ([.v .nilFunc])) (.node none (.node (some ([.v (.pointer none)])) .nil .nil) .nil) (.node (some ([])) .nil .nil)))) (.node (some ([.v (.string ByteArray.empty)])) (.node (some ([.v (.pointer none)])) (.node (some ([.v .nilFunc])) (.node (some ([.v (.int .i64 0),.v (.int .i64 0)])) (.node (some ([.v .nilFunc])) .nil .nil) .nil) (.node (some ([.v .nilFunc])) (.node (some ([.v .nilFunc])) .nil .nil) .nil)) (.node (some ([.v .nilFunc])) (.node (some ([.v .nilFunc])) (.node (some ([.v (.int .u64 0)])) .nil .nil) .nil) (.node (some ([.v .nilFunc])) .nil .nil))) (.node (some ([.v (.slice none 0 0)])) (.node none (.node (some ([.v .nilFunc])) (.node (some ([.v (.int .u32 0)])) .nil .nil) .nil) (.node (some ([.v .nilFunc])) (.node (some ([.v (.int .u64 0),.v (.int .u64 0),.v (.int .u32 0),.v (.int .u8 0),.v (.int .u8 0),.v (.int .u8 0),.v (.int .u8 0),.v .nilFunc,.v (.pointer none),.v (.int .i32 0),.v (.int .i32 0)])) .nil .nil) .nil)) (.node none (.node (some ([.v .nilFunc])) (.node (some ([.v (.pointer none)])) .nil .nil) .nil) (.node (some ([.v .nilFunc])) .nil .nil))))) (.node (some ([.v (.int .u8 0)])) (.node (some ([.v (.string ByteArray.empty)])) (.node (some ([.v (.pointer none)])) (.node none (.node (some ([.v .nilFunc])) (.node (some ([.v .nilFunc])) .nil .nil) .nil) (.node (some ([.v .nilFunc])) (.node (some ([])) .nil .nil) .nil)) (.node (some ([.v .nilFunc])) (.node (some ([.v .nilFunc])) (.node (some ([.v .nilFunc])) .nil .nil) .nil) (.node (some ([.v .nilFunc])) .nil .nil))) (.node (some ([.v .nilFunc])) (.node (some ([.v .nilFunc])) (.node (some ([.v .nilFunc])) (.node (some ([.v .nilFunc])) .nil .nil) .nil) (.node (some ([.v .nilFunc])) (.node (some ([.v (.int .i32 0)])) .nil .nil) .nil)) (.node (some ([.v (.slice none 0 0),.v (.slice none 0 0),.v (.slice none 0 0)])) (.node (some ([.v .nilFunc])) (.node (some ([.v .nilFunc])) .nil .nil) .nil) (.node (some ([.v .nilFunc])) .nil .nil)))) (.node (some ([.v (.string ByteArray.empty),.v (.int .u64 0)])) (.node (some ([.v (.int .i32 0)])) (.node (some ([.v .nilFunc])) (.node (some ([.v .nilFunc])) .nil .nil) (.node (some ([.v .nilFunc])) (.node (some ([.v (.int .u8 0)])) .nil .nil) .nil)) (.node (some ([.v .nilFunc])) (.node (some ([.v (.slice none 0 0),.v (.int .i64 0)])) (.node (some ([.v .nilFunc])) .nil .nil) .nil) (.node (some ([.v .nilFunc])) .nil .nil))) (.node none (.node (some ([.v .nilFunc])) (.node (some ([.v .nilFunc])) (.node (some ([.v (.int .u64 0)])) .nil .nil) .nil) (.node (some ([.v .nilFunc])) .nil .nil)) (.node (some ([.v .nilFunc])) (.node (some ([.v (.slice none 0 0)])) (.node (some ([.v .nilFunc])) .nil .nil) .nil) (.node (some ([.v (.int .u64 0)])) .nil .nil)))))) (.node (some ([.v (.int .i64 0)])) (.node (some ([.ff])) (.node (some ([.v (.int .i64 0),.v (.int .i64 0),.ff,.v (.int .u8 0)])) (.node (some ([.v (.pointer none)])) (.node (some ([.v .nilFunc])) (.node (some ([.v .nilFunc])) (.node (some ([.v (.slice none 0 0)])) .nil .nil) .nil) (.node (some ([.v .nilFunc])) .nil .nil)) (.node (some ([.v .nilFunc])) (.node (some ([.v .nilFunc])) (.node (some ([.v .nilFunc])) .nil .nil) .nil) .nil)) (.node (some ([.v (.int .i64 0),.v (.int .i64 0),.v (.int .i64 0)])) (.node none (.node none (.node (some ([.v .nilFunc])) .nil .nil) .nil) (.node (some ([.v .nilFunc])) (.node (some ([.v (.int .i32 0)])) .nil .nil) .nil)) (.node (some ([.v (.slice none 0 0),.v (.slice none 0 0),.v (.slice none 0 0)])) (.node (some ([.v .nilFunc])) (.node (some ([.v .nilFunc])) .nil .nil) .nil) (.node (some ([])) .nil .nil)))) (.node (some ([.v (.int .u64 0)])) (.node (some ([.v .nilIface])) (.node (some ([.v .nilFunc])) (.node (some ([.v .nilFunc])) (.node (some ([.v (.int .i64 0)])) .nil .nil) .nil) (.node (some ([.v .nilFunc])) (.node (some ([.v (.int .u8 0)])) .nil .nil) .nil)) (.node (some ([.v .nilFunc])) (.node (some ([.v .nilFunc])) (.node (some ([.v .nilFunc])) .nil .nil) .nil) (.node (some ([.v .nilFunc])) .nil .nil))) (.node (some ([.v (.int .i64 0)])) (.node (some ([.v .nilFunc])) (.node (some ([.v .nilFunc])) (.node (some ([.v .nilFunc])) .nil .nil) .nil) (.node (some ([.v .nilFunc])) .nil .nil)) (.node (some ([.v .nilFunc])) (.node (some ([.v .nilFunc])) (.node (some ([.v .nilFunc])) .nil .nil) .nil) (.node (some ([.v .nilFunc])) .nil .nil))))) (.node (some ([.v (.int .u8 0)])) (.node (some ([.v (.string ByteArray.empty)])) (.node (some ([.v (.pointer none)])) (.node (some ([.v .nilFunc])) (.node (some ([.v (.int .i64 0),.v (.int .i64 0)])) (.node (some ([.v .nilFunc])) .nil .nil) .nil) (.node (some ([.v .nilFunc])) (.node (some ([])) .nil .nil) .nil)) (.node (some ([.v .nilFunc])) (.node (some ([.v .nilFunc])) (.node (some ([.v .nilFunc])) .nil .nil) .nil) (.node (some ([.v (.slice none 0 0)])) .nil .nil))) (.node (some ([.v .nilFunc])) (.node (some ([.v .nilFunc])) (.node (some ([.v .nilFunc])) (.node (some ([.v .nilFunc])) .nil .nil) .nil) (.node none (.node (some ([.v (.int .u64 0),.v (.int .u64 0),.v (.int .u32 0),.v (.int .u8 0),.v (.int .u8 0),.v (.int .u8 0),.v (.int .u8 0),.v .nilFunc,.v (.pointer none),.v (.int .i32 0),.v (.int .i32 0)])) .nil .nil) .nil)) (.node (some ([.v (.int .u16 0)])) (.node (some ([.v .nilFunc])) (.node (some ([.v .nilFunc])) .nil .nil) .nil) (.node (some ([.v .nilFunc])) .nil .nil)))) (.node (some ([.v (.string ByteArray.empty),.v (.int .u64 0)])) (.node (some ([.v (.slice none 0 0)])) (.node (some ([.v .nilFunc])) (.node (some ([.v .nilFunc])) (.node (some ([.v .nilFunc])) .nil .nil) .nil) (.node (some ([.v .nilFunc])) (.node (some ([.v .nilFunc])) .nil .nil) .nil)) (.node (some ([.v .nilFunc])) (.node (some ([.v (.slice none 0 0),.v (.int .i64 0)])) (.node (some ([.v .nilFunc])) .nil .nil) .nil) (.node (some ([.v .nilFunc])) .nil .nil))) (.node (some ([.v .nilFunc])) (.node (some ([.v (.int .i64 0),.v (.int .i64 0),.ff])) (.node (some ([.v .nilFunc])) (.node (some ([.v .nilFunc])) .nil .nil) .nil) (.node (some ([.v .nilFunc])) .nil .nil)) (.node (some ([.v .nilFunc])) (.node (some ([.v .nilFunc])) (.node (some ([.v (.pointer none),.v (.pointer none),.v (.pointer none),.v (.string ByteArray.empty)])) .nil .nil) .nil) (.node (some ([.v .nilFunc])) .nil .nil))))))
 kd:=.node none (.node none (.node (some ([.int .i64])) (.node (some ([.int .i64,.int .i64,.bool,.int .u8])) (.node none .nil (.node (some ([.int .i64,.int .i64,.bool])) (.node none (.node (some ([.sl 22 [.sl 67 [.int .i64,.int .i64]]])) .nil .nil) .nil) .nil)) (.node (some ([.int .i64,.int .i64,.int .i64])) .nil .nil)) (.node (some ([.str])) (.node none (.node none (.node (some ([.int .i64,.int .i64])) .nil .nil) .nil) (.node none (.node none (.node (some ([.int .u64])) .nil .nil) .nil) .nil)) (.node (some ([.sl 3 [.int .i64]])) (.node none (.node none (.node (some ([.int .u32])) .nil .nil) .nil) .nil) .nil))) (.node (some ([.int .u8])) (.node (some ([.str])) .nil (.node none (.node none .nil (.node none (.node (some ([.int .i32])) .nil .nil) .nil)) (.node (some ([.sl 3 [.int .i64],.sl 3 [.int .i64],.sl 3 [.int .i64]])) .nil .nil))) (.node (some ([.str,.int .u64])) (.node (some ([.int .i32])) (.node none .nil (.node none (.node (some ([.int .u8])) .nil .nil) .nil)) (.node none (.node (some ([.sl 3 [.int .i64],.int .i64])) .nil .nil) .nil)) (.node none (.node none (.node none (.node (some ([.int .u64])) .nil .nil) .nil) .nil) (.node none (.node (some ([.sl 27 [.sl 3 [.int .i64]]])) .nil .nil) (.node (some ([.int .u64])) .nil .nil)))))) (.node (some ([.int .i64])) (.node (some ([.bool])) (.node (some ([.int .i64,.int .i64,.bool,.int .u8])) (.node none (.node none (.node none (.node (some ([.sl 4 [.bool]])) .nil .nil) .nil) .nil) .nil) (.node (some ([.int .i64,.int .i64,.int .i64])) (.node none .nil (.node none (.node (some ([.int .i32])) .nil .nil) .nil)) (.node (some ([.sl 3 [.int .i64],.sl 3 [.int .i64],.sl 3 [.int .i64]])) .nil .nil))) (.node (some ([.int .u64])) (.node none (.node none (.node none (.node (some ([.int .i64])) .nil .nil) .nil) (.node none (.node (some ([.int .u8])) .nil .nil) .nil)) .nil) (.node (some ([.int .i64])) .nil .nil))) (.node (some ([.int .u8])) (.node (some ([.str])) (.node none (.node none (.node (some ([.int .i64,.int .i64])) .nil .nil) .nil) (.node none .nil (.node (some ([.sl 24 [.int .i64,.int .i64,.int .i64]])) .nil .nil))) (.node none .nil (.node (some ([.int .u16])) .nil .nil))) (.node (some ([.str,.int .u64])) (.node (some ([.sl 67 [.int .i64,.int .i64]])) .nil (.node none (.node (some ([.sl 3 [.int .i64],.int .i64])) .nil .nil) .nil)) (.node none (.node (some ([.int .i64,.int .i64,.bool])) .nil .nil) .nil))))
 sc:=.node none (.node none (.node (some (.int .i64)) (.node none (.node none .nil (.node none (.node none (.node (some (.sl 22 [.sl 67 [.int .i64,.int .i64]])) .nil .nil) .nil) .nil)) .nil) (.node (some (.str)) (.node none .nil (.node none (.node none (.node (some (.int .u64)) .nil .nil) .nil) .nil)) (.node (some (.sl 3 [.int .i64])) (.node none (.node none (.node (some (.int .u32)) .nil .nil) .nil) .nil) .nil))) (.node (some (.int .u8)) (.node (some (.str)) .nil (.node none (.node none .nil (.node none (.node (some (.int .i32)) .nil .nil) .nil)) .nil)) (.node none (.node (some (.int .i32)) (.node none .nil (.node none (.node (some (.int .u8)) .nil .nil) .nil)) .nil) (.node none (.node none (.node none (.node (some (.int .u64)) .nil .nil) .nil) .nil) (.node none (.node (some (.sl 27 [.sl 3 [.int .i64]])) .nil .nil) (.node (some (.int .u64)) .nil .nil)))))) (.node (some (.int .i64)) (.node (some (.bool)) (.node none (.node none (.node none (.node none (.node (some (.sl 4 [.bool])) .nil .nil) .nil) .nil) .nil) (.node none (.node none .nil (.node none (.node (some (.int .i32)) .nil .nil) .nil)) .nil)) (.node (some (.int .u64)) (.node none (.node none (.node none (.node (some (.int .i64)) .nil .nil) .nil) (.node none (.node (some (.int .u8)) .nil .nil) .nil)) .nil) (.node (some (.int .i64)) .nil .nil))) (.node (some (.int .u8)) (.node (some (.str)) (.node none .nil (.node none .nil (.node (some (.sl 24 [.int .i64,.int .i64,.int .i64])) .nil .nil))) (.node none .nil (.node (some (.int .u16)) .nil .nil))) (.node none (.node (some (.sl 67 [.int .i64,.int .i64])) .nil .nil) .nil)))
 alp:=.node none (.node none (.node none (.node none (.node none .nil (.node (some ([0,0,1])) .nil .nil)) (.node (some ([0,0,0])) .nil .nil)) (.node none (.node none (.node none (.node (some ([0,0])) .nil .nil) .nil) .nil) .nil)) .nil) (.node none (.node none (.node none .nil (.node (some ([0,0,0])) .nil .nil)) .nil) (.node none (.node none (.node none (.node none (.node (some ([0,0])) .nil .nil) .nil) .nil) .nil) (.node none .nil (.node none (.node (some ([0,0,1])) .nil .nil) .nil))))
 lf:=.node none (.node none (.node none (.node none (.node none .nil (.node (some ([true,true,true])) .nil .nil)) (.node (some ([true,true,true])) .nil .nil)) (.node none (.node none (.node none (.node (some ([true,true])) .nil .nil) .nil) .nil) .nil)) (.node none (.node none .nil (.node none .nil (.node (some ([true,true,true])) .nil .nil))) (.node none (.node none .nil (.node none (.node (some ([true,true])) .nil .nil) .nil)) .nil))) (.node none (.node none (.node none .nil (.node (some ([true,true,true])) .nil (.node (some ([true,true,true])) .nil .nil))) .nil) (.node none (.node none (.node none (.node none (.node (some ([true,true])) .nil .nil) .nil) .nil) .nil) (.node none (.node none .nil (.node none (.node (some ([true,true])) .nil .nil) .nil)) (.node none (.node (some ([true,true,true])) .nil .nil) .nil))))
theorem LX:F2 Try.prog jV where
 ty:=by kernel_rfl
 zero:=by kernel_rfl
 kd:=by kernel_rfl
 sc:=by kernel_rfl
 alp:=by kernel_rfl
 lf:=by kernel_rfl
theorem mixed:Try.prog.follows .mixedOrders=true:=by kernel_rfl
end Go.Proofs.Ytccnimhgjjnmoaa
end
section
namespace Go.Proofs.Ytccnimhgjjnmoaa
open Go Go.Sy Go.dg
variable {Γ:bn}
abbrev vI (n:Int):At:=.v (.int .i64 n)
abbrev kI:List CK:=[.int .i64]
abbrev kK:List CK:=[.int .i64,.int .i64]
abbrev kW:List CK:=[.int .i64,.int .i64,.int .i64]
abbrev kT:List CK:=[.sl 3 kI]
theorem aj {f:FuncId} {fn:Func} (h:Try.prog.funcs[f]?=some fn) (h2:(fn.name== "runtime.NumGoroutine")=false) {c:Code} (h3:fn.body=some c):bQ Try.prog f ⟨fn.ntmps,c,fn.results.toList⟩:=
 ⟨fn,h,h2,h3,rfl,by simp⟩
noncomputable def bo (fn:Func):Body:=match fn.body with|some c=>⟨fn.ntmps,c,fn.results.toList⟩|none=>⟨0,.skip,[]⟩
theorem cg {f:FuncId} {fn:Func} (h:Try.prog.funcs[f]?=some fn) (h2:(fn.name== "runtime.NumGoroutine")=false) {c:Code} (h3:fn.body=some c):bQ Try.prog f (bo fn):=by
 have:bo fn=⟨fn.ntmps,c,fn.results.toList⟩:=by unfold bo;rw[h3]
 rw[this];exact aj h h2 h3
theorem aP {l:List (Nat×au)} (hl:aR Try.prog Γ l) {bs:List (Nat×Body)} (hb:bq Try.prog bs) (aN:Bool) (un:Nat):aL Try.prog Γ (jV.env l bs aN un):=
 ⟨mixed,fun f c h=>(hl.h f c h).1,fun f b h=>hb.h f b h,jV.OX LX hl bs aN un⟩
theorem _root_.Go.Sy.aL.vU {E:Env} (h:aL Try.prog Γ E) (o:Nat->Option OT):aL Try.prog Γ {E with tree:=o}:=⟨h.mixed,h.fn,h.inl,{h.env with}⟩
theorem _root_.Go.Sy.aL.Ju {E:Env} (h:aL Try.prog Γ E) (o:Nat->Option (List Nat)):aL Try.prog Γ {E with ord:=o}:=⟨h.mixed,h.fn,h.inl,{h.env with}⟩
theorem _root_.Go.Sy.aL.NA {E:Env} (h:aL Try.prog Γ E) (o:Nat->Option (Nat×OT)):aL Try.prog Γ {E with htr:=o}:=⟨h.mixed,h.fn,h.inl,{h.env with}⟩
theorem _root_.Go.Sy.aL.strs {E:Env} (h:aL Try.prog Γ E) (o:Nat->Option (List Nat×OT)):aL Try.prog Γ {E with str:=o}:=⟨h.mixed,h.fn,h.inl,{h.env with}⟩
theorem _root_.Go.Sy.aL.aBf {E:Env} (h:aL Try.prog Γ E) (o:Nat->Bool):aL Try.prog Γ {E with cut:=o}:=⟨h.mixed,h.fn,h.inl,{h.env with}⟩
noncomputable def JB (c:Code):List (Array Tmp×Code×Code):=
 Code.rec (motive:=fun _=>List (Array Tmp×Code×Code)) [] (fun _ _ _=>[]) (fun _ _ fa fb=>List.rec fb (fun x _ ih=>x::ih) fa) (fun _ _ _ fa fb=>List.rec fb (fun x _ ih=>x::ih) fa)
  (fun _ _ f=>f) (fun _ f=>f) (fun _ ps a b _ fb=>(ps,a,b)::fb) (fun _=>[]) (fun _ f=>f) (fun _=>[]) (fun _=>[]) [] (fun _=>[]) c
noncomputable def aIR (f:Func) (k:Nat):Array Tmp×Code×Code:=match (JB (bo f).code)[k]? with|some x=>x|none=>(#[],.skip,.skip)
noncomputable def ac5 (f:Func) (k:Nat) (fn:FuncId) (T:Array Value) (D:Nat):Loop:={state:=.ready,pending:=none,fn:=fn,tmps:=T,params:=(aIR f k).1,assign:=(aIR f k).2.1,body:=(aIR f k).2.2,defers:=D}
theorem R6 (h:true=false):False:=by cases h
theorem R3 (h:false=true):False:=by cases h
def IA:Nat->Tr
 |0=> .nil
 |d+1=> .node (.a .any) (IA d) (IA d)
def aan:List Nat->List Tm->Tr->Tr
 |i::is,x::xs,t=>aan is xs (t.put i x)
 |_,_,t=>t
def aI (n:Nat) (is:List Nat) (xs:List Tm):Sl:=⟨n,aan is xs (IA (jg n))⟩
def ac1 (te:TypeId) (tg:List CK) (rg:List az):At->Option (List aa×List (ai tg))
 | .sl r π lo n=>(match (rg.getD r .dead).dn π with|some (q,⟨oO,bX,xs⟩)=>(match pF oO te,aau bX tg with|some _,some h=>some (q++[(aa.of (lo=0)),(aa.of (n=xs.length))],jz h.down xs)|_,_=>none)|_=>none)
 | .v (.slice none 0 0)=>some ([],[])
 | .z=>some ([],[])
 |_=>none
theorem bP {te:TypeId} {tg:List CK} (ci:tg≠[]) {rg:List az} {x:At} {q:List aa} {L:List (ai tg)} (h:ac1 te tg rg x=some (q,L)) (hq:bW q):
 ∃ e:Option (Nat×Path),∀ (is:aAS) (k n:Nat),is[k]?=some e->k<n->yp is n x (.sl k [] 0 L.length)/\agV rg is n k (.arr te tg L false false):=by
 unfold ac1 at h;split at h
 ·rename_i r π lo n;split at h
  ·rename_i q0 oO bX xs hd;split at h
   ·rename_i h1 h2 _ _;obtain⟨rfl,rfl⟩:=Prod.mk.inj (Option.some.inj h);obtain rfl:=h1.down;obtain⟨h2⟩:=h2;subst h2;obtain⟨h1,h2,h3,_⟩:=(aH _ _).1 hq;simp only[aa.ae]at h2 h3;subst h2 h3;exact⟨some (r,π),fun is k m hi hm=>⟨.inr ⟨r,π,rfl,hm,hi⟩,rfl,rfl,.inr ⟨r,π,q0,hi,hd,h1⟩⟩⟩
   ·cases h
  ·cases h
 ·obtain⟨rfl,rfl⟩:=Prod.mk.inj (Option.some.inj h);exact⟨none,fun is k m hi hm=>⟨.inl ⟨.inl rfl,rfl,rfl,hm,hi⟩,rfl,rfl,.inl ⟨hi,rfl,ci⟩⟩⟩
 ·obtain⟨rfl,rfl⟩:=Prod.mk.inj (Option.some.inj h);exact⟨none,fun is k m hi hm=>⟨.inl ⟨.inr rfl,rfl,rfl,hm,hi⟩,rfl,rfl,.inl ⟨hi,rfl,ci⟩⟩⟩
 ·cases h
def amp (te:TypeId) (tg:List CK) (rg:List az):At->Option (List aa×Nat×Nat×List (ai tg))
 | .sl r π lo n=>(match (rg.getD r .dead).dn π with|some (q,⟨oO,bX,xs⟩)=>(match pF oO te,aau bX tg with|some _,some h=>some (q,lo,n,jz h.down xs)|_,_=>none)|_=>none)
 | .v (.slice none 0 0)=>some ([],0,0,[])
 | .z=>some ([],0,0,[])
 |_=>none
theorem aov {te:TypeId} {tg:List CK} (ci:tg≠[]) {rg:List az} {x:At} {q:List aa} {a b:Nat} {L:List (ai tg)} (h:amp te tg rg x=some (q,a,b,L)) (hq:bW q):
 ∃ e:Option (Nat×Path),∀ (is:aAS) (k n:Nat),is[k]?=some e->k<n->yp is n x (.sl k [] a b)/\agV rg is n k (.arr te tg L false false):=by
 unfold amp at h;split at h
 ·rename_i r π lo n;split at h
  ·rename_i q0 oO bX xs hd;split at h
   ·rename_i h1 h2 _ _;simp only[Option.some.injEq,Prod.mk.injEq]at h;obtain⟨rfl,rfl,rfl,rfl⟩:=h;obtain rfl:=h1.down;obtain⟨h2⟩:=h2;subst h2;exact⟨some (r,π),fun is k m hi hm=>⟨.inr ⟨r,π,rfl,hm,hi⟩,rfl,rfl,.inr ⟨r,π,q0,hi,hd,hq⟩⟩⟩
   ·cases h
  ·cases h
 ·simp only[Option.some.injEq,Prod.mk.injEq]at h;obtain⟨rfl,rfl,rfl,rfl⟩:=h;exact⟨none,fun is k m hi hm=>⟨.inl ⟨.inl rfl,rfl,rfl,hm,hi⟩,rfl,rfl,.inl ⟨hi,rfl,ci⟩⟩⟩
 ·simp only[Option.some.injEq,Prod.mk.injEq]at h;obtain⟨rfl,rfl,rfl,rfl⟩:=h;exact⟨none,fun is k m hi hm=>⟨.inl ⟨.inr rfl,rfl,rfl,hm,hi⟩,rfl,rfl,.inl ⟨hi,rfl,ci⟩⟩⟩
 ·cases h
theorem amo {te:TypeId} {tg:List CK} {xs:List (ai tg)} {i:Nat} (h:i<xs.length):Ar.get ⟨te,tg,xs⟩ (0+Int.toNat (i:Int))=xs[i]:=by
 rw[Nat.zero_add,Int.toNat_natCast];show xs.getD i (ai.d tg)=xs[i];rw[List.getD_eq_getElem?_getD,List.getElem?_eq_getElem h];rfl
theorem atK {a b:Nat} (h:((a:Int)!=(b:Int))=false):a=b:=by
 have:(a:Int)=b:=by simpa using h
 omega
theorem ari {a b:Nat} (h:((a:Int)!=(b:Int))=true):¬a=b:=by
 have:¬(a:Int)=b:=by simpa using h
 omega
def fN (D:Int->List aa) (F:Int->Tm):au:=.fn fun args rg=>match args with
 |[.a (.v (.int .i64 n0))]=>some (D n0,F n0)
 |_=>none
theorem y9 {f:FuncId} {b:Body} {E:Env} {d:Nat} (hP:aL Try.prog Γ E) (hb:bQ Try.prog f b) {D:Int->List aa} {F:Int->Tm} (hp:∀ (n0:Int),(F n0).plain=true)
 (H:∀ (n0:Int),bW (D n0)->cQ E d b [.a (vI n0)] [] (fun x _=>iL x (F n0))):au.Ok Try.prog Γ f (fN D F):=au.aBp (d:=d) hP hb (by
 intro args rg q t hF hq;split at hF;next n0=>
  obtain⟨rfl,rfl⟩:=Prod.mk.inj (Option.some.inj hF);clear hF;have hD:=hq;refine⟨hp _,[],[.a (vI n0)],[],⟨⟨rfl,trivial⟩,fun r g hg=>?_⟩,H _ hD⟩
  cases hg
 next=>cases hF)
def Kf (D:Int->Int->List aa) (F:Int->Int->Tm):au:=.fn fun args rg=>match args with
 |[.a (.v (.int .i64 n0)),.a (.v (.int .i64 n1))]=>some (D n0 n1,F n0 n1)
 |_=>none
theorem An {f:FuncId} {b:Body} {E:Env} {d:Nat} (hP:aL Try.prog Γ E) (hb:bQ Try.prog f b) {D:Int->Int->List aa} {F:Int->Int->Tm} (hp:∀ (n0:Int) (n1:Int),(F n0 n1).plain=true)
 (H:∀ (n0:Int) (n1:Int),bW (D n0 n1)->cQ E d b [.a (vI n0),.a (vI n1)] [] (fun x _=>iL x (F n0 n1))):au.Ok Try.prog Γ f (Kf D F):=au.aBp (d:=d) hP hb (by
 intro args rg q t hF hq;split at hF;next n0 n1=>
  obtain⟨rfl,rfl⟩:=Prod.mk.inj (Option.some.inj hF);clear hF;have hD:=hq;refine⟨hp _ _,[],[.a (vI n0),.a (vI n1)],[],⟨⟨rfl,rfl,trivial⟩,fun r g hg=>?_⟩,H _ _ hD⟩
  cases hg
 next=>cases hF)
def ja (D:Int->Int->Int->List aa) (F:Int->Int->Int->Tm):au:=.fn fun args rg=>match args with
 |[.a (.v (.int .i64 n0)),.a (.v (.int .i64 n1)),.a (.v (.int .i64 n2))]=>some (D n0 n1 n2,F n0 n1 n2)
 |_=>none
theorem aBn {f:FuncId} {b:Body} {E:Env} {d:Nat} (hP:aL Try.prog Γ E) (hb:bQ Try.prog f b) {D:Int->Int->Int->List aa} {F:Int->Int->Int->Tm} (hp:∀ (n0:Int) (n1:Int) (n2:Int),(F n0 n1 n2).plain=true)
 (H:∀ (n0:Int) (n1:Int) (n2:Int),bW (D n0 n1 n2)->cQ E d b [.a (vI n0),.a (vI n1),.a (vI n2)] [] (fun x _=>iL x (F n0 n1 n2))):au.Ok Try.prog Γ f (ja D F):=au.aBp (d:=d) hP hb (by
 intro args rg q t hF hq;split at hF;next n0 n1 n2=>
  obtain⟨rfl,rfl⟩:=Prod.mk.inj (Option.some.inj hF);clear hF;have hD:=hq;refine⟨hp _ _ _,[],[.a (vI n0),.a (vI n1),.a (vI n2)],[],⟨⟨rfl,rfl,rfl,trivial⟩,fun r g hg=>?_⟩,H _ _ _ hD⟩
  cases hg
 next=>cases hF)
def fW (D:Int->Int->Int->List aa) (F:Int->Int->Int->Tm):au:=.fn fun args rg=>match args with
 |[.agg [.v (.int .i64 n0),.v (.int .i64 n1),.v (.int .i64 n2)]]=>some (D n0 n1 n2,F n0 n1 n2)
 |_=>none
theorem avQ {f:FuncId} {b:Body} {E:Env} {d:Nat} (hP:aL Try.prog Γ E) (hb:bQ Try.prog f b) {D:Int->Int->Int->List aa} {F:Int->Int->Int->Tm} (hp:∀ (n0:Int) (n1:Int) (n2:Int),(F n0 n1 n2).plain=true)
 (H:∀ (n0:Int) (n1:Int) (n2:Int),bW (D n0 n1 n2)->cQ E d b [.agg [vI n0,vI n1,vI n2]] [] (fun x _=>iL x (F n0 n1 n2))):au.Ok Try.prog Γ f (fW D F):=au.aBp (d:=d) hP hb (by
 intro args rg q t hF hq;split at hF;next n0 n1 n2=>
  obtain⟨rfl,rfl⟩:=Prod.mk.inj (Option.some.inj hF);clear hF;have hD:=hq;refine⟨hp _ _ _,[],[.agg [vI n0,vI n1,vI n2]],[],⟨⟨⟨rfl,rfl,rfl,trivial⟩,trivial⟩,fun r g hg=>?_⟩,H _ _ _ hD⟩
  cases hg
 next=>cases hF)
def azn (D:Int->Int->Int->Int->List aa) (F:Int->Int->Int->Int->Tm):au:=.fn fun args rg=>match args with
 |[.agg [.v (.int .i64 n0),.v (.int .i64 n1),.v (.int .i64 n2)],.a (.v (.int .i64 n3))]=>some (D n0 n1 n2 n3,F n0 n1 n2 n3)
 |_=>none
theorem axU {f:FuncId} {b:Body} {E:Env} {d:Nat} (hP:aL Try.prog Γ E) (hb:bQ Try.prog f b) {D:Int->Int->Int->Int->List aa} {F:Int->Int->Int->Int->Tm} (hp:∀ (n0:Int) (n1:Int) (n2:Int) (n3:Int),(F n0 n1 n2 n3).plain=true)
 (H:∀ (n0:Int) (n1:Int) (n2:Int) (n3:Int),bW (D n0 n1 n2 n3)->cQ E d b [.agg [vI n0,vI n1,vI n2],.a (vI n3)] [] (fun x _=>iL x (F n0 n1 n2 n3))):au.Ok Try.prog Γ f (azn D F):=au.aBp (d:=d) hP hb (by
 intro args rg q t hF hq;split at hF;next n0 n1 n2 n3=>
  obtain⟨rfl,rfl⟩:=Prod.mk.inj (Option.some.inj hF);clear hF;have hD:=hq;refine⟨hp _ _ _ _,[],[.agg [vI n0,vI n1,vI n2],.a (vI n3)],[],⟨⟨⟨rfl,rfl,rfl,trivial⟩,rfl,trivial⟩,fun r g hg=>?_⟩,H _ _ _ _ hD⟩
  cases hg
 next=>cases hF)
def fB (D:List Bk->List aa) (F:List Bk->Tm):au:=.fn fun args rg=>match args with
 |[.a x0]=>(match ac1 67 kK rg x0 with|some (q0,L0)=>some (q0++(D L0),F L0)|_=>none)
 |_=>none
theorem apf {f:FuncId} {b:Body} {E:Env} {d:Nat} (hP:aL Try.prog Γ E) (hb:bQ Try.prog f b) {D:List Bk->List aa} {F:List Bk->Tm} (hp:∀ (L0:List Bk),(F L0).plain=true)
 (H:∀ (L0:List Bk),bW (D L0)->cQ E d b [.a (.sl 0 [] 0 L0.length)] [.arr 67 kK L0 false false] (fun x _=>iL x (F L0))):au.Ok Try.prog Γ f (fB D F):=au.aBp (d:=d) hP hb (by
 intro args rg q t hF hq;split at hF;next x0=>
  split at hF;next q0 L0 hx0=>
   obtain⟨rfl,rfl⟩:=Prod.mk.inj (Option.some.inj hF);clear hF;rw[aH]at hq;obtain⟨aIh,hD⟩:=hq;obtain⟨e0,Vn⟩:=bP (by simp[kK]) hx0 aIh
   obtain⟨p0,r0⟩:=Vn [e0] 0 1 rfl (by omega)
   refine⟨hp _,[e0],[.a (.sl 0 [] 0 L0.length)],[.arr 67 kK L0 false false],⟨⟨p0,trivial⟩,fun r g hg=>?_⟩,H _ hD⟩
   match r,hg with
   |0,hg=>obtain rfl:=Option.some.inj hg;exact r0
  next=>cases hF
 next=>cases hF)
def azl (D:List Bk->List Wt->List aa) (F:List Bk->List Wt->Tm):au:=.fn fun args rg=>match args with
 |[.a x0,.a x1]=>(match ac1 67 kK rg x0,ac1 24 kW rg x1 with|some (q0,L0),some (q1,L1)=>some (q0++(q1++(D L0 L1)),F L0 L1)|_,_=>none)
 |_=>none
theorem axL {f:FuncId} {b:Body} {E:Env} {d:Nat} (hP:aL Try.prog Γ E) (hb:bQ Try.prog f b) {D:List Bk->List Wt->List aa} {F:List Bk->List Wt->Tm} (hp:∀ (L0:List Bk) (L1:List Wt),(F L0 L1).plain=true)
 (H:∀ (L0:List Bk) (L1:List Wt),bW (D L0 L1)->cQ E d b [.a (.sl 0 [] 0 L0.length),.a (.sl 1 [] 0 L1.length)] [.arr 67 kK L0 false false,.arr 24 kW L1 false false] (fun x _=>iL x (F L0 L1))):au.Ok Try.prog Γ f (azl D F):=au.aBp (d:=d) hP hb (by
 intro args rg q t hF hq;split at hF;next x0 x1=>
  split at hF;next q0 L0 q1 L1 hx0 cO=>
   obtain⟨rfl,rfl⟩:=Prod.mk.inj (Option.some.inj hF);clear hF;rw[aH,aH]at hq;obtain⟨aIh,gk,hD⟩:=hq;obtain⟨e0,Vn⟩:=bP (by simp[kK]) hx0 aIh
   obtain⟨e1,iO⟩:=bP (by simp[kW]) cO gk
   obtain⟨p0,r0⟩:=Vn [e0,e1] 0 2 rfl (by omega)
   obtain⟨p1,r1⟩:=iO [e0,e1] 1 2 rfl (by omega)
   refine⟨hp _ _,[e0,e1],[.a (.sl 0 [] 0 L0.length),.a (.sl 1 [] 0 L1.length)],[.arr 67 kK L0 false false,.arr 24 kW L1 false false],⟨⟨p0,p1,trivial⟩,fun r g hg=>?_⟩,H _ _ hD⟩
   match r,hg with
   |0,hg=>obtain rfl:=Option.some.inj hg;exact r0
   |1,hg=>obtain rfl:=Option.some.inj hg;exact r1
  next=>cases hF
 next=>cases hF)
def anQ (D:List Bk->Int->Int->Int->List aa) (F:List Bk->Int->Int->Int->Tm):au:=.fn fun args rg=>match args with
 |[.a x0,.agg [.v (.int .i64 n0),.v (.int .i64 n1),.v (.int .i64 n2)]]=>(match ac1 67 kK rg x0 with|some (q0,L0)=>some (q0++(D L0 n0 n1 n2),F L0 n0 n1 n2)|_=>none)
 |_=>none
theorem alq {f:FuncId} {b:Body} {E:Env} {d:Nat} (hP:aL Try.prog Γ E) (hb:bQ Try.prog f b) {D:List Bk->Int->Int->Int->List aa} {F:List Bk->Int->Int->Int->Tm} (hp:∀ (L0:List Bk) (n0:Int) (n1:Int) (n2:Int),(F L0 n0 n1 n2).plain=true)
 (H:∀ (L0:List Bk) (n0:Int) (n1:Int) (n2:Int),bW (D L0 n0 n1 n2)->cQ E d b [.a (.sl 0 [] 0 L0.length),.agg [vI n0,vI n1,vI n2]] [.arr 67 kK L0 false false] (fun x _=>iL x (F L0 n0 n1 n2))):au.Ok Try.prog Γ f (anQ D F):=au.aBp (d:=d) hP hb (by
 intro args rg q t hF hq;split at hF;next x0 n0 n1 n2=>
  split at hF;next q0 L0 hx0=>
   obtain⟨rfl,rfl⟩:=Prod.mk.inj (Option.some.inj hF);clear hF;rw[aH]at hq;obtain⟨aIh,hD⟩:=hq;obtain⟨e0,Vn⟩:=bP (by simp[kK]) hx0 aIh
   obtain⟨p0,r0⟩:=Vn [e0] 0 1 rfl (by omega)
   refine⟨hp _ _ _ _,[e0],[.a (.sl 0 [] 0 L0.length),.agg [vI n0,vI n1,vI n2]],[.arr 67 kK L0 false false],⟨⟨p0,⟨rfl,rfl,rfl,trivial⟩,trivial⟩,fun r g hg=>?_⟩,H _ _ _ _ hD⟩
   match r,hg with
   |0,hg=>obtain rfl:=Option.some.inj hg;exact r0
  next=>cases hF
 next=>cases hF)
def PA (D:List Int->List Int->List aa) (F:List Int->List Int->Tm):au:=.fn fun args rg=>match args with
 |[.a x0,.a x1]=>(match ac1 3 kI rg x0,ac1 3 kI rg x1 with|some (q0,L0),some (q1,L1)=>some (q0++(q1++(D L0 L1)),F L0 L1)|_,_=>none)
 |_=>none
theorem MK {f:FuncId} {b:Body} {E:Env} {d:Nat} (hP:aL Try.prog Γ E) (hb:bQ Try.prog f b) {D:List Int->List Int->List aa} {F:List Int->List Int->Tm} (hp:∀ (L0:List Int) (L1:List Int),(F L0 L1).plain=true)
 (H:∀ (L0:List Int) (L1:List Int),bW (D L0 L1)->cQ E d b [.a (.sl 0 [] 0 L0.length),.a (.sl 1 [] 0 L1.length)] [.arr 3 kI L0 false false,.arr 3 kI L1 false false] (fun x _=>iL x (F L0 L1))):au.Ok Try.prog Γ f (PA D F):=au.aBp (d:=d) hP hb (by
 intro args rg q t hF hq;split at hF;next x0 x1=>
  split at hF;next q0 L0 q1 L1 hx0 cO=>
   obtain⟨rfl,rfl⟩:=Prod.mk.inj (Option.some.inj hF);clear hF;rw[aH,aH]at hq;obtain⟨aIh,gk,hD⟩:=hq;obtain⟨e0,Vn⟩:=bP (by simp[kI]) hx0 aIh
   obtain⟨e1,iO⟩:=bP (by simp[kI]) cO gk
   obtain⟨p0,r0⟩:=Vn [e0,e1] 0 2 rfl (by omega)
   obtain⟨p1,r1⟩:=iO [e0,e1] 1 2 rfl (by omega)
   refine⟨hp _ _,[e0,e1],[.a (.sl 0 [] 0 L0.length),.a (.sl 1 [] 0 L1.length)],[.arr 3 kI L0 false false,.arr 3 kI L1 false false],⟨⟨p0,p1,trivial⟩,fun r g hg=>?_⟩,H _ _ hD⟩
   match r,hg with
   |0,hg=>obtain rfl:=Option.some.inj hg;exact r0
   |1,hg=>obtain rfl:=Option.some.inj hg;exact r1
  next=>cases hF
 next=>cases hF)
end Go.Proofs.Ytccnimhgjjnmoaa
end
section
namespace Go.Proofs.Ytccnimhgjjnmoaa
open Go Go.Sy Go.ChangeShapes Go.WideShapes Go.RowKit
theorem own:ownKnob Try.prog.godebug=none:=by kernel_rfl
theorem laidOut:laidOutB Try.prog=true:=by kernel_rfl
theorem yY {H:Type} {enc:TypeId×Value->H} {W W':World} (hb:Below W.heap.size W W'):
 ∀ (ts:List TypeId) (vs:List Value) (ds:List (DataW H)) (ps:List MemPlace),ts.all (fun t=>Try.prog.readableRec t&&decide (t<Try.prog.types.size))=true->
  DataW.TrodAll enc Try.prog W 0 (fun _=>true) true ts vs ds ps->(∀ x∈ps,x.block<W.heap.size)->DataW.TrodAll enc Try.prog W' 0 (fun b=>decide (b<W.heap.size)) true ts vs ds ps:=by
 intro ts;induction ts with
 |nil=>
  intro vs ds ps _ h _;obtain⟨rfl,rfl,rfl⟩:=trodAll_nil h;exact rfl
 |cons t ts ih=>
  intro vs ds ps ht h hlt;obtain⟨v,vs,d,ds,p,q,rfl,rfl,rfl,h1,h2⟩:=trodAll_cons h;rw[List.all_cons,Bool.and_eq_true,Bool.and_eq_true,decide_eq_true_eq]at ht;exact⟨p,q,Below.trod laidOut ht.1.1 ht.1.2 h1 hb (fun x hx=>hlt x (List.mem_append_left _ hx)),ih vs ds q ht.2 h2 (fun x hx=>hlt x (List.mem_append_right _ hx)),rfl⟩
theorem rF {H:Type} {enc:TypeId×Value->H} {f:Func} {s:ChangeSpec} {W W':World} {args:Array Value} {ds gs:List (DataW H)} {before:List MemPlace}
 (RH:f.resultTypes=#[4]) (hvars:s.vars=[]) (hps:f.params.toList.all (fun t=>Try.prog.readableRec t&&decide (t<Try.prog.types.size))=true)
 (hW:DataW.Whole enc Try.prog f.params.toList s.vars false W args.toList ds gs before) (hfn:(s.fn H (ds++[]))={results:=[.lit (.bool true)],args:=ds})
 (hb:Below W.heap.size W W'):s.post enc Try.prog f false true false false W args (.bool true) W':=by
 have xQ:=hW;obtain⟨p,q,hA,hV,rfl,hfz,iP⟩:=hW;rw[hvars]at hV;obtain⟨rfl,rfl⟩:=trodVars_none hV;have hlt:=fun x (hx:x∈p++[])=>xQ.lt x hx
 refine⟨ds,[],p++[],[],p,[],xQ,?_,?_,?_,Below.frame hb _,(fun h=>by cases h)⟩
 ·rw[hfn,RH];exact trodAll_mk1 (shut_bool Try.underlying4 true)
 ·rw[hfn];exact yY hb _ _ _ _ hps hA (fun x hx=>hlt x (List.mem_append_left _ hx))
 ·rw[hvars,hfn];exact rfl
/-! ### Arguments opened -/
structure Er (w:World) (te:TypeId) (tg:List CK) (xs:List (ai tg)) (I:RI):Prop where
 ar:Ar.aA w (fun _=>I) [] ⟨te,tg,xs⟩
 lt:I.aC=false->I.b<w.heap.size
section
variable {H:Type} {enc:TypeId×Value->H} {w:World} {base:Nat} {spare:Nat->Bool} {held:Bool}
theorem kf {fuel:Nat} {c:Value} {y:DataW H×List MemPlace} (h:DataW.trod enc Try.prog w base spare held fuel 3 [c]=some y):∃ n,c= .int .i64 n:=by
 obtain⟨n,h1,_,hw⟩:=DataW.trod_int Try.underlying3 h;simp only[List.cons.injEq,and_true]at h1;exact⟨n,h1⟩
theorem EZ {tg:List CK} {te:TypeId} {m:Nat} {X:Nat->ai tg} {i:Nat} (hi:i<m):Ar.get ⟨te,tg,(List.range m).map X⟩ i=X i:=by
 simp only[Ar.get,List.getD_eq_getElem?_getD,List.getElem?_map,List.getElem?_range hi,Option.map_some,Option.getD_some]
theorem KF {t te:TypeId} {tg:List CK} (ci:tg≠[]) (ht:Try.prog.underlying t=some (.slice te)) (hc:Try.prog.cellsOf te=tg.length)
 (hone:∀ (fuel:Nat) (cs:List Value) (y:DataW H×List MemPlace),cs.length=tg.length->DataW.trod enc Try.prog w base spare held fuel te cs=some y->∃ x:ai tg,∀ η i,ai.aA η [] i 0 tg x cs)
 {fuel:Nat} {v:Value} {y:DataW H×List MemPlace} (hlt:∀ a len cap,v= .slice (some a) len cap->a.spot=none/\a.block<w.heap.size) (h:DataW.trod enc Try.prog w base spare held fuel t [v]=some y):
 ∃ (I:RI) (xs:List (ai tg)),I.head 0 xs.length v/\Er w te tg xs I:=by
 rcases Go.Deep.open_slice ht h with⟨hv,_⟩|⟨a,len,cap,m,n,D,Pl,hv,_,hl,hm,Ns,_,hx⟩
 ·simp only[List.cons.injEq,and_true]at hv;subst hv;exact⟨⟨0,0,tg.length,0,true⟩,[],⟨fun _=>⟨rfl,_,rfl⟩,(fun h=>by cases h)⟩,⟨ci,rfl,fun _=>rfl,(fun h=>by cases h),fun i hi=>by simp at hi⟩,(fun h=>by cases h)⟩
 ·simp only[List.cons.injEq,and_true]at hv;subst hv;obtain⟨hs,hb⟩:=hlt a len cap rfl;have hml:len<=m:=by rw[Ns];split<;>omega
  rw[hc]at hx;have hX:∀ i,i<len->∃ p:ai tg×List Value,w.cells? base (a.add (i*tg.length)) tg.length=some p.2/\∀ η j,ai.aA η [] j 0 tg p.1 p.2:=fun i hi=>by
   obtain⟨cs,h1,h2⟩:=hx i (by omega)
   obtain⟨_,h3,_⟩:=World.cells?_some h1;obtain⟨x,h4⟩:=hone _ _ _ h3 h2;exact⟨(x,cs),h1,h4⟩
  have:Inhabited (ai tg×List Value):=⟨(ai.d tg,[])⟩;obtain⟨X,hX⟩:=Go.Deep.choose_lt hX;obtain⟨blk,off,spot⟩:=a;obtain rfl:spot=none:=hs;refine⟨⟨blk,off,tg.length,cap,false⟩,(List.range len).map fun i=>(X i).1,⟨(fun h=>by cases h),fun _=>⟨by simpa using hl,some ⟨blk,off,none⟩,by simp,fun _=>by simp[RI.at]⟩⟩,⟨ci,rfl,(fun h=>by cases h),fun _=>by simpa using hl,fun i hi=>?_⟩,fun _=>hb⟩
  have hi':i<len:=by simpa using hi
  obtain⟨h1,h2⟩:=hX i hi';obtain⟨_,h3,h4⟩:=World.cells?_some h1;refine⟨(X i).2,?_,fun s y hs=>?_⟩
  ·have:=EZ (te:=te) (X:=fun i=>(X i).1) hi'
   rw[this];exact h2 _ _
  ·have dZ:s<tg.length:=by rw[<-h3];exact(List.getElem?_eq_some_iff.1 hs).1
   have:=h4 s dZ;rw[hs]at this;rw[<-this]
   congr 1
   show(⟨blk,off+(i*tg.length+s),none⟩:Addr)=((Addr.mk blk off none).add (i*tg.length)).add s;rw[Addr.add_lit,Addr.add_lit,Nat.add_assoc]
theorem ayz (fuel:Nat) (cs:List Value) (y:DataW H×List MemPlace) (hl:cs.length=kK.length) (h:DataW.trod enc Try.prog w base spare held fuel 67 cs=some y):∃ x:ai kK,∀ η i,ai.aA η [] i 0 kK x cs:=by
 match cs,hl with
 |[c0,c1],_=>
  obtain⟨xs,n,_,_,_,hlen,hf⟩:=DataW.trod_struct Try.underlying67 h
  match xs,hlen with
  |[y0,y1],_=>
   have e:Try.prog.cellsOf 3=1:=by kernel_rfl
   obtain⟨a,rfl⟩:=kf (c:=c0) (by simpa[e]using hf 0 _ rfl)
   obtain⟨b,rfl⟩:=kf (c:=c1) (by simpa[e]using hf 1 _ rfl)
   exact⟨(a,b),fun η i=>⟨_,_,rfl,rfl,_,rfl,rfl⟩⟩
theorem BS {r:Reach} {b0:Nat} {t e:TypeId} (hu:Try.prog.underlying t=some (.slice e)) {v:Value} (hv:Cell.okWide Try.prog w r b0 t v):∀ a len cap,v= .slice (some a) len cap->a.spot=none/\a.block<w.heap.size:=by
 rintro a len cap rfl;simp only[hu,Cell.okWide,Cell.ok]at hv;obtain⟨_,_,_,h1,row,cells,h2,_⟩:=hv;refine⟨h1,?_⟩;unfold World.shape? at h2;rcases Nat.lt_or_ge a.block w.heap.size with h3|h3
 ·exact h3
 ·rw[Array.getElem?_eq_none h3]at h2;simp at h2
theorem CR {r:Reach} {b0:Nat} {t e:TypeId} (hu:Try.prog.underlying t=some (.slice e)) {v:Value} (hv:Value.okWide Try.prog w r b0 t v):Cell.okWide Try.prog w r b0 t v:=by
 simpa only[Value.okWide,hu]using hv
theorem awl {r:Reach} {b0:Nat} {v:Value} {d:DataW H} {p:List MemPlace} (hv:Value.okWide Try.prog w r b0 22 v) (h:DataW.Trod enc Try.prog w base spare held 22 v d p):
 ∃ (I:RI) (xs:List (ai kK)),I.head 0 xs.length v/\Er w 67 kK xs I:=by
 obtain⟨a0,Sd,R7,rfl⟩:=okWide_slice Try.underlying22 hv;obtain⟨fuel,hf⟩:=h;exact KF (by simp[kK]) Try.underlying22 (by kernel_rfl) ayz (BS Try.underlying22 (CR Try.underlying22 hv)) (by simpa[Value.cells]using hf)
theorem aur {r:Reach} {b0:Nat} {v:Value} {d:DataW H} {p:List MemPlace} (hv:Value.okWide Try.prog w r b0 24 v) (h:DataW.Trod enc Try.prog w base spare held 24 v d p):∃ a b c:Int,v= .agg #[.int .i64 a,.int .i64 b,.int .i64 c]:=by
 have j6:=hv;simp only[Value.okWide,Try.underlying24]at j6;obtain⟨cs,rfl,hsz,-⟩:=j6;obtain⟨l⟩:=cs;have hl:l.length=3:=hsz.trans (by kernel_rfl)
 match l,hl with
 |[c0,c1,c2],_=>
  obtain⟨fuel,hf⟩:=h;obtain⟨xs,n,_,_,_,hlen,hf⟩:=DataW.trod_struct Try.underlying24 hf
  match xs,hlen with
  |[y0,y1,y2],_=>
   have e:Try.prog.cellsOf 3=1:=by kernel_rfl
   obtain⟨a,rfl⟩:=kf (c:=c0) (by simpa[e,Value.cells]using hf 0 _ rfl)
   obtain⟨b,rfl⟩:=kf (c:=c1) (by simpa[e,Value.cells]using hf 1 _ rfl)
   obtain⟨c,rfl⟩:=kf (c:=c2) (by simpa[e,Value.cells]using hf 2 _ rfl)
   exact⟨a,b,c,rfl⟩
end
/-! ### A statement's walk -/
def ky (Is:List RI):Keys:=fun r _=>Is.getD r ⟨0,0,0,0,true⟩
structure sN where
 te:TypeId
 tg:List CK
 xs:List (ai tg)
 I:RI
def sN.ok (w:World) (A:sN):Prop:=aaa A.tg=true/\Er w A.te A.tg A.xs A.I
def sN.akq (A:sN):az:=.arr A.te A.tg A.xs false false
theorem CQ {w:World} {te:TypeId} {tg:List CK} {xs:List (ai tg)} (hf:aaa tg=true) {I:RI} (h:Ar.aA w (fun _=>I) [] ⟨te,tg,xs⟩) {η:Path->RI} (hk:η []=I):Ar.aA w η [] ⟨te,tg,xs⟩:=by
 subst hk;exact⟨h.tg,h.m,h.aC,h.len,fun i hi=>by obtain⟨ys,h1,h2⟩:=h.cell i hi;exact⟨ys,lA hf h1,h2⟩⟩
def RZ:bn:=⟨0,fun _=>True,fun _ _ _ _=>trivial⟩
theorem LJ {w:World} (As:List sN) (h:∀ A∈As,A.ok w):cA (fun _=>False) w As.length (ky (As.map (·.I))) (As.map sN.akq) w:=by
 have one:∀ (r:Nat) (g:az) π o B,(As.map sN.akq)[r]?=some g->g.has π o B->∃ A,A∈As/\ky (As.map (·.I)) r []=A.I/\π=[]/\o=false/\B= .arr ⟨A.te,A.tg,A.xs⟩:=by
  intro r g π o B hg hh;rw[List.getElem?_map]at hg;obtain⟨A,hA,rfl⟩:=Option.map_eq_some_iff.1 hg;have hm:=List.mem_of_getElem? hA;obtain⟨rfl,ho,rfl⟩:=aIc (h A hm).1 hh;exact⟨A,hm,by simp[ky,List.getD_eq_getElem?_getD,List.getElem?_map,hA],rfl,ho,rfl⟩
 constructor
 ·intro r g π o B hg hh;obtain⟨A,hm,hk,rfl,rfl,rfl⟩:=one r g π o B hg hh;exact CQ (h A hm).1 (h A hm).2.ar hk
 ·intro r g π o B hg hh hv;obtain⟨A,hm,hk,rfl,rfl,rfl⟩:=one r g π o B hg hh;rw[hk]at hv ⊢;exact(h A hm).2.lt hv
 ·intro r g π B hg hh;obtain⟨A,hm,hk,rfl,ho,rfl⟩:=one r g π _ B hg hh;cases ho
 ·intro r r' g g' π aW o' B B' hg _ hh;obtain⟨A,hm,hk,rfl,ho,rfl⟩:=one r g π _ B hg hh;cases ho
theorem q9 {f:FuncId} {F:List Tm->List az->Option (List aa×Tm)} (hc:au.Ok Try.prog RZ f (.fn F)) (As:List sN) {args:List Tm} {q:List aa} (hF:F args (As.map sN.akq)=some (q,bl true)) (hq:bW q) {W:World} {vs:List Value}
 (hA:∀ A∈As,A.ok W) (hargs:be (Tm.ok As.length (ky (As.map (·.I)))) args vs):Calls Try.prog f vs.toArray W fun e W'=>e= .returned (.bool true)/\Below W.heap.size W W':=by
 have hl:(As.map sN.akq).length=As.length:=List.length_map _;exact(hc args _ q _ hF hq (fun _=>False) W (ky (As.map (·.I))) W vs (Nat.le_refl _) (fun b hb=>absurd hb (Nat.not_lt_zero b)) trivial (by rw[hl];exact hargs) (by rw[hl];exact LJ As hA)).mono fun e w' ⟨v,he,hv,hb⟩=>by
  obtain⟨rfl,_⟩:=hv;exact⟨he,hb⟩
theorem Pf {N:Nat} {ρ:Keys} {r n:Nat} {v:Value} (hr:r<N) (h:(ρ r []).head 0 n v):Tm.ok N ρ (.a (.sl r [] 0 n)) v:=⟨hr,h⟩
theorem aw1 {N:Nat} {ρ:Keys} (a b c:Int):Tm.ok N ρ (.agg [.v (.int .i64 a),.v (.int .i64 b),.v (.int .i64 c)]) (.agg #[.int .i64 a,.int .i64 b,.int .i64 c]):=⟨[_,_,_],rfl,⟨rfl,rfl⟩,⟨rfl,rfl⟩,⟨rfl,rfl⟩,trivial⟩
end Go.Proofs.Ytccnimhgjjnmoaa
end
section
namespace Go.Proofs.Ytccnimhgjjnmoaa
open Go Go.Sy Go.dg
variable {Γ:bn}
abbrev gr (L:List Bk) (i:Int):Bk:=@Ar.get ⟨67,kK,L⟩ (0+Int.toNat i)
theorem tb (L:List Bk) (i:Nat):gr L i=bk L i:=by unfold gr;rw[Nat.zero_add,Int.toNat_natCast];rfl
theorem al1 {L:List Bk} {i:Nat} (h:0<i):gr L ((i:Int)-1)=bk L (i-1):=by rw[show((i:Int)-1)=((i-1:Nat):Int) by omega,tb]
def gK:au:=ja (fun _ _ _=>[]) (fun n lo hi=>bl (aQ n lo hi))
theorem fw:au.Ok Try.prog Γ 67 gK:=aBn (d:=0) (aP aR.nil bq.nil false 0) (aj Try.func67 rfl rfl) (fun _ _ _=>rfl) (by
 intro n lo hi _;repeat'((conv=>whnf);(first|apply And.intro|intro _))
 all_goals try(conv=>whnf)
 all_goals try exact Tk.mk (by kernel_rfl)
 all_goals subst_vars
 all_goals(simp_all [aQ]<;>omega))
def am0:au:=fW (fun _ _ _=>[]) (fun l t f=> .a (vI (if pe l t f=true then 0 else 1)))
noncomputable def arA:List (Nat×au):=[(67,gK)]
theorem ao4:aR Try.prog Γ arA:=(aR.nil.cons (aj Try.func67 rfl rfl).fn fw)
theorem aog:au.Ok Try.prog Γ 87 am0:=avQ (d:=0) (aP ao4 bq.nil false 0) (aj Try.func87 rfl rfl) (fun _ _ _=>rfl) (by
 intro l t f _;cases h1:aQ l 1 1125899906842624
 ·have e1:(!aQ l 1 1125899906842624)=true:=by rw[h1];rfl
  rw[if_neg (show ¬pe l t f=true by simp[pe,h1])]
  repeat'((conv=>whnf);first|apply And.intro|exact bA (by subst_vars;assumption)|intro h9)
  all_goals(try(conv=>whnf))<;>(subst_vars;try first|(apply Tk.mk;kernel_rfl)|exact⟨ah rfl⟩|exact⟨rfl⟩|exact⟨trivial⟩|rfl|contradiction|(apply Ob.mk;(try simp only[ag,ak,aa.ae])<;>(try dsimp only)<;>omega))
 have e1:(!aQ l 1 1125899906842624)=false:=by rw[h1];rfl
 cases h2:aQ t 0 1125899906842624
 ·have e2:(!aQ t 0 1125899906842624)=true:=by rw[h2];rfl
  rw[if_neg (show ¬pe l t f=true by simp[pe,h2])]
  repeat'((conv=>whnf);first|apply And.intro|exact bA (by subst_vars;assumption)|intro h9)
  all_goals(try(conv=>whnf))<;>(subst_vars;try first|(apply Tk.mk;kernel_rfl)|exact⟨ah rfl⟩|exact⟨rfl⟩|exact⟨trivial⟩|rfl|contradiction|(apply Ob.mk;(try simp only[ag,ak,aa.ae])<;>(try dsimp only)<;>omega))
 have e2:(!aQ t 0 1125899906842624)=false:=by rw[h2];rfl
 cases h3:aQ f 0 1000000
 ·have e3:(!aQ f 0 1000000)=true:=by rw[h3];rfl
  rw[if_neg (show ¬pe l t f=true by simp[pe,h3])]
  repeat'((conv=>whnf);first|apply And.intro|exact bA (by subst_vars;assumption)|intro h9)
  all_goals(try(conv=>whnf))<;>(subst_vars;try first|(apply Tk.mk;kernel_rfl)|exact⟨ah rfl⟩|exact⟨rfl⟩|exact⟨trivial⟩|rfl|contradiction|(apply Ob.mk;(try simp only[ag,ak,aa.ae])<;>(try dsimp only)<;>omega))
 have e3:(!aQ f 0 1000000)=false:=by rw[h3];rfl
 rw[if_pos (show pe l t f=true by simp[pe,h1,h2,h3])]
 repeat'((conv=>whnf);first|apply And.intro|exact bA (by subst_vars;assumption)|intro h9)
 all_goals(try(conv=>whnf))<;>(subst_vars;try first|(apply Tk.mk;kernel_rfl)|exact⟨ah rfl⟩|exact⟨rfl⟩|exact⟨trivial⟩|rfl|contradiction|(apply Ob.mk;(try simp only[ag,ak,aa.ae])<;>(try dsimp only)<;>omega)))
attribute [local irreducible] ck aQ
def rZ:au:=fB (fun L=>[(aa.of (L.length<=1000000))]) (fun L=> .bF [.a (vI (ck L).1),.a (vI (ck L).2)])
noncomputable def Mb:List (Nat×au):=[(67,gK)]
theorem FN:aR Try.prog Γ Mb:=(aR.nil.cons (aj Try.func67 rfl rfl).fn fw)
theorem oS:au.Ok Try.prog Γ 86 rZ:=apf (d:=0) (aP FN bq.nil false 0) (aj Try.func86 rfl rfl) (fun _=>rfl) (by
 intro L ⟨hL,_⟩;simp only[aa.ae]at hL;by_cases h3:20<L.length
 ·have e3:decide ((L.length:Int)>20)=true:=decide_eq_true (by omega)
  rw[anc h3];repeat'((conv=>whnf);first|apply And.intro|exact bA (by subst_vars;assumption)|intro h9)
  all_goals(try(conv=>whnf))<;>(subst_vars;try first|(apply Tk.mk;kernel_rfl)|exact⟨ah rfl⟩|exact⟨rfl⟩|exact⟨trivial⟩|rfl|contradiction|(apply Ob.mk;(try simp only[ag,ak,aa.ae])<;>(try dsimp only)<;>omega))
  all_goals first|trivial
 have e3:decide ((L.length:Int)>20)=false:=decide_eq_false (by omega)
 repeat'((conv=>whnf);first|apply And.intro|exact bA (by subst_vars;assumption)|intro h9)
 all_goals(try(conv=>whnf))<;>(subst_vars;try first|(apply Tk.mk;kernel_rfl)|exact⟨ah rfl⟩|exact⟨rfl⟩|exact⟨trivial⟩|rfl|contradiction|(apply Ob.mk;(try simp only[ag,ak,aa.ae])<;>(try dsimp only)<;>omega))
 refine⟨Nat,fun i=>i<=L.length/\∀ j,j<i->l5 L j=0,fun i=>⟨aI 42 [0,9,10,11] [.a (.sl 0 [] 0 L.length),.a (.sl 0 [] 0 L.length),.a (vI L.length),.a (vI i)],[],[.arr 67 kK L false false]⟩,fun i=>L.length-i,0,[0],⟨Nat.zero_le _,fun j h=>absurd h (Nat.not_lt_zero j)⟩,?_,?_⟩
 ·repeat'((conv=>whnf)<;>first|apply And.intro|intro _|rfl|trivial|exact ah rfl|exact aS ‹_› rfl|exact aT ‹_› rfl|((repeat' first|rfl|constructor);done))
 rintro i ⟨hi,hj⟩;by_cases hi1:i<L.length
 ·have p0:decide ((i:Int)<(L.length:Int))=true:=decide_eq_true (by omega)
  cases w1:aQ (gr L i).1 1 1099511627776
  ·have f1:(!aQ (gr L i).1 1 1099511627776)=true:=by rw[w1];rfl
   have he:l5 L i=1:=by unfold l5;rw[<-tb];simp only[alB,w1,Bool.false_and,if_true]
   rw[alQ h3 hi1 he (by omega) hj]
   repeat'((conv=>whnf);first|apply And.intro|exact bA (by subst_vars;assumption)|intro h9)
   all_goals(try(conv=>whnf))<;>(subst_vars;try first|(apply Tk.mk;kernel_rfl)|exact⟨ah rfl⟩|exact⟨rfl⟩|exact⟨trivial⟩|rfl|contradiction|(apply Ob.mk;(try simp only[ag,ak,aa.ae])<;>(try dsimp only)<;>omega))
   all_goals first|trivial|exact⟨show 0+Int.toNat (i:Int)<L.length by omega⟩
  have f1:(!aQ (gr L i).1 1 1099511627776)=false:=by rw[w1];rfl
  cases w2:aQ (gr L i).2 1 56294995342131
  ·have f2:(!aQ (gr L i).2 1 56294995342131)=true:=by rw[w2];rfl
   have he:l5 L i=1:=by unfold l5;rw[<-tb];simp only[alB,w2,Bool.and_false,if_true]
   rw[alQ h3 hi1 he (by omega) hj]
   repeat'((conv=>whnf);first|apply And.intro|exact bA (by subst_vars;assumption)|intro h9)
   all_goals(try(conv=>whnf))<;>(subst_vars;try first|(apply Tk.mk;kernel_rfl)|exact⟨ah rfl⟩|exact⟨rfl⟩|exact⟨trivial⟩|rfl|contradiction|(apply Ob.mk;(try simp only[ag,ak,aa.ae])<;>(try dsimp only)<;>omega))
   all_goals first|trivial|exact⟨show 0+Int.toNat (i:Int)<L.length by omega⟩
  have f2:(!aQ (gr L i).2 1 56294995342131)=false:=by rw[w2];rfl
  have g1:alB (bk L i)=true:=by rw[<-tb];simp only[alB,w1,w2,Bool.and_true]
  by_cases h0:0<i
  ·have p1:decide ((i:Int)>0)=true:=decide_eq_true (by omega)
   by_cases h4:(gr L i).1<=(gr L ((i:Int)-1)).1
   ·have p2:decide ((gr L i).1<=(gr L ((i:Int)-1)).1)=true:=decide_eq_true h4;have he:l5 L i=6:=by unfold l5;rw[g1];rw[tb,al1 h0]at h4;rw[if_neg (by decide),if_pos ⟨h0,h4⟩]
    rw[alQ h3 hi1 he (by omega) hj]
    repeat'((conv=>whnf);first|apply And.intro|exact bA (by subst_vars;assumption)|intro h9)
    all_goals(try(conv=>whnf))<;>(subst_vars;try first|(apply Tk.mk;kernel_rfl)|exact⟨ah rfl⟩|exact⟨rfl⟩|exact⟨trivial⟩|rfl|contradiction|(apply Ob.mk;(try simp only[ag,ak,aa.ae])<;>(try dsimp only)<;>omega))
    all_goals first|trivial|exact⟨show 0+Int.toNat (i:Int)<L.length by omega⟩|exact⟨show 0+Int.toNat ((i:Int)-1)<L.length by omega⟩
   have p2:decide ((gr L i).1<=(gr L ((i:Int)-1)).1)=false:=decide_eq_false h4;have he:l5 L i=0:=ak7.2 ⟨g1,fun h=>h4 (by rw[tb,al1 h0];exact h.2)⟩
   repeat'((conv=>whnf);first|apply And.intro|exact bA (by subst_vars;assumption)|intro h9)
   all_goals(try(conv=>whnf))<;>(subst_vars;try first|(apply Tk.mk;kernel_rfl)|exact⟨ah rfl⟩|exact⟨rfl⟩|exact⟨trivial⟩|rfl|contradiction|(apply Ob.mk;(try simp only[ag,ak,aa.ae])<;>(try dsimp only)<;>omega))
   all_goals try first|exact⟨show 0+Int.toNat (i:Int)<L.length by omega⟩|exact⟨show 0+Int.toNat ((i:Int)-1)<L.length by omega⟩
   all_goals
    refine⟨i+1,[0],⟨hi1,fun j hj'=>by rcases Nat.lt_succ_iff_lt_or_eq.1 hj' with h|rfl;exact hj j h;exact he⟩,?_,by show L.length-(i+1)<L.length-i;omega⟩
    repeat'((conv=>whnf)<;>first|apply And.intro|intro _|rfl|trivial|exact ah rfl|exact aS ‹_› rfl|exact aT ‹_› rfl|((repeat' first|rfl|constructor);done))
  have p1:decide ((i:Int)>0)=false:=decide_eq_false (by omega)
  have he:l5 L i=0:=ak7.2 ⟨g1,fun h=>h0 h.1⟩
  repeat'((conv=>whnf);first|apply And.intro|exact bA (by subst_vars;assumption)|intro h9)
  all_goals(try(conv=>whnf))<;>(subst_vars;try first|(apply Tk.mk;kernel_rfl)|exact⟨ah rfl⟩|exact⟨rfl⟩|exact⟨trivial⟩|rfl|contradiction|(apply Ob.mk;(try simp only[ag,ak,aa.ae])<;>(try dsimp only)<;>omega))
  all_goals try first|exact⟨show 0+Int.toNat (i:Int)<L.length by omega⟩
  all_goals
   refine⟨i+1,[0],⟨hi1,fun j hj'=>by rcases Nat.lt_succ_iff_lt_or_eq.1 hj' with h|rfl;exact hj j h;exact he⟩,?_,by show L.length-(i+1)<L.length-i;omega⟩
   repeat'((conv=>whnf)<;>first|apply And.intro|intro _|rfl|trivial|exact ah rfl|exact aS ‹_› rfl|exact aT ‹_› rfl|((repeat' first|rfl|constructor);done))
 have p0:decide ((i:Int)<(L.length:Int))=false:=decide_eq_false (by omega)
 rw[aol h3 (fun j hj'=>hj j (by omega))]
 repeat'((conv=>whnf);first|apply And.intro|exact bA (by subst_vars;assumption)|intro h9)
 all_goals(try(conv=>whnf))<;>(subst_vars;try first|(apply Tk.mk;kernel_rfl)|exact⟨ah rfl⟩|exact⟨rfl⟩|exact⟨trivial⟩|rfl|contradiction|(apply Ob.mk;(try simp only[ag,ak,aa.ae])<;>(try dsimp only)<;>omega))
 all_goals first|trivial)
end Go.Proofs.Ytccnimhgjjnmoaa
end
section
namespace Go.Proofs.Ytccnimhgjjnmoaa
open Go Go.Sy Go.dg
variable {Γ:bn}
attribute [local irreducible] ck
abbrev alh (V:List Wt) (i:Int):Wt:=@Ar.get ⟨24,kW,V⟩ (0+Int.toNat i)
theorem at9 {V:List Wt} {i:Nat} (h:i<V.length):alh V i=V[i]:=amo (tg:=kW) h
theorem zw {V:List Wt} {i:Nat} (h:i<V.length) (hw:ald (alh V i)=false):V.all ald=false:=by
 rw[Bool.eq_false_iff];intro ha;rw[List.all_eq_true]at ha;rw[at9 h,ha _ (List.getElem_mem h)]at hw;cases hw
theorem C7 {V:List Wt} (h:∀ j,j<V.length->ald (alh V j)=true):V.all ald=true:=by
 rw[List.all_eq_true];intro w hw;obtain⟨j,hj,rfl⟩:=List.mem_iff_getElem.1 hw;have:=h j hj;rwa[at9 hj]at this
def aBa:au:=azl (fun L V=>[(aa.of (L.length<=1000000)),(aa.of (V.length<=1000))]) (fun L V=> .a (vI (lu L V)))
noncomputable def Mf:List (Nat×au):=[(86,rZ),(87,am0)]
theorem FV:aR Try.prog Γ Mf:=((aR.nil.cons (aj Try.func87 rfl rfl).fn aog).cons (aj Try.func86 rfl rfl).fn oS)
theorem fQ:au.Ok Try.prog Γ 54 aBa:=axL (d:=0) (aP FV bq.nil false 0) (aj Try.func54 rfl rfl) (fun _ _=>rfl) (by
 intro L V ⟨hL,hV,_⟩;simp only[aa.ae]at hL hV;by_cases h0:(ck L).1=0
 ·have e0:((ck L).1!=0)=false:=by rw[h0];rfl
  repeat'((conv=>whnf);first|apply And.intro|exact bA (by subst_vars;assumption)|intro h9)
  all_goals(try(conv=>whnf))<;>(subst_vars;try first|(apply Tk.mk;kernel_rfl)|exact⟨ah rfl⟩|exact⟨rfl⟩|exact⟨trivial⟩|rfl|contradiction|(apply Ob.mk;(try simp only[ag,ak,aa.ae])<;>(try dsimp only)<;>omega))
  all_goals try first|exact⟨hL⟩
  refine⟨Nat,fun i=>i<=V.length/\∀ j,j<i->ald (alh V j)=true,fun i=>⟨aI 30 [18,19,20] [.a (.sl 1 [] 0 V.length),.a (vI V.length),.a (vI i)],[],[.arr 67 kK L false false,.arr 24 kW V false false]⟩,fun i=>V.length-i,0,[0,1],⟨Nat.zero_le _,fun j h=>absurd h (Nat.not_lt_zero j)⟩,?_,?_⟩
  ·repeat'((conv=>whnf)<;>first|apply And.intro|intro _|rfl|trivial|exact ah rfl|exact aS ‹_› rfl|exact aT ‹_› rfl|((repeat' first|rfl|constructor);done))
  rintro i ⟨hi,hj⟩;by_cases hi1:i<V.length
  ·have p0:decide ((i:Int)<(V.length:Int))=true:=decide_eq_true (by omega)
   cases hw:pe (alh V i).1 (alh V i).2.1 (alh V i).2.2
   ·have e1:((if pe (alh V i).1 (alh V i).2.1 (alh V i).2.2=true then(0:Int)else 1)!=0)=true:=by rw[hw];rfl
    have e2:(if pe (alh V i).1 (alh V i).2.1 (alh V i).2.2=true then(0:Int)else 1)=lu L V:=by unfold lu;rw[if_pos h0,zw hi1 (show ald (alh V i)=false from hw),hw]
    repeat'((conv=>whnf);first|apply And.intro|exact bA (by subst_vars;assumption)|intro h9)
    all_goals(try(conv=>whnf))<;>(subst_vars;try first|(apply Tk.mk;kernel_rfl)|exact⟨ah rfl⟩|exact⟨rfl⟩|exact⟨trivial⟩|rfl|contradiction|(apply Ob.mk;(try simp only[ag,ak,aa.ae])<;>(try dsimp only)<;>omega))
    all_goals first|trivial|exact⟨show 0+Int.toNat (i:Int)<V.length by omega⟩
   have e1:((if pe (alh V i).1 (alh V i).2.1 (alh V i).2.2=true then(0:Int)else 1)!=0)=false:=by rw[hw];rfl
   repeat'((conv=>whnf);first|apply And.intro|exact bA (by subst_vars;assumption)|intro h9)
   all_goals(try(conv=>whnf))<;>(subst_vars;try first|(apply Tk.mk;kernel_rfl)|exact⟨ah rfl⟩|exact⟨rfl⟩|exact⟨trivial⟩|rfl|contradiction|(apply Ob.mk;(try simp only[ag,ak,aa.ae])<;>(try dsimp only)<;>omega))
   all_goals try first|exact⟨show 0+Int.toNat (i:Int)<V.length by omega⟩
   all_goals
    refine⟨i+1,[0,1],⟨hi1,fun j hj'=>by rcases Nat.lt_succ_iff_lt_or_eq.1 hj' with h|rfl;exact hj j h;exact hw⟩,?_,by show V.length-(i+1)<V.length-i;omega⟩
    repeat'((conv=>whnf)<;>first|apply And.intro|intro _|rfl|trivial|exact ah rfl|exact aS ‹_› rfl|exact aT ‹_› rfl|((repeat' first|rfl|constructor);done))
  have p0:decide ((i:Int)<(V.length:Int))=false:=decide_eq_false (by omega)
  have e2:lu L V=0:=by unfold lu;rw[if_pos h0,C7 (fun j hj'=>hj j (by omega))];rfl
  rw[e2];repeat'((conv=>whnf);first|apply And.intro|exact bA (by subst_vars;assumption)|intro h9)
  all_goals(try(conv=>whnf))<;>(subst_vars;try first|(apply Tk.mk;kernel_rfl)|exact⟨ah rfl⟩|exact⟨rfl⟩|exact⟨trivial⟩|rfl|contradiction|(apply Ob.mk;(try simp only[ag,ak,aa.ae])<;>(try dsimp only)<;>omega))
 have e0:((ck L).1!=0)=true:=by simpa using h0
 have e2:(ck L).1=lu L V:=by unfold lu;rw[if_neg h0]
 repeat'((conv=>whnf);first|apply And.intro|exact bA (by subst_vars;assumption)|intro h9)
 all_goals(try(conv=>whnf))<;>(subst_vars;try first|(apply Tk.mk;kernel_rfl)|exact⟨ah rfl⟩|exact⟨rfl⟩|exact⟨trivial⟩|rfl|contradiction|(apply Ob.mk;(try simp only[ag,ak,aa.ae])<;>(try dsimp only)<;>omega))
 all_goals first|trivial|exact⟨hL⟩)
def apE:au:=azn (fun l t f n=>[(aa.of (-1152921504606846976<=l/\l<=1152921504606846976)),(aa.of (-1152921504606846976<=t/\t<=1152921504606846976))]) (fun l t f n=>bl (aQ n (l-t) (l+t)))
noncomputable def ayZ:List (Nat×au):=[(67,gK)]
theorem aui:aR Try.prog Γ ayZ:=(aR.nil.cons (aj Try.func67 rfl rfl).fn fw)
theorem aoL:au.Ok Try.prog Γ 85 apE:=axU (d:=0) (aP aui bq.nil false 0) (aj Try.func85 rfl rfl) (fun _ _ _ _=>rfl) (by
 intro l t f n ⟨hl,ht,_⟩;simp only[aa.ae]at hl ht;repeat'((conv=>whnf);first|apply And.intro|exact bA (by subst_vars;assumption)|intro h9)
 all_goals(try(conv=>whnf))<;>(subst_vars;try first|(apply Tk.mk;kernel_rfl)|exact⟨ah rfl⟩|exact⟨rfl⟩|exact⟨trivial⟩|rfl|contradiction|(apply Ob.mk;(try simp only[ag,ak,aa.ae])<;>(try dsimp only)<;>omega)))
abbrev iA (L:List Int) (i:Int):Int:=@Ar.get ⟨3,kI,L⟩ (0+Int.toNat i)
theorem ala {L:List Int} {i:Nat} (h:i<L.length):iA L i=L[i]:=amo (tg:=kI) h
theorem ayp {L M:List Int} (hl:L.length=M.length) (h:∀ j,j<L.length->iA L j=iA M j):L=M:=by
 refine List.ext_getElem hl fun i h1 h2=>?_
 rw[<-ala h1,<-ala h2,h i h1]
def uA:au:=PA (fun L _=>[(aa.of (L.length<=1000000))]) (fun L M=>bl (decide (L=M)))
theorem yG:au.Ok Try.prog Γ 28 uA:=MK (d:=0) (aP aR.nil bq.nil false 0) (aj Try.func28 rfl rfl) (fun _ _=>rfl) (by
 intro L M ⟨hL,_⟩;simp only[aa.ae]at hL;cases h:((L.length:Int)!=(M.length:Int))
 ·have hl:=atK h;repeat'((conv=>whnf);first|apply And.intro|exact bA (by subst_vars;assumption)|intro h9)
  all_goals(try(conv=>whnf))<;>(subst_vars;try first|(apply Tk.mk;kernel_rfl)|exact⟨ah rfl⟩|exact⟨rfl⟩|exact⟨trivial⟩|rfl|contradiction|(apply Ob.mk;(try simp only[ag,ak,aa.ae])<;>(try dsimp only)<;>omega))
  refine⟨Nat,fun i=>i<=L.length/\∀ j,j<i->iA L j=iA M j,fun i=>⟨aI 26 [0,1,5] [.a (.sl 0 [] 0 L.length),.a (.sl 1 [] 0 M.length),.a (vI i)],[],[.arr 3 kI L false false,.arr 3 kI M false false]⟩,fun i=>L.length-i,0,[0,1],⟨Nat.zero_le _,fun j h=>absurd h (Nat.not_lt_zero j)⟩,?_,?_⟩
  ·repeat'((conv=>whnf)<;>first|apply And.intro|intro _|rfl|trivial|exact ah rfl|exact aS ‹_› rfl|exact aT ‹_› rfl|((repeat' first|rfl|constructor);done))
  rintro i ⟨hi,hj⟩;by_cases hi1:i<L.length
  ·have p0:decide ((i:Int)<(L.length:Int))=true:=decide_eq_true (by omega)
   by_cases hw:iA L i=iA M i
   ·have e1:(iA L i !=iA M i)=false:=by rw[hw];simp
    repeat'((conv=>whnf);first|apply And.intro|exact bA (by subst_vars;assumption)|intro h9)
    all_goals(try(conv=>whnf))<;>(subst_vars;try first|(apply Tk.mk;kernel_rfl)|exact⟨ah rfl⟩|exact⟨rfl⟩|exact⟨trivial⟩|rfl|contradiction|(apply Ob.mk;(try simp only[ag,ak,aa.ae])<;>(try dsimp only)<;>omega))
    all_goals try first|exact⟨show 0+Int.toNat (i:Int)<L.length by omega⟩|exact⟨show 0+Int.toNat (i:Int)<M.length by omega⟩
    all_goals
     refine⟨i+1,[0,1],⟨hi1,fun j hj'=>by rcases Nat.lt_succ_iff_lt_or_eq.1 hj' with h|rfl;exact hj j h;exact hw⟩,?_,by show L.length-(i+1)<L.length-i;omega⟩
     repeat'((conv=>whnf)<;>first|apply And.intro|intro _|rfl|trivial|exact ah rfl|exact aS ‹_› rfl|exact aT ‹_› rfl|((repeat' first|rfl|constructor);done))
   have e1:(iA L i !=iA M i)=true:=by simpa using hw
   rw[decide_eq_false (show ¬L=M from fun e=>hw (by rw[e]))]
   repeat'((conv=>whnf);first|apply And.intro|exact bA (by subst_vars;assumption)|intro h9)
   all_goals(try(conv=>whnf))<;>(subst_vars;try first|(apply Tk.mk;kernel_rfl)|exact⟨ah rfl⟩|exact⟨rfl⟩|exact⟨trivial⟩|rfl|contradiction|(apply Ob.mk;(try simp only[ag,ak,aa.ae])<;>(try dsimp only)<;>omega))
   all_goals first|exact⟨show 0+Int.toNat (i:Int)<L.length by omega⟩|exact⟨show 0+Int.toNat (i:Int)<M.length by omega⟩
  have p0:decide ((i:Int)<(L.length:Int))=false:=decide_eq_false (by omega)
  rw[decide_eq_true (ayp hl (fun j hj'=>hj j (by omega)))]
  repeat'((conv=>whnf);first|apply And.intro|exact bA (by subst_vars;assumption)|intro h9)
  all_goals(try(conv=>whnf))<;>(subst_vars;try first|(apply Tk.mk;kernel_rfl)|exact⟨ah rfl⟩|exact⟨rfl⟩|exact⟨trivial⟩|rfl|contradiction|(apply Ob.mk;(try simp only[ag,ak,aa.ae])<;>(try dsimp only)<;>omega))
 have hl:=ari h;rw[decide_eq_false (show ¬L=M from fun e=>hl (by rw[e]))]
 repeat'((conv=>whnf);first|apply And.intro|exact bA (by subst_vars;assumption)|intro h9)
 all_goals(try(conv=>whnf))<;>(subst_vars;try first|(apply Tk.mk;kernel_rfl)|exact⟨ah rfl⟩|exact⟨rfl⟩|exact⟨trivial⟩|rfl|contradiction|(apply Ob.mk;(try simp only[ag,ak,aa.ae])<;>(try dsimp only)<;>omega)))
end Go.Proofs.Ytccnimhgjjnmoaa
end
section
namespace Go.Proofs
open Go.Shelf
def Try.aek:Go.Shelf.Ren:=⟨fun|189=>69|125=>100|257=>99|128=>115|129=>116|294=>106|295=>107|296=>108|297=>109|298=>110|299=>111|216=>112|300=>113|301=>114|328=>122|329=>123|330=>124|331=>125|332=>126|215=>127|343=>131|n=>n,fun|28=>27|3=>3|46=>125|0=>0|51=>139|53=>141|4=>4|183=>133|182=>132|131=>112|5=>5|9=>9|218=>147|222=>151|228=>155|229=>40|n=>n,fun|n=>n⟩
theorem Try.aeo:Go.Proofs.Lays.n189 Try.prog Try.aek:={
 mixed:=by kernel_rfl
 f125:=Try.func100.trans (congrArg some (by kernel_rfl))
 f128:=Try.func115.trans (congrArg some (by kernel_rfl))
 f129:=Try.func116.trans (congrArg some (by kernel_rfl))
 f189:=Try.func69.trans (congrArg some (by kernel_rfl))
 f215:=Try.func127.trans (congrArg some (by kernel_rfl))
 f216:=Try.func112.trans (congrArg some (by kernel_rfl))
 f257:=Try.func99.trans (congrArg some (by kernel_rfl))
 f294:=Try.func106.trans (congrArg some (by kernel_rfl))
 f295:=Try.func107.trans (congrArg some (by kernel_rfl))
 f296:=Try.func108.trans (congrArg some (by kernel_rfl))
 f297:=Try.func109.trans (congrArg some (by kernel_rfl))
 f298:=Try.func110.trans (congrArg some (by kernel_rfl))
 f299:=Try.func111.trans (congrArg some (by kernel_rfl))
 f300:=Try.func113.trans (congrArg some (by kernel_rfl))
 f301:=Try.func114.trans (congrArg some (by kernel_rfl))
 f328:=Try.func122.trans (congrArg some (by kernel_rfl))
 f329:=Try.func123.trans (congrArg some (by kernel_rfl))
 f330:=Try.func124.trans (congrArg some (by kernel_rfl))
 f331:=Try.func125.trans (congrArg some (by kernel_rfl))
 f332:=Try.func126.trans (congrArg some (by kernel_rfl))
 f343:=Try.func131.trans (congrArg some (by kernel_rfl))
 t0:=Try.underlying0
 a0:=Try.isAgg0
 z0:=Try.sizeOf0
 v0:=Try.zeroValue0
 t3:=Try.underlying3
 a3:=Try.isAgg3
 z3:=Try.sizeOf3
 v3:=Try.zeroValue3
 t4:=Try.underlying4
 a4:=Try.isAgg4
 z4:=Try.sizeOf4
 v4:=Try.zeroValue4
 t5:=Try.underlying5
 a5:=Try.isAgg5
 z5:=Try.sizeOf5
 v5:=Try.zeroValue5
 t9:=Try.underlying9
 a9:=Try.isAgg9
 z9:=Try.sizeOf9
 v9:=Try.zeroValue9
 t28:=Try.underlying27
 a28:=Try.isAgg27
 z28:=Try.sizeOf27
 v28:=Try.zeroValue27
 t46:=Try.underlying125
 a46:=Try.isAgg125
 z46:=Try.sizeOf125
 v46:=Try.zeroValue125
 t51:=Try.underlying139
 a51:=Try.isAgg139
 z51:=Try.sizeOf139
 v51:=Try.zeroValue139
 t53:=Try.underlying141
 a53:=Try.isAgg141
 z53:=Try.sizeOf141
 v53:=Try.zeroValue141
 t131:=Try.underlying112
 a131:=Try.isAgg112
 z131:=Try.sizeOf112
 v131:=Try.zeroValue112
 t182:=Try.underlying132
 a182:=Try.isAgg132
 z182:=Try.sizeOf132
 v182:=Try.zeroValue132
 t183:=Try.underlying133
 a183:=Try.isAgg133
 z183:=Try.sizeOf133
 v183:=Try.zeroValue133
 t218:=Try.underlying147
 a218:=Try.isAgg147
 z218:=Try.sizeOf147
 v218:=Try.zeroValue147
 t222:=Try.underlying151
 a222:=Try.isAgg151
 z222:=Try.sizeOf151
 v222:=Try.zeroValue151
 t228:=Try.underlying155
 a228:=Try.isAgg155
 z228:=Try.sizeOf155
 v228:=Try.zeroValue155
 t229:=Try.underlying40
 a229:=Try.isAgg40
 z229:=Try.sizeOf40
 v229:=Try.zeroValue40}
open Go.Sort Go.RowKit in
theorem Try.slices_Sort_int (blk off cap:Nat) (zs:List Int) (w:World) (hH:Holds (Value.int .i64) w blk off zs.toArray) (hblk:blk<w.heap.size) (hsz:zs.length<4611686018427387904):
 Calls Try.prog 69 #[.slice (some ⟨blk,off,none⟩) zs.length cap] w fun e w'=>
  e= .returned (.tuple #[])/\∃ n os,w'=grow (putRow (Value.int .i64) (Sort.ahead w n) blk off (zs.mergeSort fun x y=>decide (x<=y)).toArray) os:=Any.slices_Sort_int Try.aeo blk off cap zs w hH hblk hsz
def Try.adW:Go.Shelf.Ren:=⟨fun|20=>70|n=>n,fun|22=>27|3=>3|4=>4|0=>0|n=>n,fun|n=>n⟩
theorem Try.adS:Go.Proofs.Lays2.n20 Try.prog Try.adW:={
 mixed:=by kernel_rfl
 f20:=Try.func70.trans (congrArg some (by kernel_rfl))
 t0:=Try.underlying0
 a0:=Try.isAgg0
 z0:=Try.sizeOf0
 v0:=Try.zeroValue0
 t3:=Try.underlying3
 a3:=Try.isAgg3
 z3:=Try.sizeOf3
 v3:=Try.zeroValue3
 t4:=Try.underlying4
 a4:=Try.isAgg4
 z4:=Try.sizeOf4
 v4:=Try.zeroValue4
 t22:=Try.underlying27
 a22:=Try.isAgg27
 z22:=Try.sizeOf27
 v22:=Try.zeroValue27
 i3:=by kernel_rfl}
open Go.RowKit Go.Lib Go.Sort in
theorem Try.slices_Compact_int (blk off cap:Nat) (zs:List Int) (w:World) (hH:Holds (Value.int .i64) w blk off zs.toArray) (hsz:zs.length<=9223372036854775807) (hcap:zs.length<=cap):
 Calls Try.prog 70 #[.slice (some ⟨blk,off,none⟩) zs.length cap] w fun e w'=>e= .returned (.slice (some ⟨blk,off,none⟩) (Lib.compact zs).length cap)/\∃ q,w'=putRow (Value.int .i64) (Sort.ahead w q) blk off (Lib.compact zs++List.replicate (zs.length-(Lib.compact zs).length) 0).toArray:=Any.slices_Compact_int Try.adS blk off cap zs w hH hsz hcap
open Go.RowKit Go.Lib Go.Sort in
theorem Try.slices_Compact_int_empty (a:Option Addr) (cap:Nat) (w:World):
 Calls Try.prog 70 #[.slice a 0 cap] w fun e w'=>e= .returned (.slice a 0 cap)/\w'=w:=Any.slices_Compact_int_empty Try.adS a cap w
open Go.RowKit Go.Sort in
theorem Try.slices_Sort_int_none (p:Option Addr) (cap:Nat) (w:World):
 Calls Try.prog 69 #[.slice p 0 cap] w fun e w'=>e= .returned (.tuple #[])/\w'=w:=Any.slices_Sort_int_none Try.aeo p cap w
end Go.Proofs
end
