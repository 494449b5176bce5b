/-
  Texts of the claims: Ykt1z. No condition: lemmas and contracts.
-/
import Derived.Test.YtccnimhgjjnmoaaSya1z
import Derived.Test.YtccnimhgjjnmoaaSya2z
import Derived.Test.YtccnimhgjjnmoaaSya3z
import Derived.Test.YtccnimhgjjnmoaaSya4z
import Derived.Test.YtccnimhgjjnmoaaSya5z
import Derived.Test.YtccnimhgjjnmoaaPla6z
import Derived.Test.YtccnimhgjjnmoaaYka7z
import Derived.Test.YtccnimhgjjnmoaaPld1z
import Derived.Test.YtccnimhgjjnmoaaRows
import Derived.ProofKit
import Derived.Deep.DeepHandedRow
import Derived.Deep.Slices
import Derived.Lib.LaidTab
import Derived.Lib.SmallJoins
import Derived.Stop.LaidErr
import Derived.Carry
set_option linter.all false
set_option maxRecDepth 100000
set_option maxHeartbeats 40000000
section
namespace Go.Proofs.Ytccnimhgjjnmoaa
open Go Go.Sy Go.ChangeShapes Go.WideShapes Go.RowKit
/-! ### Arguments opened -/
section
variable {H:Type} {enc:TypeId×Value->H} {w:World} {base:Nat} {spare:Nat->Bool} {held:Bool}
theorem agA {r:Reach} {b0:Nat} {v:Value} {d:DataW H} {p:List MemPlace} (hv:Value.okWide Try.prog w r b0 3 v) (h:DataW.Trod enc Try.prog w base spare held 3 v d p):∃ n,v= .int .i64 n:=by
 obtain⟨n,rfl,_,_,hw⟩:=open_int Try.underlying3 hv h;exact⟨n,rfl⟩
end
/-! ### A statement's walk -/
theorem ok_int {N:Nat} {ρ:Keys} (n:Int):Tm.ok N ρ (.a (.v (.int .i64 n))) (.int .i64 n):=⟨rfl,rfl⟩
end Go.Proofs.Ytccnimhgjjnmoaa
end
