/-
  Texts of the claims on chapter 3: Yk10. No condition: lemmas and contracts.
-/
import Derived.Test.YthejmgnkenokpaaDoorYk1
import Derived.Test.YthejmgnkenokpaaDoorYk2
import Derived.Test.YthejmgnkenokpaaDoorPl1
import Derived.Test.YthejmgnkenokpaaDoorYk3
set_option linter.all false
set_option maxRecDepth 100000
set_option maxHeartbeats 4000000
section
namespace Go.Proofs.YthejmgnkenokpaaDoor
open Go Go.Sy Go.bK
variable {Γ : bn}
attribute [local irreducible] aQ
end Go.Proofs.YthejmgnkenokpaaDoor
end
section
namespace Go.Proofs.YthejmgnkenokpaaDoor
open Go Go.Sy Go.bK
variable {Γ : bn}
attribute [local irreducible] aQ aX
end Go.Proofs.YthejmgnkenokpaaDoor
end
section
namespace Go.Proofs.YthejmgnkenokpaaDoor
open Go Go.Sy Go.bK
variable {Γ : bn}
attribute [local irreducible] aQ
end Go.Proofs.YthejmgnkenokpaaDoor
end
section
namespace Go.Proofs.YthejmgnkenokpaaDoor
open Go Go.Sy Go.bK
variable {Γ : bn}
end Go.Proofs.YthejmgnkenokpaaDoor
end
section
namespace Go.Proofs.YthejmgnkenokpaaDoor
open Go Go.Sy Go.bK
variable {Γ : bn}
attribute [local irreducible] bD aQ
end Go.Proofs.YthejmgnkenokpaaDoor
end
section
namespace Go.Proofs.YthejmgnkenokpaaDoor
open Go Go.Sy Go.bK
variable {Γ : bn}
def Df : au:=fS (fun _ _ L => [(aa.of (True))]) (fun _ _ L => bl (decide ((L.length : Int) <= 20)))
theorem EJ : au.Ok Tryd.prog Γ 15 Df:=za (d:=0) (aP aR.nil bq.nil false 0) (aj Tryd.func15 rfl rfl) (fun _ _ _ => rfl) (by
 intro n P L _
 repeat' ((conv => whnf);first | apply And.intro | (intro h9;try (have h8 : (_ : Bool) = _:=h9;clear h8;revert h9;subst_vars;intro h9;exact aq h9 (by assumption))))
 all_goals try (conv => whnf)
 all_goals try first | (apply Tk.mk <;> kernel_rfl) | exact ⟨ah rfl⟩ | exact ⟨rfl⟩ | exact ⟨trivial⟩
 all_goals subst_vars
 all_goals try first | rfl | contradiction | (apply Ob.mk;first | (simp only [ag,ak,aa.ae];omega) | ((try simp only [aa.ae]);(try dsimp only);omega)))
attribute [local irreducible] bf cK bj
end Go.Proofs.YthejmgnkenokpaaDoor
end
