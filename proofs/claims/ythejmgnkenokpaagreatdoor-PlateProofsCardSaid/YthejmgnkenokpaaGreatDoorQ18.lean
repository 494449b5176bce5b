/-
  Texts of the claims on chapter 3: Q18. No condition: lemmas and contracts.
-/
import Derived.Test.YthejmgnkenokpaaGreatDoorPl1
set_option linter.all false
set_option maxRecDepth 100000
set_option maxHeartbeats 4000000
section
namespace Go.bK
theorem Ui {n : Int} {G : List Sg} (hm : dL G = false) (x : Int) : eV n G x = false:=by
 rw [Bool.eq_false_iff];intro h
 obtain ⟨g,hg,h2,_⟩:=kw.1 h
 rw [jo.2 ⟨g,hg,h2⟩] at hm;cases hm
theorem W8 {n : Int} {G : List Sg} (hG : gH G) (hn : bz n) : 0 <= zb n G:=by
 unfold zb
 cases hm : dL G <;> dsimp only
 ·have h0 : aK n G 0 = 0:=by
   have h1:=Bd (Bx hG hn (gM hn))
   have h2:=(mS hG hn (gM hn)).1
   omega
  have hm0 : (0 : Int) ∈ fH n G (n * n).toNat:=(abB hn).2 ⟨gM hn,h0,Ui hm 0⟩
  have:=List.length_pos_of_mem hm0
  omega
 ·omega
end Go.bK
end
