/-
  Texts of the claims on chapter 3: Q21. No condition: lemmas and contracts.
-/
import Derived.Test.YthejmgnkenokpaaDoorPl1
set_option linter.all false
set_option maxRecDepth 100000
set_option maxHeartbeats 4000000
section
namespace Go.bK
theorem Ww {P : Int} {L : List Wk} (hw : cx P L) : ∀ {w : List Int} {x y : Sp},(0 <= x.1 /\ x.1 <= P - 1) -> (∀ s ∈ w,bS L s) -> bj L x w = (y,true) -> 0 <= y.1 /\ y.1 <= P - 1
 | [],x,y,hx,_,h => by
   have : x = y:=congrArg Prod.fst h
   exact this ▸ hx
 | s :: w,x,y,hx,hs,h => by
   rw [bj] at h
   cases hb : bM L x s <;> rw [hb] at h
   ·cases h
   ·exact Ww hw (x:=bw L x s) (r8 hw (hs s (List.mem_cons_self ..))).2.1 (fun s h => hs s (List.mem_cons_of_mem _ h)) h
theorem W9 {P : Int} {L : List Wk} (hw : cx P L) (hP : P <= 6) {p : Int} (hp : 0 <= p /\ p <= P - 1) {g : Sg} {w : List Int} (hs : ∀ s ∈ w,bS L s) (h : bj L (p,0,false) w = ((p,g),true)) : (Vr L p g).length <= w.length:=by
 obtain ⟨j,hj,Y9,ZH⟩:=FF hw hP hp hs h
 have h1:=(kD hw hP hp).2 ⟨w,hs,h⟩
 have hlt : (ap L p).findIdx (fun e => e.1 == (p,g)) < (ap L p).length:=by
  rw [List.findIdx_lt_length]
  obtain ⟨e,he,h2⟩:=List.any_eq_true.1 h1
  exact ⟨e,he,h2⟩
 have hk : ((ap L p).getD ((ap L p).findIdx (fun e => e.1 == (p,g))) aG).1 = (p,g):=by
  have:=List.findIdx_getElem (xs:=ap L p) (p:=fun e => e.1 == (p,g)) (w:=hlt)
  rw [List.getD_eq_getElem?_getD,List.getElem?_eq_getElem hlt]
  exact eq_of_beq this
 have hE:=xh hw hP hp
 have e : (ap L p).findIdx (fun e => e.1 == (p,g)) = j:=by
  rw [List.getD_eq_getElem?_getD,List.getElem?_eq_getElem hlt] at hk
  rw [List.getD_eq_getElem?_getD,List.getElem?_eq_getElem hj] at Y9
  simp only [Option.getD_some] at hk Y9
  have h3 : ((ap L p).map (·.1))[(ap L p).findIdx (fun e => e.1 == (p,g))]'(by rw [List.length_map];exact hlt) = ((ap L p).map (·.1))[j]'(by rw [List.length_map];exact hj):=by
   rw [List.getElem_map,List.getElem_map,hk,Y9]
  exact (List.getElem_inj hE.nd).1 h3
 unfold Vr
 rw [e];exact ZH
end Go.bK
end
