/-
  Texts of the claims on chapter 3: Ym1c. No condition: lemmas and contracts.
-/
import Derived.Test.YthejmgnkenokpaaGreatDoorYk10c
set_option linter.all false
set_option maxRecDepth 100000
set_option maxHeartbeats 4000000
section
namespace Go.Proofs.YthejmgnkenokpaaGreatDoor
open Go Go.Sy Go.bK
variable {Γ : bn}
def ai4 (D : Int -> Int -> List Wk -> Wk -> ByteArray -> List aa) (F : Int -> Int -> List Wk -> Wk -> ByteArray -> Tm) : au:=.fn fun args rg => match args with
 | [.agg [.v (.int .i64 n0),.v (.int .i64 n1),x0],.agg l0,.a (.v (.string s0))] => (match ac1 46 kW rg x0,eu kW l0 with | some (q0,L0),some v0 => some (q0 ++ (D n0 n1 L0 v0 s0),F n0 n1 L0 v0 s0) | _,_ => none)
 | _ => none
theorem aiX {f : FuncId} {b : Body} {E : Env} {d : Nat} (hP : aL Tryz.prog Γ E) (hb : bQ Tryz.prog f b) {D : Int -> Int -> List Wk -> Wk -> ByteArray -> List aa} {F : Int -> Int -> List Wk -> Wk -> ByteArray -> Tm} (hp : ∀ (n0 : Int) (n1 : Int) (L0 : List Wk) (v0 : Wk) (s0 : ByteArray),(F n0 n1 L0 v0 s0).plain = true)
  (H : ∀ (n0 : Int) (n1 : Int) (L0 : List Wk) (v0 : Wk) (s0 : ByteArray),bW (D n0 n1 L0 v0 s0) -> cQ E d b [.agg [vI n0,vI n1,.sl 0 [] 0 L0.length],.agg (ai.lV kW v0),.a (.v (.string s0))] [.arr 46 kW L0 false false] (fun x _ => iL x (F n0 n1 L0 v0 s0))) : au.Ok Tryz.prog Γ f (ai4 D F):=au.er (d:=d) hP hb (by
 intro args rg q t hF hq
 split at hF
 next n0 n1 x0 l0 s0 =>
  split at hF
  next q0 L0 v0 hx0 hc0 =>
   obtain ⟨rfl,rfl⟩:=Prod.mk.inj (Option.some.inj hF);clear hF
   rw [aH] at hq
   obtain ⟨dm,hD⟩:=hq
   obtain ⟨e0,Vn⟩:=bP (by simp [kW]) hx0 dm
   obtain ⟨p0,r0⟩:=Vn [e0] 0 1 rfl (by omega)
   refine ⟨hp _ _ _ _ _,[e0],[.agg [vI n0,vI n1,.sl 0 [] 0 L0.length],.agg (ai.lV kW v0),.a (.v (.string s0))],[.arr 46 kW L0 false false],⟨⟨⟨rfl,rfl,p0,trivial⟩,oC hc0,rfl,trivial⟩,fun r g hg => ?_⟩,H _ _ _ _ _ hD⟩
   match r,hg with
   | 0,hg => obtain rfl:=Option.some.inj hg;exact r0
  next => cases hF
 next => cases hF)
def ahV : au:=ai4 (fun _ _ _ _ _ => []) (fun _ _ _ _ _ => bl true)
theorem ahR {L : List Wk} {w : Wk} : List.drop 0 (List.take L.length (List.drop 0 L)) ++ List.take 1 (List.drop 0 [w]) = L ++ [w]:=by simp
theorem aju : ((({ data:=#[] } : ByteArray)).toList == (({ data:=#[] } : ByteArray)).toList) = true:=beq_self_eq_true _
theorem ajH {n P : Int} {L : List Wk} (h : (bD n P L == 0) = false) : vF n P L = { data:=#[] }:=by unfold vF;rw [h]
noncomputable def ajr : List (Nat × au):=[(8,Df),(18,uE),(31,Hz),(32,Dd),(33,ahF),(34,ahv),(35,rZ),(36,ahX),(37,ahc),(10,tC)]
theorem aja : aR Tryz.prog aha ajr:=((((((((((aR.nil.cons (aj Tryz.func10 rfl rfl).fn sW).cons (aj Tryz.func37 rfl rfl).fn ahd).cons (aj Tryz.func36 rfl rfl).fn ahI).cons (aj Tryz.func35 rfl rfl).fn oS).cons (aj Tryz.func34 rfl rfl).fn ahQ).cons (aj Tryz.func33 rfl rfl).fn ahu).cons (aj Tryz.func32 rfl rfl).fn EF).cons (aj Tryz.func31 rfl rfl).fn HA).cons (aj Tryz.func18 rfl rfl).fn yI).cons (aj Tryz.func8 rfl rfl).fn EJ)
def ajP (id : Nat) : Option OT:=match Nat.beq id 13 with | true => some (.take 1 (.alt 0 (.alt 2 (.alt 3 (.alt 4 (.alt 5 (.alt 6 (.take 7 (.alt 8 .fin .fin)) .fin) .fin) .fin) (.alt 4 (.alt 3 (.alt 5 (.alt 6 (.take 7 (.alt 8 .fin .fin)) .fin) .fin) (.alt 5 (.alt 3 (.alt 6 (.take 7 (.alt 8 .fin .fin)) .fin) .fin) .fin)) .fin)) (.alt 4 (.alt 2 (.alt 3 (.alt 5 (.alt 6 (.take 7 (.alt 8 .fin .fin)) .fin) .fin) (.alt 5 (.alt 3 (.alt 6 (.take 7 (.alt 8 .fin .fin)) .fin) .fin) .fin)) (.alt 5 (.alt 2 (.alt 3 (.alt 6 (.take 7 (.alt 8 .fin .fin)) .fin) .fin) .fin) .fin)) .fin)) (.alt 2 (.alt 0 (.alt 3 (.alt 4 (.alt 5 (.alt 6 (.take 7 (.alt 8 .fin .fin)) .fin) .fin) .fin) (.alt 4 (.alt 3 (.alt 5 (.alt 6 (.take 7 (.alt 8 .fin .fin)) .fin) .fin) (.alt 5 (.alt 3 (.alt 6 (.take 7 (.alt 8 .fin .fin)) .fin) .fin) .fin)) .fin)) (.alt 4 (.alt 0 (.alt 3 (.alt 5 (.alt 6 (.take 7 (.alt 8 .fin .fin)) .fin) .fin) (.alt 5 (.alt 3 (.alt 6 (.take 7 (.alt 8 .fin .fin)) .fin) .fin) .fin)) (.alt 5 (.alt 0 (.alt 3 (.alt 6 (.take 7 (.alt 8 .fin .fin)) .fin) .fin) .fin) .fin)) .fin)) (.alt 4 (.alt 0 (.alt 2 (.alt 3 (.alt 5 (.alt 6 (.take 7 (.alt 8 .fin .fin)) .fin) .fin) (.alt 5 (.alt 3 (.alt 6 (.take 7 (.alt 8 .fin .fin)) .fin) .fin) .fin)) (.alt 5 (.alt 2 (.alt 3 (.alt 6 (.take 7 (.alt 8 .fin .fin)) .fin) .fin) .fin) .fin)) (.alt 2 (.alt 0 (.alt 3 (.alt 5 (.alt 6 (.take 7 (.alt 8 .fin .fin)) .fin) .fin) (.alt 5 (.alt 3 (.alt 6 (.take 7 (.alt 8 .fin .fin)) .fin) .fin) .fin)) (.alt 5 (.alt 0 (.alt 3 (.alt 6 (.take 7 (.alt 8 .fin .fin)) .fin) .fin) .fin) .fin)) (.alt 5 (.alt 0 (.alt 2 (.alt 3 (.alt 6 (.take 7 (.alt 8 .fin .fin)) .fin) .fin) .fin) (.alt 2 (.alt 0 (.alt 3 (.alt 6 (.take 7 (.alt 8 .fin .fin)) .fin) .fin) .fin) .fin)) .fin))) .fin)))) | false => none
noncomputable def ajt : Env:={ jV.env ajr [] false 0 with tree:=ajP }
noncomputable def ajM : Env:={ ajt with cut:=fun t => match Nat.beq t 74 with | true => true | false => Nat.beq t 2013 }
theorem aiV : aL Tryz.prog aha ajM:=((aP aja bq.nil false 0).vU _).wy _
attribute [local irreducible] pB eY bD vF gF bA ld
theorem ahp : au.Ok Tryz.prog aha 6 ahV:=aiX (d:=0) aiV (aj Tryz.func6 rfl rfl) (fun _ _ _ _ _ => rfl) (by
 intro n P L w s _
 obtain h0 | h0 : decide ((L.length : Int) <= 20) = false \/ decide ((L.length : Int) <= 20) = true:=by cases decide ((L.length : Int) <= 20) <;> simp
 ·have n0 : (!decide ((L.length : Int) <= 20)) = true:=by rw [h0];rfl
  repeat' ((conv => whnf);(first | apply And.intro | (intro h9;first | (have h8 : (_ : Bool) = false:=h9;exfalso;clear h8;revert h9;subst_vars;intro h9;exact R3 (h9.symm.trans (by assumption))) | (have h8 : (_ : Bool) = true:=h9;exfalso;clear h8;revert h9;subst_vars;intro h9;exact R6 (h9.symm.trans (by assumption))) | skip)))
  all_goals try (conv => whnf)
  all_goals try first
   | exact Tk.mk (by kernel_rfl)
   | exact Tk.mk (by kernel_rfl)
   | exact Tk.mk (by kernel_rfl)
   | exact Tk.mk (by kernel_rfl)
   | exact Tk.mk (by kernel_rfl)
   | exact Tk.mk (by kernel_rfl)
   | exact Tk.mk (by kernel_rfl)
   | exact ⟨Nat.le_of_ble_eq_true rfl⟩
   | exact ⟨rfl⟩
   | exact ⟨trivial⟩
  all_goals subst_vars
  all_goals try first
   | rfl
   | contradiction
   | (refine Ob.mk ?_;simp only [ag,ak,aa.ae];omega)
   | (refine Ob.mk ?_;(try simp only [aa.ae]);(try dsimp only);omega)
  all_goals first
   | trivial
   | exact True.intro
   | exact ⟨hl⟩
   | exact ⟨hz⟩
   | exact ⟨g4⟩
   | exact ⟨jJ⟩
   | exact ⟨oz⟩
   | exact ⟨DF⟩
   | exact ⟨c3⟩
   | exact ⟨show L.length <= 1000000 by omega⟩
   | exact ⟨show 0 + L.length <= L.length by omega⟩
   | exact ⟨show L.length * 3 <= 1099511627776 by omega⟩
   | exact ⟨show (L.length + 1) * 3 <= 1099511627776 by omega⟩
   | exact ⟨show ([] : List Wk).length <= 1000000 from Nat.zero_le _⟩
 have n0 : (!decide ((L.length : Int) <= 20)) = false:=by rw [h0];rfl
 have hl0:=of_decide_eq_true h0
 have hl : L.length <= 900000:=by omega
 obtain z1 | z1 : decide ((s.size : Int) > 400) = true \/ decide ((s.size : Int) > 400) = false:=by cases decide ((s.size : Int) > 400) <;> simp
 ·repeat' ((conv => whnf);(first | apply And.intro | (intro h9;first | (have h8 : (_ : Bool) = false:=h9;exfalso;clear h8;revert h9;subst_vars;intro h9;exact R3 (h9.symm.trans (by assumption))) | (have h8 : (_ : Bool) = true:=h9;exfalso;clear h8;revert h9;subst_vars;intro h9;exact R6 (h9.symm.trans (by assumption))) | skip)))
  all_goals try (conv => whnf)
  all_goals try first
   | exact Tk.mk (by kernel_rfl)
   | exact Tk.mk (by kernel_rfl)
   | exact Tk.mk (by kernel_rfl)
   | exact Tk.mk (by kernel_rfl)
   | exact Tk.mk (by kernel_rfl)
   | exact Tk.mk (by kernel_rfl)
   | exact Tk.mk (by kernel_rfl)
   | exact ⟨Nat.le_of_ble_eq_true rfl⟩
   | exact ⟨rfl⟩
   | exact ⟨trivial⟩
  all_goals subst_vars
  all_goals try first
   | rfl
   | contradiction
   | (refine Ob.mk ?_;simp only [ag,ak,aa.ae];omega)
   | (refine Ob.mk ?_;(try simp only [aa.ae]);(try dsimp only);omega)
  all_goals first
   | trivial
   | exact True.intro
   | exact ⟨hl⟩
   | exact ⟨hz⟩
   | exact ⟨g4⟩
   | exact ⟨jJ⟩
   | exact ⟨oz⟩
   | exact ⟨DF⟩
   | exact ⟨c3⟩
   | exact ⟨show L.length <= 1000000 by omega⟩
   | exact ⟨show 0 + L.length <= L.length by omega⟩
   | exact ⟨show L.length * 3 <= 1099511627776 by omega⟩
   | exact ⟨show (L.length + 1) * 3 <= 1099511627776 by omega⟩
   | exact ⟨show ([] : List Wk).length <= 1000000 from Nat.zero_le _⟩
 have hz : s.size <= 1000:=by have:=of_decide_eq_false z1;omega
 have ck : (bD n P L != bD n P L) = false:=bne_self_eq_false _
 have cs : (bD n P L == bD n P L) = true:=beq_self_eq_true _
 have cw : ((bD n P (L ++ [w])) == (bD n P (L ++ [w]))) = true:=beq_self_eq_true _
 have aj8 : (!gF 0 0 [] 0 0 []) = false:=by rw [nf];rfl
 have aj9 : gF 0 0 [] 0 0 [] = true:=nf _ _ _
 have aka : gF n P (L ++ [w]) n P (L ++ [w]) = true:=nf _ _ _
 have jJ : (L ++ [w]).length <= 1000000:=by rw [List.length_append,List.length_singleton];omega
 have DF : 0 + L.length = (List.take L.length (List.drop 0 L)).length:=by simp
 have oz : L.length + 1 = (L ++ [w]).length:=by rw [List.length_append,List.length_singleton]
 obtain c1 | c1 : (bD n P L == 0) = false \/ (bD n P L == 0) = true:=by cases (bD n P L == 0) <;> simp
 ·have c2 : (bD n P L != 0) = true:=by unfold bne;rw [c1];rfl
  have aj6 : ((vF n P L).toList == (({ data:=#[] } : ByteArray)).toList) = true:=by rw [ajH c1];exact aju
  apply ahz
  case h =>
   intro key
   obtain d1 | d1 : pB s = false \/ pB s = true:=by cases pB s <;> simp
   ·repeat' ((conv => whnf);(first | apply And.intro | (intro h9;first | (have h8 : (_ : Bool) = false:=h9;exfalso;clear h8;revert h9;subst_vars;intro h9;exact R3 (h9.symm.trans (by assumption))) | (have h8 : (_ : Bool) = true:=h9;exfalso;clear h8;revert h9;subst_vars;intro h9;exact R6 (h9.symm.trans (by assumption))) | skip)))
    all_goals try (conv => whnf)
    all_goals try first
     | exact Tk.mk (by kernel_rfl)
     | exact Tk.mk (by kernel_rfl)
     | exact Tk.mk (by kernel_rfl)
     | exact Tk.mk (by kernel_rfl)
     | exact Tk.mk (by kernel_rfl)
     | exact Tk.mk (by kernel_rfl)
     | exact Tk.mk (by kernel_rfl)
     | exact ⟨Nat.le_of_ble_eq_true rfl⟩
     | exact ⟨rfl⟩
     | exact ⟨trivial⟩
    all_goals subst_vars
    all_goals try first
     | rfl
     | contradiction
     | (refine Ob.mk ?_;simp only [ag,ak,aa.ae];omega)
     | (refine Ob.mk ?_;(try simp only [aa.ae]);(try dsimp only);omega)
    all_goals try first
     | exact True.intro
     | exact ⟨hl⟩
     | exact ⟨hz⟩
     | exact ⟨g4⟩
     | exact ⟨jJ⟩
     | exact ⟨oz⟩
     | exact ⟨DF⟩
     | exact ⟨c3⟩
     | exact ⟨show L.length <= 1000000 by omega⟩
     | exact ⟨show 0 + L.length <= L.length by omega⟩
     | exact ⟨show L.length * 3 <= 1099511627776 by omega⟩
     | exact ⟨show (L.length + 1) * 3 <= 1099511627776 by omega⟩
     | exact ⟨show ([] : List Wk).length <= 1000000 from Nat.zero_le _⟩
    refine ⟨Unit,fun _ => True,fun _ => ⟨aI 132 [3,4,7,8,9,10,11] [.a (.p 1 [] 0 0),.a (.p 2 [] 0 0),.a (vI (bD n P L)),.a (.p 3 [] 0 0),.a (vI (bD n P L)),.a (.v (.string (vF n P L))),.a (vI (bD n P L))],[],[.arr 46 kW L false false,.box true [vI n,vI P,.sl 0 [] 0 L.length],.box true [vI w.1,vI w.2.1,vI w.2.2],.box true [vI 0,vI 0,.v (.slice none 0 0)]]⟩,?_,key.h⟩
    repeat' ((conv => whnf);(first | apply And.intro | (intro h9;first | (have h8 : (_ : Bool) = false:=h9;exfalso;clear h8;revert h9;subst_vars;intro h9;exact R3 (h9.symm.trans (by assumption))) | (have h8 : (_ : Bool) = true:=h9;exfalso;clear h8;revert h9;subst_vars;intro h9;exact R6 (h9.symm.trans (by assumption))) | skip)))
    all_goals try (conv => whnf)
    all_goals try first
     | exact Tk.mk (by kernel_rfl)
     | exact Tk.mk (by kernel_rfl)
     | exact Tk.mk (by kernel_rfl)
     | exact Tk.mk (by kernel_rfl)
     | exact Tk.mk (by kernel_rfl)
     | exact Tk.mk (by kernel_rfl)
     | exact Tk.mk (by kernel_rfl)
     | exact ⟨Nat.le_of_ble_eq_true rfl⟩
     | exact ⟨rfl⟩
     | exact ⟨trivial⟩
    all_goals subst_vars
    all_goals try first
     | rfl
     | contradiction
     | (refine Ob.mk ?_;simp only [ag,ak,aa.ae];omega)
     | (refine Ob.mk ?_;(try simp only [aa.ae]);(try dsimp only);omega)
    all_goals try first
     | exact True.intro
     | exact ⟨hl⟩
     | exact ⟨hz⟩
     | exact ⟨g4⟩
     | exact ⟨jJ⟩
     | exact ⟨oz⟩
     | exact ⟨DF⟩
     | exact ⟨c3⟩
     | exact ⟨show L.length <= 1000000 by omega⟩
     | exact ⟨show 0 + L.length <= L.length by omega⟩
     | exact ⟨show L.length * 3 <= 1099511627776 by omega⟩
     | exact ⟨show (L.length + 1) * 3 <= 1099511627776 by omega⟩
     | exact ⟨show ([] : List Wk).length <= 1000000 from Nat.zero_le _⟩
    refine ⟨(),[0,1,2,3],trivial,?_⟩
    repeat' ((conv => whnf);(first | apply And.intro | intro _))
    all_goals first | rfl | trivial | exact Nat.le_of_ble_eq_true rfl | exact ⟨rfl,rfl,rfl⟩ | exact ⟨rfl,rfl,rfl,rfl⟩ | exact ⟨rfl,rfl⟩ | exact ⟨rfl,rfl,rfl,rfl,rfl⟩ | (rename_i bx;obtain rfl:=List.mem_singleton.1 bx;exact Nat.le_of_ble_eq_true rfl)
   obtain ⟨g1,g2,g3⟩:=ahT d1
   have g4 : (eY s).2.2.length <= 1000000:=by omega
   have ajT : (!gF (eY s).1 (eY s).2.1 (eY s).2.2 (eY s).1 (eY s).2.1 (eY s).2.2) = false:=by rw [nf];rfl
   clear g1 g2 g3
   repeat' ((conv => whnf);(first | apply And.intro | (intro h9;first | (have h8 : (_ : Bool) = false:=h9;exfalso;clear h8;revert h9;subst_vars;intro h9;exact R3 (h9.symm.trans (by assumption))) | (have h8 : (_ : Bool) = true:=h9;exfalso;clear h8;revert h9;subst_vars;intro h9;exact R6 (h9.symm.trans (by assumption))) | skip)))
   all_goals try (conv => whnf)
   all_goals try first
    | exact Tk.mk (by kernel_rfl)
    | exact Tk.mk (by kernel_rfl)
    | exact Tk.mk (by kernel_rfl)
    | exact Tk.mk (by kernel_rfl)
    | exact Tk.mk (by kernel_rfl)
    | exact Tk.mk (by kernel_rfl)
    | exact Tk.mk (by kernel_rfl)
    | exact ⟨Nat.le_of_ble_eq_true rfl⟩
    | exact ⟨rfl⟩
    | exact ⟨trivial⟩
   all_goals subst_vars
   all_goals try first
    | rfl
    | contradiction
    | (refine Ob.mk ?_;simp only [ag,ak,aa.ae];omega)
    | (refine Ob.mk ?_;(try simp only [aa.ae]);(try dsimp only);omega)
   all_goals try first
    | exact True.intro
    | exact ⟨hl⟩
    | exact ⟨hz⟩
    | exact ⟨g4⟩
    | exact ⟨jJ⟩
    | exact ⟨oz⟩
    | exact ⟨DF⟩
    | exact ⟨c3⟩
    | exact ⟨show L.length <= 1000000 by omega⟩
    | exact ⟨show 0 + L.length <= L.length by omega⟩
    | exact ⟨show L.length * 3 <= 1099511627776 by omega⟩
    | exact ⟨show (L.length + 1) * 3 <= 1099511627776 by omega⟩
    | exact ⟨show ([] : List Wk).length <= 1000000 from Nat.zero_le _⟩
   refine ⟨Unit,fun _ => True,fun _ => ⟨aI 132 [3,4,7,8,9,10,11] [.a (.p 1 [] 0 0),.a (.p 2 [] 0 0),.a (vI (bD n P L)),.a (.p 3 [] 0 0),.a (vI (bD n P L)),.a (.v (.string (vF n P L))),.a (vI (bD n P L))],[],[.arr 46 kW L false false,.box true [vI n,vI P,.sl 0 [] 0 L.length],.box true [vI w.1,vI w.2.1,vI w.2.2],.box true [vI 0,vI 0,.v (.slice none 0 0)]]⟩,?_,key.h⟩
   repeat' ((conv => whnf);(first | apply And.intro | (intro h9;first | (have h8 : (_ : Bool) = false:=h9;exfalso;clear h8;revert h9;subst_vars;intro h9;exact R3 (h9.symm.trans (by assumption))) | (have h8 : (_ : Bool) = true:=h9;exfalso;clear h8;revert h9;subst_vars;intro h9;exact R6 (h9.symm.trans (by assumption))) | skip)))
   all_goals try (conv => whnf)
   all_goals try first
    | exact Tk.mk (by kernel_rfl)
    | exact Tk.mk (by kernel_rfl)
    | exact Tk.mk (by kernel_rfl)
    | exact Tk.mk (by kernel_rfl)
    | exact Tk.mk (by kernel_rfl)
    | exact Tk.mk (by kernel_rfl)
    | exact Tk.mk (by kernel_rfl)
    | exact ⟨Nat.le_of_ble_eq_true rfl⟩
    | exact ⟨rfl⟩
    | exact ⟨trivial⟩
   all_goals subst_vars
   all_goals try first
    | rfl
    | contradiction
    | (refine Ob.mk ?_;simp only [ag,ak,aa.ae];omega)
    | (refine Ob.mk ?_;(try simp only [aa.ae]);(try dsimp only);omega)
   all_goals try first
    | exact True.intro
    | exact ⟨hl⟩
    | exact ⟨hz⟩
    | exact ⟨g4⟩
    | exact ⟨jJ⟩
    | exact ⟨oz⟩
    | exact ⟨DF⟩
    | exact ⟨c3⟩
    | exact ⟨show L.length <= 1000000 by omega⟩
    | exact ⟨show 0 + L.length <= L.length by omega⟩
    | exact ⟨show L.length * 3 <= 1099511627776 by omega⟩
    | exact ⟨show (L.length + 1) * 3 <= 1099511627776 by omega⟩
    | exact ⟨show ([] : List Wk).length <= 1000000 from Nat.zero_le _⟩
   refine ⟨(),[0,1,2,3],trivial,?_⟩
   repeat' ((conv => whnf);(first | apply And.intro | intro _))
   all_goals first | rfl | trivial | exact Nat.le_of_ble_eq_true rfl | exact ⟨rfl,rfl,rfl⟩ | exact ⟨rfl,rfl,rfl,rfl⟩ | exact ⟨rfl,rfl⟩ | exact ⟨rfl,rfl,rfl,rfl,rfl⟩ | (rename_i bx;obtain rfl:=List.mem_singleton.1 bx;exact Nat.le_of_ble_eq_true rfl)
  case b =>
   rintro ⟨⟩ -
   repeat' ((conv => whnf);(first | apply And.intro | (intro h9;first | (have h8 : (_ : Bool) = false:=h9;exfalso;clear h8;revert h9;subst_vars;intro h9;exact R3 (h9.symm.trans (by assumption))) | (have h8 : (_ : Bool) = true:=h9;exfalso;clear h8;revert h9;subst_vars;intro h9;exact R6 (h9.symm.trans (by assumption))) | skip)))
   all_goals try (conv => whnf)
   all_goals try first
    | exact Tk.mk (by kernel_rfl)
    | exact Tk.mk (by kernel_rfl)
    | exact Tk.mk (by kernel_rfl)
    | exact Tk.mk (by kernel_rfl)
    | exact Tk.mk (by kernel_rfl)
    | exact Tk.mk (by kernel_rfl)
    | exact Tk.mk (by kernel_rfl)
    | exact ⟨Nat.le_of_ble_eq_true rfl⟩
    | exact ⟨rfl⟩
    | exact ⟨trivial⟩
   all_goals subst_vars
   all_goals try first
    | rfl
    | contradiction
    | (refine Ob.mk ?_;simp only [ag,ak,aa.ae];omega)
    | (refine Ob.mk ?_;(try simp only [aa.ae]);(try dsimp only);omega)
   all_goals first
    | trivial
    | exact True.intro
    | exact ⟨hl⟩
    | exact ⟨hz⟩
    | exact ⟨g4⟩
    | exact ⟨jJ⟩
    | exact ⟨oz⟩
    | exact ⟨DF⟩
    | exact ⟨c3⟩
    | exact ⟨show L.length <= 1000000 by omega⟩
    | exact ⟨show 0 + L.length <= L.length by omega⟩
    | exact ⟨show L.length * 3 <= 1099511627776 by omega⟩
    | exact ⟨show (L.length + 1) * 3 <= 1099511627776 by omega⟩
    | exact ⟨show ([] : List Wk).length <= 1000000 from Nat.zero_le _⟩
 have c2 : (bD n P L != 0) = false:=by unfold bne;rw [c1];rfl
 have c3:=eq_of_beq c1
 have aj7 : ((vF n P L).toList == (bA (ld n P L)).toList) = true:=by rw [ahy c1];exact air _
 obtain w1 | w1 : ((bD n P (L ++ [w])) == 0) = false \/ ((bD n P (L ++ [w])) == 0) = true:=by cases ((bD n P (L ++ [w])) == 0) <;> simp
 ·have w2 : ((bD n P (L ++ [w])) != 0) = true:=by unfold bne;rw [w1];rfl
  apply ahz
  case h =>
   intro key
   obtain d1 | d1 : pB s = false \/ pB s = true:=by cases pB s <;> simp
   ·repeat' ((conv => whnf);(first | apply And.intro | (intro h9;first | (have h8 : (_ : Bool) = false:=h9;exfalso;clear h8;revert h9;subst_vars;intro h9;exact R3 (h9.symm.trans (by assumption))) | (have h8 : (_ : Bool) = true:=h9;exfalso;clear h8;revert h9;subst_vars;intro h9;exact R6 (h9.symm.trans (by assumption))) | skip)))
    all_goals try (conv => whnf)
    all_goals try first
     | exact Tk.mk (by kernel_rfl)
     | exact Tk.mk (by kernel_rfl)
     | exact Tk.mk (by kernel_rfl)
     | exact Tk.mk (by kernel_rfl)
     | exact Tk.mk (by kernel_rfl)
     | exact Tk.mk (by kernel_rfl)
     | exact Tk.mk (by kernel_rfl)
     | exact ⟨Nat.le_of_ble_eq_true rfl⟩
     | exact ⟨rfl⟩
     | exact ⟨trivial⟩
    all_goals subst_vars
    all_goals try first
     | rfl
     | contradiction
     | (refine Ob.mk ?_;simp only [ag,ak,aa.ae];omega)
     | (refine Ob.mk ?_;(try simp only [aa.ae]);(try dsimp only);omega)
    all_goals try first
     | exact True.intro
     | exact ⟨hl⟩
     | exact ⟨hz⟩
     | exact ⟨g4⟩
     | exact ⟨jJ⟩
     | exact ⟨oz⟩
     | exact ⟨DF⟩
     | exact ⟨c3⟩
     | exact ⟨show L.length <= 1000000 by omega⟩
     | exact ⟨show 0 + L.length <= L.length by omega⟩
     | exact ⟨show L.length * 3 <= 1099511627776 by omega⟩
     | exact ⟨show (L.length + 1) * 3 <= 1099511627776 by omega⟩
     | exact ⟨show ([] : List Wk).length <= 1000000 from Nat.zero_le _⟩
    refine ⟨Unit,fun _ => True,fun _ => ⟨aI 132 [3,4,7,8,9,10,11] [.a (.p 1 [] 0 0),.a (.p 2 [] 0 0),.a (vI (bD n P L)),.a (.p 3 [] 0 0),.a (vI ((bD n P (L ++ [w])))),.a (.v (.string (vF n P L))),.a (vI (bD n P L))],[],[.arr 46 kW L false false,.box true [vI n,vI P,.sl 0 [] 0 L.length],.box true [vI w.1,vI w.2.1,vI w.2.2],.box true [vI 0,vI 0,.v (.slice none 0 0)]]⟩,?_,key.h⟩
    repeat' ((conv => whnf);(first | apply And.intro | (intro h9;first | (have h8 : (_ : Bool) = false:=h9;exfalso;clear h8;revert h9;subst_vars;intro h9;exact R3 (h9.symm.trans (by assumption))) | (have h8 : (_ : Bool) = true:=h9;exfalso;clear h8;revert h9;subst_vars;intro h9;exact R6 (h9.symm.trans (by assumption))) | skip)))
    all_goals try (conv => whnf)
    all_goals try first
     | exact Tk.mk (by kernel_rfl)
     | exact Tk.mk (by kernel_rfl)
     | exact Tk.mk (by kernel_rfl)
     | exact Tk.mk (by kernel_rfl)
     | exact Tk.mk (by kernel_rfl)
     | exact Tk.mk (by kernel_rfl)
     | exact Tk.mk (by kernel_rfl)
     | exact ⟨Nat.le_of_ble_eq_true rfl⟩
     | exact ⟨rfl⟩
     | exact ⟨trivial⟩
    all_goals subst_vars
    all_goals try first
     | rfl
     | contradiction
     | (refine Ob.mk ?_;simp only [ag,ak,aa.ae];omega)
     | (refine Ob.mk ?_;(try simp only [aa.ae]);(try dsimp only);omega)
    all_goals try first
     | exact True.intro
     | exact ⟨hl⟩
     | exact ⟨hz⟩
     | exact ⟨g4⟩
     | exact ⟨jJ⟩
     | exact ⟨oz⟩
     | exact ⟨DF⟩
     | exact ⟨c3⟩
     | exact ⟨show L.length <= 1000000 by omega⟩
     | exact ⟨show 0 + L.length <= L.length by omega⟩
     | exact ⟨show L.length * 3 <= 1099511627776 by omega⟩
     | exact ⟨show (L.length + 1) * 3 <= 1099511627776 by omega⟩
     | exact ⟨show ([] : List Wk).length <= 1000000 from Nat.zero_le _⟩
    refine ⟨(),[0,1,2,3],trivial,?_⟩
    repeat' ((conv => whnf);(first | apply And.intro | intro _))
    all_goals first | rfl | trivial | exact Nat.le_of_ble_eq_true rfl | exact ⟨rfl,rfl,rfl⟩ | exact ⟨rfl,rfl,rfl,rfl⟩ | exact ⟨rfl,rfl⟩ | exact ⟨rfl,rfl,rfl,rfl,rfl⟩ | (rename_i bx;obtain rfl:=List.mem_singleton.1 bx;exact Nat.le_of_ble_eq_true rfl)
   obtain ⟨g1,g2,g3⟩:=ahT d1
   have g4 : (eY s).2.2.length <= 1000000:=by omega
   have ajT : (!gF (eY s).1 (eY s).2.1 (eY s).2.2 (eY s).1 (eY s).2.1 (eY s).2.2) = false:=by rw [nf];rfl
   clear g1 g2 g3
   repeat' ((conv => whnf);(first | apply And.intro | (intro h9;first | (have h8 : (_ : Bool) = false:=h9;exfalso;clear h8;revert h9;subst_vars;intro h9;exact R3 (h9.symm.trans (by assumption))) | (have h8 : (_ : Bool) = true:=h9;exfalso;clear h8;revert h9;subst_vars;intro h9;exact R6 (h9.symm.trans (by assumption))) | skip)))
   all_goals try (conv => whnf)
   all_goals try first
    | exact Tk.mk (by kernel_rfl)
    | exact Tk.mk (by kernel_rfl)
    | exact Tk.mk (by kernel_rfl)
    | exact Tk.mk (by kernel_rfl)
    | exact Tk.mk (by kernel_rfl)
    | exact Tk.mk (by kernel_rfl)
    | exact Tk.mk (by kernel_rfl)
    | exact ⟨Nat.le_of_ble_eq_true rfl⟩
    | exact ⟨rfl⟩
    | exact ⟨trivial⟩
   all_goals subst_vars
   all_goals try first
    | rfl
    | contradiction
    | (refine Ob.mk ?_;simp only [ag,ak,aa.ae];omega)
    | (refine Ob.mk ?_;(try simp only [aa.ae]);(try dsimp only);omega)
   all_goals try first
    | exact True.intro
    | exact ⟨hl⟩
    | exact ⟨hz⟩
    | exact ⟨g4⟩
    | exact ⟨jJ⟩
    | exact ⟨oz⟩
    | exact ⟨DF⟩
    | exact ⟨c3⟩
    | exact ⟨show L.length <= 1000000 by omega⟩
    | exact ⟨show 0 + L.length <= L.length by omega⟩
    | exact ⟨show L.length * 3 <= 1099511627776 by omega⟩
    | exact ⟨show (L.length + 1) * 3 <= 1099511627776 by omega⟩
    | exact ⟨show ([] : List Wk).length <= 1000000 from Nat.zero_le _⟩
   refine ⟨Unit,fun _ => True,fun _ => ⟨aI 132 [3,4,7,8,9,10,11] [.a (.p 1 [] 0 0),.a (.p 2 [] 0 0),.a (vI (bD n P L)),.a (.p 3 [] 0 0),.a (vI ((bD n P (L ++ [w])))),.a (.v (.string (vF n P L))),.a (vI (bD n P L))],[],[.arr 46 kW L false false,.box true [vI n,vI P,.sl 0 [] 0 L.length],.box true [vI w.1,vI w.2.1,vI w.2.2],.box true [vI 0,vI 0,.v (.slice none 0 0)]]⟩,?_,key.h⟩
   repeat' ((conv => whnf);(first | apply And.intro | (intro h9;first | (have h8 : (_ : Bool) = false:=h9;exfalso;clear h8;revert h9;subst_vars;intro h9;exact R3 (h9.symm.trans (by assumption))) | (have h8 : (_ : Bool) = true:=h9;exfalso;clear h8;revert h9;subst_vars;intro h9;exact R6 (h9.symm.trans (by assumption))) | skip)))
   all_goals try (conv => whnf)
   all_goals try first
    | exact Tk.mk (by kernel_rfl)
    | exact Tk.mk (by kernel_rfl)
    | exact Tk.mk (by kernel_rfl)
    | exact Tk.mk (by kernel_rfl)
    | exact Tk.mk (by kernel_rfl)
    | exact Tk.mk (by kernel_rfl)
    | exact Tk.mk (by kernel_rfl)
    | exact ⟨Nat.le_of_ble_eq_true rfl⟩
    | exact ⟨rfl⟩
    | exact ⟨trivial⟩
   all_goals subst_vars
   all_goals try first
    | rfl
    | contradiction
    | (refine Ob.mk ?_;simp only [ag,ak,aa.ae];omega)
    | (refine Ob.mk ?_;(try simp only [aa.ae]);(try dsimp only);omega)
   all_goals try first
    | exact True.intro
    | exact ⟨hl⟩
    | exact ⟨hz⟩
    | exact ⟨g4⟩
    | exact ⟨jJ⟩
    | exact ⟨oz⟩
    | exact ⟨DF⟩
    | exact ⟨c3⟩
    | exact ⟨show L.length <= 1000000 by omega⟩
    | exact ⟨show 0 + L.length <= L.length by omega⟩
    | exact ⟨show L.length * 3 <= 1099511627776 by omega⟩
    | exact ⟨show (L.length + 1) * 3 <= 1099511627776 by omega⟩
    | exact ⟨show ([] : List Wk).length <= 1000000 from Nat.zero_le _⟩
   refine ⟨(),[0,1,2,3],trivial,?_⟩
   repeat' ((conv => whnf);(first | apply And.intro | intro _))
   all_goals first | rfl | trivial | exact Nat.le_of_ble_eq_true rfl | exact ⟨rfl,rfl,rfl⟩ | exact ⟨rfl,rfl,rfl,rfl⟩ | exact ⟨rfl,rfl⟩ | exact ⟨rfl,rfl,rfl,rfl,rfl⟩ | (rename_i bx;obtain rfl:=List.mem_singleton.1 bx;exact Nat.le_of_ble_eq_true rfl)
  case b =>
   rintro ⟨⟩ -
   repeat' ((conv => whnf);(first | apply And.intro | (intro h9;first | (have h8 : (_ : Bool) = false:=h9;exfalso;clear h8;revert h9;subst_vars;intro h9;exact R3 (h9.symm.trans (by assumption))) | (have h8 : (_ : Bool) = true:=h9;exfalso;clear h8;revert h9;subst_vars;intro h9;exact R6 (h9.symm.trans (by assumption))) | skip)))
   all_goals try (conv => whnf)
   all_goals try first
    | exact Tk.mk (by kernel_rfl)
    | exact Tk.mk (by kernel_rfl)
    | exact Tk.mk (by kernel_rfl)
    | exact Tk.mk (by kernel_rfl)
    | exact Tk.mk (by kernel_rfl)
    | exact Tk.mk (by kernel_rfl)
    | exact Tk.mk (by kernel_rfl)
    | exact ⟨Nat.le_of_ble_eq_true rfl⟩
    | exact ⟨rfl⟩
    | exact ⟨trivial⟩
   all_goals subst_vars
   all_goals try first
    | rfl
    | contradiction
    | (refine Ob.mk ?_;simp only [ag,ak,aa.ae];omega)
    | (refine Ob.mk ?_;(try simp only [aa.ae]);(try dsimp only);omega)
   all_goals try first
    | exact True.intro
    | exact ⟨hl⟩
    | exact ⟨hz⟩
    | exact ⟨g4⟩
    | exact ⟨jJ⟩
    | exact ⟨oz⟩
    | exact ⟨DF⟩
    | exact ⟨c3⟩
    | exact ⟨show L.length <= 1000000 by omega⟩
    | exact ⟨show 0 + L.length <= L.length by omega⟩
    | exact ⟨show L.length * 3 <= 1099511627776 by omega⟩
    | exact ⟨show (L.length + 1) * 3 <= 1099511627776 by omega⟩
    | exact ⟨show ([] : List Wk).length <= 1000000 from Nat.zero_le _⟩
   refine ⟨Unit,fun _ => True,fun _ => ⟨aI 132 [3,8,9,10,11,16] [.a (.p 1 [] 0 0),.a (.p 3 [] 0 0),.a (vI ((bD n P (L ++ [w])))),.a (.v (.string (vF n P L))),.a (vI (bD n P L)),.a (.p 4 [] 0 0)],[],[.arr 46 kW L false false,.box true [vI n,vI P,.sl 0 [] 0 L.length],.box true [vI w.1,vI w.2.1,vI w.2.2],.box true [vI 0,vI 0,.v (.slice none 0 0)],.box true [vI n,vI P,.sl 5 [] 0 (L.length + 1)],.arr 46 kW (L ++ [w]) true true]⟩,?_,?_⟩
   ·repeat' ((conv => whnf);(first | apply And.intro | (intro h9;first | (have h8 : (_ : Bool) = false:=h9;exfalso;clear h8;revert h9;subst_vars;intro h9;exact R3 (h9.symm.trans (by assumption))) | (have h8 : (_ : Bool) = true:=h9;exfalso;clear h8;revert h9;subst_vars;intro h9;exact R6 (h9.symm.trans (by assumption))) | skip)))
    all_goals try (conv => whnf)
    all_goals try first
     | exact Tk.mk (by kernel_rfl)
     | exact Tk.mk (by kernel_rfl)
     | exact Tk.mk (by kernel_rfl)
     | exact Tk.mk (by kernel_rfl)
     | exact Tk.mk (by kernel_rfl)
     | exact Tk.mk (by kernel_rfl)
     | exact Tk.mk (by kernel_rfl)
     | exact ⟨Nat.le_of_ble_eq_true rfl⟩
     | exact ⟨rfl⟩
     | exact ⟨trivial⟩
    all_goals subst_vars
    all_goals try first
     | rfl
     | contradiction
     | (refine Ob.mk ?_;simp only [ag,ak,aa.ae];omega)
     | (refine Ob.mk ?_;(try simp only [aa.ae]);(try dsimp only);omega)
    all_goals try first
     | exact True.intro
     | exact ⟨hl⟩
     | exact ⟨hz⟩
     | exact ⟨g4⟩
     | exact ⟨jJ⟩
     | exact ⟨oz⟩
     | exact ⟨DF⟩
     | exact ⟨c3⟩
     | exact ⟨show L.length <= 1000000 by omega⟩
     | exact ⟨show 0 + L.length <= L.length by omega⟩
     | exact ⟨show L.length * 3 <= 1099511627776 by omega⟩
     | exact ⟨show (L.length + 1) * 3 <= 1099511627776 by omega⟩
     | exact ⟨show ([] : List Wk).length <= 1000000 from Nat.zero_le _⟩
    all_goals first
     | (refine ⟨(),[0,1,2,3,4,5],trivial,?_⟩
        repeat' ((conv => whnf);(first | apply And.intro | intro _))
        all_goals first | rfl | trivial | exact Nat.le_of_ble_eq_true rfl | exact ⟨rfl,rfl,rfl⟩ | exact ⟨rfl,rfl,rfl,rfl⟩ | exact ⟨rfl,rfl⟩ | exact ⟨rfl,rfl,rfl,rfl,rfl⟩ | (rename_i bx;obtain rfl:=List.mem_singleton.1 bx;exact Nat.le_of_ble_eq_true rfl) | exact ⟨rfl,rfl,ahR⟩ | exact (Nat.zero_add _) | exact congrArg (· + 1) (Nat.zero_add _)
        done)
     | (refine ⟨(),[0,1,2,3,4,6],trivial,?_⟩
        repeat' ((conv => whnf);(first | apply And.intro | intro _))
        all_goals first | rfl | trivial | exact Nat.le_of_ble_eq_true rfl | exact ⟨rfl,rfl,rfl⟩ | exact ⟨rfl,rfl,rfl,rfl⟩ | exact ⟨rfl,rfl⟩ | exact ⟨rfl,rfl,rfl,rfl,rfl⟩ | (rename_i bx;obtain rfl:=List.mem_singleton.1 bx;exact Nat.le_of_ble_eq_true rfl) | exact ⟨rfl,rfl,ahR⟩ | exact (Nat.zero_add _) | exact congrArg (· + 1) (Nat.zero_add _)
        done)
   rintro ⟨⟩ -
   repeat' ((conv => whnf);(first | apply And.intro | (intro h9;first | (have h8 : (_ : Bool) = false:=h9;exfalso;clear h8;revert h9;subst_vars;intro h9;exact R3 (h9.symm.trans (by assumption))) | (have h8 : (_ : Bool) = true:=h9;exfalso;clear h8;revert h9;subst_vars;intro h9;exact R6 (h9.symm.trans (by assumption))) | skip)))
   all_goals try (conv => whnf)
   all_goals try first
    | exact Tk.mk (by kernel_rfl)
    | exact Tk.mk (by kernel_rfl)
    | exact Tk.mk (by kernel_rfl)
    | exact Tk.mk (by kernel_rfl)
    | exact Tk.mk (by kernel_rfl)
    | exact Tk.mk (by kernel_rfl)
    | exact Tk.mk (by kernel_rfl)
    | exact ⟨Nat.le_of_ble_eq_true rfl⟩
    | exact ⟨rfl⟩
    | exact ⟨trivial⟩
   all_goals subst_vars
   all_goals try first
    | rfl
    | contradiction
    | (refine Ob.mk ?_;simp only [ag,ak,aa.ae];omega)
    | (refine Ob.mk ?_;(try simp only [aa.ae]);(try dsimp only);omega)
   all_goals first
    | trivial
    | exact True.intro
    | exact ⟨hl⟩
    | exact ⟨hz⟩
    | exact ⟨g4⟩
    | exact ⟨jJ⟩
    | exact ⟨oz⟩
    | exact ⟨DF⟩
    | exact ⟨c3⟩
    | exact ⟨show L.length <= 1000000 by omega⟩
    | exact ⟨show 0 + L.length <= L.length by omega⟩
    | exact ⟨show L.length * 3 <= 1099511627776 by omega⟩
    | exact ⟨show (L.length + 1) * 3 <= 1099511627776 by omega⟩
    | exact ⟨show ([] : List Wk).length <= 1000000 from Nat.zero_le _⟩
 have w2 : ((bD n P (L ++ [w])) != 0) = false:=by unfold bne;rw [w1];rfl
 have w3 : ((0 : Int) == (bD n P (L ++ [w]))) = true:=by rw [eq_of_beq w1];rfl
 apply ahz
 case h =>
  intro key
  obtain d1 | d1 : pB s = false \/ pB s = true:=by cases pB s <;> simp
  ·repeat' ((conv => whnf);(first | apply And.intro | (intro h9;first | (have h8 : (_ : Bool) = false:=h9;exfalso;clear h8;revert h9;subst_vars;intro h9;exact R3 (h9.symm.trans (by assumption))) | (have h8 : (_ : Bool) = true:=h9;exfalso;clear h8;revert h9;subst_vars;intro h9;exact R6 (h9.symm.trans (by assumption))) | skip)))
   all_goals try (conv => whnf)
   all_goals try first
    | exact Tk.mk (by kernel_rfl)
    | exact Tk.mk (by kernel_rfl)
    | exact Tk.mk (by kernel_rfl)
    | exact Tk.mk (by kernel_rfl)
    | exact Tk.mk (by kernel_rfl)
    | exact Tk.mk (by kernel_rfl)
    | exact Tk.mk (by kernel_rfl)
    | exact ⟨Nat.le_of_ble_eq_true rfl⟩
    | exact ⟨rfl⟩
    | exact ⟨trivial⟩
   all_goals subst_vars
   all_goals try first
    | rfl
    | contradiction
    | (refine Ob.mk ?_;simp only [ag,ak,aa.ae];omega)
    | (refine Ob.mk ?_;(try simp only [aa.ae]);(try dsimp only);omega)
   all_goals try first
    | exact True.intro
    | exact ⟨hl⟩
    | exact ⟨hz⟩
    | exact ⟨g4⟩
    | exact ⟨jJ⟩
    | exact ⟨oz⟩
    | exact ⟨DF⟩
    | exact ⟨c3⟩
    | exact ⟨show L.length <= 1000000 by omega⟩
    | exact ⟨show 0 + L.length <= L.length by omega⟩
    | exact ⟨show L.length * 3 <= 1099511627776 by omega⟩
    | exact ⟨show (L.length + 1) * 3 <= 1099511627776 by omega⟩
    | exact ⟨show ([] : List Wk).length <= 1000000 from Nat.zero_le _⟩
   refine ⟨Unit,fun _ => True,fun _ => ⟨aI 132 [3,4,7,8,9,10,11] [.a (.p 1 [] 0 0),.a (.p 2 [] 0 0),.a (vI (bD n P L)),.a (.p 4 [] 0 0),.a (vI (0)),.a (.v (.string (vF n P L))),.a (vI (bD n P L))],[],[.arr 46 kW L false false,.box true [vI n,vI P,.sl 0 [] 0 L.length],.box true [vI w.1,vI w.2.1,vI w.2.2],.arr 46 kW (L ++ [w]) true true,.box true [vI n,vI P,.sl 3 [] 0 (L.length + 1)]]⟩,?_,key.h⟩
   repeat' ((conv => whnf);(first | apply And.intro | (intro h9;first | (have h8 : (_ : Bool) = false:=h9;exfalso;clear h8;revert h9;subst_vars;intro h9;exact R3 (h9.symm.trans (by assumption))) | (have h8 : (_ : Bool) = true:=h9;exfalso;clear h8;revert h9;subst_vars;intro h9;exact R6 (h9.symm.trans (by assumption))) | skip)))
   all_goals try (conv => whnf)
   all_goals try first
    | exact Tk.mk (by kernel_rfl)
    | exact Tk.mk (by kernel_rfl)
    | exact Tk.mk (by kernel_rfl)
    | exact Tk.mk (by kernel_rfl)
    | exact Tk.mk (by kernel_rfl)
    | exact Tk.mk (by kernel_rfl)
    | exact Tk.mk (by kernel_rfl)
    | exact ⟨Nat.le_of_ble_eq_true rfl⟩
    | exact ⟨rfl⟩
    | exact ⟨trivial⟩
   all_goals subst_vars
   all_goals try first
    | rfl
    | contradiction
    | (refine Ob.mk ?_;simp only [ag,ak,aa.ae];omega)
    | (refine Ob.mk ?_;(try simp only [aa.ae]);(try dsimp only);omega)
   all_goals try first
    | exact True.intro
    | exact ⟨hl⟩
    | exact ⟨hz⟩
    | exact ⟨g4⟩
    | exact ⟨jJ⟩
    | exact ⟨oz⟩
    | exact ⟨DF⟩
    | exact ⟨c3⟩
    | exact ⟨show L.length <= 1000000 by omega⟩
    | exact ⟨show 0 + L.length <= L.length by omega⟩
    | exact ⟨show L.length * 3 <= 1099511627776 by omega⟩
    | exact ⟨show (L.length + 1) * 3 <= 1099511627776 by omega⟩
    | exact ⟨show ([] : List Wk).length <= 1000000 from Nat.zero_le _⟩
   refine ⟨(),[0,1,2,3,4],trivial,?_⟩
   repeat' ((conv => whnf);(first | apply And.intro | intro _))
   all_goals first | rfl | trivial | exact Nat.le_of_ble_eq_true rfl | exact ⟨rfl,rfl,rfl⟩ | exact ⟨rfl,rfl,rfl,rfl⟩ | exact ⟨rfl,rfl⟩ | exact ⟨rfl,rfl,rfl,rfl,rfl⟩ | (rename_i bx;obtain rfl:=List.mem_singleton.1 bx;exact Nat.le_of_ble_eq_true rfl)
  obtain ⟨g1,g2,g3⟩:=ahT d1
  have g4 : (eY s).2.2.length <= 1000000:=by omega
  have ajT : (!gF (eY s).1 (eY s).2.1 (eY s).2.2 (eY s).1 (eY s).2.1 (eY s).2.2) = false:=by rw [nf];rfl
  clear g1 g2 g3
  repeat' ((conv => whnf);(first | apply And.intro | (intro h9;first | (have h8 : (_ : Bool) = false:=h9;exfalso;clear h8;revert h9;subst_vars;intro h9;exact R3 (h9.symm.trans (by assumption))) | (have h8 : (_ : Bool) = true:=h9;exfalso;clear h8;revert h9;subst_vars;intro h9;exact R6 (h9.symm.trans (by assumption))) | skip)))
  all_goals try (conv => whnf)
  all_goals try first
   | exact Tk.mk (by kernel_rfl)
   | exact Tk.mk (by kernel_rfl)
   | exact Tk.mk (by kernel_rfl)
   | exact Tk.mk (by kernel_rfl)
   | exact Tk.mk (by kernel_rfl)
   | exact Tk.mk (by kernel_rfl)
   | exact Tk.mk (by kernel_rfl)
   | exact ⟨Nat.le_of_ble_eq_true rfl⟩
   | exact ⟨rfl⟩
   | exact ⟨trivial⟩
  all_goals subst_vars
  all_goals try first
   | rfl
   | contradiction
   | (refine Ob.mk ?_;simp only [ag,ak,aa.ae];omega)
   | (refine Ob.mk ?_;(try simp only [aa.ae]);(try dsimp only);omega)
  all_goals try first
   | exact True.intro
   | exact ⟨hl⟩
   | exact ⟨hz⟩
   | exact ⟨g4⟩
   | exact ⟨jJ⟩
   | exact ⟨oz⟩
   | exact ⟨DF⟩
   | exact ⟨c3⟩
   | exact ⟨show L.length <= 1000000 by omega⟩
   | exact ⟨show 0 + L.length <= L.length by omega⟩
   | exact ⟨show L.length * 3 <= 1099511627776 by omega⟩
   | exact ⟨show (L.length + 1) * 3 <= 1099511627776 by omega⟩
   | exact ⟨show ([] : List Wk).length <= 1000000 from Nat.zero_le _⟩
  refine ⟨Unit,fun _ => True,fun _ => ⟨aI 132 [3,4,7,8,9,10,11] [.a (.p 1 [] 0 0),.a (.p 2 [] 0 0),.a (vI (bD n P L)),.a (.p 4 [] 0 0),.a (vI (0)),.a (.v (.string (vF n P L))),.a (vI (bD n P L))],[],[.arr 46 kW L false false,.box true [vI n,vI P,.sl 0 [] 0 L.length],.box true [vI w.1,vI w.2.1,vI w.2.2],.arr 46 kW (L ++ [w]) true true,.box true [vI n,vI P,.sl 3 [] 0 (L.length + 1)]]⟩,?_,key.h⟩
  repeat' ((conv => whnf);(first | apply And.intro | (intro h9;first | (have h8 : (_ : Bool) = false:=h9;exfalso;clear h8;revert h9;subst_vars;intro h9;exact R3 (h9.symm.trans (by assumption))) | (have h8 : (_ : Bool) = true:=h9;exfalso;clear h8;revert h9;subst_vars;intro h9;exact R6 (h9.symm.trans (by assumption))) | skip)))
  all_goals try (conv => whnf)
  all_goals try first
   | exact Tk.mk (by kernel_rfl)
   | exact Tk.mk (by kernel_rfl)
   | exact Tk.mk (by kernel_rfl)
   | exact Tk.mk (by kernel_rfl)
   | exact Tk.mk (by kernel_rfl)
   | exact Tk.mk (by kernel_rfl)
   | exact Tk.mk (by kernel_rfl)
   | exact ⟨Nat.le_of_ble_eq_true rfl⟩
   | exact ⟨rfl⟩
   | exact ⟨trivial⟩
  all_goals subst_vars
  all_goals try first
   | rfl
   | contradiction
   | (refine Ob.mk ?_;simp only [ag,ak,aa.ae];omega)
   | (refine Ob.mk ?_;(try simp only [aa.ae]);(try dsimp only);omega)
  all_goals try first
   | exact True.intro
   | exact ⟨hl⟩
   | exact ⟨hz⟩
   | exact ⟨g4⟩
   | exact ⟨jJ⟩
   | exact ⟨oz⟩
   | exact ⟨DF⟩
   | exact ⟨c3⟩
   | exact ⟨show L.length <= 1000000 by omega⟩
   | exact ⟨show 0 + L.length <= L.length by omega⟩
   | exact ⟨show L.length * 3 <= 1099511627776 by omega⟩
   | exact ⟨show (L.length + 1) * 3 <= 1099511627776 by omega⟩
   | exact ⟨show ([] : List Wk).length <= 1000000 from Nat.zero_le _⟩
  refine ⟨(),[0,1,2,3,4],trivial,?_⟩
  repeat' ((conv => whnf);(first | apply And.intro | intro _))
  all_goals first | rfl | trivial | exact Nat.le_of_ble_eq_true rfl | exact ⟨rfl,rfl,rfl⟩ | exact ⟨rfl,rfl,rfl,rfl⟩ | exact ⟨rfl,rfl⟩ | exact ⟨rfl,rfl,rfl,rfl,rfl⟩ | (rename_i bx;obtain rfl:=List.mem_singleton.1 bx;exact Nat.le_of_ble_eq_true rfl)
 case b =>
  rintro ⟨⟩ -
  repeat' ((conv => whnf);(first | apply And.intro | (intro h9;first | (have h8 : (_ : Bool) = false:=h9;exfalso;clear h8;revert h9;subst_vars;intro h9;exact R3 (h9.symm.trans (by assumption))) | (have h8 : (_ : Bool) = true:=h9;exfalso;clear h8;revert h9;subst_vars;intro h9;exact R6 (h9.symm.trans (by assumption))) | skip)))
  all_goals try (conv => whnf)
  all_goals try first
   | exact Tk.mk (by kernel_rfl)
   | exact Tk.mk (by kernel_rfl)
   | exact Tk.mk (by kernel_rfl)
   | exact Tk.mk (by kernel_rfl)
   | exact Tk.mk (by kernel_rfl)
   | exact Tk.mk (by kernel_rfl)
   | exact Tk.mk (by kernel_rfl)
   | exact ⟨Nat.le_of_ble_eq_true rfl⟩
   | exact ⟨rfl⟩
   | exact ⟨trivial⟩
  all_goals subst_vars
  all_goals try first
   | rfl
   | contradiction
   | (refine Ob.mk ?_;simp only [ag,ak,aa.ae];omega)
   | (refine Ob.mk ?_;(try simp only [aa.ae]);(try dsimp only);omega)
  all_goals try first
   | exact True.intro
   | exact ⟨hl⟩
   | exact ⟨hz⟩
   | exact ⟨g4⟩
   | exact ⟨jJ⟩
   | exact ⟨oz⟩
   | exact ⟨DF⟩
   | exact ⟨c3⟩
   | exact ⟨show L.length <= 1000000 by omega⟩
   | exact ⟨show 0 + L.length <= L.length by omega⟩
   | exact ⟨show L.length * 3 <= 1099511627776 by omega⟩
   | exact ⟨show (L.length + 1) * 3 <= 1099511627776 by omega⟩
   | exact ⟨show ([] : List Wk).length <= 1000000 from Nat.zero_le _⟩
  refine ⟨Unit,fun _ => True,fun _ => ⟨aI 132 [3,8,9,10,11,16] [.a (.p 1 [] 0 0),.a (.p 4 [] 0 0),.a (vI (0)),.a (.v (.string (vF n P L))),.a (vI (bD n P L)),.a (.p 5 [] 0 0)],[],[.arr 46 kW L false false,.box true [vI n,vI P,.sl 0 [] 0 L.length],.box true [vI w.1,vI w.2.1,vI w.2.2],.arr 46 kW (L ++ [w]) true true,.box true [vI n,vI P,.sl 3 [] 0 (L.length + 1)],.box true [vI n,vI P,.sl 6 [] 0 (L.length + 1)],.arr 46 kW (L ++ [w]) true true]⟩,?_,?_⟩
  ·repeat' ((conv => whnf);(first | apply And.intro | (intro h9;first | (have h8 : (_ : Bool) = false:=h9;exfalso;clear h8;revert h9;subst_vars;intro h9;exact R3 (h9.symm.trans (by assumption))) | (have h8 : (_ : Bool) = true:=h9;exfalso;clear h8;revert h9;subst_vars;intro h9;exact R6 (h9.symm.trans (by assumption))) | skip)))
   all_goals try (conv => whnf)
   all_goals try first
    | exact Tk.mk (by kernel_rfl)
    | exact Tk.mk (by kernel_rfl)
    | exact Tk.mk (by kernel_rfl)
    | exact Tk.mk (by kernel_rfl)
    | exact Tk.mk (by kernel_rfl)
    | exact Tk.mk (by kernel_rfl)
    | exact Tk.mk (by kernel_rfl)
    | exact ⟨Nat.le_of_ble_eq_true rfl⟩
    | exact ⟨rfl⟩
    | exact ⟨trivial⟩
   all_goals subst_vars
   all_goals try first
    | rfl
    | contradiction
    | (refine Ob.mk ?_;simp only [ag,ak,aa.ae];omega)
    | (refine Ob.mk ?_;(try simp only [aa.ae]);(try dsimp only);omega)
   all_goals try first
    | exact True.intro
    | exact ⟨hl⟩
    | exact ⟨hz⟩
    | exact ⟨g4⟩
    | exact ⟨jJ⟩
    | exact ⟨oz⟩
    | exact ⟨DF⟩
    | exact ⟨c3⟩
    | exact ⟨show L.length <= 1000000 by omega⟩
    | exact ⟨show 0 + L.length <= L.length by omega⟩
    | exact ⟨show L.length * 3 <= 1099511627776 by omega⟩
    | exact ⟨show (L.length + 1) * 3 <= 1099511627776 by omega⟩
    | exact ⟨show ([] : List Wk).length <= 1000000 from Nat.zero_le _⟩
   all_goals first
    | (refine ⟨(),[0,1,2,3,4,5,6],trivial,?_⟩
       repeat' ((conv => whnf);(first | apply And.intro | intro _))
       all_goals first | rfl | trivial | exact Nat.le_of_ble_eq_true rfl | exact ⟨rfl,rfl,rfl⟩ | exact ⟨rfl,rfl,rfl,rfl⟩ | exact ⟨rfl,rfl⟩ | exact ⟨rfl,rfl,rfl,rfl,rfl⟩ | (rename_i bx;obtain rfl:=List.mem_singleton.1 bx;exact Nat.le_of_ble_eq_true rfl) | exact ⟨rfl,rfl,ahR⟩ | exact (Nat.zero_add _) | exact congrArg (· + 1) (Nat.zero_add _)
       done)
    | (refine ⟨(),[0,1,2,3,4,5,7],trivial,?_⟩
       repeat' ((conv => whnf);(first | apply And.intro | intro _))
       all_goals first | rfl | trivial | exact Nat.le_of_ble_eq_true rfl | exact ⟨rfl,rfl,rfl⟩ | exact ⟨rfl,rfl,rfl,rfl⟩ | exact ⟨rfl,rfl⟩ | exact ⟨rfl,rfl,rfl,rfl,rfl⟩ | (rename_i bx;obtain rfl:=List.mem_singleton.1 bx;exact Nat.le_of_ble_eq_true rfl) | exact ⟨rfl,rfl,ahR⟩ | exact (Nat.zero_add _) | exact congrArg (· + 1) (Nat.zero_add _)
       done)
  rintro ⟨⟩ -
  repeat' ((conv => whnf);(first | apply And.intro | (intro h9;first | (have h8 : (_ : Bool) = false:=h9;exfalso;clear h8;revert h9;subst_vars;intro h9;exact R3 (h9.symm.trans (by assumption))) | (have h8 : (_ : Bool) = true:=h9;exfalso;clear h8;revert h9;subst_vars;intro h9;exact R6 (h9.symm.trans (by assumption))) | skip)))
  all_goals try (conv => whnf)
  all_goals try first
   | exact Tk.mk (by kernel_rfl)
   | exact Tk.mk (by kernel_rfl)
   | exact Tk.mk (by kernel_rfl)
   | exact Tk.mk (by kernel_rfl)
   | exact Tk.mk (by kernel_rfl)
   | exact Tk.mk (by kernel_rfl)
   | exact Tk.mk (by kernel_rfl)
   | exact ⟨Nat.le_of_ble_eq_true rfl⟩
   | exact ⟨rfl⟩
   | exact ⟨trivial⟩
  all_goals subst_vars
  all_goals try first
   | rfl
   | contradiction
   | (refine Ob.mk ?_;simp only [ag,ak,aa.ae];omega)
   | (refine Ob.mk ?_;(try simp only [aa.ae]);(try dsimp only);omega)
  all_goals first
   | trivial
   | exact True.intro
   | exact ⟨hl⟩
   | exact ⟨hz⟩
   | exact ⟨g4⟩
   | exact ⟨jJ⟩
   | exact ⟨oz⟩
   | exact ⟨DF⟩
   | exact ⟨c3⟩
   | exact ⟨show L.length <= 1000000 by omega⟩
   | exact ⟨show 0 + L.length <= L.length by omega⟩
   | exact ⟨show L.length * 3 <= 1099511627776 by omega⟩
   | exact ⟨show (L.length + 1) * 3 <= 1099511627776 by omega⟩
   | exact ⟨show ([] : List Wk).length <= 1000000 from Nat.zero_le _⟩)
end Go.Proofs.YthejmgnkenokpaaGreatDoor
end
