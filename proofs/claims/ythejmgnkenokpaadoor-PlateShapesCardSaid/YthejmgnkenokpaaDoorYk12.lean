/-
  Texts of the claims on chapter 3: Yk12. No condition: lemmas and contracts.
-/
import Derived.Test.YthejmgnkenokpaaDoorYk4
import Derived.Test.YthejmgnkenokpaaDoorYk9
import Derived.Test.YthejmgnkenokpaaDoorYk11
set_option linter.all false
set_option maxRecDepth 100000
set_option maxHeartbeats 4000000
section
namespace Go.Proofs.YthejmgnkenokpaaDoor
open Go Go.Sy Go.bK
variable {Γ : bn}
def eW (n : Int) (G : List Sg) : Int:=match dL G with | true => ((eR (cI n G (n * n).toNat) (cN n G (n * n).toNat) (cI n G (n * n).toNat).length).length : Int) | false => ((eR (cI n G (n * n).toNat) (cN n G (n * n).toNat) (cI n G (n * n).toNat).length).length : Int) - 1
theorem aaB {n : Int} {G : List Sg} : aJ n G = cI n G (n * n).toNat:=by
 unfold aJ cI ay
 refine List.map_congr_left fun y hy => ?_
 rw [if_pos (List.mem_range.1 hy)]
theorem aaC {n : Int} {G : List Sg} (hG : gH G) (hn : bz n) : aU n G = cN n G (n * n).toNat:=by
 unfold aU cN ay
 refine List.map_congr_left fun y hy => ?_
 have hy:=List.mem_range.1 hy
 rw [if_pos hy]
 exact LS hG hn ((ic hn).2 ⟨y,hy,rfl⟩)
theorem n4 {n : Int} {G : List Sg} (hG : gH G) (hn : bz n) : eW n G = zb n G:=by
 rw [<- Ax hG hn]
 unfold eW lP qD
 rw [aaB,aaC hG hn]
 cases dL G <;> rfl
def ej : au:=xL (fun n P L p => [(aa.of (dY P L = true)),(aa.of (P <= 6)),(aa.of (L.length <= 1000000)),(aa.of (0 <= p /\ p <= P - 1)),(aa.of (1 <= n /\ n <= 6))]) (fun n _ L p => .a (vI (eW n (af L p))))
noncomputable def abd : List (Nat × au):=[(22,kx),(21,ei),(26,aaF),(63,ya)]
theorem aaD : aR Tryd.prog Γ abd:=((((aR.nil.cons (aj Tryd.func63 rfl rfl).fn aaz).cons (aj Tryd.func26 rfl rfl).fn aaG).cons (aj Tryd.func21 rfl rfl).fn acE).cons (aj Tryd.func22 rfl rfl).fn k8)
attribute [local irreducible] af cI cN eR eW
theorem kv : au.Ok Tryd.prog Γ 23 ej:=mG (d:=0) (aP aaD bq.nil false 0) (aj Tryd.func23 rfl rfl) (fun _ _ _ _ => rfl) (by
 intro n P L p ⟨hw,hP,hl,hp,hn,_⟩
 simp only [aa.ae] at hw hP hl hp hn
 have hG:=nK (cW.1 hw) hP hp
 have hgo : ∀ g ∈ (af L p),0 <= g.1 /\ g.1 <= 7:=hG.ok
 have dZ:=fj L p
 have j4 : 1 <= n * n /\ n * n <= 36:=sJ hn
 have l1:=tx n (af L p) (n * n).toNat
 have l2:=u5 n (af L p) (n * n).toNat
 have l3 : (cI n (af L p) (n * n).toNat).length = (cN n (af L p) (n * n).toNat).length:=l1.trans l2.symm
 have aag:=r9 (cI n (af L p) (n * n).toNat) (cN n (af L p) (n * n).toNat) (cI n (af L p) (n * n).toNat).length
 obtain m1 | m1 : dL (af L p) = true \/ dL (af L p) = false:=by cases dL (af L p) <;> simp
 ·have m2 : (!dL (af L p)) = false:=by rw [m1];rfl
  rw [show eW n (af L p) = ((eR (cI n (af L p) (n * n).toNat) (cN n (af L p) (n * n).toNat) (cI n (af L p) (n * n).toNat).length).length : Int) by unfold eW;rw [m1]]
  repeat' ((conv => whnf);first | apply And.intro | (intro h9;try (have h8 : (_ : Bool) = _:=h9;clear h8;revert h9;subst_vars;intro h9;exact aq h9 (by assumption))))
  all_goals try (conv => whnf)
  all_goals try first | (apply Tk.mk <;> kernel_rfl) | exact ⟨ah rfl⟩ | exact ⟨rfl⟩ | exact ⟨trivial⟩
  all_goals subst_vars
  all_goals try first | rfl | contradiction | (apply Ob.mk;first | (simp only [ag,ak,aa.ae];omega) | ((try simp only [aa.ae]);(try dsimp only);omega))
  all_goals first
   | exact ⟨hw⟩
   | exact ⟨hl⟩
   | exact ⟨hgo⟩
   | exact ⟨l3⟩
   | exact ⟨show (af L p).length <= 1000000 by omega⟩
   | exact ⟨show (cI n (af L p) (n * n).toNat).length <= 1000000 by omega⟩
 have m2 : (!dL (af L p)) = true:=by rw [m1];rfl
 rw [show eW n (af L p) = ((eR (cI n (af L p) (n * n).toNat) (cN n (af L p) (n * n).toNat) (cI n (af L p) (n * n).toNat).length).length : Int) - 1 by unfold eW;rw [m1]]
 repeat' ((conv => whnf);first | apply And.intro | (intro h9;try (have h8 : (_ : Bool) = _:=h9;clear h8;revert h9;subst_vars;intro h9;exact aq h9 (by assumption))))
 all_goals try (conv => whnf)
 all_goals try first | (apply Tk.mk <;> kernel_rfl) | exact ⟨ah rfl⟩ | exact ⟨rfl⟩ | exact ⟨trivial⟩
 all_goals subst_vars
 all_goals try first | rfl | contradiction | (apply Ob.mk;first | (simp only [ag,ak,aa.ae];omega) | ((try simp only [aa.ae]);(try dsimp only);omega))
 all_goals first
  | exact ⟨show (ag .i64 (((eR (cI n (af L p) (n * n).toNat) (cN n (af L p) (n * n).toNat) (cI n (af L p) (n * n).toNat).length).length : Int) - 1)).p by show ak .i64 _;unfold ak;omega⟩
  | exact ⟨hw⟩
  | exact ⟨hl⟩
  | exact ⟨hgo⟩
  | exact ⟨l3⟩
  | exact ⟨show (af L p).length <= 1000000 by omega⟩
  | exact ⟨show (cI n (af L p) (n * n).toNat).length <= 1000000 by omega⟩)
def tj : au:=xL (fun _ _ _ _ => []) (fun _ _ _ _ => bl true)
noncomputable def abb : List (Nat × au):=[(15,Df),(17,yc),(18,ZZ),(19,F9),(20,uD),(22,kx),(21,ei),(23,ej),(24,uA),(16,tC)]
theorem aa5 : aR Tryd.prog Γ abb:=((((((((((aR.nil.cons (aj Tryd.func16 rfl rfl).fn sW).cons (aj Tryd.func24 rfl rfl).fn yG).cons (aj Tryd.func23 rfl rfl).fn kv).cons (aj Tryd.func21 rfl rfl).fn acE).cons (aj Tryd.func22 rfl rfl).fn k8).cons (aj Tryd.func20 rfl rfl).fn yH).cons (aj Tryd.func19 rfl rfl).fn Ga).cons (aj Tryd.func18 rfl rfl).fn zI).cons (aj Tryd.func17 rfl rfl).fn AX).cons (aj Tryd.func15 rfl rfl).fn EJ)
def abm (id : Nat) : Option OT:=match Nat.beq id 9 with | true => some (.take 0 (.take 3 (.alt 1 (.alt 2 (.alt 4 (.alt 5 (.alt 6 (.alt 7 .fin .fin) .fin) (.alt 6 (.alt 5 (.alt 7 .fin .fin) .fin) .fin)) (.alt 6 (.alt 4 (.alt 5 (.alt 7 .fin .fin) .fin) .fin) .fin)) (.alt 6 (.alt 2 (.alt 4 (.alt 5 (.alt 7 .fin .fin) .fin) .fin) .fin) .fin)) (.alt 2 (.alt 1 (.alt 4 (.alt 5 (.alt 6 (.alt 7 .fin .fin) .fin) (.alt 6 (.alt 5 (.alt 7 .fin .fin) .fin) .fin)) (.alt 6 (.alt 4 (.alt 5 (.alt 7 .fin .fin) .fin) .fin) .fin)) (.alt 4 (.alt 1 (.alt 5 (.alt 6 (.alt 7 .fin .fin) .fin) (.alt 6 (.alt 5 (.alt 7 .fin .fin) .fin) .fin)) (.alt 6 (.alt 1 (.alt 5 (.alt 7 .fin .fin) .fin) .fin) .fin)) (.alt 6 (.alt 1 (.alt 4 (.alt 5 (.alt 7 .fin .fin) .fin) .fin) (.alt 4 (.alt 1 (.alt 5 (.alt 7 .fin .fin) .fin) .fin) .fin)) .fin))) (.alt 6 (.alt 1 (.alt 2 (.alt 4 (.alt 5 (.alt 7 .fin .fin) .fin) .fin) .fin) (.alt 2 (.alt 1 (.alt 4 (.alt 5 (.alt 7 .fin .fin) .fin) .fin) (.alt 4 (.alt 1 (.alt 5 (.alt 7 .fin .fin) .fin) .fin) .fin)) .fin)) .fin))))) | false => none
noncomputable def abf : Env:={ jV.env abb [] false 0 with tree:=abm }
noncomputable def abl : Env:={ abf with cut:=fun t => Nat.beq t 2009 }
theorem aaR : aL Tryd.prog Γ abl:=((aP aa5 bq.nil false 0).vU _).wy _
attribute [local irreducible] bf o6 pb aJ aU
theorem mj : au.Ok Tryd.prog Γ 3 tj:=mG (d:=0) aaR (aj Tryd.func3 rfl rfl) (fun _ _ _ _ => rfl) (by
 intro n P L p _
 obtain h0 | h0 : decide ((L.length : Int) <= 20) = false \/ decide ((L.length : Int) <= 20) = true:=by cases decide ((L.length : Int) <= 20) <;> simp
 ·have n0 : (!decide ((L.length : Int) <= 20)) = true:=by rw [h0];rfl
  repeat' ((conv => whnf);first | apply And.intro | (intro h9;try (have h8 : (_ : Bool) = _:=h9;clear h8;revert h9;subst_vars;intro h9;exact aq h9 (by assumption))))
  all_goals try (conv => whnf)
  all_goals try first | (apply Tk.mk <;> kernel_rfl) | exact ⟨ah rfl⟩ | exact ⟨rfl⟩ | exact ⟨trivial⟩
  all_goals subst_vars
  all_goals try first | rfl | contradiction | (apply Ob.mk;first | (simp only [ag,ak,aa.ae];omega) | ((try simp only [aa.ae]);(try dsimp only);omega))
 have n0 : (!decide ((L.length : Int) <= 20)) = false:=by rw [h0];rfl
 have ZX:=of_decide_eq_true h0
 have hl : L.length <= 1000000:=by omega
 have s0 : (bf n P L p == bf n P L p) = true:=beq_self_eq_true _
 obtain q1 | q1 : (bf n P L p == 0) = false \/ (bf n P L p == 0) = true:=by cases bf n P L p == 0 <;> simp
 ·have q2 : (bf n P L p != 0) = true:=by unfold bne;rw [q1];rfl
  have f1 : pb n P L p = 0:=by unfold pb;rw [q1]
  have f2 : (!o6 n P L p) = true:=by unfold o6;rw [q1];rfl
  have f3 : ((0 : Int) + 0 + pb n P L p == 0) = true:=by rw [f1];rfl
  have o3 : (ag .i64 ((0 : Int) + 0 + pb n P L p)).p:=by rw [f1];show ak .i64 _;unfold ak;omega
  clear f1
  repeat' ((conv => whnf);first | apply And.intro | (intro h9;try (have h8 : (_ : Bool) = _:=h9;clear h8;revert h9;subst_vars;intro h9;exact aq h9 (by assumption))))
  all_goals try (conv => whnf)
  all_goals try first | (apply Tk.mk <;> kernel_rfl) | exact ⟨ah rfl⟩ | exact ⟨rfl⟩ | exact ⟨trivial⟩
  all_goals subst_vars
  all_goals try first | rfl | contradiction | (apply Ob.mk;first | (simp only [ag,ak,aa.ae];omega) | ((try simp only [aa.ae]);(try dsimp only);omega))
  all_goals first
   | trivial
   | exact ⟨hl⟩
   | exact ⟨o3⟩
 have q2 : (bf n P L p != 0) = false:=by unfold bne;rw [q1];rfl
 obtain ⟨hw,hP,hp,hn⟩:=gg (eq_of_beq q1)
 have hc:=Xd (eq_of_beq q1)
 have hG:=nK (cW.1 hw) hP hp
 have hgo : ∀ g ∈ (af L p),0 <= g.1 /\ g.1 <= 7:=hG.ok
 have dZ:=fj L p
 have j4 : 1 <= n * n /\ n * n <= 36:=sJ hn
 have l1:=tx n (af L p) (n * n).toNat
 have l2:=u5 n (af L p) (n * n).toNat
 have VF : (aJ n (af L p)).length = (n * n).toNat:=by rw [aaB];exact l1
 have VG : (aU n (af L p)).length = (n * n).toNat:=by rw [aaC hG hn];exact l2
 have e1 : (aJ n (af L p) == (cI n (af L p) (n * n).toNat)) = true:=by rw [aaB];exact beq_self_eq_true _
 have e2 : (aU n (af L p) == (cN n (af L p) (n * n).toNat)) = true:=by rw [aaC hG hn];exact beq_self_eq_true _
 have e3 : (pb n P L p == eW n (af L p)) = true:=by rw [Ut hc hp,n4 hG hn];exact beq_self_eq_true _
 have e4 : (o6 n P L p == (eW n (af L p) == 0)) = true:=by rw [Te hc hp,n4 hG hn];simp
 repeat' ((conv => whnf);first | apply And.intro | (intro h9;try (have h8 : (_ : Bool) = _:=h9;clear h8;revert h9;subst_vars;intro h9;exact aq h9 (by assumption))))
 all_goals try (conv => whnf)
 all_goals try first | (apply Tk.mk <;> kernel_rfl) | exact ⟨ah rfl⟩ | exact ⟨rfl⟩ | exact ⟨trivial⟩
 all_goals subst_vars
 all_goals try first | rfl | contradiction | (apply Ob.mk;first | (simp only [ag,ak,aa.ae];omega) | ((try simp only [aa.ae]);(try dsimp only);omega))
 all_goals try first
  | exact ⟨hl⟩
 refine ⟨Unit,fun _ => True,fun _ => ⟨aI 118 [1,2,5,6,7,8,9,10,11,13] [.a (vI p),.a (.p 1 [] 0 0),.a (.sl 2 [] 0 (n * n).toNat),.a (.sl 3 [] 0 (n * n).toNat),.a (vI 0),.a (vI (pb n P L p)),.a (vI (bf n P L p)),.a (.v (.bool (o6 n P L p))),.a (vI (bf n P L p)),.a (.p 6 [] 0 0)],[],[.arr 60 kW L false false,.box true [vI n,vI P,.sl 0 [] 0 L.length],.arr 3 kI (aJ n (af L p)) true true,.arr 3 kI (aU n (af L p)) true true,.arr 3 kI (cI n (af L p) (n * n).toNat) true true,.arr 3 kI (cN n (af L p) (n * n).toNat) true true,.box true [.sl 4 [] 0 (cI n (af L p) (n * n).toNat).length,.sl 5 [] 0 (cN n (af L p) (n * n).toNat).length]]⟩,?_,?_⟩
 ·repeat' ((conv => whnf);first | apply And.intro | (intro h9;try (have h8 : (_ : Bool) = _:=h9;clear h8;revert h9;subst_vars;intro h9;exact aq h9 (by assumption))))
  all_goals try (conv => whnf)
  all_goals try first | (apply Tk.mk <;> kernel_rfl) | exact ⟨ah rfl⟩ | exact ⟨rfl⟩ | exact ⟨trivial⟩
  all_goals subst_vars
  all_goals try first | rfl | contradiction | (apply Ob.mk;first | (simp only [ag,ak,aa.ae];omega) | ((try simp only [aa.ae]);(try dsimp only);omega))
  all_goals try first
   | exact True.intro
   | exact ⟨hw⟩
   | exact ⟨hl⟩
   | exact ⟨hgo⟩
   | exact ⟨show (af L p).length <= 1000000 by omega⟩
  all_goals first
   | (refine ⟨(),[0,1,2,3,6,7,4],trivial,?_⟩
      repeat' ((conv => whnf);(first | apply And.intro | intro _))
      all_goals first | rfl | trivial | exact ah rfl | exact aS ‹_› rfl | exact aT ‹_› rfl | ((repeat' first | rfl | constructor);done)
      done)
   | (refine ⟨(),[0,1,2,3,6,7,5],trivial,?_⟩
      repeat' ((conv => whnf);(first | apply And.intro | intro _))
      all_goals first | rfl | trivial | exact ah rfl | exact aS ‹_› rfl | exact aT ‹_› rfl | ((repeat' first | rfl | constructor);done)
      done)
   | (refine ⟨(),[0,1,2,3,5,6,7],trivial,?_⟩
      repeat' ((conv => whnf);(first | apply And.intro | intro _))
      all_goals first | rfl | trivial | exact ah rfl | exact aS ‹_› rfl | exact aT ‹_› rfl | ((repeat' first | rfl | constructor);done)
      done)
 rintro ⟨⟩ -
 repeat' ((conv => whnf);first | apply And.intro | (intro h9;try (have h8 : (_ : Bool) = _:=h9;clear h8;revert h9;subst_vars;intro h9;exact aq h9 (by assumption))))
 all_goals try (conv => whnf)
 all_goals try first | (apply Tk.mk <;> kernel_rfl) | exact ⟨ah rfl⟩ | exact ⟨rfl⟩ | exact ⟨trivial⟩
 all_goals subst_vars
 all_goals try first | rfl | contradiction | (apply Ob.mk;first | (simp only [ag,ak,aa.ae];omega) | ((try simp only [aa.ae]);(try dsimp only);omega))
 all_goals first
  | trivial
  | exact ⟨hw⟩
  | exact ⟨hl⟩
  | exact ⟨VF.symm⟩
  | exact ⟨VG.symm⟩
  | exact ⟨show (aJ n (af L p)).length <= 1000000 by omega⟩
  | exact ⟨show (aU n (af L p)).length <= 1000000 by omega⟩
  | exact ⟨show (cI n (af L p) (n * n).toNat).length <= 1000000 by omega⟩
  | exact ⟨show (cN n (af L p) (n * n).toNat).length <= 1000000 by omega⟩)
end Go.Proofs.YthejmgnkenokpaaDoor
end
