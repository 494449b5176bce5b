/-
  Texts of the claims on chapter 3: Yk11. No condition: lemmas and contracts.
-/
import Derived.Test.YthejmgnkenokpaaGreatDoorYk10
import Derived.Test.YthejmgnkenokpaaGreatDoorYk2
import Derived.Test.YthejmgnkenokpaaGreatDoorPl1
import Derived.Test.YthejmgnkenokpaaGreatDoorYk4
import Derived.Test.YthejmgnkenokpaaGreatDoorYk3
import Derived.Test.YthejmgnkenokpaaGreatDoorQ21
import Derived.Test.YthejmgnkenokpaaGreatDoorYk6
import Derived.Test.YthejmgnkenokpaaGreatDoorYk7
import Derived.Test.YthejmgnkenokpaaGreatDoorYk1
import Derived.Test.YthejmgnkenokpaaGreatDoorQ20
import Derived.Test.YthejmgnkenokpaaGreatDoorYk5
set_option linter.all false
set_option maxRecDepth 100000
set_option maxHeartbeats 4000000
section
namespace Go.Proofs.YthejmgnkenokpaaGreatDoor
open Go Go.Sy Go.bK
variable {Γ : bn}
attribute [local irreducible] bD aQ
end Go.Proofs.YthejmgnkenokpaaGreatDoor
end
section
namespace Go.Proofs.YthejmgnkenokpaaGreatDoor
open Go Go.Sy Go.bK
variable {Γ : bn}
def Df : au:=fS (fun _ _ L => [(aa.of (True))]) (fun _ _ L => bl (decide ((L.length : Int) <= 20)))
theorem EJ : au.Ok Tryz.prog Γ 8 Df:=za (d:=0) (aP aR.nil bq.nil false 0) (aj Tryz.func8 rfl rfl) (fun _ _ _ => rfl) (by
 intro n P L _
 repeat' ((conv => whnf);first | apply And.intro | (intro h9;try (have h8 : (_ : Bool) = _:=h9;clear h8;revert h9;subst_vars;intro h9;exact aq h9 (by assumption))))
 all_goals try (conv => whnf)
 all_goals try first | (apply Tk.mk <;> kernel_rfl) | exact ⟨ah rfl⟩ | exact ⟨rfl⟩ | exact ⟨trivial⟩
 all_goals subst_vars
 all_goals try first | rfl | contradiction | (apply Ob.mk;first | (simp only [ag,ak,aa.ae];omega) | ((try simp only [aa.ae]);(try dsimp only);omega)))
attribute [local irreducible] bf dc cK bj
end Go.Proofs.YthejmgnkenokpaaGreatDoor
end
section
namespace Go.Proofs.YthejmgnkenokpaaGreatDoor
open Go Go.Sy Go.bK
variable {Γ : bn}
attribute [local irreducible] bD bf o6 pb af
end Go.Proofs.YthejmgnkenokpaaGreatDoor
end
section
namespace Go.Proofs.YthejmgnkenokpaaGreatDoor
open Go Go.Sy Go.bK
variable {Γ : bn}
theorem VI {a b : Int} (h : a = b) : (a != b) = false:=by rw [h];exact bne_self_eq_false _
attribute [local irreducible] bD bf af ag5 aY aQ
end Go.Proofs.YthejmgnkenokpaaGreatDoor
end
section
namespace Go.Proofs.YthejmgnkenokpaaGreatDoor
open Go Go.Sy Go.bK
variable {Γ : bn}
def eW (n : Int) (G : List Sg) : Int:=match dL G with | true => ((eR (cI n G (n * n).toNat) (cN n G (n * n).toNat) (cI n G (n * n).toNat).length).length : Int) | false => ((eR (cI n G (n * n).toNat) (cN n G (n * n).toNat) (cI n G (n * n).toNat).length).length : Int) - 1
theorem aaB {n : Int} {G : List Sg} : aJ n G = cI n G (n * n).toNat:=by
 unfold aJ cI ay
 refine List.map_congr_left fun y hy => ?_
 rw [if_pos (List.mem_range.1 hy)]
theorem aaC {n : Int} {G : List Sg} (hG : gH G) (hn : bz n) : aU n G = cN n G (n * n).toNat:=by
 unfold aU cN ay
 refine List.map_congr_left fun y hy => ?_
 have hy:=List.mem_range.1 hy
 rw [if_pos hy]
 exact LS hG hn ((ic hn).2 ⟨y,hy,rfl⟩)
theorem n4 {n : Int} {G : List Sg} (hG : gH G) (hn : bz n) : eW n G = zb n G:=by
 rw [<- Ax hG hn]
 unfold eW lP qD
 rw [aaB,aaC hG hn]
 cases dL G <;> rfl
def ej : au:=xL (fun n P L p => [(aa.of (dY P L = true)),(aa.of (P <= 6)),(aa.of (L.length <= 1000000)),(aa.of (0 <= p /\ p <= P - 1)),(aa.of (1 <= n /\ n <= 6))]) (fun n _ L p => .a (vI (eW n (af L p))))
noncomputable def abd : List (Nat × au):=[(29,kx),(57,ei),(56,aaF),(58,ya)]
theorem aaD : aR Tryz.prog Γ abd:=((((aR.nil.cons (aj Tryz.func58 rfl rfl).fn aaz).cons (aj Tryz.func56 rfl rfl).fn aaG).cons (aj Tryz.func57 rfl rfl).fn acE).cons (aj Tryz.func29 rfl rfl).fn k8)
attribute [local irreducible] af cI cN eR eW
theorem kv : au.Ok Tryz.prog Γ 15 ej:=mG (d:=0) (aP aaD bq.nil false 0) (aj Tryz.func15 rfl rfl) (fun _ _ _ _ => rfl) (by
 intro n P L p ⟨hw,hP,hl,hp,hn,_⟩
 simp only [aa.ae] at hw hP hl hp hn
 have hG:=nK (cW.1 hw) hP hp
 have hgo : ∀ g ∈ (af L p),0 <= g.1 /\ g.1 <= 7:=hG.ok
 have dZ:=ag4 L p
 have j4 : 1 <= n * n /\ n * n <= 36:=sJ hn
 have l1:=tx n (af L p) (n * n).toNat
 have l2:=u5 n (af L p) (n * n).toNat
 have l3 : (cI n (af L p) (n * n).toNat).length = (cN n (af L p) (n * n).toNat).length:=l1.trans l2.symm
 have aag:=r9 (cI n (af L p) (n * n).toNat) (cN n (af L p) (n * n).toNat) (cI n (af L p) (n * n).toNat).length
 obtain m1 | m1 : dL (af L p) = true \/ dL (af L p) = false:=by cases dL (af L p) <;> simp
 ·have m2 : (!dL (af L p)) = false:=by rw [m1];rfl
  rw [show eW n (af L p) = ((eR (cI n (af L p) (n * n).toNat) (cN n (af L p) (n * n).toNat) (cI n (af L p) (n * n).toNat).length).length : Int) by unfold eW;rw [m1]]
  repeat' ((conv => whnf);first | apply And.intro | (intro h9;try (have h8 : (_ : Bool) = _:=h9;clear h8;revert h9;subst_vars;intro h9;exact aq h9 (by assumption))))
  all_goals try (conv => whnf)
  all_goals try first | (apply Tk.mk <;> kernel_rfl) | exact ⟨ah rfl⟩ | exact ⟨rfl⟩ | exact ⟨trivial⟩
  all_goals subst_vars
  all_goals try first | rfl | contradiction | (apply Ob.mk;first | (simp only [ag,ak,aa.ae];omega) | ((try simp only [aa.ae]);(try dsimp only);omega))
  all_goals first
   | exact ⟨hw⟩
   | exact ⟨hl⟩
   | exact ⟨hgo⟩
   | exact ⟨l3⟩
   | exact ⟨show (af L p).length <= 1000000 by omega⟩
   | exact ⟨show (cI n (af L p) (n * n).toNat).length <= 1000000 by omega⟩
 have m2 : (!dL (af L p)) = true:=by rw [m1];rfl
 rw [show eW n (af L p) = ((eR (cI n (af L p) (n * n).toNat) (cN n (af L p) (n * n).toNat) (cI n (af L p) (n * n).toNat).length).length : Int) - 1 by unfold eW;rw [m1]]
 repeat' ((conv => whnf);first | apply And.intro | (intro h9;try (have h8 : (_ : Bool) = _:=h9;clear h8;revert h9;subst_vars;intro h9;exact aq h9 (by assumption))))
 all_goals try (conv => whnf)
 all_goals try first | (apply Tk.mk <;> kernel_rfl) | exact ⟨ah rfl⟩ | exact ⟨rfl⟩ | exact ⟨trivial⟩
 all_goals subst_vars
 all_goals try first | rfl | contradiction | (apply Ob.mk;first | (simp only [ag,ak,aa.ae];omega) | ((try simp only [aa.ae]);(try dsimp only);omega))
 all_goals first
  | exact ⟨show (ag .i64 (((eR (cI n (af L p) (n * n).toNat) (cN n (af L p) (n * n).toNat) (cI n (af L p) (n * n).toNat).length).length : Int) - 1)).p by show ak .i64 _;unfold ak;omega⟩
  | exact ⟨hw⟩
  | exact ⟨hl⟩
  | exact ⟨hgo⟩
  | exact ⟨l3⟩
  | exact ⟨show (af L p).length <= 1000000 by omega⟩
  | exact ⟨show (cI n (af L p) (n * n).toNat).length <= 1000000 by omega⟩)
attribute [local irreducible] bf o6 pb aJ aU
end Go.Proofs.YthejmgnkenokpaaGreatDoor
end
section
namespace Go.Proofs.YthejmgnkenokpaaGreatDoor
open Go Go.Sy Go.bK
variable {Γ : bn}
attribute [local irreducible] aQ aX
end Go.Proofs.YthejmgnkenokpaaGreatDoor
end
section
namespace Go.Proofs.YthejmgnkenokpaaGreatDoor
open Go Go.Sy Go.bK
variable {Γ : bn}
attribute [local irreducible] aQ
end Go.Proofs.YthejmgnkenokpaaGreatDoor
end
section
namespace Go.Proofs.YthejmgnkenokpaaGreatDoor
open Go Go.Sy Go.bK
variable {Γ : bn}
def Y3 (D : List (List Int) -> Int -> Int -> List aa) (F : List (List Int) -> Int -> Int -> Tm) : au:=.fn fun args rg => match args with
 | [.a x0,.a (.v (.int .i64 n0)),.a (.v (.int .i64 n1))] => (match ac1 49 kT rg x0 with | some (q0,L0) => some (q0 ++ (D L0 n0 n1),F L0 n0 n1) | _ => none)
 | _ => none
theorem YF {f : FuncId} {b : Body} {E : Env} {d : Nat} (hP : aL Tryz.prog Γ E) (hb : bQ Tryz.prog f b) {D : List (List Int) -> Int -> Int -> List aa} {F : List (List Int) -> Int -> Int -> Tm} (hp : ∀ (L0 : List (List Int)) (n0 : Int) (n1 : Int),(F L0 n0 n1).plain = true)
  (H : ∀ (L0 : List (List Int)) (n0 : Int) (n1 : Int),bW (D L0 n0 n1) -> cQ E d b [.a (.sl 0 [] 0 L0.length),.a (vI n0),.a (vI n1)] [.arr 49 kT L0 false false] (fun x _ => iL x (F L0 n0 n1))) : au.Ok Tryz.prog Γ f (Y3 D F):=au.er (d:=d) hP hb (by
 intro args rg q t hF hq
 split at hF
 next x0 n0 n1 =>
  split at hF
  next q0 L0 hx0 =>
   obtain ⟨rfl,rfl⟩:=Prod.mk.inj (Option.some.inj hF);clear hF
   rw [aH] at hq
   obtain ⟨dm,hD⟩:=hq
   obtain ⟨e0,Vn⟩:=bP (by simp [kT]) hx0 dm
   obtain ⟨p0,r0⟩:=Vn [e0] 0 1 rfl (by omega)
   refine ⟨hp _ _ _,[e0],[.a (.sl 0 [] 0 L0.length),.a (vI n0),.a (vI n1)],[.arr 49 kT L0 false false],⟨⟨p0,rfl,rfl,trivial⟩,fun r g hg => ?_⟩,H _ _ _ hD⟩
   match r,hg with
   | 0,hg => obtain rfl:=Option.some.inj hg;exact r0
  next => cases hF
 next => cases hF)
def hX (X : List (List Int)) (q x : Int) : Int:=gi (bh X q) x
def VC (X : List (List Int)) (m k : Int) : Bool:=decide ((X.length : Int) <= m) && X.all (fun l => decide ((l.length : Int) <= k))
theorem XP {X : List (List Int)} {m k : Int} (h : VC X m k = true) : (X.length : Int) <= m /\ ∀ l ∈ X,(l.length : Int) <= k:=by
 unfold VC at h
 simp only [Bool.and_eq_true,decide_eq_true_eq,List.all_eq_true] at h
 exact h
def Wn : au:=Y3 (fun _ m _ => [(aa.of (0 <= m /\ m <= 1000))]) (fun X m k => bl (VC X m k))
theorem Wh : au.Ok Tryz.prog Γ 9 Wn:=YF (d:=0) (aP aR.nil bq.nil false 0) (aj Tryz.func9 rfl rfl) (fun _ _ _ => rfl) (by
 intro X m k ⟨hm,_⟩
 simp only [aa.ae] at hm
 obtain h0 | h0 : decide ((X.length : Int) > m) = true \/ decide ((X.length : Int) > m) = false:=by cases decide ((X.length : Int) > m) <;> simp
 ·have h1:=of_decide_eq_true h0
  rw [show VC X m k = false by unfold VC;rw [decide_eq_false (by omega)];rfl]
  repeat' ((conv => whnf);first | apply And.intro | (intro h9;try (have h8 : (_ : Bool) = _:=h9;clear h8;revert h9;subst_vars;intro h9;exact aq h9 (by assumption))))
  all_goals try (conv => whnf)
  all_goals try first | (apply Tk.mk <;> kernel_rfl) | exact ⟨ah rfl⟩ | exact ⟨rfl⟩ | exact ⟨trivial⟩
  all_goals subst_vars
  all_goals try first | rfl | contradiction | (apply Ob.mk;first | (simp only [ag,ak,aa.ae];omega) | ((try simp only [aa.ae]);(try dsimp only);omega))
 have h1:=of_decide_eq_false h0
 rw [show VC X m k = X.all (fun l => decide ((l.length : Int) <= k)) by unfold VC;rw [decide_eq_true (by omega)];rfl]
 repeat' ((conv => whnf);first | apply And.intro | (intro h9;try (have h8 : (_ : Bool) = _:=h9;clear h8;revert h9;subst_vars;intro h9;exact aq h9 (by assumption))))
 all_goals try (conv => whnf)
 all_goals try first | (apply Tk.mk <;> kernel_rfl) | exact ⟨ah rfl⟩ | exact ⟨rfl⟩ | exact ⟨trivial⟩
 all_goals subst_vars
 all_goals try first | rfl | contradiction | (apply Ob.mk;first | (simp only [ag,ak,aa.ae];omega) | ((try simp only [aa.ae]);(try dsimp only);omega))
 refine ⟨Nat,fun i => i <= X.length /\ X.all (fun l => decide ((l.length : Int) <= k)) = (X.drop i).all (fun l => decide ((l.length : Int) <= k)),fun i => ⟨aI 25 [0,2,7] [.a (.sl 0 [] 0 X.length),.a (vI k),.a (vI i)],[],[.arr 49 kT X false false]⟩,fun i => X.length - i,0,[],⟨Nat.zero_le _,rfl⟩,?_,?_⟩
 ·repeat' ((conv => whnf);(first | apply And.intro | intro _))
  all_goals first | rfl | trivial | exact ah rfl | exact aS ‹_› rfl | exact aT ‹_› rfl | ((repeat' first | rfl | constructor);done)
 rintro i ⟨hi,hf⟩
 by_cases hi1 : i < X.length
 ·have p0 : decide ((i : Int) < (X.length : Int)) = true:=decide_eq_true (by omega)
  have gr:=wV X i
  obtain hb | hb : decide (((bh X i).length : Int) > k) = false \/ decide (((bh X i).length : Int) > k) = true:=by cases decide (((bh X i).length : Int) > k) <;> simp
  ·have e2:=of_decide_eq_false hb
   have jH:=hf.trans (C7 hi1 (d:=[]) (by show decide (((gL X i).length : Int) <= k) = true;rw [<- gr];exact decide_eq_true (by omega)))
   repeat' ((conv => whnf);first | apply And.intro | (intro h9;try (have h8 : (_ : Bool) = _:=h9;clear h8;revert h9;subst_vars;intro h9;exact aq h9 (by assumption))))
   all_goals try (conv => whnf)
   all_goals try first | (apply Tk.mk <;> kernel_rfl) | exact ⟨ah rfl⟩ | exact ⟨rfl⟩ | exact ⟨trivial⟩
   all_goals subst_vars
   all_goals try first | rfl | contradiction | (apply Ob.mk;first | (simp only [ag,ak,aa.ae];omega) | ((try simp only [aa.ae]);(try dsimp only);omega))
   all_goals try first
    | exact ⟨show 0 + Int.toNat (i : Int) < X.length by omega⟩
   refine ⟨i + 1,[],⟨hi1,jH⟩,?_,by show X.length - (i + 1) < X.length - i;omega⟩
   repeat' ((conv => whnf);(first | apply And.intro | intro _))
   all_goals first | rfl | trivial | exact ah rfl | exact aS ‹_› rfl | exact aT ‹_› rfl | ((repeat' first | rfl | constructor);done)
  have e2:=of_decide_eq_true hb
  rw [hf.trans (zw hi1 (d:=[]) (by show decide (((gL X i).length : Int) <= k) = false;rw [<- gr];exact decide_eq_false (by omega)))]
  repeat' ((conv => whnf);first | apply And.intro | (intro h9;try (have h8 : (_ : Bool) = _:=h9;clear h8;revert h9;subst_vars;intro h9;exact aq h9 (by assumption))))
  all_goals try (conv => whnf)
  all_goals try first | (apply Tk.mk <;> kernel_rfl) | exact ⟨ah rfl⟩ | exact ⟨rfl⟩ | exact ⟨trivial⟩
  all_goals subst_vars
  all_goals try first | rfl | contradiction | (apply Ob.mk;first | (simp only [ag,ak,aa.ae];omega) | ((try simp only [aa.ae]);(try dsimp only);omega))
  all_goals first
   | exact ⟨show 0 + Int.toNat (i : Int) < X.length by omega⟩
 have p0 : decide ((i : Int) < (X.length : Int)) = false:=decide_eq_false (by omega)
 rw [hf.trans (C6 (by omega))]
 repeat' ((conv => whnf);first | apply And.intro | (intro h9;try (have h8 : (_ : Bool) = _:=h9;clear h8;revert h9;subst_vars;intro h9;exact aq h9 (by assumption))))
 all_goals try (conv => whnf)
 all_goals try first | (apply Tk.mk <;> kernel_rfl) | exact ⟨ah rfl⟩ | exact ⟨rfl⟩ | exact ⟨trivial⟩
 all_goals subst_vars
 all_goals try first | rfl | contradiction | (apply Ob.mk;first | (simp only [ag,ak,aa.ae];omega) | ((try simp only [aa.ae]);(try dsimp only);omega)))
end Go.Proofs.YthejmgnkenokpaaGreatDoor
end
section
namespace Go.Proofs.YthejmgnkenokpaaGreatDoor
open Go Go.Sy Go.bK
variable {Γ : bn}
def afb (D : Int -> Int -> List Wk -> Int -> List (List Int) -> List aa) (F : Int -> Int -> List Wk -> Int -> List (List Int) -> Tm) : au:=.fn fun args rg => match args with
 | [.agg [.v (.int .i64 n0),.v (.int .i64 n1),x0],.a (.v (.int .i64 n2)),.a x1] => (match ac1 46 kW rg x0,ac1 49 kT rg x1 with | some (q0,L0),some (q1,L1) => some (q0 ++ (q1 ++ (D n0 n1 L0 n2 L1)),F n0 n1 L0 n2 L1) | _,_ => none)
 | _ => none
theorem aeX {f : FuncId} {b : Body} {E : Env} {d : Nat} (hP : aL Tryz.prog Γ E) (hb : bQ Tryz.prog f b) {D : Int -> Int -> List Wk -> Int -> List (List Int) -> List aa} {F : Int -> Int -> List Wk -> Int -> List (List Int) -> Tm} (hp : ∀ (n0 : Int) (n1 : Int) (L0 : List Wk) (n2 : Int) (L1 : List (List Int)),(F n0 n1 L0 n2 L1).plain = true)
  (H : ∀ (n0 : Int) (n1 : Int) (L0 : List Wk) (n2 : Int) (L1 : List (List Int)),bW (D n0 n1 L0 n2 L1) -> cQ E d b [.agg [vI n0,vI n1,.sl 0 [] 0 L0.length],.a (vI n2),.a (.sl 1 [] 0 L1.length)] [.arr 46 kW L0 false false,.arr 49 kT L1 false false] (fun x _ => iL x (F n0 n1 L0 n2 L1))) : au.Ok Tryz.prog Γ f (afb D F):=au.er (d:=d) hP hb (by
 intro args rg q t hF hq
 split at hF
 next n0 n1 x0 n2 x1 =>
  split at hF
  next q0 L0 q1 L1 hx0 cO =>
   obtain ⟨rfl,rfl⟩:=Prod.mk.inj (Option.some.inj hF);clear hF
   rw [aH,aH] at hq
   obtain ⟨dm,gk,hD⟩:=hq
   obtain ⟨e0,Vn⟩:=bP (by simp [kW]) hx0 dm
   obtain ⟨e1,iO⟩:=bP (by simp [kT]) cO gk
   obtain ⟨p0,r0⟩:=Vn [e0,e1] 0 2 rfl (by omega)
   obtain ⟨p1,r1⟩:=iO [e0,e1] 1 2 rfl (by omega)
   refine ⟨hp _ _ _ _ _,[e0,e1],[.agg [vI n0,vI n1,.sl 0 [] 0 L0.length],.a (vI n2),.a (.sl 1 [] 0 L1.length)],[.arr 46 kW L0 false false,.arr 49 kT L1 false false],⟨⟨⟨rfl,rfl,p0,trivial⟩,rfl,p1,trivial⟩,fun r g hg => ?_⟩,H _ _ _ _ _ hD⟩
   match r,hg with
   | 0,hg => obtain rfl:=Option.some.inj hg;exact r0
   | 1,hg => obtain rfl:=Option.some.inj hg;exact r1
  next => cases hF
 next => cases hF)
def adU : au:=afb (fun _ _ _ _ _ => []) (fun _ _ _ _ _ => bl true)
theorem aef {α : Type} {l : List α} {i : Nat} (h : i < l.length) : (l.take i ++ l.drop (i + 1)).length = l.length - 1:=by
 rw [List.length_append,List.length_take,List.length_drop];omega
theorem afp {l : List (List Int)} {i : Nat} (h : i < l.length) : List.drop 0 (List.drop 0 ([] : List (List Int)) ++ List.take (Int.toNat (i : Int) - 0) (List.drop (0 + 0) l)) ++ List.take (l.length - Int.toNat ((i : Int) + 1)) (List.drop (0 + Int.toNat ((i : Int) + 1)) l) = l.take i ++ l.drop (i + 1):=by
 rw [List.drop_zero,List.drop_zero,List.nil_append,Nat.zero_add,List.drop_zero,Nat.zero_add,Nat.sub_zero,Int.toNat_natCast,show Int.toNat ((i : Int) + 1) = i + 1 by omega]
 congr 1
 exact List.take_of_length_le (by rw [List.length_drop];exact Nat.le_refl _)
noncomputable def afz : List (Nat × au):=[(8,Df),(9,Wn),(12,ql),(13,uD),(14,adn),(15,ej),(10,tC),(45,jf),(46,qo),(47,r5),(48,mh),(49,xz),(50,tB)]
theorem afg : aR Tryz.prog Γ afz:=(((((((((((((aR.nil.cons (aj Tryz.func50 rfl rfl).fn sU).cons (aj Tryz.func49 rfl rfl).fn zQ).cons (aj Tryz.func48 rfl rfl).fn jy).cons (aj Tryz.func47 rfl rfl).fn oU).cons (aj Tryz.func46 rfl rfl).fn qp).cons (aj Tryz.func45 rfl rfl).fn fQ).cons (aj Tryz.func10 rfl rfl).fn sW).cons (aj Tryz.func15 rfl rfl).fn kv).cons (aj Tryz.func14 rfl rfl).fn adu).cons (aj Tryz.func13 rfl rfl).fn yH).cons (aj Tryz.func12 rfl rfl).fn ux).cons (aj Tryz.func9 rfl rfl).fn Wh).cons (aj Tryz.func8 rfl rfl).fn EJ)
noncomputable def ae6 : List (Nat × Body):=[(11,bo Tryz.f11)]
theorem aeN : bq Tryz.prog ae6:=(bq.nil.cons (cg Tryz.func11 rfl rfl))
def afX (id : Nat) : Option OT:=match Nat.beq id 17 with | true => some (.take 1 (.take 2 (.take 5 (.take 6 (.take 7 (.alt 0 (.alt 3 (.alt 4 (.alt 8 (.alt 9 (.take 10 .fin) .fin) .fin) (.alt 8 (.alt 4 (.alt 9 (.take 10 .fin) .fin) .fin) .fin)) (.alt 8 (.alt 3 (.alt 4 (.alt 9 (.take 10 .fin) .fin) .fin) .fin) .fin)) (.alt 3 (.alt 0 (.alt 4 (.alt 8 (.alt 9 (.take 10 .fin) .fin) .fin) (.alt 8 (.alt 4 (.alt 9 (.take 10 .fin) .fin) .fin) .fin)) (.alt 8 (.alt 0 (.alt 4 (.alt 9 (.take 10 .fin) .fin) .fin) .fin) .fin)) (.alt 8 (.alt 0 (.alt 3 (.alt 4 (.alt 9 (.take 10 .fin) .fin) .fin) .fin) (.alt 3 (.alt 0 (.alt 4 (.alt 9 (.take 10 .fin) .fin) .fin) .fin) .fin)) .fin)))))))) | false => none
noncomputable def afF : Env:={ jV.env afz ae6 false 0 with tree:=afX }
noncomputable def afQ : Env:={ afF with cut:=fun t => Nat.beq t 2017 }
theorem aeS : aL Tryz.prog Γ afQ:=((aP afg aeN false 0).vU _).wy _
attribute [local irreducible] bf eH af ag5 lP jQ Vr bD jZ adm jO tU VC eW
theorem ady : au.Ok Tryz.prog Γ 3 adU:=aeX (d:=3) aeS (aj Tryz.func3 rfl rfl) (fun _ _ _ _ _ => rfl) (by
 intro n P L p W _
 obtain h0 | h0 : decide ((L.length : Int) <= 20) = false \/ decide ((L.length : Int) <= 20) = true:=by cases decide ((L.length : Int) <= 20) <;> simp
 ·have n0 : (!decide ((L.length : Int) <= 20)) = true:=by rw [h0];rfl
  repeat' ((conv => whnf);first | apply And.intro | (intro h9;try (have h8 : (_ : Bool) = _:=h9;clear h8;revert h9;subst_vars;intro h9;exact aq h9 (by assumption))))
  all_goals try (conv => whnf)
  all_goals try first | (apply Tk.mk <;> kernel_rfl) | exact ⟨ah rfl⟩ | exact ⟨rfl⟩ | exact ⟨trivial⟩
  all_goals subst_vars
  all_goals try first | rfl | contradiction | (apply Ob.mk;first | (simp only [ag,ak,aa.ae];omega) | ((try simp only [aa.ae]);(try dsimp only);omega))
 have n0 : (!decide ((L.length : Int) <= 20)) = false:=by rw [h0];rfl
 have ZX:=of_decide_eq_true h0
 have hl : L.length <= 1000000:=by omega
 obtain h9 | h9 : VC W 44 100 = false \/ VC W 44 100 = true:=by cases VC W 44 100 <;> simp
 ·have n9 : (!VC W 44 100) = true:=by rw [h9];rfl
  repeat' ((conv => whnf);first | apply And.intro | (intro h9;try (have h8 : (_ : Bool) = _:=h9;clear h8;revert h9;subst_vars;intro h9;exact aq h9 (by assumption))))
  all_goals try (conv => whnf)
  all_goals try first | (apply Tk.mk <;> kernel_rfl) | exact ⟨ah rfl⟩ | exact ⟨rfl⟩ | exact ⟨trivial⟩
  all_goals subst_vars
  all_goals try first | rfl | contradiction | (apply Ob.mk;first | (simp only [ag,ak,aa.ae];omega) | ((try simp only [aa.ae]);(try dsimp only);omega))
 have n9 : (!VC W 44 100) = false:=by rw [h9];rfl
 obtain ⟨w8,ZN⟩:=XP h9
 have VD : ∀ w ∈ W,w.length <= 1000000:=fun w hw => by have:=ZN w hw;omega
 have s0 : (bf n P L p == bf n P L p) = true:=beq_self_eq_true _
 obtain q1 | q1 : (bf n P L p == 0) = false \/ (bf n P L p == 0) = true:=by cases bf n P L p == 0 <;> simp
 ·have q2 : (bf n P L p != 0) = true:=by unfold bne;rw [q1];rfl
  have q3 : (jZ n P L p W == bf n P L p) = true:=by unfold jZ;rw [q1];exact s0
  repeat' ((conv => whnf);first | apply And.intro | (intro h9;try (have h8 : (_ : Bool) = _:=h9;clear h8;revert h9;subst_vars;intro h9;exact aq h9 (by assumption))))
  all_goals try (conv => whnf)
  all_goals try first | (apply Tk.mk <;> kernel_rfl) | exact ⟨ah rfl⟩ | exact ⟨rfl⟩ | exact ⟨trivial⟩
  all_goals subst_vars
  all_goals try first | rfl | contradiction | (apply Ob.mk;first | (simp only [ag,ak,aa.ae];omega) | ((try simp only [aa.ae]);(try dsimp only);omega))
  all_goals first
   | exact ⟨hl⟩
   | exact ⟨VD⟩
   | exact ⟨show W.length <= 1000000 by omega⟩
 have q2 : (bf n P L p != 0) = false:=by unfold bne;rw [q1];rfl
 obtain ⟨hw,hP,hp,hn⟩:=gg (eq_of_beq q1)
 have lS:=cW.1 hw
 have hG:=nK lS hP hp
 have hgo : ∀ g ∈ (af L p),0 <= g.1 /\ g.1 <= 7:=hG.ok
 have Kl:=Ax hG hn
 have hrf:=n4 hG hn
 have hge:=W8 hG hn
 have e1 : (jZ n P L p W != adm n L p W) = false:=VI (aeB q1)
 obtain f0 | f0 : (lP n (af L p) != 0) = true \/ (lP n (af L p) != 0) = false:=by cases (lP n (af L p) != 0) <;> simp
 ·have f1 : decide (eW n (af L p) > 0) = true:=decide_eq_true (by
   have : lP n (af L p) ≠ 0:=by simpa using f0
   omega)
  repeat' ((conv => whnf);first | apply And.intro | (intro h9;try (have h8 : (_ : Bool) = _:=h9;clear h8;revert h9;subst_vars;intro h9;exact aq h9 (by assumption))))
  all_goals try (conv => whnf)
  all_goals try first | (apply Tk.mk <;> kernel_rfl) | exact ⟨ah rfl⟩ | exact ⟨rfl⟩ | exact ⟨trivial⟩
  all_goals subst_vars
  all_goals try first | rfl | contradiction | (apply Ob.mk;first | (simp only [ag,ak,aa.ae];omega) | ((try simp only [aa.ae]);(try dsimp only);omega))
  all_goals first
   | exact ⟨hl⟩
   | exact ⟨hw⟩
   | exact ⟨VD⟩
   | exact ⟨show W.length <= 1000000 by omega⟩
 have ago : lP n (af L p) = 0:=by simpa using f0
 have f1 : decide (eW n (af L p) > 0) = false:=decide_eq_false (by omega)
 have Kq : iE n (af L p):=(xN hG hn).1 (by rw [<- Kl];exact ago)
 obtain ⟨v1,v2,v3⟩:=N6 lS hP hp Kq
 have v4 : ∀ j,j < (jO n L p).length -> abz n L p ((jO n L p).take j ++ (jO n L p).drop (j + 1)) ≠ 0:=fun j hj => aeK lS hP hp hn hj
 clear Kl hrf hge
 repeat' ((conv => whnf);first | apply And.intro | (intro h9;try (have h8 : (_ : Bool) = _:=h9;clear h8;revert h9;subst_vars;intro h9;exact aq h9 (by assumption))))
 all_goals try (conv => whnf)
 all_goals try first | (apply Tk.mk <;> kernel_rfl) | exact ⟨ah rfl⟩ | exact ⟨rfl⟩ | exact ⟨trivial⟩
 all_goals subst_vars
 all_goals try first | rfl | contradiction | (apply Ob.mk;first | (simp only [ag,ak,aa.ae];omega) | ((try simp only [aa.ae]);(try dsimp only);omega))
 all_goals try first
  | exact ⟨hl⟩
  | exact ⟨hw⟩
  | exact ⟨show -9223372036854775808 <= ((af L p).length : Int) - 1 /\ ((af L p).length : Int) - 1 <= 9223372036854775807 by have:=ag4 L p;omega⟩
 refine ⟨Nat × List Sg,fun s => s.1 <= s.2.length /\ s.2.length <= 16 /\ (∀ g ∈ s.2,g ∈ (af L p)) /\ jQ n s.1 s.2 = tU n (af L p),fun s => ⟨aI 67 [1,2,7,8,9] [.a (vI p),.a (.p 3 [] 0 0),.a (.mp 4),.a (.sl 5 [] 0 s.2.length),.a (vI ((s.1 : Int) - 1))],[aI 104 [1,2,3] [.a (vI p),.a (.sl 1 [] 0 W.length),.a (.p 2 [] 0 0)]],[.arr 46 kW L false false,.arr 49 kT W false false,.box true [vI n,vI P,.sl 0 [] 0 L.length],.box true [vI n,vI P,.sl 0 [] 0 (L).length],.bH 82 kX 3 kI (ag5 L p) true true,.arr 48 kG s.2 false false]⟩,fun s => s.1,((af L p).length,(af L p)),[0,1,2,3,4,5],⟨Nat.le_refl _,ag4 _ _,fun g hg => hg,LC _ _⟩,?_,?_⟩
 ·repeat' ((conv => whnf);(first | apply And.intro | intro _))
  all_goals first | rfl | trivial | exact ah rfl | exact aS ‹_› rfl | exact aT ‹_› rfl | ((repeat' first | rfl | constructor);done) | assumption
 rintro ⟨i,l⟩ ⟨hi,Np,hls,hr⟩
 dsimp only at hi Np hls hr
 cases i with
 | succ i =>
   have p0 : decide ((((i + 1 : Nat) : Int) - 1) >= 0) = true:=decide_eq_true (by omega)
   have hx:=NY l i
   have aaj : (ac6 l i).length = l.length - 1:=by rw [hx,List.length_append,List.length_take,List.length_drop];omega
   have hxs : ∀ g ∈ ac6 l i,g ∈ l:=fun g hg => by
    rw [hx] at hg
    rcases List.mem_append.1 hg with hg | hg
    ·exact List.mem_of_mem_take hg
    ·exact List.mem_of_mem_drop hg
   have hfl : (ac6 l i).length <= 1000000:=by omega
   have hfg : ∀ g ∈ ac6 l i,0 <= g.1 /\ g.1 <= 7:=fun g hg => hgo g (hls g (hxs g hg))
   rw [JC,<- hx] at hr
   cases hb : eH n (ac6 l i) <;> rw [hb] at hr <;> dsimp only at hr
   ·repeat' ((conv => whnf);first | apply And.intro | (intro h9;try (have h8 : (_ : Bool) = _:=h9;clear h8;revert h9;subst_vars;intro h9;exact aq h9 (by assumption))))
    all_goals try (conv => whnf)
    all_goals try first | (apply Tk.mk <;> kernel_rfl) | exact ⟨ah rfl⟩ | exact ⟨rfl⟩ | exact ⟨trivial⟩
    all_goals subst_vars
    all_goals try first | rfl | contradiction | (apply Ob.mk;first | (simp only [ag,ak,aa.ae];omega) | ((try simp only [aa.ae]);(try dsimp only);omega))
    all_goals try first
     | exact ⟨show 0 + 0 + ((((i + 1 : Nat) : Int) - 1).toNat - 0) <= l.length by omega⟩
     | exact ⟨show 0 + (((i + 1 : Nat) : Int) - 1 + 1).toNat + (l.length - (((i + 1 : Nat) : Int) - 1 + 1).toNat) <= l.length by omega⟩
     | exact ⟨hfl⟩
     | exact ⟨hfg⟩
    refine ⟨(i,l),[0,1,2,3,4,5],⟨by show i <= l.length;omega,Np,hls,hr⟩,?_,by show i < i + 1;omega⟩
    repeat' ((conv => whnf);(first | apply And.intro | intro _))
    all_goals first | rfl | trivial | exact ah rfl | exact aS ‹_› rfl | exact aT ‹_› rfl | ((repeat' first | rfl | constructor);done) | exact idx i
   repeat' ((conv => whnf);first | apply And.intro | (intro h9;try (have h8 : (_ : Bool) = _:=h9;clear h8;revert h9;subst_vars;intro h9;exact aq h9 (by assumption))))
   all_goals try (conv => whnf)
   all_goals try first | (apply Tk.mk <;> kernel_rfl) | exact ⟨ah rfl⟩ | exact ⟨rfl⟩ | exact ⟨trivial⟩
   all_goals subst_vars
   all_goals try first | rfl | contradiction | (apply Ob.mk;first | (simp only [ag,ak,aa.ae];omega) | ((try simp only [aa.ae]);(try dsimp only);omega))
   all_goals try first
    | exact ⟨show 0 + 0 + ((((i + 1 : Nat) : Int) - 1).toNat - 0) <= l.length by omega⟩
    | exact ⟨show 0 + (((i + 1 : Nat) : Int) - 1 + 1).toNat + (l.length - (((i + 1 : Nat) : Int) - 1 + 1).toNat) <= l.length by omega⟩
    | exact ⟨hfl⟩
    | exact ⟨hfg⟩
   refine ⟨(i,ac6 l i),[0,1,2,3,4,7],⟨by show i <= (ac6 l i).length;omega,by show (ac6 l i).length <= 16;omega,fun g hg => hls g (hxs g hg),hr⟩,?_,by show i < i + 1;omega⟩
   repeat' ((conv => whnf);(first | apply And.intro | intro _))
   all_goals first | rfl | trivial | exact ah rfl | exact aS ‹_› rfl | exact aT ‹_› rfl | ((repeat' first | rfl | constructor);done) | exact idx i
 | zero =>
 rw [JD] at hr
 have p0 : decide ((((0 : Nat) : Int) - 1) >= 0) = false:=rfl
 have hz : jO n L p = l.map (Vr L p):=by rw [LD,<- hr]
 clear hr
 repeat' ((conv => whnf);first | apply And.intro | (intro h9;try (have h8 : (_ : Bool) = _:=h9;clear h8;revert h9;subst_vars;intro h9;exact aq h9 (by assumption))))
 all_goals try (conv => whnf)
 all_goals try first | (apply Tk.mk <;> kernel_rfl) | exact ⟨ah rfl⟩ | exact ⟨rfl⟩ | exact ⟨trivial⟩
 all_goals subst_vars
 all_goals try first | rfl | contradiction | (apply Ob.mk;first | (simp only [ag,ak,aa.ae];omega) | ((try simp only [aa.ae]);(try dsimp only);omega))
 refine ⟨Nat,fun i => i <= l.length,fun i => ⟨aI 67 [1,7,11,51,52,53] [.a (vI p),.a (.mp 4),.a (.sl 6 [] 0 ((l.take i).map (Vr L p)).length),.a (.sl 5 [] 0 l.length),.a (vI l.length),.a (vI i)],[aI 104 [1,2,3] [.a (vI p),.a (.sl 1 [] 0 W.length),.a (.p 2 [] 0 0)]],[.arr 46 kW L false false,.arr 49 kT W false false,.box true [vI n,vI P,.sl 0 [] 0 L.length],.box true [vI n,vI P,.sl 0 [] 0 (L).length],.bH 82 kX 3 kI (ag5 L p) false false,.arr 48 kG l false false,.arr 49 kT ((l.take i).map (Vr L p)) true false]⟩,fun i => l.length - i,0,[0,1,2,3,4,5,1000],Nat.zero_le _,?_,?_⟩
 ·repeat' ((conv => whnf);(first | apply And.intro | intro _))
  all_goals first | rfl | trivial | exact ah rfl | exact aS ‹_› rfl | exact aT ‹_› rfl | ((repeat' first | rfl | constructor);done) | assumption
 clear hi
 rintro i hi
 by_cases hi1 : i < l.length
 ·have p1 : decide ((i : Int) < (l.length : Int)) = true:=decide_eq_true (by omega)
  have PP:=Jn (L:=L) (p:=p) hi1
  have hml:=congrArg List.length PP
  rw [List.length_append,List.length_singleton] at hml
  have es:=rL l i
  have qQ : bI l i ∈ (af L p):=by rw [es];exact hls _ (aaq hi1)
  have oy : br kX ((p,(bI l i).1,(bI l i).2) : Sp) (ag5 L p) < (ag5 L p).length:=A4 ((kD (cW.1 hw) hP hp).2 ((eo (cW.1 hw) hP hp).1 qQ))
  have PU : ((ag5 L p).getD (br kX ((p,(bI l i).1,(bI l i).2) : Sp) (ag5 L p)) aG).2 = Vr L p (sg l i):=by
   rw [<- es]
   unfold Vr
   rw [<- A2 (p:=p) (g:=bI l i)]
   rfl
  have hel : List.drop 0 ((l.take i).map (Vr L p)) ++ List.take 1 (List.drop 0 [List.take ((ag5 L p).getD (br kX ((p,(bI l i).1,(bI l i).2) : Sp) (ag5 L p)) aG).2.length (List.drop 0 ((ag5 L p).getD (br kX ((p,(bI l i).1,(bI l i).2) : Sp) (ag5 L p)) aG).2)]) = (l.take (i + 1)).map (Vr L p):=by
   rw [PU,PP,List.drop_zero,List.drop_zero,List.drop_zero,List.take_length];rfl
  have Kp : ((l.take i).map (Vr L p)).length <= 16:=by rw [List.length_map,List.length_take];omega
  clear PU
  repeat' ((conv => whnf);first | apply And.intro | (intro h9;try (have h8 : (_ : Bool) = _:=h9;clear h8;revert h9;subst_vars;intro h9;exact aq h9 (by assumption))))
  all_goals try (conv => whnf)
  all_goals try first | (apply Tk.mk <;> kernel_rfl) | exact ⟨ah rfl⟩ | exact ⟨rfl⟩ | exact ⟨trivial⟩
  all_goals subst_vars
  all_goals try first | rfl | contradiction | (apply Ob.mk;first | (simp only [ag,ak,aa.ae];omega) | ((try simp only [aa.ae]);(try dsimp only);omega))
  all_goals try first
   | exact ⟨oy⟩
   | exact ⟨Nat.zero_add _⟩
   | exact ⟨show (((l.take i).map (Vr L p)).length + 1) * 1 <= 1099511627776 by omega⟩
   | exact ⟨show 0 + Int.toNat (i : Int) < l.length by omega⟩
  refine ⟨i + 1,[0,1,2,3,4,5,6],hi1,?_,by show l.length - (i + 1) < l.length - i;omega⟩
  repeat' ((conv => whnf);(first | apply And.intro | intro _))
  all_goals first | rfl | trivial | exact ah rfl | exact aS ‹_› rfl | exact aT ‹_› rfl | ((repeat' first | rfl | constructor);done) | exact hml.symm | exact ⟨rfl,rfl,hel⟩
 have p1 : decide ((i : Int) < (l.length : Int)) = false:=decide_eq_false (by omega)
 obtain rfl : i = l.length:=by omega
 have pU : (l.take l.length).map (Vr L p) = jO n L p:=by rw [List.take_length];exact hz.symm
 clear hz hi1
 have hrc : ∀ X : List (List Int),X.length <= 16 -> (∀ w ∈ X,bN L w = true /\ w.length <= 95) -> adm n L p X = abz n L p X:=fun X h1 h2 => by
  rw [<- aeB q1,Mu q1 (by omega) (H7 fun w hw => ⟨(h2 w hw).1,by have:=(h2 w hw).2;omega⟩)]
 have c1 : (adm n L p ((l.take l.length).map (Vr L p)) != 0) = false:=by rw [pU,hrc _ v2 v3,v1];rfl
 have DA : ((l.take l.length).map (Vr L p)).length <= 16:=by rw [pU];exact v2
 have agk : ((l.take l.length).map (Vr L p)).length <= 1000000:=by omega
 have DB : ∀ w ∈ ((l.take l.length).map (Vr L p)),w.length <= 1000000:=by rw [pU];intro w hw;have:=(v3 w hw).2;omega
 have hls : ∀ i,i < ((l.take l.length).map (Vr L p)).length -> (adm n L p (((l.take l.length).map (Vr L p)).take i ++ ((l.take l.length).map (Vr L p)).drop (i + 1)) == 0) = false /\ ∀ w ∈ ((l.take l.length).map (Vr L p)).take i ++ ((l.take l.length).map (Vr L p)).drop (i + 1),w.length <= 1000000:=fun i hi => by
  have hsub : ∀ w ∈ ((l.take l.length).map (Vr L p)).take i ++ ((l.take l.length).map (Vr L p)).drop (i + 1),w ∈ ((l.take l.length).map (Vr L p)):=fun w hw => by
   rcases List.mem_append.1 hw with h | h
   ·exact List.mem_of_mem_take h
   ·exact List.mem_of_mem_drop h
  refine ⟨?_,fun w hw => DB w (hsub w hw)⟩
  rw [hrc _ (by rw [aef hi];omega) (fun w hw => v3 w (by rw [<- pU];exact hsub w hw))]
  rw [pU] at hi ⊢
  have:=v4 i hi
  simpa using this
 clear v1 v2 v3 v4 pU hrc
 repeat' ((conv => whnf);first | apply And.intro | (intro h9;try (have h8 : (_ : Bool) = _:=h9;clear h8;revert h9;subst_vars;intro h9;exact aq h9 (by assumption))))
 all_goals try (conv => whnf)
 all_goals try first | (apply Tk.mk <;> kernel_rfl) | exact ⟨ah rfl⟩ | exact ⟨rfl⟩ | exact ⟨trivial⟩
 all_goals subst_vars
 all_goals try first | rfl | contradiction | (apply Ob.mk;first | (simp only [ag,ak,aa.ae];omega) | ((try simp only [aa.ae]);(try dsimp only);omega))
 all_goals try first
  | exact ⟨agk⟩
  | exact ⟨DB⟩
  | exact ⟨hl⟩
  | exact ⟨hw⟩
  | exact ⟨VD⟩
  | exact ⟨show W.length <= 1000000 by omega⟩
 refine ⟨Nat,fun i => i <= ((l.take l.length).map (Vr L p)).length,fun i => ⟨aI 104 [1,3,7,11] [.a (vI p),.a (.p 2 [] 0 0),.a (.sl 3 [] 0 ((l.take l.length).map (Vr L p)).length),.a (vI i)],[],[.arr 46 kW L false false,.arr 49 kT W false false,.box true [vI n,vI P,.sl 0 [] 0 L.length],.arr 49 kT ((l.take l.length).map (Vr L p)) false false]⟩,fun i => ((l.take l.length).map (Vr L p)).length - i,0,[0,1,2,6],Nat.zero_le _,?_,?_⟩
 ·repeat' ((conv => whnf);(first | apply And.intro | intro _))
  all_goals first | rfl | trivial | exact ah rfl | exact aS ‹_› rfl | exact aT ‹_› rfl | ((repeat' first | rfl | constructor);done)
 clear c1 DB
 rintro i hi
 by_cases hi1 : i < ((l.take l.length).map (Vr L p)).length
 ·have p0 : decide ((i : Int) < (((l.take l.length).map (Vr L p)).length : Int)) = true:=decide_eq_true (by omega)
  obtain ⟨y1,y2⟩:=hls i hi1
  have y3:=afp hi1
  have y4:=aef hi1
  have y6 : 0 + (Int.toNat (i : Int) - 0) + (((l.take l.length).map (Vr L p)).length - Int.toNat ((i : Int) + 1)) = (((l.take l.length).map (Vr L p)).take i ++ ((l.take l.length).map (Vr L p)).drop (i + 1)).length:=by rw [y4];omega
  have o1 : 0 + 0 + (Int.toNat (i : Int) - 0) <= ((l.take l.length).map (Vr L p)).length:=by omega
  have o2 : 0 + Int.toNat ((i : Int) + 1) + (((l.take l.length).map (Vr L p)).length - Int.toNat ((i : Int) + 1)) <= ((l.take l.length).map (Vr L p)).length:=by omega
  have o3 : (0 + (Int.toNat (i : Int) - 0) + (((l.take l.length).map (Vr L p)).length - Int.toNat ((i : Int) + 1))) * 1 <= 1099511627776:=by omega
  have o4 : (0 : Int) <= (i : Int) /\ (i : Int) <= (((l.take l.length).map (Vr L p)).length : Int):=by omega
  have o5 : 0 + (0 + (Int.toNat (i : Int) - 0)) = (List.drop 0 ([] : List (List Int)) ++ List.take (Int.toNat (i : Int) - 0) (List.drop (0 + 0) ((l.take l.length).map (Vr L p)))).length:=by
   rw [List.drop_zero,List.nil_append,List.length_take,List.length_drop];omega
  have y5 : (((l.take l.length).map (Vr L p)).take i ++ ((l.take l.length).map (Vr L p)).drop (i + 1)).length <= 1000000:=by omega
  repeat' ((conv => whnf);first | apply And.intro | (intro h9;try (have h8 : (_ : Bool) = _:=h9;clear h8;revert h9;subst_vars;intro h9;exact aq h9 (by assumption))))
  all_goals try (conv => whnf)
  all_goals try first | (apply Tk.mk <;> kernel_rfl) | exact ⟨ah rfl⟩ | exact ⟨rfl⟩ | exact ⟨trivial⟩
  all_goals subst_vars
  all_goals try first | rfl | contradiction | (apply Ob.mk;first | (simp only [ag,ak,aa.ae];omega) | ((try simp only [aa.ae]);(try dsimp only);omega))
  refine ⟨Unit,fun _ => True,fun _ => ⟨aI 104 [1,3,7,11,12] [.a (vI p),.a (.p 2 [] 0 0),.a (.sl 3 [] 0 ((l.take l.length).map (Vr L p)).length),.a (vI i),.a (.sl 4 [] 0 (((l.take l.length).map (Vr L p)).take i ++ ((l.take l.length).map (Vr L p)).drop (i + 1)).length)],[],[.arr 46 kW L false false,.arr 49 kT W false false,.box true [vI n,vI P,.sl 0 [] 0 L.length],.arr 49 kT ((l.take l.length).map (Vr L p)) false false,.arr 49 kT (((l.take l.length).map (Vr L p)).take i ++ ((l.take l.length).map (Vr L p)).drop (i + 1)) true false]⟩,?_,?_⟩
  ·repeat' ((conv => whnf);first | apply And.intro | (intro h9;try (have h8 : (_ : Bool) = _:=h9;clear h8;revert h9;subst_vars;intro h9;exact aq h9 (by assumption))))
   all_goals try (conv => whnf)
   all_goals try first | (apply Tk.mk <;> kernel_rfl) | exact ⟨ah rfl⟩ | exact ⟨rfl⟩ | exact ⟨trivial⟩
   all_goals subst_vars
   all_goals try first | rfl | contradiction | (apply Ob.mk;first | (simp only [ag,ak,aa.ae];omega) | ((try simp only [aa.ae]);(try dsimp only);omega))
   all_goals try first
    | exact True.intro
    | exact ⟨o1⟩
    | exact ⟨o2⟩
    | exact ⟨o3⟩
    | exact ⟨o5⟩
    | exact ⟨show (0 + (Int.toNat (i : Int) - 0)) * 1 <= 1099511627776 by omega⟩
   all_goals
    refine ⟨(),[0,1,2,3,4],trivial,?_⟩
    repeat' ((conv => whnf);(first | apply And.intro | intro _))
    all_goals first | rfl | trivial | exact ah rfl | exact aS ‹_› rfl | exact aT ‹_› rfl | ((repeat' first | rfl | constructor);done) | exact y6 | exact y6.symm | exact ⟨rfl,rfl,y3⟩
  rintro ⟨⟩ -
  repeat' ((conv => whnf);first | apply And.intro | (intro h9;try (have h8 : (_ : Bool) = _:=h9;clear h8;revert h9;subst_vars;intro h9;exact aq h9 (by assumption))))
  all_goals try (conv => whnf)
  all_goals try first | (apply Tk.mk <;> kernel_rfl) | exact ⟨ah rfl⟩ | exact ⟨rfl⟩ | exact ⟨trivial⟩
  all_goals subst_vars
  all_goals try first | rfl | contradiction | (apply Ob.mk;first | (simp only [ag,ak,aa.ae];omega) | ((try simp only [aa.ae]);(try dsimp only);omega))
  all_goals try first
   | exact ⟨y2⟩
   | exact ⟨y5⟩
   | exact ⟨hl⟩
   | exact ⟨hw⟩
  refine ⟨i + 1,[0,1,2,3],hi1,?_,by show ((l.take l.length).map (Vr L p)).length - (i + 1) < ((l.take l.length).map (Vr L p)).length - i;omega⟩
  repeat' ((conv => whnf);(first | apply And.intro | intro _))
  all_goals first | rfl | trivial | exact ah rfl | exact aS ‹_› rfl | exact aT ‹_› rfl | ((repeat' first | rfl | constructor);done)
 have p0 : decide ((i : Int) < (((l.take l.length).map (Vr L p)).length : Int)) = false:=decide_eq_false (by omega)
 repeat' ((conv => whnf);first | apply And.intro | (intro h9;try (have h8 : (_ : Bool) = _:=h9;clear h8;revert h9;subst_vars;intro h9;exact aq h9 (by assumption))))
 all_goals try (conv => whnf)
 all_goals try first | (apply Tk.mk <;> kernel_rfl) | exact ⟨ah rfl⟩ | exact ⟨rfl⟩ | exact ⟨trivial⟩
 all_goals subst_vars
 all_goals try first | rfl | contradiction | (apply Ob.mk;first | (simp only [ag,ak,aa.ae];omega) | ((try simp only [aa.ae]);(try dsimp only);omega)))
end Go.Proofs.YthejmgnkenokpaaGreatDoor
end
