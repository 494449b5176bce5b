/-
  Texts of the claims on chapter 3: Yk4. No condition: lemmas and contracts.
-/
import Derived.Test.YthejmgnkenokpaaGreatDoorYk3
import Derived.Test.YthejmgnkenokpaaGreatDoorYk2
import Derived.Test.YthejmgnkenokpaaGreatDoorPl1
import Derived.Test.YthejmgnkenokpaaGreatDoorYk1
set_option linter.all false
set_option maxRecDepth 100000
set_option maxHeartbeats 4000000
section
namespace Go.Proofs.YthejmgnkenokpaaGreatDoor
open Go Go.Sy Go.bK
variable {Γ : bn}
def Y2 (D : Int -> Int -> List Wk -> Wk -> List (List Int) -> List aa) (F : Int -> Int -> List Wk -> Wk -> List (List Int) -> Tm) : au:=.fn fun args rg => match args with
 | [.agg [.v (.int .i64 n0),.v (.int .i64 n1),x0],.agg l0,.a x1] => (match ac1 46 kW rg x0,ac1 49 kT rg x1,eu kW l0 with | some (q0,L0),some (q1,L1),some v0 => some (q0 ++ (q1 ++ (D n0 n1 L0 v0 L1)),F n0 n1 L0 v0 L1) | _,_,_ => none)
 | _ => none
theorem YE {f : FuncId} {b : Body} {E : Env} {d : Nat} (hP : aL Tryz.prog Γ E) (hb : bQ Tryz.prog f b) {D : Int -> Int -> List Wk -> Wk -> List (List Int) -> List aa} {F : Int -> Int -> List Wk -> Wk -> List (List Int) -> Tm} (hp : ∀ (n0 : Int) (n1 : Int) (L0 : List Wk) (v0 : Wk) (L1 : List (List Int)),(F n0 n1 L0 v0 L1).plain = true)
  (H : ∀ (n0 : Int) (n1 : Int) (L0 : List Wk) (v0 : Wk) (L1 : List (List Int)),bW (D n0 n1 L0 v0 L1) -> cQ E d b [.agg [vI n0,vI n1,.sl 0 [] 0 L0.length],.agg (ai.lV kW v0),.a (.sl 1 [] 0 L1.length)] [.arr 46 kW L0 false false,.arr 49 kT L1 false false] (fun x _ => iL x (F n0 n1 L0 v0 L1))) : au.Ok Tryz.prog Γ f (Y2 D F):=au.er (d:=d) hP hb (by
 intro args rg q t hF hq
 split at hF
 next n0 n1 x0 l0 x1 =>
  split at hF
  next q0 L0 q1 L1 v0 hx0 cO hc0 =>
   obtain ⟨rfl,rfl⟩:=Prod.mk.inj (Option.some.inj hF);clear hF
   rw [aH,aH] at hq
   obtain ⟨dm,gk,hD⟩:=hq
   obtain ⟨e0,Vn⟩:=bP (by simp [kW]) hx0 dm
   obtain ⟨e1,iO⟩:=bP (by simp [kT]) cO gk
   obtain ⟨p0,r0⟩:=Vn [e0,e1] 0 2 rfl (by omega)
   obtain ⟨p1,r1⟩:=iO [e0,e1] 1 2 rfl (by omega)
   refine ⟨hp _ _ _ _ _,[e0,e1],[.agg [vI n0,vI n1,.sl 0 [] 0 L0.length],.agg (ai.lV kW v0),.a (.sl 1 [] 0 L1.length)],[.arr 46 kW L0 false false,.arr 49 kT L1 false false],⟨⟨⟨rfl,rfl,p0,trivial⟩,oC hc0,p1,trivial⟩,fun r g hg => ?_⟩,H _ _ _ _ _ hD⟩
   match r,hg with
   | 0,hg => obtain rfl:=Option.some.inj hg;exact r0
   | 1,hg => obtain rfl:=Option.some.inj hg;exact r1
  next => cases hF
 next => cases hF)
def Yp (D : Int -> Int -> List Wk -> Int -> List (List Int) -> List aa) (F : Int -> Int -> List Wk -> Int -> List (List Int) -> Tm) : au:=.fn fun args rg => match args with
 | [.agg [.v (.int .i64 n0),.v (.int .i64 n1),x0],.a (.v (.int .i64 n2)),.a x1] => (match ac1 46 kW rg x0,ac1 49 kT rg x1 with | some (q0,L0),some (q1,L1) => some (q0 ++ (q1 ++ (D n0 n1 L0 n2 L1)),F n0 n1 L0 n2 L1) | _,_ => none)
 | _ => none
theorem X8 {f : FuncId} {b : Body} {E : Env} {d : Nat} (hP : aL Tryz.prog Γ E) (hb : bQ Tryz.prog f b) {D : Int -> Int -> List Wk -> Int -> List (List Int) -> List aa} {F : Int -> Int -> List Wk -> Int -> List (List Int) -> Tm} (hp : ∀ (n0 : Int) (n1 : Int) (L0 : List Wk) (n2 : Int) (L1 : List (List Int)),(F n0 n1 L0 n2 L1).plain = true)
  (H : ∀ (n0 : Int) (n1 : Int) (L0 : List Wk) (n2 : Int) (L1 : List (List Int)),bW (D n0 n1 L0 n2 L1) -> cQ E d b [.agg [vI n0,vI n1,.sl 0 [] 0 L0.length],.a (vI n2),.a (.sl 1 [] 0 L1.length)] [.arr 46 kW L0 false false,.arr 49 kT L1 false false] (fun x _ => iL x (F n0 n1 L0 n2 L1))) : au.Ok Tryz.prog Γ f (Yp D F):=au.er (d:=d) hP hb (by
 intro args rg q t hF hq
 split at hF
 next n0 n1 x0 n2 x1 =>
  split at hF
  next q0 L0 q1 L1 hx0 cO =>
   obtain ⟨rfl,rfl⟩:=Prod.mk.inj (Option.some.inj hF);clear hF
   rw [aH,aH] at hq
   obtain ⟨dm,gk,hD⟩:=hq
   obtain ⟨e0,Vn⟩:=bP (by simp [kW]) hx0 dm
   obtain ⟨e1,iO⟩:=bP (by simp [kT]) cO gk
   obtain ⟨p0,r0⟩:=Vn [e0,e1] 0 2 rfl (by omega)
   obtain ⟨p1,r1⟩:=iO [e0,e1] 1 2 rfl (by omega)
   refine ⟨hp _ _ _ _ _,[e0,e1],[.agg [vI n0,vI n1,.sl 0 [] 0 L0.length],.a (vI n2),.a (.sl 1 [] 0 L1.length)],[.arr 46 kW L0 false false,.arr 49 kT L1 false false],⟨⟨⟨rfl,rfl,p0,trivial⟩,rfl,p1,trivial⟩,fun r g hg => ?_⟩,H _ _ _ _ _ hD⟩
   match r,hg with
   | 0,hg => obtain rfl:=Option.some.inj hg;exact r0
   | 1,hg => obtain rfl:=Option.some.inj hg;exact r1
  next => cases hF
 next => cases hF)
def X7 (D : Int -> Int -> List Wk -> List (List Int) -> List aa) (F : Int -> Int -> List Wk -> List (List Int) -> Tm) : au:=.fn fun args rg => match args with
 | [.agg [.v (.int .i64 n0),.v (.int .i64 n1),x0],.a x1] => (match ac1 46 kW rg x0,ac1 49 kT rg x1 with | some (q0,L0),some (q1,L1) => some (q0 ++ (q1 ++ (D n0 n1 L0 L1)),F n0 n1 L0 L1) | _,_ => none)
 | _ => none
theorem Xe {f : FuncId} {b : Body} {E : Env} {d : Nat} (hP : aL Tryz.prog Γ E) (hb : bQ Tryz.prog f b) {D : Int -> Int -> List Wk -> List (List Int) -> List aa} {F : Int -> Int -> List Wk -> List (List Int) -> Tm} (hp : ∀ (n0 : Int) (n1 : Int) (L0 : List Wk) (L1 : List (List Int)),(F n0 n1 L0 L1).plain = true)
  (H : ∀ (n0 : Int) (n1 : Int) (L0 : List Wk) (L1 : List (List Int)),bW (D n0 n1 L0 L1) -> cQ E d b [.agg [vI n0,vI n1,.sl 0 [] 0 L0.length],.a (.sl 1 [] 0 L1.length)] [.arr 46 kW L0 false false,.arr 49 kT L1 false false] (fun x _ => iL x (F n0 n1 L0 L1))) : au.Ok Tryz.prog Γ f (X7 D F):=au.er (d:=d) hP hb (by
 intro args rg q t hF hq
 split at hF
 next n0 n1 x0 x1 =>
  split at hF
  next q0 L0 q1 L1 hx0 cO =>
   obtain ⟨rfl,rfl⟩:=Prod.mk.inj (Option.some.inj hF);clear hF
   rw [aH,aH] at hq
   obtain ⟨dm,gk,hD⟩:=hq
   obtain ⟨e0,Vn⟩:=bP (by simp [kW]) hx0 dm
   obtain ⟨e1,iO⟩:=bP (by simp [kT]) cO gk
   obtain ⟨p0,r0⟩:=Vn [e0,e1] 0 2 rfl (by omega)
   obtain ⟨p1,r1⟩:=iO [e0,e1] 1 2 rfl (by omega)
   refine ⟨hp _ _ _ _,[e0,e1],[.agg [vI n0,vI n1,.sl 0 [] 0 L0.length],.a (.sl 1 [] 0 L1.length)],[.arr 46 kW L0 false false,.arr 49 kT L1 false false],⟨⟨⟨rfl,rfl,p0,trivial⟩,p1,trivial⟩,fun r g hg => ?_⟩,H _ _ _ _ hD⟩
   match r,hg with
   | 0,hg => obtain rfl:=Option.some.inj hg;exact r0
   | 1,hg => obtain rfl:=Option.some.inj hg;exact r1
  next => cases hF
 next => cases hF)
def Vw (n P : Int) (X : List (List Int)) : Bool:=((X.length : Int) == P) && !X.any (fun l => !SD n l)
theorem Zg {n P : Int} {X : List (List Int)} (h : X.any (fun l => !SD n l) = true) : Vw n P X = false:=by unfold Vw;rw [h];simp
theorem YR {n P : Int} {X : List (List Int)} (h : X.any (fun l => !SD n l) = false) : Vw n P X = ((X.length : Int) == P):=by unfold Vw;rw [h];simp
theorem Zf {n P : Int} {X : List (List Int)} (h : ((X.length : Int) == P) = false) : Vw n P X = false:=by unfold Vw;rw [h];rfl
def WE : au:=X7 (fun n _ _ X => [(aa.of (1 <= n /\ n <= 6)),(aa.of (X.length <= 1000000)),(aa.of (∀ w ∈ X,w.length <= 1000000))]) (fun n P _ X => bl (Vw n P X))
noncomputable def Yy : List (Nat × au):=[(99,S4)]
theorem Xv : aR Tryz.prog Γ Yy:=(aR.nil.cons (aj Tryz.func99 rfl rfl).fn TH)
noncomputable def X1 : List (Nat × Body):=[(92,bo Tryz.f92),(121,bo Tryz.f121),(98,bo Tryz.f98)]
theorem W4 : bq Tryz.prog X1:=(((bq.nil.cons (cg Tryz.func98 rfl rfl)).cons (cg Tryz.func121 rfl rfl)).cons (cg Tryz.func92 rfl rfl))
attribute [local irreducible] SD
theorem W7 : au.Ok Tryz.prog Γ 60 WE:=Xe (d:=4) (aP Xv W4 false 0) (aj Tryz.func60 rfl rfl) (fun _ _ _ _ => rfl) (by
 intro n P L X ⟨hn,hX,hv,_⟩
 simp only [aa.ae] at hn hX hv
 have m1 : decide ((-1 : Int) >= 0) = false:=rfl
 obtain h0 | h0 : ((X.length : Int) == P) = false \/ ((X.length : Int) == P) = true:=by cases ((X.length : Int) == P) <;> simp
 ·rw [Zf h0]
  repeat' ((conv => whnf);first | apply And.intro | (intro h9;try (have h8 : (_ : Bool) = _:=h9;clear h8;revert h9;subst_vars;intro h9;exact aq h9 (by assumption))))
  all_goals try (conv => whnf)
  all_goals try first | (apply Tk.mk <;> kernel_rfl) | exact ⟨ah rfl⟩ | exact ⟨rfl⟩ | exact ⟨trivial⟩
  all_goals subst_vars
  all_goals try first | rfl | contradiction | (apply Ob.mk;first | (simp only [ag,ak,aa.ae];omega) | ((try simp only [aa.ae]);(try dsimp only);omega))
 repeat' ((conv => whnf);first | apply And.intro | (intro h9;try (have h8 : (_ : Bool) = _:=h9;clear h8;revert h9;subst_vars;intro h9;exact aq h9 (by assumption))))
 all_goals try (conv => whnf)
 all_goals try first | (apply Tk.mk <;> kernel_rfl) | exact ⟨ah rfl⟩ | exact ⟨rfl⟩ | exact ⟨trivial⟩
 all_goals subst_vars
 all_goals try first | rfl | contradiction | (apply Ob.mk;first | (simp only [ag,ak,aa.ae];omega) | ((try simp only [aa.ae]);(try dsimp only);omega))
 refine ⟨Nat,fun i => i <= X.length /\ X.any (fun l => !SD n l) = (X.drop i).any (fun l => !SD n l),fun i => ⟨aI 19 [0,1,7,8] [.a (.sl 1 [] 0 X.length),.a (.fn 98 [2]),.a (vI X.length),.a (vI i)],[aI 9 [] [],aI 16 [10] [.a (.v (.bool ((X.length : Int) == P)))]],[.arr 46 kW L false false,.arr 49 kT X false false,.box true [vI n,vI P,.sl 0 [] 0 L.length]]⟩,fun i => X.length - i,0,[],⟨Nat.zero_le _,rfl⟩,?_,?_⟩
 ·repeat' ((conv => whnf);(first | apply And.intro | intro _))
  all_goals first | rfl | trivial | exact ah rfl | exact aS ‹_› rfl | exact aT ‹_› rfl | ((repeat' first | rfl | constructor);done)
 rintro i ⟨hi,hf⟩
 have m2 : decide ((i : Int) >= 0) = true:=decide_eq_true (by omega)
 by_cases hi1 : i < X.length
 ·have p0 : decide ((i : Int) < (X.length : Int)) = true:=decide_eq_true (by omega)
  have gr:=wV X i
  have gv : (bh X i).length <= 1000000:=by rw [gr];exact hv _ (AA hi1)
  obtain hb | hb : SD n (bh X i) = true \/ SD n (bh X i) = false:=by cases SD n (bh X i) <;> simp
  ·have e1 : (!SD n (bh X i)) = false:=by rw [hb];rfl
   have jH:=hf.trans (zx hi1 (d:=[]) (by show (!SD n (gL X i)) = false;rw [<- gr];exact e1))
   repeat' ((conv => whnf);first | apply And.intro | (intro h9;try (have h8 : (_ : Bool) = _:=h9;clear h8;revert h9;subst_vars;intro h9;exact aq h9 (by assumption))))
   all_goals try (conv => whnf)
   all_goals try first | (apply Tk.mk <;> kernel_rfl) | exact ⟨ah rfl⟩ | exact ⟨rfl⟩ | exact ⟨trivial⟩
   all_goals subst_vars
   all_goals try first | rfl | contradiction | (apply Ob.mk;first | (simp only [ag,ak,aa.ae];omega) | ((try simp only [aa.ae]);(try dsimp only);omega))
   all_goals try first
    | exact ⟨gv⟩
    | exact ⟨show 0 + Int.toNat (i : Int) < X.length by omega⟩
   refine ⟨i + 1,[],⟨hi1,jH⟩,?_,by show X.length - (i + 1) < X.length - i;omega⟩
   repeat' ((conv => whnf);(first | apply And.intro | intro _))
   all_goals first | rfl | trivial | exact ah rfl | exact aS ‹_› rfl | exact aT ‹_› rfl | ((repeat' first | rfl | constructor);done)
  have e1 : (!SD n (bh X i)) = true:=by rw [hb];rfl
  rw [Zg (hf.trans (wg hi1 (d:=[]) (by show (!SD n (gL X i)) = true;rw [<- gr];exact e1)))]
  repeat' ((conv => whnf);first | apply And.intro | (intro h9;try (have h8 : (_ : Bool) = _:=h9;clear h8;revert h9;subst_vars;intro h9;exact aq h9 (by assumption))))
  all_goals try (conv => whnf)
  all_goals try first | (apply Tk.mk <;> kernel_rfl) | exact ⟨ah rfl⟩ | exact ⟨rfl⟩ | exact ⟨trivial⟩
  all_goals subst_vars
  all_goals try first | rfl | contradiction | (apply Ob.mk;first | (simp only [ag,ak,aa.ae];omega) | ((try simp only [aa.ae]);(try dsimp only);omega))
  all_goals first
   | exact ⟨gv⟩
   | exact ⟨show 0 + Int.toNat (i : Int) < X.length by omega⟩
 have p0 : decide ((i : Int) < (X.length : Int)) = false:=decide_eq_false (by omega)
 rw [YR (hf.trans (we (by omega))),h0]
 repeat' ((conv => whnf);first | apply And.intro | (intro h9;try (have h8 : (_ : Bool) = _:=h9;clear h8;revert h9;subst_vars;intro h9;exact aq h9 (by assumption))))
 all_goals try (conv => whnf)
 all_goals try first | (apply Tk.mk <;> kernel_rfl) | exact ⟨ah rfl⟩ | exact ⟨rfl⟩ | exact ⟨trivial⟩
 all_goals subst_vars
 all_goals try first | rfl | contradiction | (apply Ob.mk;first | (simp only [ag,ak,aa.ae];omega) | ((try simp only [aa.ae]);(try dsimp only);omega)))
def VP (l : List Int) : Nat -> Int
 | 0 => av l 0
 | k + 1 => if av l (k + 1 : Nat) < VP l k then av l (k + 1 : Nat) else VP l k
def XD : au:=U5 (fun l => [(aa.of (1 <= l.length /\ l.length <= 1000000))]) (fun l => .a (vI (VP l (l.length - 1))))
theorem XE : au.Ok Tryz.prog Γ 101 XD:=UT (d:=0) (aP aR.nil bq.nil false 0) (aj Tryz.func101 rfl rfl) (fun _ => rfl) (by
 intro l ⟨hl,_⟩
 simp only [aa.ae] at hl
 have z1 : decide ((l.length : Int) < 1) = false:=decide_eq_false (by omega)
 repeat' ((conv => whnf);first | apply And.intro | (intro h9;try (have h8 : (_ : Bool) = _:=h9;clear h8;revert h9;subst_vars;intro h9;exact aq h9 (by assumption))))
 all_goals try (conv => whnf)
 all_goals try first | (apply Tk.mk <;> kernel_rfl) | exact ⟨ah rfl⟩ | exact ⟨rfl⟩ | exact ⟨trivial⟩
 all_goals subst_vars
 all_goals try first | rfl | contradiction | (apply Ob.mk;first | (simp only [ag,ak,aa.ae];omega) | ((try simp only [aa.ae]);(try dsimp only);omega))
 all_goals try first
  | exact ⟨show 0 + Int.toNat (0 : Int) < l.length by omega⟩
 refine ⟨Nat,fun i => 1 <= i /\ i <= l.length,fun i => ⟨aI 25 [0,3,4] [.a (.sl 0 [] 0 l.length),.a (vI (VP l (i - 1))),.a (vI i)],[],[.arr 3 kI l false false]⟩,fun i => l.length - i,1,[],⟨Nat.le_refl _,hl.1⟩,?_,?_⟩
 ·repeat' ((conv => whnf);(first | apply And.intro | intro _))
  all_goals first | rfl | trivial | exact ah rfl | exact aS ‹_› rfl | exact aT ‹_› rfl | ((repeat' first | rfl | constructor);done)
 rintro i ⟨hi0,hi⟩
 by_cases hi1 : i < l.length
 ·have p0 : decide ((i : Int) < (l.length : Int)) = true:=decide_eq_true (by omega)
  have hs : VP l (i + 1 - 1) = if av l (i : Nat) < VP l (i - 1) then av l (i : Nat) else VP l (i - 1):=by
   obtain ⟨j,rfl⟩ : ∃ j,i = j + 1:=⟨i - 1,by omega⟩
   rw [Nat.add_sub_cancel,Nat.add_sub_cancel,VP]
  repeat' ((conv => whnf);first | apply And.intro | (intro h9;try (have h8 : (_ : Bool) = _:=h9;clear h8;revert h9;subst_vars;intro h9;exact aq h9 (by assumption))))
  all_goals try (conv => whnf)
  all_goals try first | (apply Tk.mk <;> kernel_rfl) | exact ⟨ah rfl⟩ | exact ⟨rfl⟩ | exact ⟨trivial⟩
  all_goals subst_vars
  all_goals try first | rfl | contradiction | (apply Ob.mk;first | (simp only [ag,ak,aa.ae];omega) | ((try simp only [aa.ae]);(try dsimp only);omega))
  all_goals try first
   | exact ⟨show 0 + Int.toNat (i : Int) < l.length by omega⟩
  refine ⟨i + 1,[],⟨Nat.le_add_left ..,hi1⟩,?_,by show l.length - (i + 1) < l.length - i;omega⟩
  repeat' ((conv => whnf);(first | apply And.intro | intro _))
  all_goals first | rfl | trivial | exact ah rfl | exact aS ‹_› rfl | exact aT ‹_› rfl | ((repeat' first | rfl | constructor);done) | exact hs.symm
 have p0 : decide ((i : Int) < (l.length : Int)) = false:=decide_eq_false (by omega)
 obtain rfl : i = l.length:=by omega
 repeat' ((conv => whnf);first | apply And.intro | (intro h9;try (have h8 : (_ : Bool) = _:=h9;clear h8;revert h9;subst_vars;intro h9;exact aq h9 (by assumption))))
 all_goals try (conv => whnf)
 all_goals try first | (apply Tk.mk <;> kernel_rfl) | exact ⟨ah rfl⟩ | exact ⟨rfl⟩ | exact ⟨trivial⟩
 all_goals subst_vars
 all_goals try first | rfl | contradiction | (apply Ob.mk;first | (simp only [ag,ak,aa.ae];omega) | ((try simp only [aa.ae]);(try dsimp only);omega)))
def VQ (n : Int) (X : List (List Int)) (w : Wk) : List Int:=(ur n (bh X w.1) (bh X w.2.1) w.2.2 (n * n).toNat)
theorem YS {n : Int} {X : List (List Int)} {w : Wk} : (VQ n X w).length = (n * n).toNat:=S1
def Vv (n : Int) (X : List (List Int)) (w : Wk) : Bool:=VP (VQ n X w) ((VQ n X w).length - 1) == SO (VQ n X w) ((VQ n X w).length - 1)
def W2 (n : Int) (X : List (List Int)) (w : Wk) : Int:=av (VQ n X w) 0
def Wu : au:=Y2 (fun n _ _ w X => [(aa.of (1 <= n /\ n <= 6)),(aa.of ((0 <= w.1 /\ w.1 < (X.length : Int)) /\ (0 <= w.2.1 /\ w.2.1 < (X.length : Int)) /\ (0 <= w.2.2 /\ w.2.2 <= 7))),(aa.of (∀ l ∈ X,SD n l = true))]) (fun n _ _ w X => .bF [.a (vI (W2 n X w)),.a (.v (.bool (Vv n X w)))])
noncomputable def Wz : List (Nat × au):=[(100,T6),(101,XD),(102,T4)]
theorem W3 : aR Tryz.prog Γ Wz:=(((aR.nil.cons (aj Tryz.func102 rfl rfl).fn T5).cons (aj Tryz.func101 rfl rfl).fn XE).cons (aj Tryz.func100 rfl rfl).fn T7)
def XR (id : Nat) : Option (List Nat):=match Nat.beq id 1 with | true => some [0,1,2,3,4,5,6,7,8,9,10,11,12,13,14,15] | false => none
noncomputable def XH : Env:={ jV.env Wz [] false 0 with ord:=XR }
theorem WJ : aL Tryz.prog Γ XH:=(aP W3 bq.nil false 0).Ju _
attribute [local irreducible] VP SO ur
theorem WG : au.Ok Tryz.prog Γ 61 Wu:=YE (d:=0) WJ (aj Tryz.func61 rfl rfl) (fun _ _ _ _ _ => rfl) (by
 rintro n P L ⟨a,b,t⟩ X ⟨hn,⟨hA,hB,ht⟩,hv,_⟩
 simp only [aa.ae] at hn hA hB ht hv
 have j4 : 1 <= n * n /\ n * n <= 36:=sJ hn
 have ra : SD n (bh X a) = true:=hv _ (by unfold bh;rw [Nat.zero_add];exact AA (W:=X) (by omega))
 have rb : SD n (bh X b) = true:=hv _ (by unfold bh;rw [Nat.zero_add];exact AA (W:=X) (by omega))
 obtain ⟨a1,a2⟩:=Tn ra
 obtain ⟨b1,b2⟩:=Tn rb
 have l1 : (ur n (bh X a) (bh X b) t (n * n).toNat).length = (n * n).toNat:=S1
 repeat' ((conv => whnf);first | apply And.intro | (intro h9;try (have h8 : (_ : Bool) = _:=h9;clear h8;revert h9;subst_vars;intro h9;exact aq h9 (by assumption))))
 all_goals try (conv => whnf)
 all_goals try first | (apply Tk.mk <;> kernel_rfl) | exact ⟨ah rfl⟩ | exact ⟨rfl⟩ | exact ⟨trivial⟩
 all_goals subst_vars
 all_goals try first | rfl | contradiction | (apply Ob.mk;first | (simp only [ag,ak,aa.ae];omega) | ((try simp only [aa.ae]);(try dsimp only);omega))
 all_goals try first
  | exact True.intro
  | exact ⟨a1⟩
  | exact ⟨a2⟩
  | exact ⟨b1⟩
  | exact ⟨b2⟩
  | exact ⟨l1.symm⟩
  | exact ⟨show 0 + Int.toNat a < X.length by omega⟩
  | exact ⟨show 0 + Int.toNat b < X.length by omega⟩
  | exact ⟨show 1 <= (ur n (bh X a) (bh X b) t (n * n).toNat).length /\ (ur n (bh X a) (bh X b) t (n * n).toNat).length <= 1000000 by omega⟩
  | exact ⟨show 0 + Int.toNat (0 : Int) < (ur n (bh X a) (bh X b) t (n * n).toNat).length by omega⟩
 done)
end Go.Proofs.YthejmgnkenokpaaGreatDoor
end
section
namespace Go.Proofs.YthejmgnkenokpaaGreatDoor
open Go Go.Sy Go.bK
variable {Γ : bn}
def VH (n P : Int) (L : List Wk) (k : Int) (X : List (List Int)) : Int × Int:=match bD n P L == 0 with
 | false => (0,bD n P L)
 | true => match aQ k 0 ((L.length : Int) - 1) && Vw n P X with
   | false => (0,1)
   | true => match Vv n X (cn L k) with | true => (W2 n X (cn L k),0) | false => (0,5)
def Vu (n P : Int) (L : List Wk) (X : List (List Int)) : Bool × Int:=match bD n P L == 0 with
 | false => (false,bD n P L)
 | true => match Vw n P X with | false => (false,1) | true => (L.all (Vv n X),0)
theorem WZ {n P : Int} {X : List (List Int)} (h : Vw n P X = true) : (X.length : Int) = P /\ ∀ l ∈ X,SD n l = true:=by
 unfold Vw at h
 simp only [Bool.and_eq_true,beq_iff_eq,Bool.not_eq_true',List.any_eq_false,Bool.not_eq_true,Bool.not_eq_false'] at h
 exact ⟨h.1,fun l hl => by simpa using h.2 l hl⟩
theorem Wj (L : List Wk) (i : Nat) : cn L i = wk L i:=by unfold cn wk;rw [Nat.zero_add,Int.toNat_natCast];rfl
theorem XV {P : Int} {L : List Wk} (h : ∀ w ∈ L,eJ P w = true) {k : Int} (h0 : 0 <= k) (h1 : k < (L.length : Int)) : (0 <= (cn L k).1 /\ (cn L k).1 < P) /\ (0 <= (cn L k).2.1 /\ (cn L k).2.1 < P) /\ (0 <= (cn L k).2.2 /\ (cn L k).2.2 <= 7):=by
 obtain ⟨i,rfl⟩ : ∃ i : Nat,k = (i : Int):=⟨k.toNat,by omega⟩
 rw [Wj]
 have:=rR (h _ (Cf (i:=i) (by omega)))
 omega
def Yo : au:=Yp (fun _ _ L _ X => [(aa.of (L.length <= 1000000)),(aa.of (X.length <= 1000000)),(aa.of (∀ w ∈ X,w.length <= 1000000))]) (fun n P L k X => .bF [.a (vI (VH n P L k X).1),.a (vI (VH n P L k X).2)])
def WB : au:=X7 (fun _ _ L X => [(aa.of (L.length <= 1000000)),(aa.of (X.length <= 1000000)),(aa.of (∀ w ∈ X,w.length <= 1000000))]) (fun n P L X => .bF [.a (.v (.bool (Vu n P L X).1)),.a (vI (Vu n P L X).2)])
noncomputable def Zx : List (Nat × au):=[(35,rZ),(59,gK),(60,WE),(61,Wu)]
theorem Xa : aR Tryz.prog Γ Zx:=((((aR.nil.cons (aj Tryz.func61 rfl rfl).fn WG).cons (aj Tryz.func60 rfl rfl).fn W7).cons (aj Tryz.func59 rfl rfl).fn fw).cons (aj Tryz.func35 rfl rfl).fn oS)
attribute [local irreducible] Vv W2 Vw bD aQ
theorem X2 : au.Ok Tryz.prog Γ 16 Yo:=X8 (d:=0) (aP Xa bq.nil false 0) (aj Tryz.func16 rfl rfl) (fun _ _ _ _ _ => rfl) (by
 intro n P L k X ⟨hl,hX,hv,_⟩
 simp only [aa.ae] at hl hX hv
 obtain h0 | h0 : (bD n P L == 0) = false \/ (bD n P L == 0) = true:=by cases bD n P L == 0 <;> simp
 ·have e0 : (bD n P L != 0) = true:=by unfold bne;rw [h0];rfl
  rw [show VH n P L k X = (0,bD n P L) by unfold VH;rw [h0]]
  repeat' ((conv => whnf);first | apply And.intro | (intro h9;try (have h8 : (_ : Bool) = _:=h9;clear h8;revert h9;subst_vars;intro h9;exact aq h9 (by assumption))))
  all_goals try (conv => whnf)
  all_goals try first | (apply Tk.mk <;> kernel_rfl) | exact ⟨ah rfl⟩ | exact ⟨rfl⟩ | exact ⟨trivial⟩
  all_goals subst_vars
  all_goals try first | rfl | contradiction | (apply Ob.mk;first | (simp only [ag,ak,aa.ae];omega) | ((try simp only [aa.ae]);(try dsimp only);omega))
  all_goals first
   | trivial
   | exact ⟨hl⟩
 have e0 : (bD n P L != 0) = false:=by unfold bne;rw [h0];rfl
 have hs:=oe.1 (eq_of_beq h0)
 have hn:=hs.n
 obtain h1 | h1 : aQ k 0 ((L.length : Int) - 1) = false \/ aQ k 0 ((L.length : Int) - 1) = true:=by cases aQ k 0 ((L.length : Int) - 1) <;> simp
 ·have e1 : (!aQ k 0 ((L.length : Int) - 1)) = true:=by rw [h1];rfl
  rw [show VH n P L k X = (0,1) by unfold VH;rw [h0,h1];rfl]
  repeat' ((conv => whnf);first | apply And.intro | (intro h9;try (have h8 : (_ : Bool) = _:=h9;clear h8;revert h9;subst_vars;intro h9;exact aq h9 (by assumption))))
  all_goals try (conv => whnf)
  all_goals try first | (apply Tk.mk <;> kernel_rfl) | exact ⟨ah rfl⟩ | exact ⟨rfl⟩ | exact ⟨trivial⟩
  all_goals subst_vars
  all_goals try first | rfl | contradiction | (apply Ob.mk;first | (simp only [ag,ak,aa.ae];omega) | ((try simp only [aa.ae]);(try dsimp only);omega))
  all_goals first
   | trivial
   | exact ⟨hl⟩
 have e1 : (!aQ k 0 ((L.length : Int) - 1)) = false:=by rw [h1];rfl
 have hk:=bA.1 h1
 obtain h2 | h2 : Vw n P X = false \/ Vw n P X = true:=by cases Vw n P X <;> simp
 ·have e2 : (!Vw n P X) = true:=by rw [h2];rfl
  rw [show VH n P L k X = (0,1) by unfold VH;rw [h0,h1,h2];rfl]
  repeat' ((conv => whnf);first | apply And.intro | (intro h9;try (have h8 : (_ : Bool) = _:=h9;clear h8;revert h9;subst_vars;intro h9;exact aq h9 (by assumption))))
  all_goals try (conv => whnf)
  all_goals try first | (apply Tk.mk <;> kernel_rfl) | exact ⟨ah rfl⟩ | exact ⟨rfl⟩ | exact ⟨trivial⟩
  all_goals subst_vars
  all_goals try first | rfl | contradiction | (apply Ob.mk;first | (simp only [ag,ak,aa.ae];omega) | ((try simp only [aa.ae]);(try dsimp only);omega))
  all_goals first
   | trivial
   | exact ⟨hl⟩
   | exact ⟨hX⟩
   | exact ⟨hv⟩
 have e2 : (!Vw n P X) = false:=by rw [h2];rfl
 obtain ⟨x0,x2⟩:=WZ h2
 have x1 : (X.length : Int) <= P /\ P <= (X.length : Int):=by omega
 clear x0
 have hw:=XV hs.w (k:=k) hk.1 (by omega)
 have lS : (0 <= (cn L k).1 /\ (cn L k).1 < (X.length : Int)) /\ (0 <= (cn L k).2.1 /\ (cn L k).2.1 < (X.length : Int)) /\ (0 <= (cn L k).2.2 /\ (cn L k).2.2 <= 7):=by omega
 obtain h3 | h3 : Vv n X (cn L k) = false \/ Vv n X (cn L k) = true:=by cases Vv n X (cn L k) <;> simp
 ·have e3 : (!Vv n X (cn L k)) = true:=by rw [h3];rfl
  rw [show VH n P L k X = (0,5) by unfold VH;rw [h0,h1,h2,Bool.and_self];dsimp only;rw [h3]]
  repeat' ((conv => whnf);first | apply And.intro | (intro h9;try (have h8 : (_ : Bool) = _:=h9;clear h8;revert h9;subst_vars;intro h9;exact aq h9 (by assumption))))
  all_goals try (conv => whnf)
  all_goals try first | (apply Tk.mk <;> kernel_rfl) | exact ⟨ah rfl⟩ | exact ⟨rfl⟩ | exact ⟨trivial⟩
  all_goals subst_vars
  all_goals try first | rfl | contradiction | (apply Ob.mk;first | (simp only [ag,ak,aa.ae];omega) | ((try simp only [aa.ae]);(try dsimp only);omega))
  all_goals first
   | trivial
   | exact ⟨hl⟩
   | exact ⟨hX⟩
   | exact ⟨hv⟩
   | exact ⟨x2⟩
   | exact ⟨lS⟩
   | exact ⟨show 0 + Int.toNat k < L.length by omega⟩
 have e3 : (!Vv n X (cn L k)) = false:=by rw [h3];rfl
 rw [show VH n P L k X = (W2 n X (cn L k),0) by unfold VH;rw [h0,h1,h2,Bool.and_self];dsimp only;rw [h3]]
 repeat' ((conv => whnf);first | apply And.intro | (intro h9;try (have h8 : (_ : Bool) = _:=h9;clear h8;revert h9;subst_vars;intro h9;exact aq h9 (by assumption))))
 all_goals try (conv => whnf)
 all_goals try first | (apply Tk.mk <;> kernel_rfl) | exact ⟨ah rfl⟩ | exact ⟨rfl⟩ | exact ⟨trivial⟩
 all_goals subst_vars
 all_goals try first | rfl | contradiction | (apply Ob.mk;first | (simp only [ag,ak,aa.ae];omega) | ((try simp only [aa.ae]);(try dsimp only);omega))
 all_goals first
  | trivial
  | exact ⟨hl⟩
  | exact ⟨hX⟩
  | exact ⟨hv⟩
  | exact ⟨x2⟩
  | exact ⟨lS⟩
  | exact ⟨show 0 + Int.toNat k < L.length by omega⟩)
theorem Wt : au.Ok Tryz.prog Γ 17 WB:=Xe (d:=0) (aP Xa bq.nil false 0) (aj Tryz.func17 rfl rfl) (fun _ _ _ _ => rfl) (by
 intro n P L X ⟨hl,hX,hv,_⟩
 simp only [aa.ae] at hl hX hv
 obtain h0 | h0 : (bD n P L == 0) = false \/ (bD n P L == 0) = true:=by cases bD n P L == 0 <;> simp
 ·have e0 : (bD n P L != 0) = true:=by unfold bne;rw [h0];rfl
  rw [show Vu n P L X = (false,bD n P L) by unfold Vu;rw [h0]]
  repeat' ((conv => whnf);first | apply And.intro | (intro h9;try (have h8 : (_ : Bool) = _:=h9;clear h8;revert h9;subst_vars;intro h9;exact aq h9 (by assumption))))
  all_goals try (conv => whnf)
  all_goals try first | (apply Tk.mk <;> kernel_rfl) | exact ⟨ah rfl⟩ | exact ⟨rfl⟩ | exact ⟨trivial⟩
  all_goals subst_vars
  all_goals try first | rfl | contradiction | (apply Ob.mk;first | (simp only [ag,ak,aa.ae];omega) | ((try simp only [aa.ae]);(try dsimp only);omega))
  all_goals first
   | trivial
   | exact ⟨hl⟩
 have e0 : (bD n P L != 0) = false:=by unfold bne;rw [h0];rfl
 have hs:=oe.1 (eq_of_beq h0)
 have hn:=hs.n
 obtain h2 | h2 : Vw n P X = false \/ Vw n P X = true:=by cases Vw n P X <;> simp
 ·have e2 : (!Vw n P X) = true:=by rw [h2];rfl
  rw [show Vu n P L X = (false,1) by unfold Vu;rw [h0,h2]]
  repeat' ((conv => whnf);first | apply And.intro | (intro h9;try (have h8 : (_ : Bool) = _:=h9;clear h8;revert h9;subst_vars;intro h9;exact aq h9 (by assumption))))
  all_goals try (conv => whnf)
  all_goals try first | (apply Tk.mk <;> kernel_rfl) | exact ⟨ah rfl⟩ | exact ⟨rfl⟩ | exact ⟨trivial⟩
  all_goals subst_vars
  all_goals try first | rfl | contradiction | (apply Ob.mk;first | (simp only [ag,ak,aa.ae];omega) | ((try simp only [aa.ae]);(try dsimp only);omega))
  all_goals first
   | trivial
   | exact ⟨hl⟩
   | exact ⟨hX⟩
   | exact ⟨hv⟩
 have e2 : (!Vw n P X) = false:=by rw [h2];rfl
 obtain ⟨x0,x2⟩:=WZ h2
 have x1 : (X.length : Int) <= P /\ P <= (X.length : Int):=by omega
 clear x0
 rw [show Vu n P L X = (L.all (Vv n X),0) by unfold Vu;rw [h0,h2]]
 repeat' ((conv => whnf);first | apply And.intro | (intro h9;try (have h8 : (_ : Bool) = _:=h9;clear h8;revert h9;subst_vars;intro h9;exact aq h9 (by assumption))))
 all_goals try (conv => whnf)
 all_goals try first | (apply Tk.mk <;> kernel_rfl) | exact ⟨ah rfl⟩ | exact ⟨rfl⟩ | exact ⟨trivial⟩
 all_goals subst_vars
 all_goals try first | rfl | contradiction | (apply Ob.mk;first | (simp only [ag,ak,aa.ae];omega) | ((try simp only [aa.ae]);(try dsimp only);omega))
 all_goals try first
  | exact ⟨hl⟩
  | exact ⟨hX⟩
  | exact ⟨hv⟩
 refine ⟨Nat,fun i => i <= L.length /\ L.all (Vv n X) = (L.drop i).all (Vv n X),fun i => ⟨aI 37 [1,2,21,22,23] [.a (.sl 1 [] 0 X.length),.a (.p 2 [] 0 0),.a (.sl 0 [] 0 L.length),.a (vI L.length),.a (vI i)],[],[.arr 46 kW L false false,.arr 49 kT X false false,.box true [vI n,vI P,.sl 0 [] 0 L.length]]⟩,fun i => L.length - i,0,[],⟨Nat.zero_le _,rfl⟩,?_,?_⟩
 ·repeat' ((conv => whnf);(first | apply And.intro | intro _))
  all_goals first | rfl | trivial | exact ah rfl | exact aS ‹_› rfl | exact aT ‹_› rfl | ((repeat' first | rfl | constructor);done)
 rintro i ⟨hi,hf⟩
 by_cases hi1 : i < L.length
 ·have p0 : decide ((i : Int) < (L.length : Int)) = true:=decide_eq_true (by omega)
  have ew : cn L i = wk L i:=Wj L i
  have hw:=XV hs.w (k:=(i : Int)) (by omega) (by omega)
  have lS : (0 <= (cn L i).1 /\ (cn L i).1 < (X.length : Int)) /\ (0 <= (cn L i).2.1 /\ (cn L i).2.1 < (X.length : Int)) /\ (0 <= (cn L i).2.2 /\ (cn L i).2.2 <= 7):=by omega
  obtain h3 | h3 : Vv n X (cn L i) = false \/ Vv n X (cn L i) = true:=by cases Vv n X (cn L i) <;> simp
  ·have e3 : (!Vv n X (cn L i)) = true:=by rw [h3];rfl
   rw [hf.trans (zw hi1 (d:=(0,0,0)) (by show Vv n X (wk L i) = false;rw [<- ew];exact h3))]
   repeat' ((conv => whnf);first | apply And.intro | (intro h9;try (have h8 : (_ : Bool) = _:=h9;clear h8;revert h9;subst_vars;intro h9;exact aq h9 (by assumption))))
   all_goals try (conv => whnf)
   all_goals try first | (apply Tk.mk <;> kernel_rfl) | exact ⟨ah rfl⟩ | exact ⟨rfl⟩ | exact ⟨trivial⟩
   all_goals subst_vars
   all_goals try first | rfl | contradiction | (apply Ob.mk;first | (simp only [ag,ak,aa.ae];omega) | ((try simp only [aa.ae]);(try dsimp only);omega))
   all_goals first
    | trivial
    | exact ⟨x2⟩
    | exact ⟨lS⟩
    | exact ⟨show 0 + Int.toNat (i : Int) < L.length by omega⟩
  have e3 : (!Vv n X (cn L i)) = false:=by rw [h3];rfl
  have jH:=hf.trans (C7 hi1 (d:=(0,0,0)) (by show Vv n X (wk L i) = true;rw [<- ew];exact h3))
  repeat' ((conv => whnf);first | apply And.intro | (intro h9;try (have h8 : (_ : Bool) = _:=h9;clear h8;revert h9;subst_vars;intro h9;exact aq h9 (by assumption))))
  all_goals try (conv => whnf)
  all_goals try first | (apply Tk.mk <;> kernel_rfl) | exact ⟨ah rfl⟩ | exact ⟨rfl⟩ | exact ⟨trivial⟩
  all_goals subst_vars
  all_goals try first | rfl | contradiction | (apply Ob.mk;first | (simp only [ag,ak,aa.ae];omega) | ((try simp only [aa.ae]);(try dsimp only);omega))
  all_goals try first
   | exact ⟨x2⟩
   | exact ⟨lS⟩
   | exact ⟨show 0 + Int.toNat (i : Int) < L.length by omega⟩
  refine ⟨i + 1,[],⟨hi1,jH⟩,?_,by show L.length - (i + 1) < L.length - i;omega⟩
  repeat' ((conv => whnf);(first | apply And.intro | intro _))
  all_goals first | rfl | trivial | exact ah rfl | exact aS ‹_› rfl | exact aT ‹_› rfl | ((repeat' first | rfl | constructor);done)
 have p0 : decide ((i : Int) < (L.length : Int)) = false:=decide_eq_false (by omega)
 rw [hf.trans (C6 (by omega))]
 repeat' ((conv => whnf);first | apply And.intro | (intro h9;try (have h8 : (_ : Bool) = _:=h9;clear h8;revert h9;subst_vars;intro h9;exact aq h9 (by assumption))))
 all_goals try (conv => whnf)
 all_goals try first | (apply Tk.mk <;> kernel_rfl) | exact ⟨ah rfl⟩ | exact ⟨rfl⟩ | exact ⟨trivial⟩
 all_goals subst_vars
 all_goals try first | rfl | contradiction | (apply Ob.mk;first | (simp only [ag,ak,aa.ae];omega) | ((try simp only [aa.ae]);(try dsimp only);omega))
 all_goals first
  | trivial)
end Go.Proofs.YthejmgnkenokpaaGreatDoor
end
section
namespace Go.Proofs.YthejmgnkenokpaaGreatDoor
open Go Go.Sy Go.bK
variable {Γ : bn}
theorem UC (n : Int) (A B : List Int) (t : Int) (j : Nat) : SN n A B t (j : Nat) = gi A j + gi B (aX n t j).toNat:=by
 unfold SN;rw [dP];congr 1;unfold av gi;rw [Nat.zero_add];rfl
attribute [local irreducible] aQ aX SH
end Go.Proofs.YthejmgnkenokpaaGreatDoor
end
section
namespace Go.Proofs.YthejmgnkenokpaaGreatDoor
open Go Go.Sy Go.bK
variable {Γ : bn}
abbrev bI (G : List Sg) (i : Int) : Sg:=@Ar.get ⟨48,kG,G⟩ (0 + Int.toNat i)
theorem BP (G : List Sg) (i : Nat) : bI G i = G.getD i (0,false):=by unfold bI;rw [Nat.zero_add,Int.toNat_natCast];rfl
theorem rL (G : List Sg) (i : Nat) : bI G i = sg G i:=by unfold bI sg;rw [Nat.zero_add,Int.toNat_natCast];rfl
end Go.Proofs.YthejmgnkenokpaaGreatDoor
end
section
namespace Go.Proofs.YthejmgnkenokpaaGreatDoor
open Go Go.Sy Go.bK
variable {Γ : bn}
def PA (D : List Int -> List Int -> List aa) (F : List Int -> List Int -> Tm) : au:=.fn fun args rg => match args with
 | [.a x0,.a x1] => (match ac1 3 kI rg x0,ac1 3 kI rg x1 with | some (q0,L0),some (q1,L1) => some (q0 ++ (q1 ++ (D L0 L1)),F L0 L1) | _,_ => none)
 | _ => none
theorem MK {f : FuncId} {b : Body} {E : Env} {d : Nat} (hP : aL Tryz.prog Γ E) (hb : bQ Tryz.prog f b) {D : List Int -> List Int -> List aa} {F : List Int -> List Int -> Tm} (hp : ∀ (L0 : List Int) (L1 : List Int),(F L0 L1).plain = true)
  (H : ∀ (L0 : List Int) (L1 : List Int),bW (D L0 L1) -> cQ E d b [.a (.sl 0 [] 0 L0.length),.a (.sl 1 [] 0 L1.length)] [.arr 3 kI L0 false false,.arr 3 kI L1 false false] (fun x _ => iL x (F L0 L1))) : au.Ok Tryz.prog Γ f (PA D F):=au.er (d:=d) hP hb (by
 intro args rg q t hF hq
 split at hF
 next x0 x1 =>
  split at hF
  next q0 L0 q1 L1 hx0 cO =>
   obtain ⟨rfl,rfl⟩:=Prod.mk.inj (Option.some.inj hF);clear hF
   rw [aH,aH] at hq
   obtain ⟨dm,gk,hD⟩:=hq
   obtain ⟨e0,Vn⟩:=bP (by simp [kI]) hx0 dm
   obtain ⟨e1,iO⟩:=bP (by simp [kI]) cO gk
   obtain ⟨p0,r0⟩:=Vn [e0,e1] 0 2 rfl (by omega)
   obtain ⟨p1,r1⟩:=iO [e0,e1] 1 2 rfl (by omega)
   refine ⟨hp _ _,[e0,e1],[.a (.sl 0 [] 0 L0.length),.a (.sl 1 [] 0 L1.length)],[.arr 3 kI L0 false false,.arr 3 kI L1 false false],⟨⟨p0,p1,trivial⟩,fun r g hg => ?_⟩,H _ _ hD⟩
   match r,hg with
   | 0,hg => obtain rfl:=Option.some.inj hg;exact r0
   | 1,hg => obtain rfl:=Option.some.inj hg;exact r1
  next => cases hF
 next => cases hF)
def Pz (D : List Sg -> List Sg -> List aa) (F : List Sg -> List Sg -> Tm) : au:=.fn fun args rg => match args with
 | [.a x0,.a x1] => (match ac1 48 kG rg x0,ac1 48 kG rg x1 with | some (q0,L0),some (q1,L1) => some (q0 ++ (q1 ++ (D L0 L1)),F L0 L1) | _,_ => none)
 | _ => none
theorem MJ {f : FuncId} {b : Body} {E : Env} {d : Nat} (hP : aL Tryz.prog Γ E) (hb : bQ Tryz.prog f b) {D : List Sg -> List Sg -> List aa} {F : List Sg -> List Sg -> Tm} (hp : ∀ (L0 : List Sg) (L1 : List Sg),(F L0 L1).plain = true)
  (H : ∀ (L0 : List Sg) (L1 : List Sg),bW (D L0 L1) -> cQ E d b [.a (.sl 0 [] 0 L0.length),.a (.sl 1 [] 0 L1.length)] [.arr 48 kG L0 false false,.arr 48 kG L1 false false] (fun x _ => iL x (F L0 L1))) : au.Ok Tryz.prog Γ f (Pz D F):=au.er (d:=d) hP hb (by
 intro args rg q t hF hq
 split at hF
 next x0 x1 =>
  split at hF
  next q0 L0 q1 L1 hx0 cO =>
   obtain ⟨rfl,rfl⟩:=Prod.mk.inj (Option.some.inj hF);clear hF
   rw [aH,aH] at hq
   obtain ⟨dm,gk,hD⟩:=hq
   obtain ⟨e0,Vn⟩:=bP (by simp [kG]) hx0 dm
   obtain ⟨e1,iO⟩:=bP (by simp [kG]) cO gk
   obtain ⟨p0,r0⟩:=Vn [e0,e1] 0 2 rfl (by omega)
   obtain ⟨p1,r1⟩:=iO [e0,e1] 1 2 rfl (by omega)
   refine ⟨hp _ _,[e0,e1],[.a (.sl 0 [] 0 L0.length),.a (.sl 1 [] 0 L1.length)],[.arr 48 kG L0 false false,.arr 48 kG L1 false false],⟨⟨p0,p1,trivial⟩,fun r g hg => ?_⟩,H _ _ hD⟩
   match r,hg with
   | 0,hg => obtain rfl:=Option.some.inj hg;exact r0
   | 1,hg => obtain rfl:=Option.some.inj hg;exact r1
  next => cases hF
 next => cases hF)
theorem AU (G : List Int) (i : Nat) : av G i = G.getD i 0:=dP G i
def uA : au:=PA (fun A B => [(aa.of (A.length <= 1000000)),(aa.of (B.length <= 1000000))]) (fun A B => bl (A == B))
theorem yG : au.Ok Tryz.prog Γ 26 uA:=MK (d:=0) (aP aR.nil bq.nil false 0) (aj Tryz.func26 rfl rfl) (fun _ _ => rfl) (by
 intro A B ⟨hA,hB,_⟩
 simp only [aa.ae] at hA hB
 by_cases hl : A.length = B.length
 ·have e0 : ((A.length : Int) != (B.length : Int)) = false:=by rw [hl];exact bne_self_eq_false _
  repeat' ((conv => whnf);first | apply And.intro | (intro h9;try (have h8 : (_ : Bool) = _:=h9;clear h8;revert h9;subst_vars;intro h9;exact aq h9 (by assumption))))
  all_goals try (conv => whnf)
  all_goals try first | (apply Tk.mk <;> kernel_rfl) | exact ⟨ah rfl⟩ | exact ⟨rfl⟩ | exact ⟨trivial⟩
  all_goals subst_vars
  all_goals try first | rfl | contradiction | (apply Ob.mk;first | (simp only [ag,ak,aa.ae];omega) | ((try simp only [aa.ae]);(try dsimp only);omega))
  refine ⟨Nat,fun i => i <= A.length /\ ∀ j,j < i -> A.getD j (0) = B.getD j (0),fun i => ⟨aI 26 [0,1,5] [.a (.sl 0 [] 0 A.length),.a (.sl 1 [] 0 B.length),.a (vI i)],[],[.arr 3 kI A false false,.arr 3 kI B false false]⟩,fun i => A.length - i,0,[],⟨Nat.zero_le _,fun _ h => absurd h (Nat.not_lt_zero _)⟩,?_,?_⟩
  ·repeat' ((conv => whnf);(first | apply And.intro | intro _))
   all_goals first | rfl | trivial | exact ah rfl | exact aS ‹_› rfl | exact aT ‹_› rfl | ((repeat' first | rfl | constructor);done)
  rintro i ⟨hi,hs⟩
  by_cases hi1 : i < A.length
  ·have p0 : decide ((i : Int) < (A.length : Int)) = true:=decide_eq_true (by omega)
   have ea:=AU A i
   have eb:=AU B i
   cases hb : (av A i == av B i)
   ·have e1 : (!(av A i == av B i)) = true:=by rw [hb];rfl
    rw [D5 (A:=A) (B:=B) (d:=0) (i:=i) (fun e => by
     have e3 : av A i = av B i:=by rw [ea,eb];exact e
     rw [e3] at hb;revert hb;simp)]
    repeat' ((conv => whnf);first | apply And.intro | (intro h9;try (have h8 : (_ : Bool) = _:=h9;clear h8;revert h9;subst_vars;intro h9;exact aq h9 (by assumption))))
    all_goals try (conv => whnf)
    all_goals try first | (apply Tk.mk <;> kernel_rfl) | exact ⟨ah rfl⟩ | exact ⟨rfl⟩ | exact ⟨trivial⟩
    all_goals subst_vars
    all_goals try first | rfl | contradiction | (apply Ob.mk;first | (simp only [ag,ak,aa.ae];omega) | ((try simp only [aa.ae]);(try dsimp only);omega))
    all_goals first
     | exact ⟨show 0 + Int.toNat (i : Int) < A.length by omega⟩
     | exact ⟨show 0 + Int.toNat (i : Int) < B.length by omega⟩
   have e1 : (!(av A i == av B i)) = false:=by rw [hb];rfl
   have pT : ∀ j,j < i + 1 -> A.getD j (0) = B.getD j (0):=fun j hj => (Nat.lt_succ_iff_lt_or_eq.1 hj).elim (hs j) (fun e => by
    rw [e]
    refine ea.symm.trans (Eq.trans ?_ eb)
    exact eq_of_beq hb)
   repeat' ((conv => whnf);first | apply And.intro | (intro h9;try (have h8 : (_ : Bool) = _:=h9;clear h8;revert h9;subst_vars;intro h9;exact aq h9 (by assumption))))
   all_goals try (conv => whnf)
   all_goals try first | (apply Tk.mk <;> kernel_rfl) | exact ⟨ah rfl⟩ | exact ⟨rfl⟩ | exact ⟨trivial⟩
   all_goals subst_vars
   all_goals try first | rfl | contradiction | (apply Ob.mk;first | (simp only [ag,ak,aa.ae];omega) | ((try simp only [aa.ae]);(try dsimp only);omega))
   all_goals try first
    | exact ⟨show 0 + Int.toNat (i : Int) < A.length by omega⟩
    | exact ⟨show 0 + Int.toNat (i : Int) < B.length by omega⟩
   refine ⟨i + 1,[],⟨hi1,pT⟩,?_,by show A.length - (i + 1) < A.length - i;omega⟩
   repeat' ((conv => whnf);(first | apply And.intro | intro _))
   all_goals first | rfl | trivial | exact ah rfl | exact aS ‹_› rfl | exact aT ‹_› rfl | ((repeat' first | rfl | constructor);done)
  have p0 : decide ((i : Int) < (A.length : Int)) = false:=decide_eq_false (by omega)
  rw [BO (A:=A) (B:=B) (d:=0) hl (fun j hj => hs j (by omega))]
  repeat' ((conv => whnf);first | apply And.intro | (intro h9;try (have h8 : (_ : Bool) = _:=h9;clear h8;revert h9;subst_vars;intro h9;exact aq h9 (by assumption))))
  all_goals try (conv => whnf)
  all_goals try first | (apply Tk.mk <;> kernel_rfl) | exact ⟨ah rfl⟩ | exact ⟨rfl⟩ | exact ⟨trivial⟩
  all_goals subst_vars
  all_goals try first | rfl | contradiction | (apply Ob.mk;first | (simp only [ag,ak,aa.ae];omega) | ((try simp only [aa.ae]);(try dsimp only);omega))
 have e0 : ((A.length : Int) != (B.length : Int)) = true:=by rw [bne_iff_ne];omega
 rw [BN hl]
 repeat' ((conv => whnf);first | apply And.intro | (intro h9;try (have h8 : (_ : Bool) = _:=h9;clear h8;revert h9;subst_vars;intro h9;exact aq h9 (by assumption))))
 all_goals try (conv => whnf)
 all_goals try first | (apply Tk.mk <;> kernel_rfl) | exact ⟨ah rfl⟩ | exact ⟨rfl⟩ | exact ⟨trivial⟩
 all_goals subst_vars
 all_goals try first | rfl | contradiction | (apply Ob.mk;first | (simp only [ag,ak,aa.ae];omega) | ((try simp only [aa.ae]);(try dsimp only);omega)))
def sQ : au:=Pz (fun A B => [(aa.of (A.length <= 1000000)),(aa.of (B.length <= 1000000))]) (fun A B => bl (A == B))
theorem Z0 : au.Ok Tryz.prog Γ 28 sQ:=MJ (d:=0) (aP aR.nil bq.nil false 0) (aj Tryz.func28 rfl rfl) (fun _ _ => rfl) (by
 intro A B ⟨hA,hB,_⟩
 simp only [aa.ae] at hA hB
 by_cases hl : A.length = B.length
 ·have e0 : ((A.length : Int) != (B.length : Int)) = false:=by rw [hl];exact bne_self_eq_false _
  repeat' ((conv => whnf);first | apply And.intro | (intro h9;try (have h8 : (_ : Bool) = _:=h9;clear h8;revert h9;subst_vars;intro h9;exact aq h9 (by assumption))))
  all_goals try (conv => whnf)
  all_goals try first | (apply Tk.mk <;> kernel_rfl) | exact ⟨ah rfl⟩ | exact ⟨rfl⟩ | exact ⟨trivial⟩
  all_goals subst_vars
  all_goals try first | rfl | contradiction | (apply Ob.mk;first | (simp only [ag,ak,aa.ae];omega) | ((try simp only [aa.ae]);(try dsimp only);omega))
  refine ⟨Nat,fun i => i <= A.length /\ ∀ j,j < i -> A.getD j ((0,false)) = B.getD j ((0,false)),fun i => ⟨aI 26 [0,1,5] [.a (.sl 0 [] 0 A.length),.a (.sl 1 [] 0 B.length),.a (vI i)],[],[.arr 48 kG A false false,.arr 48 kG B false false]⟩,fun i => A.length - i,0,[],⟨Nat.zero_le _,fun _ h => absurd h (Nat.not_lt_zero _)⟩,?_,?_⟩
  ·repeat' ((conv => whnf);(first | apply And.intro | intro _))
   all_goals first | rfl | trivial | exact ah rfl | exact aS ‹_› rfl | exact aT ‹_› rfl | ((repeat' first | rfl | constructor);done)
  rintro i ⟨hi,hs⟩
  by_cases hi1 : i < A.length
  ·have p0 : decide ((i : Int) < (A.length : Int)) = true:=decide_eq_true (by omega)
   have ea:=BP A i
   have eb:=BP B i
   cases hb : ((bI A i).1 == (bI B i).1 && ((bI A i).2 == (bI B i).2 && true))
   ·have e1 : (!((bI A i).1 == (bI B i).1 && ((bI A i).2 == (bI B i).2 && true))) = true:=by rw [hb];rfl
    rw [D5 (A:=A) (B:=B) (d:=(0,false)) (i:=i) (fun e => by
     have e3 : bI A i = bI B i:=by rw [ea,eb];exact e
     rw [e3] at hb;revert hb;simp)]
    repeat' ((conv => whnf);first | apply And.intro | (intro h9;try (have h8 : (_ : Bool) = _:=h9;clear h8;revert h9;subst_vars;intro h9;exact aq h9 (by assumption))))
    all_goals try (conv => whnf)
    all_goals try first | (apply Tk.mk <;> kernel_rfl) | exact ⟨ah rfl⟩ | exact ⟨rfl⟩ | exact ⟨trivial⟩
    all_goals subst_vars
    all_goals try first | rfl | contradiction | (apply Ob.mk;first | (simp only [ag,ak,aa.ae];omega) | ((try simp only [aa.ae]);(try dsimp only);omega))
    all_goals first
     | exact ⟨show 0 + Int.toNat (i : Int) < A.length by omega⟩
     | exact ⟨show 0 + Int.toNat (i : Int) < B.length by omega⟩
   have e1 : (!((bI A i).1 == (bI B i).1 && ((bI A i).2 == (bI B i).2 && true))) = false:=by rw [hb];rfl
   have pT : ∀ j,j < i + 1 -> A.getD j ((0,false)) = B.getD j ((0,false)):=fun j hj => (Nat.lt_succ_iff_lt_or_eq.1 hj).elim (hs j) (fun e => by
    rw [e]
    refine ea.symm.trans (Eq.trans ?_ eb)
    simp only [Bool.and_true,Bool.and_eq_true,beq_iff_eq] at hb;exact Prod.ext hb.1 hb.2)
   repeat' ((conv => whnf);first | apply And.intro | (intro h9;try (have h8 : (_ : Bool) = _:=h9;clear h8;revert h9;subst_vars;intro h9;exact aq h9 (by assumption))))
   all_goals try (conv => whnf)
   all_goals try first | (apply Tk.mk <;> kernel_rfl) | exact ⟨ah rfl⟩ | exact ⟨rfl⟩ | exact ⟨trivial⟩
   all_goals subst_vars
   all_goals try first | rfl | contradiction | (apply Ob.mk;first | (simp only [ag,ak,aa.ae];omega) | ((try simp only [aa.ae]);(try dsimp only);omega))
   all_goals try first
    | exact ⟨show 0 + Int.toNat (i : Int) < A.length by omega⟩
    | exact ⟨show 0 + Int.toNat (i : Int) < B.length by omega⟩
   refine ⟨i + 1,[],⟨hi1,pT⟩,?_,by show A.length - (i + 1) < A.length - i;omega⟩
   repeat' ((conv => whnf);(first | apply And.intro | intro _))
   all_goals first | rfl | trivial | exact ah rfl | exact aS ‹_› rfl | exact aT ‹_› rfl | ((repeat' first | rfl | constructor);done)
  have p0 : decide ((i : Int) < (A.length : Int)) = false:=decide_eq_false (by omega)
  rw [BO (A:=A) (B:=B) (d:=(0,false)) hl (fun j hj => hs j (by omega))]
  repeat' ((conv => whnf);first | apply And.intro | (intro h9;try (have h8 : (_ : Bool) = _:=h9;clear h8;revert h9;subst_vars;intro h9;exact aq h9 (by assumption))))
  all_goals try (conv => whnf)
  all_goals try first | (apply Tk.mk <;> kernel_rfl) | exact ⟨ah rfl⟩ | exact ⟨rfl⟩ | exact ⟨trivial⟩
  all_goals subst_vars
  all_goals try first | rfl | contradiction | (apply Ob.mk;first | (simp only [ag,ak,aa.ae];omega) | ((try simp only [aa.ae]);(try dsimp only);omega))
 have e0 : ((A.length : Int) != (B.length : Int)) = true:=by rw [bne_iff_ne];omega
 rw [BN hl]
 repeat' ((conv => whnf);first | apply And.intro | (intro h9;try (have h8 : (_ : Bool) = _:=h9;clear h8;revert h9;subst_vars;intro h9;exact aq h9 (by assumption))))
 all_goals try (conv => whnf)
 all_goals try first | (apply Tk.mk <;> kernel_rfl) | exact ⟨ah rfl⟩ | exact ⟨rfl⟩ | exact ⟨trivial⟩
 all_goals subst_vars
 all_goals try first | rfl | contradiction | (apply Ob.mk;first | (simp only [ag,ak,aa.ae];omega) | ((try simp only [aa.ae]);(try dsimp only);omega)))
end Go.Proofs.YthejmgnkenokpaaGreatDoor
end
section
namespace Go.Proofs.YthejmgnkenokpaaGreatDoor
open Go Go.Sy Go.bK
variable {Γ : bn}
def bp : List Wk:=[(0,1,0),(1,2,0),(2,0,4)]
def Dg : au:=.new fun args rg K => match args with
 | [] => K ⟨[.arr 46 kW bp true true],.agg [vI 2,vI 3,.sl 0 [] 0 3]⟩
 | _ => False
theorem EK : au.Ok Tryz.prog Γ 38 Dg:=au.fM (d:=0) (aP aR.nil bq.nil false 0) (aj Tryz.func38 rfl rfl) (by
 intro args rg K hC
 split at hC
 next =>
  have hK:=hC
  refine ⟨[],[],[],⟨trivial,fun r g hg => by cases hg⟩,bu K,?_,fun x st h => h⟩
  clear hC
  repeat' ((conv => whnf);first | apply And.intro | (intro h9;try (have h8 : (_ : Bool) = _:=h9;clear h8;revert h9;subst_vars;intro h9;exact aq h9 (by assumption))))
  all_goals try (conv => whnf)
  all_goals try first | (apply Tk.mk <;> kernel_rfl) | exact ⟨ah rfl⟩ | exact ⟨rfl⟩ | exact ⟨trivial⟩
  all_goals subst_vars
  all_goals try first | rfl | contradiction | (apply Ob.mk;first | (simp only [ag,ak,aa.ae];omega) | ((try simp only [aa.ae]);(try dsimp only);omega))
  all_goals first
   | (refine bu.base ⟨_,[1],hK,⟨rfl,rfl,by simp,trivial⟩,rfl,?_⟩;(repeat' ((conv => whnf);(first | apply And.intro | intro _)));all_goals first | rfl | trivial)
 next => exact hC.elim)
end Go.Proofs.YthejmgnkenokpaaGreatDoor
end
section
namespace Go.Proofs.YthejmgnkenokpaaGreatDoor
open Go Go.Sy Go.bK
variable {Γ : bn}
abbrev J0 (L : List Bool) (i : Int) : Bool:=@Ar.get ⟨4,kB,L⟩ (0 + Int.toNat i)
theorem Mm (L : List Bool) (i : Int) : J0 L i = gb L i:=by unfold J0 gb;rw [Nat.zero_add];rfl
theorem Lu (w : List Int) (i : Int) : av w i = gi w i:=by unfold av gi;rw [Nat.zero_add];rfl
noncomputable def Gm : au:=.fn fun args rg => match args with
 | [.a (.p r [] 0 0),.a (.v (.int .i64 x))] => (match rg.getD r .dead with
   | .box _ [a,b,_] => (match ac1 3 kI rg a,ac1 4 kB rg b with
     | some (q0,U),some (q1,Pa) => some (q0 ++ (q1 ++ [OV (kM U Pa x)]),.bF [.a (vI (cm U Pa x).1),.a (.v (.bool (cm U Pa x).2))])
     | _,_ => none)
   | _ => none)
 | _ => none
attribute [local irreducible] cm
theorem Gn : au.Ok Tryz.prog Γ 91 Gm:=au.er (d:=0) (aP aR.nil bq.nil false 0) (aj Tryz.func91 rfl rfl) (by
 intro args rg q t hF hq
 split at hF
 next r x =>
  split at hF
  next o a b c hg =>
   split at hF
   next q0 U q1 Pa h0 h1 =>
    obtain ⟨rfl,rfl⟩:=Prod.mk.inj (Option.some.inj hF);clear hF
    rw [aH,aH] at hq
    obtain ⟨dm,gk,hD,_⟩:=hq
    have Vo : rg[r]? = some (.box o [a,b,c]):=bg (st:=⟨⟨0,.nil⟩,[],rg⟩) hg (by simp)
    obtain ⟨e0,Vn⟩:=bP (by simp) h0 dm
    obtain ⟨e1,iO⟩:=bP (by simp) h1 gk
    obtain ⟨p0,r0⟩:=Vn [some (r,[]),e0,e1] 1 3 rfl (by omega)
    obtain ⟨p1,r1⟩:=iO [some (r,[]),e0,e1] 2 3 rfl (by omega)
    refine ⟨rfl,[some (r,[]),e0,e1],[.a (.p 0 [] 0 0),.a (vI x)],[.box false [.sl 1 [] 0 U.length,.sl 2 [] 0 Pa.length,.any],.arr 3 kI U false false,.arr 4 kB Pa false false],⟨⟨⟨r,[],rfl,by simp,rfl⟩,rfl,trivial⟩,fun r' g lh => ?_⟩,?_⟩
    ·match r',lh with
     | 0,lh => obtain rfl:=Option.some.inj lh;exact ⟨rfl,r,o,[a,b,c],rfl,Vo,p0,p1,trivial,trivial⟩
     | 1,lh => obtain rfl:=Option.some.inj lh;exact r0
     | 2,lh => obtain rfl:=Option.some.inj lh;exact r1
    ·obtain ⟨n,R,Q,rk,hr,hx,j4⟩ : kM U Pa x:=hD
     rw [rH hr hx j4]
     have ny:=hx
     unfold aM at ny
     have Ko : U.length = (n * n).toNat:=hr.lu
     have PO : Pa.length = (n * n).toNat:=hr.lp
     repeat' ((conv => whnf);first | apply And.intro | (intro h9;try (have h8 : (_ : Bool) = _:=h9;clear h8;revert h9;subst_vars;intro h9;exact aq h9 (by assumption))))
     all_goals try (conv => whnf)
     all_goals try first | (apply Tk.mk <;> kernel_rfl) | exact ⟨ah rfl⟩ | exact ⟨rfl⟩ | exact ⟨trivial⟩
     all_goals subst_vars
     all_goals try first | rfl | contradiction | (apply Ob.mk;first | (simp only [ag,ak,aa.ae];omega) | ((try simp only [aa.ae]);(try dsimp only);omega))
     refine ⟨Int × Bool,fun s => aM n s.1 /\ R s.1 = R x /\ (s.2 != Q s.1) = Q x,fun s => ⟨aI 34 [0,1,6] [.a (.p 0 [] 0 0),.a (vI s.1),.a (.v (.bool s.2))],[],[.box false [.sl 1 [] 0 U.length,.sl 2 [] 0 Pa.length,.any],.arr 3 kI U false false,.arr 4 kB Pa false false]⟩,fun s => rk s.1,(x,false),[],⟨hx,rfl,EW _⟩,?_,?_⟩
     ·repeat' ((conv => whnf);(first | apply And.intro | intro _))
      all_goals first | rfl | trivial | exact ah rfl | exact aS ‹_› rfl | exact aT ‹_› rfl | ((repeat' first | rfl | constructor);done)
     rintro ⟨v,b⟩ ⟨hv,Vp,xY⟩
     dsimp only at hv Vp xY
     have iz : 0 <= v /\ v < (U.length : Int):=by unfold aM at hv;omega
     have iy : 0 <= v /\ v < (Pa.length : Int):=by omega
     have iS : 0 + Int.toNat v < U.length:=by omega
     have iR : 0 + Int.toNat v < Pa.length:=by omega
     have Dp:=Lu U v
     have QV:=Mm Pa v
     by_cases Ks : gi U v = v
     rotate_left
     ·have q1 : (av U v != v) = true:=by rw [Dp,bne_iff_ne];exact Ks
      obtain ⟨s1,s2,s3⟩:=hr.step v hv Ks
      repeat' ((conv => whnf);first | apply And.intro | (intro h9;try (have h8 : (_ : Bool) = _:=h9;clear h8;revert h9;subst_vars;intro h9;exact aq h9 (by assumption))))
      all_goals try (conv => whnf)
      all_goals try first | (apply Tk.mk <;> kernel_rfl) | exact ⟨ah rfl⟩ | exact ⟨rfl⟩ | exact ⟨trivial⟩
      all_goals subst_vars
      all_goals try first | rfl | contradiction | (apply Ob.mk;first | (simp only [ag,ak,aa.ae];omega) | ((try simp only [aa.ae]);(try dsimp only);omega))
      refine ⟨(av U v,!(b == J0 Pa v)),[],⟨by show aM n (av U v);rw [Dp];exact hr.cell v hv,by show R (av U v) = _;rw [Dp,s1];exact Vp,?_⟩,?_,by show rk (av U v) < rk v;rw [Dp];exact s3⟩
      ·show ((b != J0 Pa v) != Q (av U v)) = _
       rw [Dp,QV,xor_assoc,<- s2];exact xY
      repeat' ((conv => whnf);(first | apply And.intro | intro _))
      all_goals first | rfl | trivial | exact ah rfl | exact aS ‹_› rfl | exact aT ‹_› rfl | ((repeat' first | rfl | constructor);done) | exact ⟨rfl,rfl,rfl⟩
     have q1 : (av U v != v) = false:=by rw [Dp,Ks];exact bne_self_eq_false _
     obtain ⟨s1,s2⟩:=hr.root v hv Ks
     rw [s1] at Vp
     rw [s2,J1] at xY
     subst xY
     rw [<- Vp]
     repeat' ((conv => whnf);first | apply And.intro | (intro h9;try (have h8 : (_ : Bool) = _:=h9;clear h8;revert h9;subst_vars;intro h9;exact aq h9 (by assumption))))
     all_goals try (conv => whnf)
     all_goals try first | (apply Tk.mk <;> kernel_rfl) | exact ⟨ah rfl⟩ | exact ⟨rfl⟩ | exact ⟨trivial⟩
     all_goals subst_vars
     all_goals try first | rfl | contradiction | (apply Ob.mk;first | (simp only [ag,ak,aa.ae];omega) | ((try simp only [aa.ae]);(try dsimp only);omega))
     all_goals first
      | trivial
   next => cases hF
  next => cases hF
 next => cases hF)
end Go.Proofs.YthejmgnkenokpaaGreatDoor
end
