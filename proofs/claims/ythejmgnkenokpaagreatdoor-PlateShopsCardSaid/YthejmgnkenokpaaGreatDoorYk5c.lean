/-
  Texts of the claims on chapter 3: Yk5c. No condition: lemmas and contracts.
-/
import Derived.Test.YthejmgnkenokpaaGreatDoorYk4c
import Derived.Test.YthejmgnkenokpaaGreatDoorPl1c
import Derived.Test.YthejmgnkenokpaaGreatDoorYk1c
set_option linter.all false
set_option maxRecDepth 100000
set_option maxHeartbeats 4000000
section
namespace Go.Proofs.YthejmgnkenokpaaGreatDoor
open Go Go.Sy Go.bK
variable {Γ : bn}
def PD (D : Int -> Int -> List Wk -> List (List Int) -> List aa) (F : Int -> Int -> List Wk -> List (List Int) -> Tm) : au:=.fn fun args rg => match args with
 | [.agg [.v (.int .i64 n0),.v (.int .i64 n1),x0],.a x1] => (match ac1 46 kW rg x0,ac1 49 kT rg x1 with | some (q0,L0),some (q1,L1) => some (q0 ++ (q1 ++ (D n0 n1 L0 L1)),F n0 n1 L0 L1) | _,_ => none)
 | _ => none
theorem MN {f : FuncId} {b : Body} {E : Env} {d : Nat} (hP : aL Tryz.prog Γ E) (hb : bQ Tryz.prog f b) {D : Int -> Int -> List Wk -> List (List Int) -> List aa} {F : Int -> Int -> List Wk -> List (List Int) -> Tm} (hp : ∀ (n0 : Int) (n1 : Int) (L0 : List Wk) (L1 : List (List Int)),(F n0 n1 L0 L1).plain = true)
  (H : ∀ (n0 : Int) (n1 : Int) (L0 : List Wk) (L1 : List (List Int)),bW (D n0 n1 L0 L1) -> cQ E d b [.agg [vI n0,vI n1,.sl 0 [] 0 L0.length],.a (.sl 1 [] 0 L1.length)] [.arr 46 kW L0 false false,.arr 49 kT L1 false false] (fun x _ => iL x (F n0 n1 L0 L1))) : au.Ok Tryz.prog Γ f (PD D F):=au.er (d:=d) hP hb (by
 intro args rg q t hF hq
 split at hF
 next n0 n1 x0 x1 =>
  split at hF
  next q0 L0 q1 L1 hx0 cO =>
   obtain ⟨rfl,rfl⟩:=Prod.mk.inj (Option.some.inj hF);clear hF
   rw [aH,aH] at hq
   obtain ⟨dm,gk,hD⟩:=hq
   obtain ⟨e0,Vn⟩:=bP (by simp [kW]) hx0 dm
   obtain ⟨e1,iO⟩:=bP (by simp [kT]) cO gk
   obtain ⟨p0,r0⟩:=Vn [e0,e1] 0 2 rfl (by omega)
   obtain ⟨p1,r1⟩:=iO [e0,e1] 1 2 rfl (by omega)
   refine ⟨hp _ _ _ _,[e0,e1],[.agg [vI n0,vI n1,.sl 0 [] 0 L0.length],.a (.sl 1 [] 0 L1.length)],[.arr 46 kW L0 false false,.arr 49 kT L1 false false],⟨⟨⟨rfl,rfl,p0,trivial⟩,p1,trivial⟩,fun r g hg => ?_⟩,H _ _ _ _ hD⟩
   match r,hg with
   | 0,hg => obtain rfl:=Option.some.inj hg;exact r0
   | 1,hg => obtain rfl:=Option.some.inj hg;exact r1
  next => cases hF
 next => cases hF)
def zR : au:=xL (fun _ _ L _ => [(aa.of (L.length <= 1000000))]) (fun _ _ L s => bl (fm L s))
noncomputable def KW : List (Nat × au):=[(59,gK)]
theorem El : aR Tryz.prog Γ KW:=(aR.nil.cons (aj Tryz.func59 rfl rfl).fn fw)
theorem CF : au.Ok Tryz.prog Γ 95 zR:=mG (d:=0) (aP El bq.nil false 0) (aj Tryz.func95 rfl rfl) (fun _ _ _ _ => rfl) (by
 intro n P L s ⟨hl,_⟩
 simp only [aa.ae] at hl
 rw [show fm L s = aQ s (0 - (L.length : Int)) ((L.length : Int) - 1) by unfold fm;rw [Int.zero_sub]]
 repeat' ((conv => whnf);first | apply And.intro | (intro h9;try (have h8 : (_ : Bool) = _:=h9;clear h8;revert h9;subst_vars;intro h9;exact aq h9 (by assumption))))
 all_goals try (conv => whnf)
 all_goals try first | (apply Tk.mk <;> kernel_rfl) | exact ⟨ah rfl⟩ | exact ⟨rfl⟩ | exact ⟨trivial⟩
 all_goals subst_vars
 all_goals try first | rfl | contradiction | (apply Ob.mk;first | (simp only [ag,ak,aa.ae];omega) | ((try simp only [aa.ae]);(try dsimp only);omega)))
abbrev bh (W : List (List Int)) (i : Int) : List Int:=@Ar.get ⟨49,kT,W⟩ (0 + Int.toNat i)
theorem wV (W : List (List Int)) (i : Nat) : bh W i = gL W i:=by unfold bh gL;rw [Nat.zero_add,Int.toNat_natCast];rfl
abbrev KC (W : List (List Int)) (i k : Int) : Int:=@Ar.get ⟨3,kI,bh W i⟩ (0 + Int.toNat k)
def wv : au:=PD (fun _ _ L W => [(aa.of (L.length <= 1000000)),(aa.of (W.length <= 1000000)),(aa.of (∀ w ∈ W,w.length <= 1000000))]) (fun _ _ L W => .a (vI (cK L W)))
noncomputable def Mj : List (Nat × au):=[(95,zR)]
theorem FZ : aR Tryz.prog Γ Mj:=(aR.nil.cons (aj Tryz.func95 rfl rfl).fn CF)
noncomputable def K4 : List (Nat × Body):=[(92,bo Tryz.f92),(121,bo Tryz.f121),(93,bo Tryz.f93),(80,bo Tryz.f80),(116,bo Tryz.f116),(94,bo Tryz.f94)]
theorem ED : bq Tryz.prog K4:=((((((bq.nil.cons (cg Tryz.func94 rfl rfl)).cons (cg Tryz.func116 rfl rfl)).cons (cg Tryz.func80 rfl rfl)).cons (cg Tryz.func93 rfl rfl)).cons (cg Tryz.func121 rfl rfl)).cons (cg Tryz.func92 rfl rfl))
attribute [local irreducible] bN fW fm
theorem uF : au.Ok Tryz.prog Γ 51 wv:=MN (d:=4) (aP FZ ED false 0) (aj Tryz.func51 rfl rfl) (fun _ _ _ _ => rfl) (by
 intro n P L W ⟨hl,hW,hv,_⟩
 simp only [aa.ae] at hl hW hv
 have m1 : decide ((-1 : Int) >= 0) = false:=rfl
 repeat' ((conv => whnf);first | apply And.intro | (intro h9;try (have h8 : (_ : Bool) = _:=h9;clear h8;revert h9;subst_vars;intro h9;exact aq h9 (by assumption))))
 all_goals try (conv => whnf)
 all_goals try first | (apply Tk.mk <;> kernel_rfl) | exact ⟨ah rfl⟩ | exact ⟨rfl⟩ | exact ⟨trivial⟩
 all_goals subst_vars
 all_goals try first | rfl | contradiction | (apply Ob.mk;first | (simp only [ag,ak,aa.ae];omega) | ((try simp only [aa.ae]);(try dsimp only);omega))
 refine ⟨Nat,fun i => i <= W.length /\ W.any fW = (W.drop i).any fW,fun i => ⟨aI 19 [0,1,7,8] [.a (.sl 1 [] 0 W.length),.a (.fn 93 []),.a (vI W.length),.a (vI i)],[aI 9 [] [],aI 19 [1,2] [.a (.sl 1 [] 0 W.length),.a (.p 2 [] 0 0)]],[.arr 46 kW L false false,.arr 49 kT W false false,.box true [vI n,vI P,.sl 0 [] 0 L.length]]⟩,fun i => W.length - i,0,[],⟨Nat.zero_le _,rfl⟩,?_,?_⟩
 ·repeat' ((conv => whnf);(first | apply And.intro | intro _))
  all_goals first | rfl | trivial | exact ah rfl | exact aS ‹_› rfl | exact aT ‹_› rfl | ((repeat' first | rfl | constructor);done)
 rintro i ⟨hi,hf⟩
 have m2 : decide ((i : Int) >= 0) = true:=decide_eq_true (by omega)
 by_cases hi1 : i < W.length
 ·have p0 : decide ((i : Int) < (W.length : Int)) = true:=decide_eq_true (by omega)
  have gr:=wV W i
  have gv : (bh W i).length <= 1000000:=by rw [gr];exact hv _ (AA hi1)
  have gb : fW (gL W i) = decide (((bh W i).length : Int) > 96):=by rw [gr];unfold fW;rfl
  cases hb : decide (((bh W i).length : Int) > 96)
  ·have jH:=hf.trans (zx hi1 (d:=[]) (gb.trans hb))
   repeat' ((conv => whnf);first | apply And.intro | (intro h9;try (have h8 : (_ : Bool) = _:=h9;clear h8;revert h9;subst_vars;intro h9;exact aq h9 (by assumption))))
   all_goals try (conv => whnf)
   all_goals try first | (apply Tk.mk <;> kernel_rfl) | exact ⟨ah rfl⟩ | exact ⟨rfl⟩ | exact ⟨trivial⟩
   all_goals subst_vars
   all_goals try first | rfl | contradiction | (apply Ob.mk;first | (simp only [ag,ak,aa.ae];omega) | ((try simp only [aa.ae]);(try dsimp only);omega))
   all_goals try first
    | exact ⟨show 0 + Int.toNat (i : Int) < W.length by omega⟩
   refine ⟨i + 1,[],⟨hi1,jH⟩,?_,by show W.length - (i + 1) < W.length - i;omega⟩
   repeat' ((conv => whnf);(first | apply And.intro | intro _))
   all_goals first | rfl | trivial | exact ah rfl | exact aS ‹_› rfl | exact aT ‹_› rfl | ((repeat' first | rfl | constructor);done)
  rw [show cK L W = 2 by unfold cK;rw [hf.trans (wg hi1 (d:=[]) (gb.trans hb))]]
  repeat' ((conv => whnf);first | apply And.intro | (intro h9;try (have h8 : (_ : Bool) = _:=h9;clear h8;revert h9;subst_vars;intro h9;exact aq h9 (by assumption))))
  all_goals try (conv => whnf)
  all_goals try first | (apply Tk.mk <;> kernel_rfl) | exact ⟨ah rfl⟩ | exact ⟨rfl⟩ | exact ⟨trivial⟩
  all_goals subst_vars
  all_goals try first | rfl | contradiction | (apply Ob.mk;first | (simp only [ag,ak,aa.ae];omega) | ((try simp only [aa.ae]);(try dsimp only);omega))
  all_goals first
   | exact ⟨show 0 + Int.toNat (i : Int) < W.length by omega⟩
 have p0 : decide ((i : Int) < (W.length : Int)) = false:=decide_eq_false (by omega)
 rw [show cK L W = match W.any (fun w => !bN L w) with | true => 1 | false => 0 by unfold cK;rw [hf.trans (we (by omega))];rfl]
 repeat' ((conv => whnf);first | apply And.intro | (intro h9;try (have h8 : (_ : Bool) = _:=h9;clear h8;revert h9;subst_vars;intro h9;exact aq h9 (by assumption))))
 all_goals try (conv => whnf)
 all_goals try first | (apply Tk.mk <;> kernel_rfl) | exact ⟨ah rfl⟩ | exact ⟨rfl⟩ | exact ⟨trivial⟩
 all_goals subst_vars
 all_goals try first | rfl | contradiction | (apply Ob.mk;first | (simp only [ag,ak,aa.ae];omega) | ((try simp only [aa.ae]);(try dsimp only);omega))
 refine ⟨Nat,fun j => j <= W.length /\ W.any (fun w => !bN L w) = (W.drop j).any (fun w => !bN L w),fun j => ⟨aI 19 [2,9,10,11] [.a (.p 2 [] 0 0),.a (.sl 1 [] 0 W.length),.a (vI W.length),.a (vI j)],[],[.arr 46 kW L false false,.arr 49 kT W false false,.box true [vI n,vI P,.sl 0 [] 0 L.length]]⟩,fun j => W.length - j,0,[],⟨Nat.zero_le _,rfl⟩,?_,?_⟩
 ·repeat' ((conv => whnf);(first | apply And.intro | intro _))
  all_goals first | rfl | trivial | exact ah rfl | exact aS ‹_› rfl | exact aT ‹_› rfl | ((repeat' first | rfl | constructor);done)
 clear hf hi p0 m2 hi1
 rintro j ⟨hj,hg⟩
 by_cases Ho : j < W.length
 ·have p1 : decide ((j : Int) < (W.length : Int)) = true:=decide_eq_true (by omega)
  have gr:=wV W j
  have gv : (bh W j).length <= 1000000:=by rw [gr];exact hv _ (AA Ho)
  repeat' ((conv => whnf);first | apply And.intro | (intro h9;try (have h8 : (_ : Bool) = _:=h9;clear h8;revert h9;subst_vars;intro h9;exact aq h9 (by assumption))))
  all_goals try (conv => whnf)
  all_goals try first | (apply Tk.mk <;> kernel_rfl) | exact ⟨ah rfl⟩ | exact ⟨rfl⟩ | exact ⟨trivial⟩
  all_goals subst_vars
  all_goals try first | rfl | contradiction | (apply Ob.mk;first | (simp only [ag,ak,aa.ae];omega) | ((try simp only [aa.ae]);(try dsimp only);omega))
  all_goals try first
   | exact ⟨show 0 + Int.toNat (j : Int) < W.length by omega⟩
  refine ⟨Nat,fun k => k <= (bh W j).length /\ bN L (bh W j) = bN L ((bh W j).drop k),fun k => ⟨aI 19 [0,1,7,8] [.a (.sl 1 [(0 + Int.toNat (j : Int),0)] 0 (bh W j).length),.a (.fn 94 [2]),.a (vI (bh W j).length),.a (vI k)],[aI 9 [] [],aI 19 [2,9,10,11] [.a (.p 2 [] 0 0),.a (.sl 1 [] 0 W.length),.a (vI W.length),.a (vI j)]],[.arr 46 kW L false false,.arr 49 kT W false false,.box true [vI n,vI P,.sl 0 [] 0 L.length]]⟩,fun k => (bh W j).length - k,0,[],⟨Nat.zero_le _,rfl⟩,?_,?_⟩
  ·repeat' ((conv => whnf);(first | apply And.intro | intro _))
   all_goals first | rfl | trivial | exact ah rfl | exact aS ‹_› rfl | exact aT ‹_› rfl | ((repeat' first | rfl | constructor);done)
  rintro k ⟨hk,hs⟩
  have m2 : decide ((k : Int) >= 0) = true:=decide_eq_true (by omega)
  by_cases cB : k < (bh W j).length
  ·have p2 : decide ((k : Int) < ((bh W j).length : Int)) = true:=decide_eq_true (by omega)
   have gs : KC W j k = gi (bh W j) k:=dP _ k
   cases hb : fm L (KC W j k)
   ·have e1 : (!fm L (KC W j k)) = true:=by rw [hb];rfl
    have pT:=hs.trans (BU cB (gs ▸ hb))
    have e3 : (!bN L (gL W j)) = true:=by rw [<- gr,pT];rfl
    rw [hg.trans (wg Ho (d:=[]) e3)]
    repeat' ((conv => whnf);first | apply And.intro | (intro h9;try (have h8 : (_ : Bool) = _:=h9;clear h8;revert h9;subst_vars;intro h9;exact aq h9 (by assumption))))
    all_goals try (conv => whnf)
    all_goals try first | (apply Tk.mk <;> kernel_rfl) | exact ⟨ah rfl⟩ | exact ⟨rfl⟩ | exact ⟨trivial⟩
    all_goals subst_vars
    all_goals try first | rfl | contradiction | (apply Ob.mk;first | (simp only [ag,ak,aa.ae];omega) | ((try simp only [aa.ae]);(try dsimp only);omega))
    all_goals first
     | exact ⟨hl⟩
     | exact ⟨show 0 + Int.toNat (j : Int) < W.length by omega⟩
     | exact ⟨show 0 + Int.toNat (k : Int) < (bh W j).length by omega⟩
   have e1 : (!fm L (KC W j k)) = false:=by rw [hb];rfl
   have pT:=hs.trans (yx cB (gs ▸ hb))
   repeat' ((conv => whnf);first | apply And.intro | (intro h9;try (have h8 : (_ : Bool) = _:=h9;clear h8;revert h9;subst_vars;intro h9;exact aq h9 (by assumption))))
   all_goals try (conv => whnf)
   all_goals try first | (apply Tk.mk <;> kernel_rfl) | exact ⟨ah rfl⟩ | exact ⟨rfl⟩ | exact ⟨trivial⟩
   all_goals subst_vars
   all_goals try first | rfl | contradiction | (apply Ob.mk;first | (simp only [ag,ak,aa.ae];omega) | ((try simp only [aa.ae]);(try dsimp only);omega))
   all_goals try first
    | exact ⟨hl⟩
    | exact ⟨show 0 + Int.toNat (j : Int) < W.length by omega⟩
    | exact ⟨show 0 + Int.toNat (k : Int) < (bh W j).length by omega⟩
   refine ⟨k + 1,[],⟨cB,pT⟩,?_,by show (bh W j).length - (k + 1) < (bh W j).length - k;omega⟩
   repeat' ((conv => whnf);(first | apply And.intro | intro _))
   all_goals first | rfl | trivial | exact ah rfl | exact aS ‹_› rfl | exact aT ‹_› rfl | ((repeat' first | rfl | constructor);done)
  have p2 : decide ((k : Int) < ((bh W j).length : Int)) = false:=decide_eq_false (by omega)
  have pT:=hs.trans (yu (by omega))
  have e3 : (!bN L (gL W j)) = false:=by rw [<- gr,pT];rfl
  have AJ:=hg.trans (zx Ho (d:=[]) e3)
  repeat' ((conv => whnf);first | apply And.intro | (intro h9;try (have h8 : (_ : Bool) = _:=h9;clear h8;revert h9;subst_vars;intro h9;exact aq h9 (by assumption))))
  all_goals try (conv => whnf)
  all_goals try first | (apply Tk.mk <;> kernel_rfl) | exact ⟨ah rfl⟩ | exact ⟨rfl⟩ | exact ⟨trivial⟩
  all_goals subst_vars
  all_goals try first | rfl | contradiction | (apply Ob.mk;first | (simp only [ag,ak,aa.ae];omega) | ((try simp only [aa.ae]);(try dsimp only);omega))
  refine ⟨j + 1,[],⟨Ho,AJ⟩,?_,by show W.length - (j + 1) < W.length - j;omega⟩
  repeat' ((conv => whnf);(first | apply And.intro | intro _))
  all_goals first | rfl | trivial | exact ah rfl | exact aS ‹_› rfl | exact aT ‹_› rfl | ((repeat' first | rfl | constructor);done)
 have p1 : decide ((j : Int) < (W.length : Int)) = false:=decide_eq_false (by omega)
 rw [hg.trans (we (by omega))]
 repeat' ((conv => whnf);first | apply And.intro | (intro h9;try (have h8 : (_ : Bool) = _:=h9;clear h8;revert h9;subst_vars;intro h9;exact aq h9 (by assumption))))
 all_goals try (conv => whnf)
 all_goals try first | (apply Tk.mk <;> kernel_rfl) | exact ⟨ah rfl⟩ | exact ⟨rfl⟩ | exact ⟨trivial⟩
 all_goals subst_vars
 all_goals try first | rfl | contradiction | (apply Ob.mk;first | (simp only [ag,ak,aa.ae];omega) | ((try simp only [aa.ae]);(try dsimp only);omega)))
end Go.Proofs.YthejmgnkenokpaaGreatDoor
end
section
namespace Go.Proofs.YthejmgnkenokpaaGreatDoor
open Go Go.Sy Go.bK
variable {Γ : bn}
abbrev bI (G : List Sg) (i : Int) : Sg:=@Ar.get ⟨48,kG,G⟩ (0 + Int.toNat i)
theorem BP (G : List Sg) (i : Nat) : bI G i = G.getD i (0,false):=by unfold bI;rw [Nat.zero_add,Int.toNat_natCast];rfl
theorem rL (G : List Sg) (i : Nat) : bI G i = sg G i:=by unfold bI sg;rw [Nat.zero_add,Int.toNat_natCast];rfl
end Go.Proofs.YthejmgnkenokpaaGreatDoor
end
section
namespace Go.Proofs.YthejmgnkenokpaaGreatDoor
open Go Go.Sy Go.bK
variable {Γ : bn}
def PA (D : List Int -> List Int -> List aa) (F : List Int -> List Int -> Tm) : au:=.fn fun args rg => match args with
 | [.a x0,.a x1] => (match ac1 3 kI rg x0,ac1 3 kI rg x1 with | some (q0,L0),some (q1,L1) => some (q0 ++ (q1 ++ (D L0 L1)),F L0 L1) | _,_ => none)
 | _ => none
theorem MK {f : FuncId} {b : Body} {E : Env} {d : Nat} (hP : aL Tryz.prog Γ E) (hb : bQ Tryz.prog f b) {D : List Int -> List Int -> List aa} {F : List Int -> List Int -> Tm} (hp : ∀ (L0 : List Int) (L1 : List Int),(F L0 L1).plain = true)
  (H : ∀ (L0 : List Int) (L1 : List Int),bW (D L0 L1) -> cQ E d b [.a (.sl 0 [] 0 L0.length),.a (.sl 1 [] 0 L1.length)] [.arr 3 kI L0 false false,.arr 3 kI L1 false false] (fun x _ => iL x (F L0 L1))) : au.Ok Tryz.prog Γ f (PA D F):=au.er (d:=d) hP hb (by
 intro args rg q t hF hq
 split at hF
 next x0 x1 =>
  split at hF
  next q0 L0 q1 L1 hx0 cO =>
   obtain ⟨rfl,rfl⟩:=Prod.mk.inj (Option.some.inj hF);clear hF
   rw [aH,aH] at hq
   obtain ⟨dm,gk,hD⟩:=hq
   obtain ⟨e0,Vn⟩:=bP (by simp [kI]) hx0 dm
   obtain ⟨e1,iO⟩:=bP (by simp [kI]) cO gk
   obtain ⟨p0,r0⟩:=Vn [e0,e1] 0 2 rfl (by omega)
   obtain ⟨p1,r1⟩:=iO [e0,e1] 1 2 rfl (by omega)
   refine ⟨hp _ _,[e0,e1],[.a (.sl 0 [] 0 L0.length),.a (.sl 1 [] 0 L1.length)],[.arr 3 kI L0 false false,.arr 3 kI L1 false false],⟨⟨p0,p1,trivial⟩,fun r g hg => ?_⟩,H _ _ hD⟩
   match r,hg with
   | 0,hg => obtain rfl:=Option.some.inj hg;exact r0
   | 1,hg => obtain rfl:=Option.some.inj hg;exact r1
  next => cases hF
 next => cases hF)
def Pz (D : List Sg -> List Sg -> List aa) (F : List Sg -> List Sg -> Tm) : au:=.fn fun args rg => match args with
 | [.a x0,.a x1] => (match ac1 48 kG rg x0,ac1 48 kG rg x1 with | some (q0,L0),some (q1,L1) => some (q0 ++ (q1 ++ (D L0 L1)),F L0 L1) | _,_ => none)
 | _ => none
theorem MJ {f : FuncId} {b : Body} {E : Env} {d : Nat} (hP : aL Tryz.prog Γ E) (hb : bQ Tryz.prog f b) {D : List Sg -> List Sg -> List aa} {F : List Sg -> List Sg -> Tm} (hp : ∀ (L0 : List Sg) (L1 : List Sg),(F L0 L1).plain = true)
  (H : ∀ (L0 : List Sg) (L1 : List Sg),bW (D L0 L1) -> cQ E d b [.a (.sl 0 [] 0 L0.length),.a (.sl 1 [] 0 L1.length)] [.arr 48 kG L0 false false,.arr 48 kG L1 false false] (fun x _ => iL x (F L0 L1))) : au.Ok Tryz.prog Γ f (Pz D F):=au.er (d:=d) hP hb (by
 intro args rg q t hF hq
 split at hF
 next x0 x1 =>
  split at hF
  next q0 L0 q1 L1 hx0 cO =>
   obtain ⟨rfl,rfl⟩:=Prod.mk.inj (Option.some.inj hF);clear hF
   rw [aH,aH] at hq
   obtain ⟨dm,gk,hD⟩:=hq
   obtain ⟨e0,Vn⟩:=bP (by simp [kG]) hx0 dm
   obtain ⟨e1,iO⟩:=bP (by simp [kG]) cO gk
   obtain ⟨p0,r0⟩:=Vn [e0,e1] 0 2 rfl (by omega)
   obtain ⟨p1,r1⟩:=iO [e0,e1] 1 2 rfl (by omega)
   refine ⟨hp _ _,[e0,e1],[.a (.sl 0 [] 0 L0.length),.a (.sl 1 [] 0 L1.length)],[.arr 48 kG L0 false false,.arr 48 kG L1 false false],⟨⟨p0,p1,trivial⟩,fun r g hg => ?_⟩,H _ _ hD⟩
   match r,hg with
   | 0,hg => obtain rfl:=Option.some.inj hg;exact r0
   | 1,hg => obtain rfl:=Option.some.inj hg;exact r1
  next => cases hF
 next => cases hF)
theorem AU (G : List Int) (i : Nat) : av G i = G.getD i 0:=dP G i
def uA : au:=PA (fun A B => [(aa.of (A.length <= 1000000)),(aa.of (B.length <= 1000000))]) (fun A B => bl (A == B))
theorem yG : au.Ok Tryz.prog Γ 26 uA:=MK (d:=0) (aP aR.nil bq.nil false 0) (aj Tryz.func26 rfl rfl) (fun _ _ => rfl) (by
 intro A B ⟨hA,hB,_⟩
 simp only [aa.ae] at hA hB
 by_cases hl : A.length = B.length
 ·have e0 : ((A.length : Int) != (B.length : Int)) = false:=by rw [hl];exact bne_self_eq_false _
  repeat' ((conv => whnf);first | apply And.intro | (intro h9;try (have h8 : (_ : Bool) = _:=h9;clear h8;revert h9;subst_vars;intro h9;exact aq h9 (by assumption))))
  all_goals try (conv => whnf)
  all_goals try first | (apply Tk.mk <;> kernel_rfl) | exact ⟨ah rfl⟩ | exact ⟨rfl⟩ | exact ⟨trivial⟩
  all_goals subst_vars
  all_goals try first | rfl | contradiction | (apply Ob.mk;first | (simp only [ag,ak,aa.ae];omega) | ((try simp only [aa.ae]);(try dsimp only);omega))
  refine ⟨Nat,fun i => i <= A.length /\ ∀ j,j < i -> A.getD j (0) = B.getD j (0),fun i => ⟨aI 26 [0,1,5] [.a (.sl 0 [] 0 A.length),.a (.sl 1 [] 0 B.length),.a (vI i)],[],[.arr 3 kI A false false,.arr 3 kI B false false]⟩,fun i => A.length - i,0,[],⟨Nat.zero_le _,fun _ h => absurd h (Nat.not_lt_zero _)⟩,?_,?_⟩
  ·repeat' ((conv => whnf);(first | apply And.intro | intro _))
   all_goals first | rfl | trivial | exact ah rfl | exact aS ‹_› rfl | exact aT ‹_› rfl | ((repeat' first | rfl | constructor);done)
  rintro i ⟨hi,hs⟩
  by_cases hi1 : i < A.length
  ·have p0 : decide ((i : Int) < (A.length : Int)) = true:=decide_eq_true (by omega)
   have ea:=AU A i
   have eb:=AU B i
   cases hb : (av A i == av B i)
   ·have e1 : (!(av A i == av B i)) = true:=by rw [hb];rfl
    rw [D5 (A:=A) (B:=B) (d:=0) (i:=i) (fun e => by
     have e3 : av A i = av B i:=by rw [ea,eb];exact e
     rw [e3] at hb;revert hb;simp)]
    repeat' ((conv => whnf);first | apply And.intro | (intro h9;try (have h8 : (_ : Bool) = _:=h9;clear h8;revert h9;subst_vars;intro h9;exact aq h9 (by assumption))))
    all_goals try (conv => whnf)
    all_goals try first | (apply Tk.mk <;> kernel_rfl) | exact ⟨ah rfl⟩ | exact ⟨rfl⟩ | exact ⟨trivial⟩
    all_goals subst_vars
    all_goals try first | rfl | contradiction | (apply Ob.mk;first | (simp only [ag,ak,aa.ae];omega) | ((try simp only [aa.ae]);(try dsimp only);omega))
    all_goals first
     | exact ⟨show 0 + Int.toNat (i : Int) < A.length by omega⟩
     | exact ⟨show 0 + Int.toNat (i : Int) < B.length by omega⟩
   have e1 : (!(av A i == av B i)) = false:=by rw [hb];rfl
   have pT : ∀ j,j < i + 1 -> A.getD j (0) = B.getD j (0):=fun j hj => (Nat.lt_succ_iff_lt_or_eq.1 hj).elim (hs j) (fun e => by
    rw [e]
    refine ea.symm.trans (Eq.trans ?_ eb)
    exact eq_of_beq hb)
   repeat' ((conv => whnf);first | apply And.intro | (intro h9;try (have h8 : (_ : Bool) = _:=h9;clear h8;revert h9;subst_vars;intro h9;exact aq h9 (by assumption))))
   all_goals try (conv => whnf)
   all_goals try first | (apply Tk.mk <;> kernel_rfl) | exact ⟨ah rfl⟩ | exact ⟨rfl⟩ | exact ⟨trivial⟩
   all_goals subst_vars
   all_goals try first | rfl | contradiction | (apply Ob.mk;first | (simp only [ag,ak,aa.ae];omega) | ((try simp only [aa.ae]);(try dsimp only);omega))
   all_goals try first
    | exact ⟨show 0 + Int.toNat (i : Int) < A.length by omega⟩
    | exact ⟨show 0 + Int.toNat (i : Int) < B.length by omega⟩
   refine ⟨i + 1,[],⟨hi1,pT⟩,?_,by show A.length - (i + 1) < A.length - i;omega⟩
   repeat' ((conv => whnf);(first | apply And.intro | intro _))
   all_goals first | rfl | trivial | exact ah rfl | exact aS ‹_› rfl | exact aT ‹_› rfl | ((repeat' first | rfl | constructor);done)
  have p0 : decide ((i : Int) < (A.length : Int)) = false:=decide_eq_false (by omega)
  rw [BO (A:=A) (B:=B) (d:=0) hl (fun j hj => hs j (by omega))]
  repeat' ((conv => whnf);first | apply And.intro | (intro h9;try (have h8 : (_ : Bool) = _:=h9;clear h8;revert h9;subst_vars;intro h9;exact aq h9 (by assumption))))
  all_goals try (conv => whnf)
  all_goals try first | (apply Tk.mk <;> kernel_rfl) | exact ⟨ah rfl⟩ | exact ⟨rfl⟩ | exact ⟨trivial⟩
  all_goals subst_vars
  all_goals try first | rfl | contradiction | (apply Ob.mk;first | (simp only [ag,ak,aa.ae];omega) | ((try simp only [aa.ae]);(try dsimp only);omega))
 have e0 : ((A.length : Int) != (B.length : Int)) = true:=by rw [bne_iff_ne];omega
 rw [BN hl]
 repeat' ((conv => whnf);first | apply And.intro | (intro h9;try (have h8 : (_ : Bool) = _:=h9;clear h8;revert h9;subst_vars;intro h9;exact aq h9 (by assumption))))
 all_goals try (conv => whnf)
 all_goals try first | (apply Tk.mk <;> kernel_rfl) | exact ⟨ah rfl⟩ | exact ⟨rfl⟩ | exact ⟨trivial⟩
 all_goals subst_vars
 all_goals try first | rfl | contradiction | (apply Ob.mk;first | (simp only [ag,ak,aa.ae];omega) | ((try simp only [aa.ae]);(try dsimp only);omega)))
def sQ : au:=Pz (fun A B => [(aa.of (A.length <= 1000000)),(aa.of (B.length <= 1000000))]) (fun A B => bl (A == B))
theorem Z0 : au.Ok Tryz.prog Γ 28 sQ:=MJ (d:=0) (aP aR.nil bq.nil false 0) (aj Tryz.func28 rfl rfl) (fun _ _ => rfl) (by
 intro A B ⟨hA,hB,_⟩
 simp only [aa.ae] at hA hB
 by_cases hl : A.length = B.length
 ·have e0 : ((A.length : Int) != (B.length : Int)) = false:=by rw [hl];exact bne_self_eq_false _
  repeat' ((conv => whnf);first | apply And.intro | (intro h9;try (have h8 : (_ : Bool) = _:=h9;clear h8;revert h9;subst_vars;intro h9;exact aq h9 (by assumption))))
  all_goals try (conv => whnf)
  all_goals try first | (apply Tk.mk <;> kernel_rfl) | exact ⟨ah rfl⟩ | exact ⟨rfl⟩ | exact ⟨trivial⟩
  all_goals subst_vars
  all_goals try first | rfl | contradiction | (apply Ob.mk;first | (simp only [ag,ak,aa.ae];omega) | ((try simp only [aa.ae]);(try dsimp only);omega))
  refine ⟨Nat,fun i => i <= A.length /\ ∀ j,j < i -> A.getD j ((0,false)) = B.getD j ((0,false)),fun i => ⟨aI 26 [0,1,5] [.a (.sl 0 [] 0 A.length),.a (.sl 1 [] 0 B.length),.a (vI i)],[],[.arr 48 kG A false false,.arr 48 kG B false false]⟩,fun i => A.length - i,0,[],⟨Nat.zero_le _,fun _ h => absurd h (Nat.not_lt_zero _)⟩,?_,?_⟩
  ·repeat' ((conv => whnf);(first | apply And.intro | intro _))
   all_goals first | rfl | trivial | exact ah rfl | exact aS ‹_› rfl | exact aT ‹_› rfl | ((repeat' first | rfl | constructor);done)
  rintro i ⟨hi,hs⟩
  by_cases hi1 : i < A.length
  ·have p0 : decide ((i : Int) < (A.length : Int)) = true:=decide_eq_true (by omega)
   have ea:=BP A i
   have eb:=BP B i
   cases hb : ((bI A i).1 == (bI B i).1 && ((bI A i).2 == (bI B i).2 && true))
   ·have e1 : (!((bI A i).1 == (bI B i).1 && ((bI A i).2 == (bI B i).2 && true))) = true:=by rw [hb];rfl
    rw [D5 (A:=A) (B:=B) (d:=(0,false)) (i:=i) (fun e => by
     have e3 : bI A i = bI B i:=by rw [ea,eb];exact e
     rw [e3] at hb;revert hb;simp)]
    repeat' ((conv => whnf);first | apply And.intro | (intro h9;try (have h8 : (_ : Bool) = _:=h9;clear h8;revert h9;subst_vars;intro h9;exact aq h9 (by assumption))))
    all_goals try (conv => whnf)
    all_goals try first | (apply Tk.mk <;> kernel_rfl) | exact ⟨ah rfl⟩ | exact ⟨rfl⟩ | exact ⟨trivial⟩
    all_goals subst_vars
    all_goals try first | rfl | contradiction | (apply Ob.mk;first | (simp only [ag,ak,aa.ae];omega) | ((try simp only [aa.ae]);(try dsimp only);omega))
    all_goals first
     | exact ⟨show 0 + Int.toNat (i : Int) < A.length by omega⟩
     | exact ⟨show 0 + Int.toNat (i : Int) < B.length by omega⟩
   have e1 : (!((bI A i).1 == (bI B i).1 && ((bI A i).2 == (bI B i).2 && true))) = false:=by rw [hb];rfl
   have pT : ∀ j,j < i + 1 -> A.getD j ((0,false)) = B.getD j ((0,false)):=fun j hj => (Nat.lt_succ_iff_lt_or_eq.1 hj).elim (hs j) (fun e => by
    rw [e]
    refine ea.symm.trans (Eq.trans ?_ eb)
    simp only [Bool.and_true,Bool.and_eq_true,beq_iff_eq] at hb;exact Prod.ext hb.1 hb.2)
   repeat' ((conv => whnf);first | apply And.intro | (intro h9;try (have h8 : (_ : Bool) = _:=h9;clear h8;revert h9;subst_vars;intro h9;exact aq h9 (by assumption))))
   all_goals try (conv => whnf)
   all_goals try first | (apply Tk.mk <;> kernel_rfl) | exact ⟨ah rfl⟩ | exact ⟨rfl⟩ | exact ⟨trivial⟩
   all_goals subst_vars
   all_goals try first | rfl | contradiction | (apply Ob.mk;first | (simp only [ag,ak,aa.ae];omega) | ((try simp only [aa.ae]);(try dsimp only);omega))
   all_goals try first
    | exact ⟨show 0 + Int.toNat (i : Int) < A.length by omega⟩
    | exact ⟨show 0 + Int.toNat (i : Int) < B.length by omega⟩
   refine ⟨i + 1,[],⟨hi1,pT⟩,?_,by show A.length - (i + 1) < A.length - i;omega⟩
   repeat' ((conv => whnf);(first | apply And.intro | intro _))
   all_goals first | rfl | trivial | exact ah rfl | exact aS ‹_› rfl | exact aT ‹_› rfl | ((repeat' first | rfl | constructor);done)
  have p0 : decide ((i : Int) < (A.length : Int)) = false:=decide_eq_false (by omega)
  rw [BO (A:=A) (B:=B) (d:=(0,false)) hl (fun j hj => hs j (by omega))]
  repeat' ((conv => whnf);first | apply And.intro | (intro h9;try (have h8 : (_ : Bool) = _:=h9;clear h8;revert h9;subst_vars;intro h9;exact aq h9 (by assumption))))
  all_goals try (conv => whnf)
  all_goals try first | (apply Tk.mk <;> kernel_rfl) | exact ⟨ah rfl⟩ | exact ⟨rfl⟩ | exact ⟨trivial⟩
  all_goals subst_vars
  all_goals try first | rfl | contradiction | (apply Ob.mk;first | (simp only [ag,ak,aa.ae];omega) | ((try simp only [aa.ae]);(try dsimp only);omega))
 have e0 : ((A.length : Int) != (B.length : Int)) = true:=by rw [bne_iff_ne];omega
 rw [BN hl]
 repeat' ((conv => whnf);first | apply And.intro | (intro h9;try (have h8 : (_ : Bool) = _:=h9;clear h8;revert h9;subst_vars;intro h9;exact aq h9 (by assumption))))
 all_goals try (conv => whnf)
 all_goals try first | (apply Tk.mk <;> kernel_rfl) | exact ⟨ah rfl⟩ | exact ⟨rfl⟩ | exact ⟨trivial⟩
 all_goals subst_vars
 all_goals try first | rfl | contradiction | (apply Ob.mk;first | (simp only [ag,ak,aa.ae];omega) | ((try simp only [aa.ae]);(try dsimp only);omega)))
end Go.Proofs.YthejmgnkenokpaaGreatDoor
end
section
namespace Go.Proofs.YthejmgnkenokpaaGreatDoor
open Go Go.Sy Go.bK
variable {Γ : bn}
def ajw (D : Int -> Int -> List Wk -> Int -> Int -> List Wk -> List aa) (F : Int -> Int -> List Wk -> Int -> Int -> List Wk -> Tm) : au:=.fn fun args rg => match args with
 | [.agg [.v (.int .i64 n0),.v (.int .i64 n1),x0],.agg [.v (.int .i64 n2),.v (.int .i64 n3),x1]] => (match ac1 46 kW rg x0,ac1 46 kW rg x1 with | some (q0,L0),some (q1,L1) => some (q0 ++ (q1 ++ (D n0 n1 L0 n2 n3 L1)),F n0 n1 L0 n2 n3 L1) | _,_ => none)
 | _ => none
theorem ajg {f : FuncId} {b : Body} {E : Env} {d : Nat} (hP : aL Tryz.prog Γ E) (hb : bQ Tryz.prog f b) {D : Int -> Int -> List Wk -> Int -> Int -> List Wk -> List aa} {F : Int -> Int -> List Wk -> Int -> Int -> List Wk -> Tm} (hp : ∀ (n0 : Int) (n1 : Int) (L0 : List Wk) (n2 : Int) (n3 : Int) (L1 : List Wk),(F n0 n1 L0 n2 n3 L1).plain = true)
  (H : ∀ (n0 : Int) (n1 : Int) (L0 : List Wk) (n2 : Int) (n3 : Int) (L1 : List Wk),bW (D n0 n1 L0 n2 n3 L1) -> cQ E d b [.agg [vI n0,vI n1,.sl 0 [] 0 L0.length],.agg [vI n2,vI n3,.sl 1 [] 0 L1.length]] [.arr 46 kW L0 false false,.arr 46 kW L1 false false] (fun x _ => iL x (F n0 n1 L0 n2 n3 L1))) : au.Ok Tryz.prog Γ f (ajw D F):=au.er (d:=d) hP hb (by
 intro args rg q t hF hq
 split at hF
 next n0 n1 x0 n2 n3 x1 =>
  split at hF
  next q0 L0 q1 L1 hx0 cO =>
   obtain ⟨rfl,rfl⟩:=Prod.mk.inj (Option.some.inj hF);clear hF
   rw [aH,aH] at hq
   obtain ⟨dm,gk,hD⟩:=hq
   obtain ⟨e0,Vn⟩:=bP (by simp [kW]) hx0 dm
   obtain ⟨e1,iO⟩:=bP (by simp [kW]) cO gk
   obtain ⟨p0,r0⟩:=Vn [e0,e1] 0 2 rfl (by omega)
   obtain ⟨p1,r1⟩:=iO [e0,e1] 1 2 rfl (by omega)
   refine ⟨hp _ _ _ _ _ _,[e0,e1],[.agg [vI n0,vI n1,.sl 0 [] 0 L0.length],.agg [vI n2,vI n3,.sl 1 [] 0 L1.length]],[.arr 46 kW L0 false false,.arr 46 kW L1 false false],⟨⟨⟨rfl,rfl,p0,trivial⟩,⟨rfl,rfl,p1,trivial⟩,trivial⟩,fun r g hg => ?_⟩,H _ _ _ _ _ _ hD⟩
   match r,hg with
   | 0,hg => obtain rfl:=Option.some.inj hg;exact r0
   | 1,hg => obtain rfl:=Option.some.inj hg;exact r1
  next => cases hF
 next => cases hF)
def ah3 (D : ByteArray -> List aa) (R : ByteArray -> cM) : au:=.new fun args rg K => match args with
 | [.a (.v (.string s0))] => bk false (D s0) (K (R s0))
 | _ => False
theorem ail {f : FuncId} {b : Body} {E : Env} {d : Nat} (hP : aL Tryz.prog Γ E) (hb : bQ Tryz.prog f b) {D : ByteArray -> List aa} {R : ByteArray -> cM}
  (H : ∀ (s0 : ByteArray) (K : cM -> Prop),bW (D s0) -> K (R s0) -> cQ E d b [.a (.v (.string s0))] [] (bu K)) : au.Ok Tryz.prog Γ f (ah3 D R):=au.fM (d:=d) hP hb (by
 intro args rg K hF
 split at hF
 next s0 =>
  rw [aV] at hF
  obtain ⟨hD,hK⟩:=hF
  refine ⟨[],[.a (.v (.string s0))],[],⟨⟨rfl,trivial⟩,fun r g hg => ?_⟩,bu K,H _ K hD hK,fun x st h => h⟩
  cases hg
 next => exact hF.elim)
def ahS (D : ByteArray -> List aa) (Rk : ByteArray -> (cM -> Prop) -> Prop) : au:=.new fun args rg K => match args with
 | [.a (.v (.string s0))] => bk false (D s0) (Rk s0 K)
 | _ => False
theorem ah6 {f : FuncId} {D : ByteArray -> List aa} {R : ByteArray -> cM} {Rk : ByteArray -> (cM -> Prop) -> Prop} (h : au.Ok Tryz.prog Γ f (ah3 D R)) (hk : ∀ (s0 : ByteArray) K,Rk s0 K -> K (R s0)) : au.Ok Tryz.prog Γ f (ahS D Rk):=by
 intro args rg K hC
 refine h args rg K ?_
 (try unfold ahS at hC)
 (try unfold ah3)
 (try dsimp only at hC ⊢)
 split at hC
 next s0 =>
  rw [aV] at hC ⊢
  exact ⟨hC.1,hk _ K hC.2⟩
 next => exact hC.elim
def gF (n P : Int) (A : List Wk) (m Q : Int) (B : List Wk) : Bool:=n == m && (P == Q && A == B)
def ahX : au:=ajw (fun _ _ A _ _ B => [(aa.of (A.length <= 1000000)),(aa.of (B.length <= 1000000))]) (fun n P A m Q B => bl (gF n P A m Q B))
attribute [local irreducible] gF
theorem ahI : au.Ok Tryz.prog Γ 36 ahX:=ajg (d:=0) (aP aR.nil bq.nil false 0) (aj Tryz.func36 rfl rfl) (fun _ _ _ _ _ _ => rfl) (by
 intro n P A m Q B ⟨hA,hB,_⟩
 simp only [aa.ae] at hA hB
 obtain a1 | a1 : (n == m) = false \/ (n == m) = true:=by cases (n == m) <;> simp
 ·have a2 : (n != m) = true:=by unfold bne;rw [a1];rfl
  rw [show gF n P A m Q B = false by unfold gF;rw [a1];rfl]
  repeat' ((conv => whnf);first | apply And.intro | (intro h9;try (have h8 : (_ : Bool) = _:=h9;clear h8;revert h9;subst_vars;intro h9;exact aq h9 (by assumption))))
  all_goals try (conv => whnf)
  all_goals try first | (apply Tk.mk <;> kernel_rfl) | exact ⟨ah rfl⟩ | exact ⟨rfl⟩ | exact ⟨trivial⟩
  all_goals subst_vars
  all_goals try first | rfl | contradiction | (apply Ob.mk;first | (simp only [ag,ak,aa.ae];omega) | ((try simp only [aa.ae]);(try dsimp only);omega))
  all_goals first
   | trivial
   | exact True.intro
   | exact ⟨hA⟩
   | exact ⟨hB⟩
   | exact ⟨c3⟩
   | exact ⟨Nat.zero_add _⟩
   | exact ⟨show 0 <= (i : Int) /\ (i : Int) < (A.length : Int) by omega⟩
   | exact ⟨show 0 + Int.toNat (i : Int) < A.length by omega⟩
   | exact ⟨show 0 <= (i : Int) /\ (i : Int) < (B.length : Int) by omega⟩
   | exact ⟨show 0 + Int.toNat (i : Int) < B.length by omega⟩
   | exact ⟨show 0 <= (5 : Int) /\ (5 : Int) < (s.size : Int) by omega⟩
   | exact ⟨show 0 <= (7 : Int) /\ (7 : Int) < (s.size : Int) by omega⟩
   | exact ⟨show 0 <= 9 + 11 * (k : Int) + 5 /\ 9 + 11 * (k : Int) + 5 < (s.size : Int) by omega⟩
   | exact ⟨show 0 <= 9 + 11 * (k : Int) + 7 /\ 9 + 11 * (k : Int) + 7 < (s.size : Int) by omega⟩
   | exact ⟨show 0 <= 9 + 11 * (k : Int) + 9 /\ 9 + 11 * (k : Int) + 9 < (s.size : Int) by omega⟩
   | exact ⟨show ((eX s k).length + 1) * 3 <= 1099511627776 by omega⟩
   | exact ⟨show (eX s (kM s)).length <= 1000000 by omega⟩
   | exact hK
   | (refine bu.base ⟨_,[],hK,trivial,rfl,?_⟩;(repeat' ((conv => whnf);(first | apply And.intro | intro _)));all_goals first | rfl | trivial)
   | (apply Ob.mk;show (ag .i64 _).p;simp only [ag,ak,aa.ae];omega)
 have a2 : (n != m) = false:=by unfold bne;rw [a1];rfl
 obtain b1 | b1 : (P == Q) = false \/ (P == Q) = true:=by cases (P == Q) <;> simp
 ·have b2 : (P != Q) = true:=by unfold bne;rw [b1];rfl
  rw [show gF n P A m Q B = false by unfold gF;rw [a1,b1];rfl]
  repeat' ((conv => whnf);first | apply And.intro | (intro h9;try (have h8 : (_ : Bool) = _:=h9;clear h8;revert h9;subst_vars;intro h9;exact aq h9 (by assumption))))
  all_goals try (conv => whnf)
  all_goals try first | (apply Tk.mk <;> kernel_rfl) | exact ⟨ah rfl⟩ | exact ⟨rfl⟩ | exact ⟨trivial⟩
  all_goals subst_vars
  all_goals try first | rfl | contradiction | (apply Ob.mk;first | (simp only [ag,ak,aa.ae];omega) | ((try simp only [aa.ae]);(try dsimp only);omega))
  all_goals first
   | trivial
   | exact True.intro
   | exact ⟨hA⟩
   | exact ⟨hB⟩
   | exact ⟨c3⟩
   | exact ⟨Nat.zero_add _⟩
   | exact ⟨show 0 <= (i : Int) /\ (i : Int) < (A.length : Int) by omega⟩
   | exact ⟨show 0 + Int.toNat (i : Int) < A.length by omega⟩
   | exact ⟨show 0 <= (i : Int) /\ (i : Int) < (B.length : Int) by omega⟩
   | exact ⟨show 0 + Int.toNat (i : Int) < B.length by omega⟩
   | exact ⟨show 0 <= (5 : Int) /\ (5 : Int) < (s.size : Int) by omega⟩
   | exact ⟨show 0 <= (7 : Int) /\ (7 : Int) < (s.size : Int) by omega⟩
   | exact ⟨show 0 <= 9 + 11 * (k : Int) + 5 /\ 9 + 11 * (k : Int) + 5 < (s.size : Int) by omega⟩
   | exact ⟨show 0 <= 9 + 11 * (k : Int) + 7 /\ 9 + 11 * (k : Int) + 7 < (s.size : Int) by omega⟩
   | exact ⟨show 0 <= 9 + 11 * (k : Int) + 9 /\ 9 + 11 * (k : Int) + 9 < (s.size : Int) by omega⟩
   | exact ⟨show ((eX s k).length + 1) * 3 <= 1099511627776 by omega⟩
   | exact ⟨show (eX s (kM s)).length <= 1000000 by omega⟩
   | exact hK
   | (refine bu.base ⟨_,[],hK,trivial,rfl,?_⟩;(repeat' ((conv => whnf);(first | apply And.intro | intro _)));all_goals first | rfl | trivial)
   | (apply Ob.mk;show (ag .i64 _).p;simp only [ag,ak,aa.ae];omega)
 have b2 : (P != Q) = false:=by unfold bne;rw [b1];rfl
 have ZL : gF n P A m Q B = (A == B):=by unfold gF;rw [a1,b1];rfl
 rw [ZL]
 clear ZL
 by_cases hl : A.length = B.length
 rotate_left
 ·have e0 : ((A.length : Int) != (B.length : Int)) = true:=by rw [bne_iff_ne];omega
  rw [BN hl]
  repeat' ((conv => whnf);first | apply And.intro | (intro h9;try (have h8 : (_ : Bool) = _:=h9;clear h8;revert h9;subst_vars;intro h9;exact aq h9 (by assumption))))
  all_goals try (conv => whnf)
  all_goals try first | (apply Tk.mk <;> kernel_rfl) | exact ⟨ah rfl⟩ | exact ⟨rfl⟩ | exact ⟨trivial⟩
  all_goals subst_vars
  all_goals try first | rfl | contradiction | (apply Ob.mk;first | (simp only [ag,ak,aa.ae];omega) | ((try simp only [aa.ae]);(try dsimp only);omega))
  all_goals first
   | trivial
   | exact True.intro
   | exact ⟨hA⟩
   | exact ⟨hB⟩
   | exact ⟨c3⟩
   | exact ⟨Nat.zero_add _⟩
   | exact ⟨show 0 <= (i : Int) /\ (i : Int) < (A.length : Int) by omega⟩
   | exact ⟨show 0 + Int.toNat (i : Int) < A.length by omega⟩
   | exact ⟨show 0 <= (i : Int) /\ (i : Int) < (B.length : Int) by omega⟩
   | exact ⟨show 0 + Int.toNat (i : Int) < B.length by omega⟩
   | exact ⟨show 0 <= (5 : Int) /\ (5 : Int) < (s.size : Int) by omega⟩
   | exact ⟨show 0 <= (7 : Int) /\ (7 : Int) < (s.size : Int) by omega⟩
   | exact ⟨show 0 <= 9 + 11 * (k : Int) + 5 /\ 9 + 11 * (k : Int) + 5 < (s.size : Int) by omega⟩
   | exact ⟨show 0 <= 9 + 11 * (k : Int) + 7 /\ 9 + 11 * (k : Int) + 7 < (s.size : Int) by omega⟩
   | exact ⟨show 0 <= 9 + 11 * (k : Int) + 9 /\ 9 + 11 * (k : Int) + 9 < (s.size : Int) by omega⟩
   | exact ⟨show ((eX s k).length + 1) * 3 <= 1099511627776 by omega⟩
   | exact ⟨show (eX s (kM s)).length <= 1000000 by omega⟩
   | exact hK
   | (refine bu.base ⟨_,[],hK,trivial,rfl,?_⟩;(repeat' ((conv => whnf);(first | apply And.intro | intro _)));all_goals first | rfl | trivial)
   | (apply Ob.mk;show (ag .i64 _).p;simp only [ag,ak,aa.ae];omega)
 have e0 : ((A.length : Int) != (B.length : Int)) = false:=by rw [hl];exact bne_self_eq_false _
 repeat' ((conv => whnf);first | apply And.intro | (intro h9;try (have h8 : (_ : Bool) = _:=h9;clear h8;revert h9;subst_vars;intro h9;exact aq h9 (by assumption))))
 all_goals try (conv => whnf)
 all_goals try first | (apply Tk.mk <;> kernel_rfl) | exact ⟨ah rfl⟩ | exact ⟨rfl⟩ | exact ⟨trivial⟩
 all_goals subst_vars
 all_goals try first | rfl | contradiction | (apply Ob.mk;first | (simp only [ag,ak,aa.ae];omega) | ((try simp only [aa.ae]);(try dsimp only);omega))
 all_goals try first
  | exact True.intro
  | exact ⟨hA⟩
  | exact ⟨hB⟩
  | exact ⟨c3⟩
  | exact ⟨Nat.zero_add _⟩
  | exact ⟨show 0 <= (i : Int) /\ (i : Int) < (A.length : Int) by omega⟩
  | exact ⟨show 0 + Int.toNat (i : Int) < A.length by omega⟩
  | exact ⟨show 0 <= (i : Int) /\ (i : Int) < (B.length : Int) by omega⟩
  | exact ⟨show 0 + Int.toNat (i : Int) < B.length by omega⟩
  | exact ⟨show 0 <= (5 : Int) /\ (5 : Int) < (s.size : Int) by omega⟩
  | exact ⟨show 0 <= (7 : Int) /\ (7 : Int) < (s.size : Int) by omega⟩
  | exact ⟨show 0 <= 9 + 11 * (k : Int) + 5 /\ 9 + 11 * (k : Int) + 5 < (s.size : Int) by omega⟩
  | exact ⟨show 0 <= 9 + 11 * (k : Int) + 7 /\ 9 + 11 * (k : Int) + 7 < (s.size : Int) by omega⟩
  | exact ⟨show 0 <= 9 + 11 * (k : Int) + 9 /\ 9 + 11 * (k : Int) + 9 < (s.size : Int) by omega⟩
  | exact ⟨show ((eX s k).length + 1) * 3 <= 1099511627776 by omega⟩
  | exact ⟨show (eX s (kM s)).length <= 1000000 by omega⟩
  | exact hK
  | (refine bu.base ⟨_,[],hK,trivial,rfl,?_⟩;(repeat' ((conv => whnf);(first | apply And.intro | intro _)));all_goals first | rfl | trivial)
  | (apply Ob.mk;show (ag .i64 _).p;simp only [ag,ak,aa.ae];omega)
 refine ⟨Nat,fun i => i <= A.length /\ ∀ j,j < i -> A.getD j (0,0,0) = B.getD j (0,0,0),fun i => ⟨aI 45 [2,3,5] [.a (.p 2 [] 0 0),.a (.p 3 [] 0 0),.a (vI i)],[],[.arr 46 kW A false false,.arr 46 kW B false false,.box true [vI n,vI P,.sl 0 [] 0 A.length],.box true [vI m,vI Q,.sl 1 [] 0 B.length]]⟩,fun i => A.length - i,0,[],⟨Nat.zero_le _,fun _ h => absurd h (Nat.not_lt_zero _)⟩,?_,?_⟩
 ·repeat' ((conv => whnf);(first | apply And.intro | intro _))
  all_goals first | rfl | trivial | exact ah rfl | exact aS ‹_› rfl | exact aT ‹_› rfl | ((repeat' first | rfl | constructor);done)
 rintro i ⟨hi,hs⟩
 by_cases hi1 : i < A.length
 ·have p0 : decide ((i : Int) < (A.length : Int)) = true:=decide_eq_true (by omega)
  have ea : cn A i = A.getD i (0,0,0):=jX A i
  have eb : cn B i = B.getD i (0,0,0):=jX B i
  obtain c1 | c1 : ((cn A i).1 == (cn B i).1 && ((cn A i).2.1 == (cn B i).2.1 && ((cn A i).2.2 == (cn B i).2.2 && true))) = false \/ ((cn A i).1 == (cn B i).1 && ((cn A i).2.1 == (cn B i).2.1 && ((cn A i).2.2 == (cn B i).2.2 && true))) = true:=by cases ((cn A i).1 == (cn B i).1 && ((cn A i).2.1 == (cn B i).2.1 && ((cn A i).2.2 == (cn B i).2.2 && true))) <;> simp
  ·have c2 : (!((cn A i).1 == (cn B i).1 && ((cn A i).2.1 == (cn B i).2.1 && ((cn A i).2.2 == (cn B i).2.2 && true)))) = true:=by rw [c1];rfl
   rw [D5 (A:=A) (B:=B) (d:=(0,0,0)) (i:=i) (fun e => by
    have e3 : cn A i = cn B i:=by rw [ea,eb];exact e
    rw [e3] at c1;revert c1;simp)]
   repeat' ((conv => whnf);first | apply And.intro | (intro h9;try (have h8 : (_ : Bool) = _:=h9;clear h8;revert h9;subst_vars;intro h9;exact aq h9 (by assumption))))
   all_goals try (conv => whnf)
   all_goals try first | (apply Tk.mk <;> kernel_rfl) | exact ⟨ah rfl⟩ | exact ⟨rfl⟩ | exact ⟨trivial⟩
   all_goals subst_vars
   all_goals try first | rfl | contradiction | (apply Ob.mk;first | (simp only [ag,ak,aa.ae];omega) | ((try simp only [aa.ae]);(try dsimp only);omega))
   all_goals first
    | trivial
    | exact True.intro
    | exact ⟨hA⟩
    | exact ⟨hB⟩
    | exact ⟨c3⟩
    | exact ⟨Nat.zero_add _⟩
    | exact ⟨show 0 <= (i : Int) /\ (i : Int) < (A.length : Int) by omega⟩
    | exact ⟨show 0 + Int.toNat (i : Int) < A.length by omega⟩
    | exact ⟨show 0 <= (i : Int) /\ (i : Int) < (B.length : Int) by omega⟩
    | exact ⟨show 0 + Int.toNat (i : Int) < B.length by omega⟩
    | exact ⟨show 0 <= (5 : Int) /\ (5 : Int) < (s.size : Int) by omega⟩
    | exact ⟨show 0 <= (7 : Int) /\ (7 : Int) < (s.size : Int) by omega⟩
    | exact ⟨show 0 <= 9 + 11 * (k : Int) + 5 /\ 9 + 11 * (k : Int) + 5 < (s.size : Int) by omega⟩
    | exact ⟨show 0 <= 9 + 11 * (k : Int) + 7 /\ 9 + 11 * (k : Int) + 7 < (s.size : Int) by omega⟩
    | exact ⟨show 0 <= 9 + 11 * (k : Int) + 9 /\ 9 + 11 * (k : Int) + 9 < (s.size : Int) by omega⟩
    | exact ⟨show ((eX s k).length + 1) * 3 <= 1099511627776 by omega⟩
    | exact ⟨show (eX s (kM s)).length <= 1000000 by omega⟩
    | exact hK
    | (refine bu.base ⟨_,[],hK,trivial,rfl,?_⟩;(repeat' ((conv => whnf);(first | apply And.intro | intro _)));all_goals first | rfl | trivial)
    | (apply Ob.mk;show (ag .i64 _).p;simp only [ag,ak,aa.ae];omega)
  have c2 : (!((cn A i).1 == (cn B i).1 && ((cn A i).2.1 == (cn B i).2.1 && ((cn A i).2.2 == (cn B i).2.2 && true)))) = false:=by rw [c1];rfl
  have pT : ∀ j,j < i + 1 -> A.getD j (0,0,0) = B.getD j (0,0,0):=fun j hj => (Nat.lt_succ_iff_lt_or_eq.1 hj).elim (hs j) (fun e => by
   rw [e]
   refine ea.symm.trans (Eq.trans ?_ eb)
   simp only [Bool.and_true,Bool.and_eq_true,beq_iff_eq] at c1
   exact Prod.ext c1.1 (Prod.ext c1.2.1 c1.2.2))
  repeat' ((conv => whnf);first | apply And.intro | (intro h9;try (have h8 : (_ : Bool) = _:=h9;clear h8;revert h9;subst_vars;intro h9;exact aq h9 (by assumption))))
  all_goals try (conv => whnf)
  all_goals try first | (apply Tk.mk <;> kernel_rfl) | exact ⟨ah rfl⟩ | exact ⟨rfl⟩ | exact ⟨trivial⟩
  all_goals subst_vars
  all_goals try first | rfl | contradiction | (apply Ob.mk;first | (simp only [ag,ak,aa.ae];omega) | ((try simp only [aa.ae]);(try dsimp only);omega))
  all_goals try first
   | exact True.intro
   | exact ⟨hA⟩
   | exact ⟨hB⟩
   | exact ⟨c3⟩
   | exact ⟨Nat.zero_add _⟩
   | exact ⟨show 0 <= (i : Int) /\ (i : Int) < (A.length : Int) by omega⟩
   | exact ⟨show 0 + Int.toNat (i : Int) < A.length by omega⟩
   | exact ⟨show 0 <= (i : Int) /\ (i : Int) < (B.length : Int) by omega⟩
   | exact ⟨show 0 + Int.toNat (i : Int) < B.length by omega⟩
   | exact ⟨show 0 <= (5 : Int) /\ (5 : Int) < (s.size : Int) by omega⟩
   | exact ⟨show 0 <= (7 : Int) /\ (7 : Int) < (s.size : Int) by omega⟩
   | exact ⟨show 0 <= 9 + 11 * (k : Int) + 5 /\ 9 + 11 * (k : Int) + 5 < (s.size : Int) by omega⟩
   | exact ⟨show 0 <= 9 + 11 * (k : Int) + 7 /\ 9 + 11 * (k : Int) + 7 < (s.size : Int) by omega⟩
   | exact ⟨show 0 <= 9 + 11 * (k : Int) + 9 /\ 9 + 11 * (k : Int) + 9 < (s.size : Int) by omega⟩
   | exact ⟨show ((eX s k).length + 1) * 3 <= 1099511627776 by omega⟩
   | exact ⟨show (eX s (kM s)).length <= 1000000 by omega⟩
   | exact hK
   | (refine bu.base ⟨_,[],hK,trivial,rfl,?_⟩;(repeat' ((conv => whnf);(first | apply And.intro | intro _)));all_goals first | rfl | trivial)
   | (apply Ob.mk;show (ag .i64 _).p;simp only [ag,ak,aa.ae];omega)
  refine ⟨i + 1,[],⟨hi1,pT⟩,?_,by show A.length - (i + 1) < A.length - i;omega⟩
  repeat' ((conv => whnf);(first | apply And.intro | intro _))
  all_goals first | rfl | trivial | exact ah rfl | exact aS ‹_› rfl | exact aT ‹_› rfl | ((repeat' first | rfl | constructor);done)
 have p0 : decide ((i : Int) < (A.length : Int)) = false:=decide_eq_false (by omega)
 rw [BO (A:=A) (B:=B) (d:=(0,0,0)) hl (fun j hj => hs j (by omega))]
 repeat' ((conv => whnf);first | apply And.intro | (intro h9;try (have h8 : (_ : Bool) = _:=h9;clear h8;revert h9;subst_vars;intro h9;exact aq h9 (by assumption))))
 all_goals try (conv => whnf)
 all_goals try first | (apply Tk.mk <;> kernel_rfl) | exact ⟨ah rfl⟩ | exact ⟨rfl⟩ | exact ⟨trivial⟩
 all_goals subst_vars
 all_goals try first | rfl | contradiction | (apply Ob.mk;first | (simp only [ag,ak,aa.ae];omega) | ((try simp only [aa.ae]);(try dsimp only);omega))
 all_goals first
  | trivial
  | exact True.intro
  | exact ⟨hA⟩
  | exact ⟨hB⟩
  | exact ⟨c3⟩
  | exact ⟨Nat.zero_add _⟩
  | exact ⟨show 0 <= (i : Int) /\ (i : Int) < (A.length : Int) by omega⟩
  | exact ⟨show 0 + Int.toNat (i : Int) < A.length by omega⟩
  | exact ⟨show 0 <= (i : Int) /\ (i : Int) < (B.length : Int) by omega⟩
  | exact ⟨show 0 + Int.toNat (i : Int) < B.length by omega⟩
  | exact ⟨show 0 <= (5 : Int) /\ (5 : Int) < (s.size : Int) by omega⟩
  | exact ⟨show 0 <= (7 : Int) /\ (7 : Int) < (s.size : Int) by omega⟩
  | exact ⟨show 0 <= 9 + 11 * (k : Int) + 5 /\ 9 + 11 * (k : Int) + 5 < (s.size : Int) by omega⟩
  | exact ⟨show 0 <= 9 + 11 * (k : Int) + 7 /\ 9 + 11 * (k : Int) + 7 < (s.size : Int) by omega⟩
  | exact ⟨show 0 <= 9 + 11 * (k : Int) + 9 /\ 9 + 11 * (k : Int) + 9 < (s.size : Int) by omega⟩
  | exact ⟨show ((eX s k).length + 1) * 3 <= 1099511627776 by omega⟩
  | exact ⟨show (eX s (kM s)).length <= 1000000 by omega⟩
  | exact hK
  | (refine bu.base ⟨_,[],hK,trivial,rfl,?_⟩;(repeat' ((conv => whnf);(first | apply And.intro | intro _)));all_goals first | rfl | trivial)
  | (apply Ob.mk;show (ag .i64 _).p;simp only [ag,ak,aa.ae];omega))
/-! ### Parse -/
def ahG (t : Sh) (x : At) : cM:=⟨[.arr 46 kW t.2.2 true true],.bF [.agg [vI t.1,vI t.2.1,.sl 0 [] 0 t.2.2.length],.a x]⟩
def w8 (x : At) : cM:=⟨[],.bF [.agg [vI 0,vI 0,.v (.slice none 0 0)],.a x]⟩
noncomputable def ajI (s : ByteArray) : cM:=match pB s with | true => ahG (eY s) (.v (.bool true)) | false => w8 (.v (.bool false))
noncomputable def aiA : au:=ah3 (fun s => [(aa.of (s.size <= 1000))]) ajI
theorem ahe (s : ByteArray) (i : Nat) : 0 <= e9 s i /\ e9 s i <= 255:=by
 unfold e9
 have:=(s.data.getD i 0).toNat_lt
 omega
theorem aiL {s : ByteArray} {t : Sh} (h : ahE s t) : s.size = 9 + 11 * t.2.2.length:=by rw [h.2];exact ahi _ _ _
theorem ajN (s : ByteArray) : kM s <= 17:=by unfold kM;omega
noncomputable def ajc : List (Nat × au):=[(18,uE),(37,ahc)]
theorem aiv : aR Tryz.prog Γ ajc:=((aR.nil.cons (aj Tryz.func37 rfl rfl).fn ahd).cons (aj Tryz.func18 rfl rfl).fn yI)
attribute [local irreducible] e9 eX pB bD bA ld kM
theorem ahO : au.Ok Tryz.prog Γ 34 aiA:=ail (d:=0) (aP aiv bq.nil false 0) (aj Tryz.func34 rfl rfl) (by
 intro s K ⟨hz,_⟩ hK
 simp only [aa.ae] at hz
 unfold ajI at hK
 obtain a1 | a1 : decide ((s.size : Int) < 9) = true \/ decide ((s.size : Int) < 9) = false:=by cases decide ((s.size : Int) < 9) <;> simp
 ·have hb : pB s = false:=by
   cases hb : pB s with
   | false => rfl
   | true => have:=aiL (D1.1 hb);have:=of_decide_eq_true a1;omega
  rw [hb] at hK
  dsimp only [w8] at hK
  repeat' ((conv => whnf);first | apply And.intro | (intro h9;try (have h8 : (_ : Bool) = _:=h9;clear h8;revert h9;subst_vars;intro h9;exact aq h9 (by assumption))))
  all_goals try (conv => whnf)
  all_goals try first | (apply Tk.mk <;> kernel_rfl) | exact ⟨ah rfl⟩ | exact ⟨rfl⟩ | exact ⟨trivial⟩
  all_goals subst_vars
  all_goals try first | rfl | contradiction | (apply Ob.mk;first | (simp only [ag,ak,aa.ae];omega) | ((try simp only [aa.ae]);(try dsimp only);omega))
  all_goals first
   | trivial
   | exact True.intro
   | exact ⟨hA⟩
   | exact ⟨hB⟩
   | exact ⟨c3⟩
   | exact ⟨Nat.zero_add _⟩
   | exact ⟨show 0 <= (i : Int) /\ (i : Int) < (A.length : Int) by omega⟩
   | exact ⟨show 0 + Int.toNat (i : Int) < A.length by omega⟩
   | exact ⟨show 0 <= (i : Int) /\ (i : Int) < (B.length : Int) by omega⟩
   | exact ⟨show 0 + Int.toNat (i : Int) < B.length by omega⟩
   | exact ⟨show 0 <= (5 : Int) /\ (5 : Int) < (s.size : Int) by omega⟩
   | exact ⟨show 0 <= (7 : Int) /\ (7 : Int) < (s.size : Int) by omega⟩
   | exact ⟨show 0 <= 9 + 11 * (k : Int) + 5 /\ 9 + 11 * (k : Int) + 5 < (s.size : Int) by omega⟩
   | exact ⟨show 0 <= 9 + 11 * (k : Int) + 7 /\ 9 + 11 * (k : Int) + 7 < (s.size : Int) by omega⟩
   | exact ⟨show 0 <= 9 + 11 * (k : Int) + 9 /\ 9 + 11 * (k : Int) + 9 < (s.size : Int) by omega⟩
   | exact ⟨show ((eX s k).length + 1) * 3 <= 1099511627776 by omega⟩
   | exact ⟨show (eX s (kM s)).length <= 1000000 by omega⟩
   | exact hK
   | (refine bu.base ⟨_,[],hK,trivial,rfl,?_⟩;(repeat' ((conv => whnf);(first | apply And.intro | intro _)));all_goals first | rfl | trivial)
   | (apply Ob.mk;show (ag .i64 _).p;simp only [ag,ak,aa.ae];omega)
 have aj5 : 9 <= s.size:=by have:=of_decide_eq_false a1;omega
 have e5 : (((s.data.getD (Int.toNat 5) 0).toNat : Nat) : Int) = e9 s 5:=by unfold e9;rfl
 have e7 : (((s.data.getD (Int.toNat 7) 0).toNat : Nat) : Int) = e9 s 7:=by unfold e9;rfl
 have aj0 : (((s.data.getD (Int.toNat 5) 0).toNat : Nat) : Int) - 48 = e9 s 5 - 48:=by rw [e5]
 have aj1 : (((s.data.getD (Int.toNat 7) 0).toNat : Nat) : Int) - 48 = e9 s 7 - 48:=by rw [e7]
 have f5:=ahe s 5
 have f7:=ahe s 7
 have jk : eX s 0 = []:=by unfold eX;rfl
 repeat' ((conv => whnf);first | apply And.intro | (intro h9;try (have h8 : (_ : Bool) = _:=h9;clear h8;revert h9;subst_vars;intro h9;exact aq h9 (by assumption))))
 all_goals try (conv => whnf)
 all_goals try first | (apply Tk.mk <;> kernel_rfl) | exact ⟨ah rfl⟩ | exact ⟨rfl⟩ | exact ⟨trivial⟩
 all_goals subst_vars
 all_goals try first | rfl | contradiction | (apply Ob.mk;first | (simp only [ag,ak,aa.ae];omega) | ((try simp only [aa.ae]);(try dsimp only);omega))
 all_goals try first
  | exact True.intro
  | exact ⟨hA⟩
  | exact ⟨hB⟩
  | exact ⟨c3⟩
  | exact ⟨Nat.zero_add _⟩
  | exact ⟨show 0 <= (i : Int) /\ (i : Int) < (A.length : Int) by omega⟩
  | exact ⟨show 0 + Int.toNat (i : Int) < A.length by omega⟩
  | exact ⟨show 0 <= (i : Int) /\ (i : Int) < (B.length : Int) by omega⟩
  | exact ⟨show 0 + Int.toNat (i : Int) < B.length by omega⟩
  | exact ⟨show 0 <= (5 : Int) /\ (5 : Int) < (s.size : Int) by omega⟩
  | exact ⟨show 0 <= (7 : Int) /\ (7 : Int) < (s.size : Int) by omega⟩
  | exact ⟨show 0 <= 9 + 11 * (k : Int) + 5 /\ 9 + 11 * (k : Int) + 5 < (s.size : Int) by omega⟩
  | exact ⟨show 0 <= 9 + 11 * (k : Int) + 7 /\ 9 + 11 * (k : Int) + 7 < (s.size : Int) by omega⟩
  | exact ⟨show 0 <= 9 + 11 * (k : Int) + 9 /\ 9 + 11 * (k : Int) + 9 < (s.size : Int) by omega⟩
  | exact ⟨show ((eX s k).length + 1) * 3 <= 1099511627776 by omega⟩
  | exact ⟨show (eX s (kM s)).length <= 1000000 by omega⟩
  | exact hK
  | (refine bu.base ⟨_,[],hK,trivial,rfl,?_⟩;(repeat' ((conv => whnf);(first | apply And.intro | intro _)));all_goals first | rfl | trivial)
  | (apply Ob.mk;show (ag .i64 _).p;simp only [ag,ak,aa.ae];omega)
 refine ⟨Nat,fun k => k <= kM s,fun k => ⟨aI 67 [0,2,4,5] [.a (.v (.string s)),.a (.p 0 [] 0 0),.a (.p 1 [] 0 0),.a (vI (9 + 11 * (k : Int)))],[],[.box true [vI 0,vI 0,.v (.slice none 0 0)],.box true [vI (e9 s 5 - 48),vI (e9 s 7 - 48),.sl 2 [] 0 (eX s k).length],.arr 46 kW (eX s k) true true]⟩,fun k => kM s - k,0,[0,1,1000],Nat.zero_le _,?_,?_⟩
 ·repeat' ((conv => whnf);(first | apply And.intro | intro _))
  all_goals first | rfl | trivial | exact ah rfl | exact aS ‹_› rfl | exact aT ‹_› rfl | ((repeat' first | rfl | constructor);done) | exact jk | (rw [jk];rfl) | exact aj0 | exact aj1
 rintro k hk
 have oy:=aiq s k
 by_cases cB : k < kM s
 ·have hkm : 9 + 11 * k + 11 <= s.size /\ k < 17:=by
   have : kM s = min ((s.size - 9) / 11) 17:=by unfold kM;rfl
   have h1 : k < (s.size - 9) / 11:=by omega
   have h2:=Nat.div_mul_le_self (s.size - 9) 11
   have h3 : (k + 1) * 11 <= (s.size - 9) / 11 * 11:=Nat.mul_le_mul_right _ h1
   omega
  have p0 : decide (9 + 11 * (k : Int) + 11 <= (s.size : Int)) = true:=decide_eq_true (by omega)
  have p1 : decide (((eX s k).length : Int) < 17) = true:=decide_eq_true (by omega)
  have g5 : (((s.data.getD (Int.toNat (9 + 11 * (k : Int) + 5)) 0).toNat : Nat) : Int) = e9 s (9 + 11 * k + 5):=by unfold e9;rw [show Int.toNat (9 + 11 * (k : Int) + 5) = 9 + 11 * k + 5 by omega]
  have g7 : (((s.data.getD (Int.toNat (9 + 11 * (k : Int) + 7)) 0).toNat : Nat) : Int) = e9 s (9 + 11 * k + 7):=by unfold e9;rw [show Int.toNat (9 + 11 * (k : Int) + 7) = 9 + 11 * k + 7 by omega]
  have g9 : (((s.data.getD (Int.toNat (9 + 11 * (k : Int) + 9)) 0).toNat : Nat) : Int) = e9 s (9 + 11 * k + 9):=by unfold e9;rw [show Int.toNat (9 + 11 * (k : Int) + 9) = 9 + 11 * k + 9 by omega]
  have l5:=ahe s (9 + 11 * k + 5)
  have l7:=ahe s (9 + 11 * k + 7)
  have l9:=ahe s (9 + 11 * k + 9)
  have DJ : eX s k ++ [(e9 s (9 + 11 * k + 5) - 48,e9 s (9 + 11 * k + 7) - 48,e9 s (9 + 11 * k + 9) - 48)] = eX s (k + 1):=by conv => rhs;unfold eX
  have dZ:=congrArg List.length DJ
  rw [List.length_append,List.length_singleton] at dZ
  have lg : 9 + 11 * (k : Int) + 11 = 9 + 11 * ((k + 1 : Nat) : Int):=by omega
  repeat' ((conv => whnf);first | apply And.intro | (intro h9;try (have h8 : (_ : Bool) = _:=h9;clear h8;revert h9;subst_vars;intro h9;exact aq h9 (by assumption))))
  all_goals try (conv => whnf)
  all_goals try first | (apply Tk.mk <;> kernel_rfl) | exact ⟨ah rfl⟩ | exact ⟨rfl⟩ | exact ⟨trivial⟩
  all_goals subst_vars
  all_goals try first | rfl | contradiction | (apply Ob.mk;first | (simp only [ag,ak,aa.ae];omega) | ((try simp only [aa.ae]);(try dsimp only);omega))
  all_goals try first
   | exact True.intro
   | exact ⟨hA⟩
   | exact ⟨hB⟩
   | exact ⟨c3⟩
   | exact ⟨Nat.zero_add _⟩
   | exact ⟨show 0 <= (i : Int) /\ (i : Int) < (A.length : Int) by omega⟩
   | exact ⟨show 0 + Int.toNat (i : Int) < A.length by omega⟩
   | exact ⟨show 0 <= (i : Int) /\ (i : Int) < (B.length : Int) by omega⟩
   | exact ⟨show 0 + Int.toNat (i : Int) < B.length by omega⟩
   | exact ⟨show 0 <= (5 : Int) /\ (5 : Int) < (s.size : Int) by omega⟩
   | exact ⟨show 0 <= (7 : Int) /\ (7 : Int) < (s.size : Int) by omega⟩
   | exact ⟨show 0 <= 9 + 11 * (k : Int) + 5 /\ 9 + 11 * (k : Int) + 5 < (s.size : Int) by omega⟩
   | exact ⟨show 0 <= 9 + 11 * (k : Int) + 7 /\ 9 + 11 * (k : Int) + 7 < (s.size : Int) by omega⟩
   | exact ⟨show 0 <= 9 + 11 * (k : Int) + 9 /\ 9 + 11 * (k : Int) + 9 < (s.size : Int) by omega⟩
   | exact ⟨show ((eX s k).length + 1) * 3 <= 1099511627776 by omega⟩
   | exact ⟨show (eX s (kM s)).length <= 1000000 by omega⟩
   | exact hK
   | (refine bu.base ⟨_,[],hK,trivial,rfl,?_⟩;(repeat' ((conv => whnf);(first | apply And.intro | intro _)));all_goals first | rfl | trivial)
   | (apply Ob.mk;show (ag .i64 _).p;simp only [ag,ak,aa.ae];omega)
  refine ⟨k + 1,[0,1,2],cB,?_,by show kM s - (k + 1) < kM s - k;omega⟩
  repeat' ((conv => whnf);(first | apply And.intro | intro _))
  all_goals first | rfl | trivial | exact ah rfl | exact aS ‹_› rfl | exact aT ‹_› rfl | ((repeat' first | rfl | constructor);done) | exact lg | exact dZ | exact dZ.symm | exact ⟨rfl,rfl,DJ⟩ | (rw [<- g5,<- g7,<- g9] at DJ;exact ⟨rfl,rfl,DJ⟩)
 obtain rfl : k = kM s:=by omega
 have hkm:=ajN s
 have hend : (decide (9 + 11 * ((kM s : Nat) : Int) + 11 <= (s.size : Int)) = false) \/ (decide (9 + 11 * ((kM s : Nat) : Int) + 11 <= (s.size : Int)) = true /\ decide (((eX s (kM s)).length : Int) < 17) = false):=by
  by_cases h : kM s = 17
  ·by_cases h2 : 9 + 11 * ((kM s : Nat) : Int) + 11 <= (s.size : Int)
   ·exact .inr ⟨decide_eq_true h2,decide_eq_false (by omega)⟩
   ·exact .inl (decide_eq_false h2)
  ·refine .inl (decide_eq_false ?_)
   have : kM s = min ((s.size - 9) / 11) 17:=by unfold kM;rfl
   have h1 : kM s = (s.size - 9) / 11:=by omega
   have h2:=Nat.div_add_mod (s.size - 9) 11
   have h3:=Nat.mod_lt (s.size - 9) (show 0 < 11 by omega)
   omega
 have hrd : eY s = (e9 s 5 - 48,e9 s 7 - 48,eX s (kM s)):=by unfold eY;rfl
 have hch : ∀ c : bD (e9 s 5 - 48) (e9 s 7 - 48) (eX s (kM s)) = 0,pB s = ((bA (ld (e9 s 5 - 48) (e9 s 7 - 48) (eX s (kM s)))).toList == s.toList):=fun c => by
  rw [Bool.eq_iff_iff,D1,hrd,beq_iff_eq,ByteArray.toList_eq,ByteArray.toList_eq]
  constructor
  ·intro h;rw [<- h.2]
  ·intro h;exact ⟨c,(ag6 h).symm⟩
 clear hk cB
 obtain c1 | c1 : (bD (e9 s 5 - 48) (e9 s 7 - 48) (eX s (kM s)) == 0) = false \/ (bD (e9 s 5 - 48) (e9 s 7 - 48) (eX s (kM s)) == 0) = true:=by cases (bD (e9 s 5 - 48) (e9 s 7 - 48) (eX s (kM s)) == 0) <;> simp
 ·have c2 : (bD (e9 s 5 - 48) (e9 s 7 - 48) (eX s (kM s)) != 0) = true:=by unfold bne;rw [c1];rfl
  have hb : pB s = false:=by
   cases hb : pB s with
   | false => rfl
   | true => have:=(D1.1 hb).1;rw [hrd] at this;dsimp only at this;rw [this] at c1;cases c1
  rw [hb] at hK
  dsimp only [w8] at hK
  clear hch
  rcases hend with q1 | ⟨q1,q2⟩
  ·repeat' ((conv => whnf);first | apply And.intro | (intro h9;try (have h8 : (_ : Bool) = _:=h9;clear h8;revert h9;subst_vars;intro h9;exact aq h9 (by assumption))))
   all_goals try (conv => whnf)
   all_goals try first | (apply Tk.mk <;> kernel_rfl) | exact ⟨ah rfl⟩ | exact ⟨rfl⟩ | exact ⟨trivial⟩
   all_goals subst_vars
   all_goals try first | rfl | contradiction | (apply Ob.mk;first | (simp only [ag,ak,aa.ae];omega) | ((try simp only [aa.ae]);(try dsimp only);omega))
   all_goals first
    | trivial
    | exact True.intro
    | exact ⟨hA⟩
    | exact ⟨hB⟩
    | exact ⟨c3⟩
    | exact ⟨Nat.zero_add _⟩
    | exact ⟨show 0 <= (i : Int) /\ (i : Int) < (A.length : Int) by omega⟩
    | exact ⟨show 0 + Int.toNat (i : Int) < A.length by omega⟩
    | exact ⟨show 0 <= (i : Int) /\ (i : Int) < (B.length : Int) by omega⟩
    | exact ⟨show 0 + Int.toNat (i : Int) < B.length by omega⟩
    | exact ⟨show 0 <= (5 : Int) /\ (5 : Int) < (s.size : Int) by omega⟩
    | exact ⟨show 0 <= (7 : Int) /\ (7 : Int) < (s.size : Int) by omega⟩
    | exact ⟨show 0 <= 9 + 11 * (k : Int) + 5 /\ 9 + 11 * (k : Int) + 5 < (s.size : Int) by omega⟩
    | exact ⟨show 0 <= 9 + 11 * (k : Int) + 7 /\ 9 + 11 * (k : Int) + 7 < (s.size : Int) by omega⟩
    | exact ⟨show 0 <= 9 + 11 * (k : Int) + 9 /\ 9 + 11 * (k : Int) + 9 < (s.size : Int) by omega⟩
    | exact ⟨show ((eX s k).length + 1) * 3 <= 1099511627776 by omega⟩
    | exact ⟨show (eX s (kM s)).length <= 1000000 by omega⟩
    | exact hK
    | (refine bu.base ⟨_,[],hK,trivial,rfl,?_⟩;(repeat' ((conv => whnf);(first | apply And.intro | intro _)));all_goals first | rfl | trivial)
    | (apply Ob.mk;show (ag .i64 _).p;simp only [ag,ak,aa.ae];omega)
  ·repeat' ((conv => whnf);first | apply And.intro | (intro h9;try (have h8 : (_ : Bool) = _:=h9;clear h8;revert h9;subst_vars;intro h9;exact aq h9 (by assumption))))
   all_goals try (conv => whnf)
   all_goals try first | (apply Tk.mk <;> kernel_rfl) | exact ⟨ah rfl⟩ | exact ⟨rfl⟩ | exact ⟨trivial⟩
   all_goals subst_vars
   all_goals try first | rfl | contradiction | (apply Ob.mk;first | (simp only [ag,ak,aa.ae];omega) | ((try simp only [aa.ae]);(try dsimp only);omega))
   all_goals first
    | trivial
    | exact True.intro
    | exact ⟨hA⟩
    | exact ⟨hB⟩
    | exact ⟨c3⟩
    | exact ⟨Nat.zero_add _⟩
    | exact ⟨show 0 <= (i : Int) /\ (i : Int) < (A.length : Int) by omega⟩
    | exact ⟨show 0 + Int.toNat (i : Int) < A.length by omega⟩
    | exact ⟨show 0 <= (i : Int) /\ (i : Int) < (B.length : Int) by omega⟩
    | exact ⟨show 0 + Int.toNat (i : Int) < B.length by omega⟩
    | exact ⟨show 0 <= (5 : Int) /\ (5 : Int) < (s.size : Int) by omega⟩
    | exact ⟨show 0 <= (7 : Int) /\ (7 : Int) < (s.size : Int) by omega⟩
    | exact ⟨show 0 <= 9 + 11 * (k : Int) + 5 /\ 9 + 11 * (k : Int) + 5 < (s.size : Int) by omega⟩
    | exact ⟨show 0 <= 9 + 11 * (k : Int) + 7 /\ 9 + 11 * (k : Int) + 7 < (s.size : Int) by omega⟩
    | exact ⟨show 0 <= 9 + 11 * (k : Int) + 9 /\ 9 + 11 * (k : Int) + 9 < (s.size : Int) by omega⟩
    | exact ⟨show ((eX s k).length + 1) * 3 <= 1099511627776 by omega⟩
    | exact ⟨show (eX s (kM s)).length <= 1000000 by omega⟩
    | exact hK
    | (refine bu.base ⟨_,[],hK,trivial,rfl,?_⟩;(repeat' ((conv => whnf);(first | apply And.intro | intro _)));all_goals first | rfl | trivial)
    | (apply Ob.mk;show (ag .i64 _).p;simp only [ag,ak,aa.ae];omega)
 have c2 : (bD (e9 s 5 - 48) (e9 s 7 - 48) (eX s (kM s)) != 0) = false:=by unfold bne;rw [c1];rfl
 have c3:=eq_of_beq c1
 replace hch:=hch c3
 obtain d1 | d1 : pB s = false \/ pB s = true:=by cases pB s <;> simp
 ·have d2 : (!((bA (ld (e9 s 5 - 48) (e9 s 7 - 48) (eX s (kM s)))).toList == s.toList)) = true:=by rw [<- hch,d1];rfl
  rw [d1] at hK
  dsimp only [w8] at hK
  clear hch
  rcases hend with q1 | ⟨q1,q2⟩
  ·repeat' ((conv => whnf);first | apply And.intro | (intro h9;try (have h8 : (_ : Bool) = _:=h9;clear h8;revert h9;subst_vars;intro h9;exact aq h9 (by assumption))))
   all_goals try (conv => whnf)
   all_goals try first | (apply Tk.mk <;> kernel_rfl) | exact ⟨ah rfl⟩ | exact ⟨rfl⟩ | exact ⟨trivial⟩
   all_goals subst_vars
   all_goals try first | rfl | contradiction | (apply Ob.mk;first | (simp only [ag,ak,aa.ae];omega) | ((try simp only [aa.ae]);(try dsimp only);omega))
   all_goals first
    | trivial
    | exact True.intro
    | exact ⟨hA⟩
    | exact ⟨hB⟩
    | exact ⟨c3⟩
    | exact ⟨Nat.zero_add _⟩
    | exact ⟨show 0 <= (i : Int) /\ (i : Int) < (A.length : Int) by omega⟩
    | exact ⟨show 0 + Int.toNat (i : Int) < A.length by omega⟩
    | exact ⟨show 0 <= (i : Int) /\ (i : Int) < (B.length : Int) by omega⟩
    | exact ⟨show 0 + Int.toNat (i : Int) < B.length by omega⟩
    | exact ⟨show 0 <= (5 : Int) /\ (5 : Int) < (s.size : Int) by omega⟩
    | exact ⟨show 0 <= (7 : Int) /\ (7 : Int) < (s.size : Int) by omega⟩
    | exact ⟨show 0 <= 9 + 11 * (k : Int) + 5 /\ 9 + 11 * (k : Int) + 5 < (s.size : Int) by omega⟩
    | exact ⟨show 0 <= 9 + 11 * (k : Int) + 7 /\ 9 + 11 * (k : Int) + 7 < (s.size : Int) by omega⟩
    | exact ⟨show 0 <= 9 + 11 * (k : Int) + 9 /\ 9 + 11 * (k : Int) + 9 < (s.size : Int) by omega⟩
    | exact ⟨show ((eX s k).length + 1) * 3 <= 1099511627776 by omega⟩
    | exact ⟨show (eX s (kM s)).length <= 1000000 by omega⟩
    | exact hK
    | (refine bu.base ⟨_,[],hK,trivial,rfl,?_⟩;(repeat' ((conv => whnf);(first | apply And.intro | intro _)));all_goals first | rfl | trivial)
    | (apply Ob.mk;show (ag .i64 _).p;simp only [ag,ak,aa.ae];omega)
  ·repeat' ((conv => whnf);first | apply And.intro | (intro h9;try (have h8 : (_ : Bool) = _:=h9;clear h8;revert h9;subst_vars;intro h9;exact aq h9 (by assumption))))
   all_goals try (conv => whnf)
   all_goals try first | (apply Tk.mk <;> kernel_rfl) | exact ⟨ah rfl⟩ | exact ⟨rfl⟩ | exact ⟨trivial⟩
   all_goals subst_vars
   all_goals try first | rfl | contradiction | (apply Ob.mk;first | (simp only [ag,ak,aa.ae];omega) | ((try simp only [aa.ae]);(try dsimp only);omega))
   all_goals first
    | trivial
    | exact True.intro
    | exact ⟨hA⟩
    | exact ⟨hB⟩
    | exact ⟨c3⟩
    | exact ⟨Nat.zero_add _⟩
    | exact ⟨show 0 <= (i : Int) /\ (i : Int) < (A.length : Int) by omega⟩
    | exact ⟨show 0 + Int.toNat (i : Int) < A.length by omega⟩
    | exact ⟨show 0 <= (i : Int) /\ (i : Int) < (B.length : Int) by omega⟩
    | exact ⟨show 0 + Int.toNat (i : Int) < B.length by omega⟩
    | exact ⟨show 0 <= (5 : Int) /\ (5 : Int) < (s.size : Int) by omega⟩
    | exact ⟨show 0 <= (7 : Int) /\ (7 : Int) < (s.size : Int) by omega⟩
    | exact ⟨show 0 <= 9 + 11 * (k : Int) + 5 /\ 9 + 11 * (k : Int) + 5 < (s.size : Int) by omega⟩
    | exact ⟨show 0 <= 9 + 11 * (k : Int) + 7 /\ 9 + 11 * (k : Int) + 7 < (s.size : Int) by omega⟩
    | exact ⟨show 0 <= 9 + 11 * (k : Int) + 9 /\ 9 + 11 * (k : Int) + 9 < (s.size : Int) by omega⟩
    | exact ⟨show ((eX s k).length + 1) * 3 <= 1099511627776 by omega⟩
    | exact ⟨show (eX s (kM s)).length <= 1000000 by omega⟩
    | exact hK
    | (refine bu.base ⟨_,[],hK,trivial,rfl,?_⟩;(repeat' ((conv => whnf);(first | apply And.intro | intro _)));all_goals first | rfl | trivial)
    | (apply Ob.mk;show (ag .i64 _).p;simp only [ag,ak,aa.ae];omega)
 have d2 : (!((bA (ld (e9 s 5 - 48) (e9 s 7 - 48) (eX s (kM s)))).toList == s.toList)) = false:=by rw [<- hch,d1];rfl
 rw [d1,hrd] at hK
 dsimp only [ahG] at hK
 clear hch
 rcases hend with q1 | ⟨q1,q2⟩
 ·repeat' ((conv => whnf);first | apply And.intro | (intro h9;try (have h8 : (_ : Bool) = _:=h9;clear h8;revert h9;subst_vars;intro h9;exact aq h9 (by assumption))))
  all_goals try (conv => whnf)
  all_goals try first | (apply Tk.mk <;> kernel_rfl) | exact ⟨ah rfl⟩ | exact ⟨rfl⟩ | exact ⟨trivial⟩
  all_goals subst_vars
  all_goals try first | rfl | contradiction | (apply Ob.mk;first | (simp only [ag,ak,aa.ae];omega) | ((try simp only [aa.ae]);(try dsimp only);omega))
  all_goals try first
   | exact True.intro
   | exact ⟨hA⟩
   | exact ⟨hB⟩
   | exact ⟨c3⟩
   | exact ⟨Nat.zero_add _⟩
   | exact ⟨show 0 <= (i : Int) /\ (i : Int) < (A.length : Int) by omega⟩
   | exact ⟨show 0 + Int.toNat (i : Int) < A.length by omega⟩
   | exact ⟨show 0 <= (i : Int) /\ (i : Int) < (B.length : Int) by omega⟩
   | exact ⟨show 0 + Int.toNat (i : Int) < B.length by omega⟩
   | exact ⟨show 0 <= (5 : Int) /\ (5 : Int) < (s.size : Int) by omega⟩
   | exact ⟨show 0 <= (7 : Int) /\ (7 : Int) < (s.size : Int) by omega⟩
   | exact ⟨show 0 <= 9 + 11 * (k : Int) + 5 /\ 9 + 11 * (k : Int) + 5 < (s.size : Int) by omega⟩
   | exact ⟨show 0 <= 9 + 11 * (k : Int) + 7 /\ 9 + 11 * (k : Int) + 7 < (s.size : Int) by omega⟩
   | exact ⟨show 0 <= 9 + 11 * (k : Int) + 9 /\ 9 + 11 * (k : Int) + 9 < (s.size : Int) by omega⟩
   | exact ⟨show ((eX s k).length + 1) * 3 <= 1099511627776 by omega⟩
   | exact ⟨show (eX s (kM s)).length <= 1000000 by omega⟩
   | exact hK
   | (refine bu.base ⟨_,[],hK,trivial,rfl,?_⟩;(repeat' ((conv => whnf);(first | apply And.intro | intro _)));all_goals first | rfl | trivial)
   | (apply Ob.mk;show (ag .i64 _).p;simp only [ag,ak,aa.ae];omega)
  refine bu.base ⟨_,[2],hK,⟨rfl,rfl,by simp,trivial⟩,rfl,?_⟩
  repeat' ((conv => whnf);(first | apply And.intro | intro _))
  all_goals first | rfl | trivial
 ·repeat' ((conv => whnf);first | apply And.intro | (intro h9;try (have h8 : (_ : Bool) = _:=h9;clear h8;revert h9;subst_vars;intro h9;exact aq h9 (by assumption))))
  all_goals try (conv => whnf)
  all_goals try first | (apply Tk.mk <;> kernel_rfl) | exact ⟨ah rfl⟩ | exact ⟨rfl⟩ | exact ⟨trivial⟩
  all_goals subst_vars
  all_goals try first | rfl | contradiction | (apply Ob.mk;first | (simp only [ag,ak,aa.ae];omega) | ((try simp only [aa.ae]);(try dsimp only);omega))
  all_goals try first
   | exact True.intro
   | exact ⟨hA⟩
   | exact ⟨hB⟩
   | exact ⟨c3⟩
   | exact ⟨Nat.zero_add _⟩
   | exact ⟨show 0 <= (i : Int) /\ (i : Int) < (A.length : Int) by omega⟩
   | exact ⟨show 0 + Int.toNat (i : Int) < A.length by omega⟩
   | exact ⟨show 0 <= (i : Int) /\ (i : Int) < (B.length : Int) by omega⟩
   | exact ⟨show 0 + Int.toNat (i : Int) < B.length by omega⟩
   | exact ⟨show 0 <= (5 : Int) /\ (5 : Int) < (s.size : Int) by omega⟩
   | exact ⟨show 0 <= (7 : Int) /\ (7 : Int) < (s.size : Int) by omega⟩
   | exact ⟨show 0 <= 9 + 11 * (k : Int) + 5 /\ 9 + 11 * (k : Int) + 5 < (s.size : Int) by omega⟩
   | exact ⟨show 0 <= 9 + 11 * (k : Int) + 7 /\ 9 + 11 * (k : Int) + 7 < (s.size : Int) by omega⟩
   | exact ⟨show 0 <= 9 + 11 * (k : Int) + 9 /\ 9 + 11 * (k : Int) + 9 < (s.size : Int) by omega⟩
   | exact ⟨show ((eX s k).length + 1) * 3 <= 1099511627776 by omega⟩
   | exact ⟨show (eX s (kM s)).length <= 1000000 by omega⟩
   | exact hK
   | (refine bu.base ⟨_,[],hK,trivial,rfl,?_⟩;(repeat' ((conv => whnf);(first | apply And.intro | intro _)));all_goals first | rfl | trivial)
   | (apply Ob.mk;show (ag .i64 _).p;simp only [ag,ak,aa.ae];omega)
  refine bu.base ⟨_,[2],hK,⟨rfl,rfl,by simp,trivial⟩,rfl,?_⟩
  repeat' ((conv => whnf);(first | apply And.intro | intro _))
  all_goals first | rfl | trivial)
noncomputable def ahv : au:=ahS (fun s => [(aa.of (s.size <= 1000))]) (fun s K => (pB s = true -> K (ahG (eY s) (.v (.bool true)))) /\ (pB s = false -> K (w8 (.v (.bool false)))))
theorem ahQ : au.Ok Tryz.prog Γ 34 ahv:=ah6 ahO (by
 intro s K ⟨h1,h2⟩
 unfold ajI
 cases hb : pB s
 ·exact h2 hb
 ·exact h1 hb)
end Go.Proofs.YthejmgnkenokpaaGreatDoor
end
