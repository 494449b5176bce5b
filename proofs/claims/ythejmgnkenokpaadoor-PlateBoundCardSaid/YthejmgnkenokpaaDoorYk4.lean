/-
  Texts of the claims on chapter 3: Yk4. No condition: lemmas and contracts.
-/
import Derived.Test.YthejmgnkenokpaaDoorYk2
import Derived.Test.YthejmgnkenokpaaDoorPl1
set_option linter.all false
set_option maxRecDepth 100000
set_option maxHeartbeats 4000000
section
namespace Go.Proofs.YthejmgnkenokpaaDoor
open Go Go.Sy Go.bK
variable {Γ : bn}
def PD (D : Int -> Int -> List Wk -> List (List Int) -> List aa) (F : Int -> Int -> List Wk -> List (List Int) -> Tm) : au:=.fn fun args rg => match args with
 | [.agg [.v (.int .i64 n0),.v (.int .i64 n1),x0],.a x1] => (match ca 60 kW rg x0,ca 27 kT rg x1 with | some (q0,L0),some (q1,L1) => some (q0 ++ (q1 ++ (D n0 n1 L0 L1)),F n0 n1 L0 L1) | _,_ => none)
 | _ => none
theorem MN {f : FuncId} {b : Body} {E : Env} {d : Nat} (hP : aL Tryd.prog Γ E) (hb : bQ Tryd.prog f b) {D : Int -> Int -> List Wk -> List (List Int) -> List aa} {F : Int -> Int -> List Wk -> List (List Int) -> Tm} (hp : ∀ (n0 : Int) (n1 : Int) (L0 : List Wk) (L1 : List (List Int)),(F n0 n1 L0 L1).plain = true)
  (H : ∀ (n0 : Int) (n1 : Int) (L0 : List Wk) (L1 : List (List Int)),bW (D n0 n1 L0 L1) -> cQ E d b [.agg [vI n0,vI n1,.sl 0 [] 0 L0.length],.a (.sl 1 [] 0 L1.length)] [.arr 60 kW L0 false false,.arr 27 kT L1 false false] (fun x _ => iL x (F n0 n1 L0 L1))) : au.Ok Tryd.prog Γ f (PD D F):=au.er (d:=d) hP hb (by
 intro args rg q t hF hq
 split at hF
 next n0 n1 x0 x1 =>
  split at hF
  next q0 L0 q1 L1 hx0 cO =>
   obtain ⟨rfl,rfl⟩:=Prod.mk.inj (Option.some.inj hF);clear hF
   rw [aH,aH] at hq
   obtain ⟨dm,gk,hD⟩:=hq
   obtain ⟨e0,Vn⟩:=bP (by simp [kW]) hx0 dm
   obtain ⟨e1,iO⟩:=bP (by simp [kT]) cO gk
   obtain ⟨p0,r0⟩:=Vn [e0,e1] 0 2 rfl (by omega)
   obtain ⟨p1,r1⟩:=iO [e0,e1] 1 2 rfl (by omega)
   refine ⟨hp _ _ _ _,[e0,e1],[.agg [vI n0,vI n1,.sl 0 [] 0 L0.length],.a (.sl 1 [] 0 L1.length)],[.arr 60 kW L0 false false,.arr 27 kT L1 false false],⟨⟨⟨rfl,rfl,p0,trivial⟩,p1,trivial⟩,fun r g hg => ?_⟩,H _ _ _ _ hD⟩
   match r,hg with
   | 0,hg => obtain rfl:=Option.some.inj hg;exact r0
   | 1,hg => obtain rfl:=Option.some.inj hg;exact r1
  next => cases hF
 next => cases hF)
def zR : au:=xL (fun _ _ L _ => [(aa.of (L.length <= 1000000))]) (fun _ _ L s => bl (fm L s))
noncomputable def KW : List (Nat × au):=[(67,gK)]
theorem El : aR Tryd.prog Γ KW:=(aR.nil.cons (aj Tryd.func67 rfl rfl).fn fw)
theorem CF : au.Ok Tryd.prog Γ 102 zR:=mG (d:=0) (aP El bq.nil false 0) (aj Tryd.func102 rfl rfl) (fun _ _ _ _ => rfl) (by
 intro n P L s ⟨hl,_⟩
 simp only [aa.ae] at hl
 rw [show fm L s = aQ s (0 - (L.length : Int)) ((L.length : Int) - 1) by unfold fm;rw [Int.zero_sub]]
 repeat' ((conv => whnf);first | apply And.intro | (intro h9;try (have h8 : (_ : Bool) = _:=h9;clear h8;revert h9;subst_vars;intro h9;exact aq h9 (by assumption))))
 all_goals try (conv => whnf)
 all_goals try first | (apply Tk.mk <;> kernel_rfl) | exact ⟨ah rfl⟩ | exact ⟨rfl⟩ | exact ⟨trivial⟩
 all_goals subst_vars
 all_goals try first | rfl | contradiction | (apply Ob.mk;first | (simp only [ag,ak,aa.ae];omega) | ((try simp only [aa.ae]);(try dsimp only);omega)))
abbrev bh (W : List (List Int)) (i : Int) : List Int:=@Ar.get ⟨27,kT,W⟩ (0 + Int.toNat i)
theorem wV (W : List (List Int)) (i : Nat) : bh W i = gL W i:=by unfold bh gL;rw [Nat.zero_add,Int.toNat_natCast];rfl
abbrev KC (W : List (List Int)) (i k : Int) : Int:=@Ar.get ⟨3,kI,bh W i⟩ (0 + Int.toNat k)
def wv : au:=PD (fun _ _ L W => [(aa.of (L.length <= 1000000)),(aa.of (W.length <= 1000000)),(aa.of (∀ w ∈ W,w.length <= 1000000))]) (fun _ _ L W => .a (vI (cK L W)))
noncomputable def Mj : List (Nat × au):=[(102,zR)]
theorem FZ : aR Tryd.prog Γ Mj:=(aR.nil.cons (aj Tryd.func102 rfl rfl).fn CF)
noncomputable def K4 : List (Nat × Body):=[(99,bo Tryd.f99),(121,bo Tryd.f121),(100,bo Tryd.f100),(65,bo Tryd.f65),(90,bo Tryd.f90),(101,bo Tryd.f101)]
theorem ED : bq Tryd.prog K4:=((((((bq.nil.cons (cg Tryd.func101 rfl rfl)).cons (cg Tryd.func90 rfl rfl)).cons (cg Tryd.func65 rfl rfl)).cons (cg Tryd.func100 rfl rfl)).cons (cg Tryd.func121 rfl rfl)).cons (cg Tryd.func99 rfl rfl))
attribute [local irreducible] bN fW fm
theorem uF : au.Ok Tryd.prog Γ 76 wv:=MN (d:=4) (aP FZ ED false 0) (aj Tryd.func76 rfl rfl) (fun _ _ _ _ => rfl) (by
 intro n P L W ⟨hl,hW,hv,_⟩
 simp only [aa.ae] at hl hW hv
 have m1 : decide ((-1 : Int) >= 0) = false:=rfl
 repeat' ((conv => whnf);first | apply And.intro | (intro h9;try (have h8 : (_ : Bool) = _:=h9;clear h8;revert h9;subst_vars;intro h9;exact aq h9 (by assumption))))
 all_goals try (conv => whnf)
 all_goals try first | (apply Tk.mk <;> kernel_rfl) | exact ⟨ah rfl⟩ | exact ⟨rfl⟩ | exact ⟨trivial⟩
 all_goals subst_vars
 all_goals try first | rfl | contradiction | (apply Ob.mk;first | (simp only [ag,ak,aa.ae];omega) | ((try simp only [aa.ae]);(try dsimp only);omega))
 refine ⟨Nat,fun i => i <= W.length /\ W.any fW = (W.drop i).any fW,fun i => ⟨aI 19 [0,1,7,8] [.a (.sl 1 [] 0 W.length),.a (.fn 100 []),.a (vI W.length),.a (vI i)],[aI 9 [] [],aI 19 [1,2] [.a (.sl 1 [] 0 W.length),.a (.p 2 [] 0 0)]],[.arr 60 kW L false false,.arr 27 kT W false false,.box true [vI n,vI P,.sl 0 [] 0 L.length]]⟩,fun i => W.length - i,0,[],⟨Nat.zero_le _,rfl⟩,?_,?_⟩
 ·repeat' ((conv => whnf);(first | apply And.intro | intro _))
  all_goals first | rfl | trivial | exact ah rfl | exact aS ‹_› rfl | exact aT ‹_› rfl | ((repeat' first | rfl | constructor);done)
 rintro i ⟨hi,hf⟩
 have m2 : decide ((i : Int) >= 0) = true:=decide_eq_true (by omega)
 by_cases hi1 : i < W.length
 ·have p0 : decide ((i : Int) < (W.length : Int)) = true:=decide_eq_true (by omega)
  have gr:=wV W i
  have gv : (bh W i).length <= 1000000:=by rw [gr];exact hv _ (AA hi1)
  have gb : fW (gL W i) = decide (((bh W i).length : Int) > 96):=by rw [gr];unfold fW;rfl
  cases hb : decide (((bh W i).length : Int) > 96)
  ·have jH:=hf.trans (zx hi1 (d:=[]) (gb.trans hb))
   repeat' ((conv => whnf);first | apply And.intro | (intro h9;try (have h8 : (_ : Bool) = _:=h9;clear h8;revert h9;subst_vars;intro h9;exact aq h9 (by assumption))))
   all_goals try (conv => whnf)
   all_goals try first | (apply Tk.mk <;> kernel_rfl) | exact ⟨ah rfl⟩ | exact ⟨rfl⟩ | exact ⟨trivial⟩
   all_goals subst_vars
   all_goals try first | rfl | contradiction | (apply Ob.mk;first | (simp only [ag,ak,aa.ae];omega) | ((try simp only [aa.ae]);(try dsimp only);omega))
   all_goals try first
    | exact ⟨show 0 + Int.toNat (i : Int) < W.length by omega⟩
   refine ⟨i + 1,[],⟨hi1,jH⟩,?_,by show W.length - (i + 1) < W.length - i;omega⟩
   repeat' ((conv => whnf);(first | apply And.intro | intro _))
   all_goals first | rfl | trivial | exact ah rfl | exact aS ‹_› rfl | exact aT ‹_› rfl | ((repeat' first | rfl | constructor);done)
  rw [show cK L W = 2 by unfold cK;rw [hf.trans (wg hi1 (d:=[]) (gb.trans hb))]]
  repeat' ((conv => whnf);first | apply And.intro | (intro h9;try (have h8 : (_ : Bool) = _:=h9;clear h8;revert h9;subst_vars;intro h9;exact aq h9 (by assumption))))
  all_goals try (conv => whnf)
  all_goals try first | (apply Tk.mk <;> kernel_rfl) | exact ⟨ah rfl⟩ | exact ⟨rfl⟩ | exact ⟨trivial⟩
  all_goals subst_vars
  all_goals try first | rfl | contradiction | (apply Ob.mk;first | (simp only [ag,ak,aa.ae];omega) | ((try simp only [aa.ae]);(try dsimp only);omega))
  all_goals first
   | exact ⟨show 0 + Int.toNat (i : Int) < W.length by omega⟩
 have p0 : decide ((i : Int) < (W.length : Int)) = false:=decide_eq_false (by omega)
 rw [show cK L W = match W.any (fun w => !bN L w) with | true => 1 | false => 0 by unfold cK;rw [hf.trans (we (by omega))];rfl]
 repeat' ((conv => whnf);first | apply And.intro | (intro h9;try (have h8 : (_ : Bool) = _:=h9;clear h8;revert h9;subst_vars;intro h9;exact aq h9 (by assumption))))
 all_goals try (conv => whnf)
 all_goals try first | (apply Tk.mk <;> kernel_rfl) | exact ⟨ah rfl⟩ | exact ⟨rfl⟩ | exact ⟨trivial⟩
 all_goals subst_vars
 all_goals try first | rfl | contradiction | (apply Ob.mk;first | (simp only [ag,ak,aa.ae];omega) | ((try simp only [aa.ae]);(try dsimp only);omega))
 refine ⟨Nat,fun j => j <= W.length /\ W.any (fun w => !bN L w) = (W.drop j).any (fun w => !bN L w),fun j => ⟨aI 19 [2,9,10,11] [.a (.p 2 [] 0 0),.a (.sl 1 [] 0 W.length),.a (vI W.length),.a (vI j)],[],[.arr 60 kW L false false,.arr 27 kT W false false,.box true [vI n,vI P,.sl 0 [] 0 L.length]]⟩,fun j => W.length - j,0,[],⟨Nat.zero_le _,rfl⟩,?_,?_⟩
 ·repeat' ((conv => whnf);(first | apply And.intro | intro _))
  all_goals first | rfl | trivial | exact ah rfl | exact aS ‹_› rfl | exact aT ‹_› rfl | ((repeat' first | rfl | constructor);done)
 clear hf hi p0 m2 hi1
 rintro j ⟨hj,hg⟩
 by_cases Ho : j < W.length
 ·have p1 : decide ((j : Int) < (W.length : Int)) = true:=decide_eq_true (by omega)
  have gr:=wV W j
  have gv : (bh W j).length <= 1000000:=by rw [gr];exact hv _ (AA Ho)
  repeat' ((conv => whnf);first | apply And.intro | (intro h9;try (have h8 : (_ : Bool) = _:=h9;clear h8;revert h9;subst_vars;intro h9;exact aq h9 (by assumption))))
  all_goals try (conv => whnf)
  all_goals try first | (apply Tk.mk <;> kernel_rfl) | exact ⟨ah rfl⟩ | exact ⟨rfl⟩ | exact ⟨trivial⟩
  all_goals subst_vars
  all_goals try first | rfl | contradiction | (apply Ob.mk;first | (simp only [ag,ak,aa.ae];omega) | ((try simp only [aa.ae]);(try dsimp only);omega))
  all_goals try first
   | exact ⟨show 0 + Int.toNat (j : Int) < W.length by omega⟩
  refine ⟨Nat,fun k => k <= (bh W j).length /\ bN L (bh W j) = bN L ((bh W j).drop k),fun k => ⟨aI 19 [0,1,7,8] [.a (.sl 1 [(0 + Int.toNat (j : Int),0)] 0 (bh W j).length),.a (.fn 101 [2]),.a (vI (bh W j).length),.a (vI k)],[aI 9 [] [],aI 19 [2,9,10,11] [.a (.p 2 [] 0 0),.a (.sl 1 [] 0 W.length),.a (vI W.length),.a (vI j)]],[.arr 60 kW L false false,.arr 27 kT W false false,.box true [vI n,vI P,.sl 0 [] 0 L.length]]⟩,fun k => (bh W j).length - k,0,[],⟨Nat.zero_le _,rfl⟩,?_,?_⟩
  ·repeat' ((conv => whnf);(first | apply And.intro | intro _))
   all_goals first | rfl | trivial | exact ah rfl | exact aS ‹_› rfl | exact aT ‹_› rfl | ((repeat' first | rfl | constructor);done)
  rintro k ⟨hk,hs⟩
  have m2 : decide ((k : Int) >= 0) = true:=decide_eq_true (by omega)
  by_cases cB : k < (bh W j).length
  ·have p2 : decide ((k : Int) < ((bh W j).length : Int)) = true:=decide_eq_true (by omega)
   have gs : KC W j k = gi (bh W j) k:=dP _ k
   cases hb : fm L (KC W j k)
   ·have e1 : (!fm L (KC W j k)) = true:=by rw [hb];rfl
    have pT:=hs.trans (BU cB (gs ▸ hb))
    have e3 : (!bN L (gL W j)) = true:=by rw [<- gr,pT];rfl
    rw [hg.trans (wg Ho (d:=[]) e3)]
    repeat' ((conv => whnf);first | apply And.intro | (intro h9;try (have h8 : (_ : Bool) = _:=h9;clear h8;revert h9;subst_vars;intro h9;exact aq h9 (by assumption))))
    all_goals try (conv => whnf)
    all_goals try first | (apply Tk.mk <;> kernel_rfl) | exact ⟨ah rfl⟩ | exact ⟨rfl⟩ | exact ⟨trivial⟩
    all_goals subst_vars
    all_goals try first | rfl | contradiction | (apply Ob.mk;first | (simp only [ag,ak,aa.ae];omega) | ((try simp only [aa.ae]);(try dsimp only);omega))
    all_goals first
     | exact ⟨hl⟩
     | exact ⟨show 0 + Int.toNat (j : Int) < W.length by omega⟩
     | exact ⟨show 0 + Int.toNat (k : Int) < (bh W j).length by omega⟩
   have e1 : (!fm L (KC W j k)) = false:=by rw [hb];rfl
   have pT:=hs.trans (yx cB (gs ▸ hb))
   repeat' ((conv => whnf);first | apply And.intro | (intro h9;try (have h8 : (_ : Bool) = _:=h9;clear h8;revert h9;subst_vars;intro h9;exact aq h9 (by assumption))))
   all_goals try (conv => whnf)
   all_goals try first | (apply Tk.mk <;> kernel_rfl) | exact ⟨ah rfl⟩ | exact ⟨rfl⟩ | exact ⟨trivial⟩
   all_goals subst_vars
   all_goals try first | rfl | contradiction | (apply Ob.mk;first | (simp only [ag,ak,aa.ae];omega) | ((try simp only [aa.ae]);(try dsimp only);omega))
   all_goals try first
    | exact ⟨hl⟩
    | exact ⟨show 0 + Int.toNat (j : Int) < W.length by omega⟩
    | exact ⟨show 0 + Int.toNat (k : Int) < (bh W j).length by omega⟩
   refine ⟨k + 1,[],⟨cB,pT⟩,?_,by show (bh W j).length - (k + 1) < (bh W j).length - k;omega⟩
   repeat' ((conv => whnf);(first | apply And.intro | intro _))
   all_goals first | rfl | trivial | exact ah rfl | exact aS ‹_› rfl | exact aT ‹_› rfl | ((repeat' first | rfl | constructor);done)
  have p2 : decide ((k : Int) < ((bh W j).length : Int)) = false:=decide_eq_false (by omega)
  have pT:=hs.trans (yu (by omega))
  have e3 : (!bN L (gL W j)) = false:=by rw [<- gr,pT];rfl
  have AJ:=hg.trans (zx Ho (d:=[]) e3)
  repeat' ((conv => whnf);first | apply And.intro | (intro h9;try (have h8 : (_ : Bool) = _:=h9;clear h8;revert h9;subst_vars;intro h9;exact aq h9 (by assumption))))
  all_goals try (conv => whnf)
  all_goals try first | (apply Tk.mk <;> kernel_rfl) | exact ⟨ah rfl⟩ | exact ⟨rfl⟩ | exact ⟨trivial⟩
  all_goals subst_vars
  all_goals try first | rfl | contradiction | (apply Ob.mk;first | (simp only [ag,ak,aa.ae];omega) | ((try simp only [aa.ae]);(try dsimp only);omega))
  refine ⟨j + 1,[],⟨Ho,AJ⟩,?_,by show W.length - (j + 1) < W.length - j;omega⟩
  repeat' ((conv => whnf);(first | apply And.intro | intro _))
  all_goals first | rfl | trivial | exact ah rfl | exact aS ‹_› rfl | exact aT ‹_› rfl | ((repeat' first | rfl | constructor);done)
 have p1 : decide ((j : Int) < (W.length : Int)) = false:=decide_eq_false (by omega)
 rw [hg.trans (we (by omega))]
 repeat' ((conv => whnf);first | apply And.intro | (intro h9;try (have h8 : (_ : Bool) = _:=h9;clear h8;revert h9;subst_vars;intro h9;exact aq h9 (by assumption))))
 all_goals try (conv => whnf)
 all_goals try first | (apply Tk.mk <;> kernel_rfl) | exact ⟨ah rfl⟩ | exact ⟨rfl⟩ | exact ⟨trivial⟩
 all_goals subst_vars
 all_goals try first | rfl | contradiction | (apply Ob.mk;first | (simp only [ag,ak,aa.ae];omega) | ((try simp only [aa.ae]);(try dsimp only);omega)))
end Go.Proofs.YthejmgnkenokpaaDoor
end
