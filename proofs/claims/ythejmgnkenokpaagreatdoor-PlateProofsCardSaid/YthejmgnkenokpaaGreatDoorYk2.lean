/-
  Texts of the claims on chapter 3: Yk2. No condition: lemmas and contracts.
-/
import Derived.Test.YthejmgnkenokpaaGreatDoorYk1
import Derived.Test.YthejmgnkenokpaaGreatDoorPl1
set_option linter.all false
set_option maxRecDepth 100000
set_option maxHeartbeats 4000000
section
namespace Go.Proofs.YthejmgnkenokpaaGreatDoor
open Go Go.Sy Go.bK
variable {Γ : bn}
def fS (D : Int -> Int -> List Wk -> List aa) (F : Int -> Int -> List Wk -> Tm) : au:=.fn fun args rg => match args with
 | [.agg [.v (.int .i64 n0),.v (.int .i64 n1),x0]] => (match ac1 46 kW rg x0 with | some (q0,L0) => some (q0 ++ (D n0 n1 L0),F n0 n1 L0) | _ => none)
 | _ => none
theorem za {f : FuncId} {b : Body} {E : Env} {d : Nat} (hP : aL Tryz.prog Γ E) (hb : bQ Tryz.prog f b) {D : Int -> Int -> List Wk -> List aa} {F : Int -> Int -> List Wk -> Tm} (hp : ∀ (n0 : Int) (n1 : Int) (L0 : List Wk),(F n0 n1 L0).plain = true)
  (H : ∀ (n0 : Int) (n1 : Int) (L0 : List Wk),bW (D n0 n1 L0) -> cQ E d b [.agg [vI n0,vI n1,.sl 0 [] 0 L0.length]] [.arr 46 kW L0 false false] (fun x _ => iL x (F n0 n1 L0))) : au.Ok Tryz.prog Γ f (fS D F):=au.er (d:=d) hP hb (by
 intro args rg q t hF hq
 split at hF
 next n0 n1 x0 =>
  split at hF
  next q0 L0 hx0 =>
   obtain ⟨rfl,rfl⟩:=Prod.mk.inj (Option.some.inj hF);clear hF
   rw [aH] at hq
   obtain ⟨dm,hD⟩:=hq
   obtain ⟨e0,Vn⟩:=bP (by simp [kW]) hx0 dm
   obtain ⟨p0,r0⟩:=Vn [e0] 0 1 rfl (by omega)
   refine ⟨hp _ _ _,[e0],[.agg [vI n0,vI n1,.sl 0 [] 0 L0.length]],[.arr 46 kW L0 false false],⟨⟨⟨rfl,rfl,p0,trivial⟩,trivial⟩,fun r g hg => ?_⟩,H _ _ _ hD⟩
   match r,hg with
   | 0,hg => obtain rfl:=Option.some.inj hg;exact r0
  next => cases hF
 next => cases hF)
def xL (D : Int -> Int -> List Wk -> Int -> List aa) (F : Int -> Int -> List Wk -> Int -> Tm) : au:=.fn fun args rg => match args with
 | [.agg [.v (.int .i64 n0),.v (.int .i64 n1),x0],.a (.v (.int .i64 n2))] => (match ac1 46 kW rg x0 with | some (q0,L0) => some (q0 ++ (D n0 n1 L0 n2),F n0 n1 L0 n2) | _ => none)
 | _ => none
theorem mG {f : FuncId} {b : Body} {E : Env} {d : Nat} (hP : aL Tryz.prog Γ E) (hb : bQ Tryz.prog f b) {D : Int -> Int -> List Wk -> Int -> List aa} {F : Int -> Int -> List Wk -> Int -> Tm} (hp : ∀ (n0 : Int) (n1 : Int) (L0 : List Wk) (n2 : Int),(F n0 n1 L0 n2).plain = true)
  (H : ∀ (n0 : Int) (n1 : Int) (L0 : List Wk) (n2 : Int),bW (D n0 n1 L0 n2) -> cQ E d b [.agg [vI n0,vI n1,.sl 0 [] 0 L0.length],.a (vI n2)] [.arr 46 kW L0 false false] (fun x _ => iL x (F n0 n1 L0 n2))) : au.Ok Tryz.prog Γ f (xL D F):=au.er (d:=d) hP hb (by
 intro args rg q t hF hq
 split at hF
 next n0 n1 x0 n2 =>
  split at hF
  next q0 L0 hx0 =>
   obtain ⟨rfl,rfl⟩:=Prod.mk.inj (Option.some.inj hF);clear hF
   rw [aH] at hq
   obtain ⟨dm,hD⟩:=hq
   obtain ⟨e0,Vn⟩:=bP (by simp [kW]) hx0 dm
   obtain ⟨p0,r0⟩:=Vn [e0] 0 1 rfl (by omega)
   refine ⟨hp _ _ _ _,[e0],[.agg [vI n0,vI n1,.sl 0 [] 0 L0.length],.a (vI n2)],[.arr 46 kW L0 false false],⟨⟨⟨rfl,rfl,p0,trivial⟩,rfl,trivial⟩,fun r g hg => ?_⟩,H _ _ _ _ hD⟩
   match r,hg with
   | 0,hg => obtain rfl:=Option.some.inj hg;exact r0
  next => cases hF
 next => cases hF)
def PE (D : Int -> Int -> List Wk -> Wk -> List aa) (F : Int -> Int -> List Wk -> Wk -> Tm) : au:=.fn fun args rg => match args with
 | [.agg [.v (.int .i64 n0),.v (.int .i64 n1),x0],.agg l0] => (match ac1 46 kW rg x0,eu kW l0 with | some (q0,L0),some v0 => some (q0 ++ (D n0 n1 L0 v0),F n0 n1 L0 v0) | _,_ => none)
 | _ => none
theorem MP {f : FuncId} {b : Body} {E : Env} {d : Nat} (hP : aL Tryz.prog Γ E) (hb : bQ Tryz.prog f b) {D : Int -> Int -> List Wk -> Wk -> List aa} {F : Int -> Int -> List Wk -> Wk -> Tm} (hp : ∀ (n0 : Int) (n1 : Int) (L0 : List Wk) (v0 : Wk),(F n0 n1 L0 v0).plain = true)
  (H : ∀ (n0 : Int) (n1 : Int) (L0 : List Wk) (v0 : Wk),bW (D n0 n1 L0 v0) -> cQ E d b [.agg [vI n0,vI n1,.sl 0 [] 0 L0.length],.agg (ai.lV kW v0)] [.arr 46 kW L0 false false] (fun x _ => iL x (F n0 n1 L0 v0))) : au.Ok Tryz.prog Γ f (PE D F):=au.er (d:=d) hP hb (by
 intro args rg q t hF hq
 split at hF
 next n0 n1 x0 l0 =>
  split at hF
  next q0 L0 v0 hx0 hc0 =>
   obtain ⟨rfl,rfl⟩:=Prod.mk.inj (Option.some.inj hF);clear hF
   rw [aH] at hq
   obtain ⟨dm,hD⟩:=hq
   obtain ⟨e0,Vn⟩:=bP (by simp [kW]) hx0 dm
   obtain ⟨p0,r0⟩:=Vn [e0] 0 1 rfl (by omega)
   refine ⟨hp _ _ _ _,[e0],[.agg [vI n0,vI n1,.sl 0 [] 0 L0.length],.agg (ai.lV kW v0)],[.arr 46 kW L0 false false],⟨⟨⟨rfl,rfl,p0,trivial⟩,oC hc0,trivial⟩,fun r g hg => ?_⟩,H _ _ _ _ hD⟩
   match r,hg with
   | 0,hg => obtain rfl:=Option.some.inj hg;exact r0
  next => cases hF
 next => cases hF)
abbrev cn (L : List Wk) (i : Int) : Wk:=@Ar.get ⟨46,kW,L⟩ (0 + Int.toNat i)
theorem jX (L : List Wk) (i : Nat) : cn L i = wk L i:=by unfold cn;rw [Nat.zero_add,Int.toNat_natCast];rfl
abbrev w3 (L : List Wk) (i : Int) : Wk:=((cn L i).1,(cn L i).2.1,(cn L i).2.2)
def sS : au:=PE (fun _ P _ _ => [(aa.of (1 <= P /\ P <= 6))]) (fun _ P _ w => bl (eJ P w))
noncomputable def Qn : List (Nat × au):=[(59,gK),(66,mC)]
theorem KY : aR Tryz.prog Γ Qn:=((aR.nil.cons (aj Tryz.func66 rfl rfl).fn kE).cons (aj Tryz.func59 rfl rfl).fn fw)
theorem Z1 : au.Ok Tryz.prog Γ 76 sS:=MP (d:=0) (aP KY bq.nil false 0) (aj Tryz.func76 rfl rfl) (fun _ _ _ _ => rfl) (by
 rintro n P L ⟨a,b,t⟩ ⟨hP,_⟩
 simp only [aa.ae] at hP
 cases h1 : aQ a 0 (P - 1)
 ·rw [show eJ P (a,b,t) = false by simp [eJ,h1]]
  repeat' ((conv => whnf);first | apply And.intro | (intro h9;try (have h8 : (_ : Bool) = _:=h9;clear h8;revert h9;subst_vars;intro h9;exact aq h9 (by assumption))))
  all_goals try (conv => whnf)
  all_goals try first | (apply Tk.mk <;> kernel_rfl) | exact ⟨ah rfl⟩ | exact ⟨rfl⟩ | exact ⟨trivial⟩
  all_goals subst_vars
  all_goals try first | rfl | contradiction | (apply Ob.mk;first | (simp only [ag,ak,aa.ae];omega) | ((try simp only [aa.ae]);(try dsimp only);omega))
 cases h2 : aQ b 0 (P - 1)
 ·rw [show eJ P (a,b,t) = false by simp [eJ,h2]]
  repeat' ((conv => whnf);first | apply And.intro | (intro h9;try (have h8 : (_ : Bool) = _:=h9;clear h8;revert h9;subst_vars;intro h9;exact aq h9 (by assumption))))
  all_goals try (conv => whnf)
  all_goals try first | (apply Tk.mk <;> kernel_rfl) | exact ⟨ah rfl⟩ | exact ⟨rfl⟩ | exact ⟨trivial⟩
  all_goals subst_vars
  all_goals try first | rfl | contradiction | (apply Ob.mk;first | (simp only [ag,ak,aa.ae];omega) | ((try simp only [aa.ae]);(try dsimp only);omega))
 cases h3 : (a != b)
 ·rw [show eJ P (a,b,t) = false by simp [eJ,h3]]
  repeat' ((conv => whnf);first | apply And.intro | (intro h9;try (have h8 : (_ : Bool) = _:=h9;clear h8;revert h9;subst_vars;intro h9;exact aq h9 (by assumption))))
  all_goals try (conv => whnf)
  all_goals try first | (apply Tk.mk <;> kernel_rfl) | exact ⟨ah rfl⟩ | exact ⟨rfl⟩ | exact ⟨trivial⟩
  all_goals subst_vars
  all_goals try first | rfl | contradiction | (apply Ob.mk;first | (simp only [ag,ak,aa.ae];omega) | ((try simp only [aa.ae]);(try dsimp only);omega))
 rw [show eJ P (a,b,t) = aQ t 0 7 by simp [eJ,h1,h2,h3]]
 repeat' ((conv => whnf);first | apply And.intro | (intro h9;try (have h8 : (_ : Bool) = _:=h9;clear h8;revert h9;subst_vars;intro h9;exact aq h9 (by assumption))))
 all_goals try (conv => whnf)
 all_goals try first | (apply Tk.mk <;> kernel_rfl) | exact ⟨ah rfl⟩ | exact ⟨rfl⟩ | exact ⟨trivial⟩
 all_goals subst_vars
 all_goals try first | rfl | contradiction | (apply Ob.mk;first | (simp only [ag,ak,aa.ae];omega) | ((try simp only [aa.ae]);(try dsimp only);omega)))
def rZ : au:=fS (fun _ _ L => [(aa.of (L.length <= 1000000))]) (fun n P L => .a (vI (bD n P L)))
noncomputable def Mb : List (Nat × au):=[(59,gK),(76,sS)]
theorem FN : aR Tryz.prog Γ Mb:=((aR.nil.cons (aj Tryz.func76 rfl rfl).fn Z1).cons (aj Tryz.func59 rfl rfl).fn fw)
noncomputable def K3 : List (Nat × Body):=[(74,bo Tryz.f74),(114,bo Tryz.f114),(75,bo Tryz.f75)]
theorem EB : bq Tryz.prog K3:=(((bq.nil.cons (cg Tryz.func75 rfl rfl)).cons (cg Tryz.func114 rfl rfl)).cons (cg Tryz.func74 rfl rfl))
theorem oS : au.Ok Tryz.prog Γ 35 rZ:=za (d:=4) (aP FN EB false 0) (aj Tryz.func35 rfl rfl) (fun _ _ _ => rfl) (by
 intro n P L ⟨hL,_⟩
 simp only [aa.ae] at hL
 cases h1 : aQ n 1 6
 ·have e1 : (!aQ n 1 6) = true:=by rw [h1];rfl
  rw [show bD n P L = 1 by simp [bD,h1]]
  repeat' ((conv => whnf);first | apply And.intro | (intro h9;try (have h8 : (_ : Bool) = _:=h9;clear h8;revert h9;subst_vars;intro h9;exact aq h9 (by assumption))))
  all_goals try (conv => whnf)
  all_goals try first | (apply Tk.mk <;> kernel_rfl) | exact ⟨ah rfl⟩ | exact ⟨rfl⟩ | exact ⟨trivial⟩
  all_goals subst_vars
  all_goals try first | rfl | contradiction | (apply Ob.mk;first | (simp only [ag,ak,aa.ae];omega) | ((try simp only [aa.ae]);(try dsimp only);omega))
 have e1 : (!aQ n 1 6) = false:=by rw [h1];rfl
 cases h2 : aQ P 1 6
 ·have e2 : (!aQ P 1 6) = true:=by rw [h2];rfl
  rw [show bD n P L = 1 by simp [bD,h2]]
  repeat' ((conv => whnf);first | apply And.intro | (intro h9;try (have h8 : (_ : Bool) = _:=h9;clear h8;revert h9;subst_vars;intro h9;exact aq h9 (by assumption))))
  all_goals try (conv => whnf)
  all_goals try first | (apply Tk.mk <;> kernel_rfl) | exact ⟨ah rfl⟩ | exact ⟨rfl⟩ | exact ⟨trivial⟩
  all_goals subst_vars
  all_goals try first | rfl | contradiction | (apply Ob.mk;first | (simp only [ag,ak,aa.ae];omega) | ((try simp only [aa.ae]);(try dsimp only);omega))
 have e2 : (!aQ P 1 6) = false:=by rw [h2];rfl
 have q2:=bA.1 h2
 by_cases h3 : L.length > 16
 ·have e3 : decide ((L.length : Int) > 16) = true:=decide_eq_true (by omega)
  rw [show bD n P L = 2 by simp [bD,h1,h2,h3]]
  repeat' ((conv => whnf);first | apply And.intro | (intro h9;try (have h8 : (_ : Bool) = _:=h9;clear h8;revert h9;subst_vars;intro h9;exact aq h9 (by assumption))))
  all_goals try (conv => whnf)
  all_goals try first | (apply Tk.mk <;> kernel_rfl) | exact ⟨ah rfl⟩ | exact ⟨rfl⟩ | exact ⟨trivial⟩
  all_goals subst_vars
  all_goals try first | rfl | contradiction | (apply Ob.mk;first | (simp only [ag,ak,aa.ae];omega) | ((try simp only [aa.ae]);(try dsimp only);omega))
 have e3 : decide ((L.length : Int) > 16) = false:=decide_eq_false (by omega)
 rw [show bD n P L = if dY P L = true then 0 else 1 by simp [bD,h1,h2,h3]]
 have m1 : decide ((-1 : Int) >= 0) = false:=rfl
 repeat' ((conv => whnf);first | apply And.intro | (intro h9;try (have h8 : (_ : Bool) = _:=h9;clear h8;revert h9;subst_vars;intro h9;exact aq h9 (by assumption))))
 all_goals try (conv => whnf)
 all_goals try first | (apply Tk.mk <;> kernel_rfl) | exact ⟨ah rfl⟩ | exact ⟨rfl⟩ | exact ⟨trivial⟩
 all_goals subst_vars
 all_goals try first | rfl | contradiction | (apply Ob.mk;first | (simp only [ag,ak,aa.ae];omega) | ((try simp only [aa.ae]);(try dsimp only);omega))
 refine ⟨Nat,fun i => i <= L.length /\ dY P L = dY P (L.drop i),fun i => ⟨aI 19 [0,1,7,8] [.a (.sl 0 [] 0 L.length),.a (.fn 75 [1]),.a (vI L.length),.a (vI i)],[aI 9 [] [],aI 24 [] []],[.arr 46 kW L false false,.box true [vI n,vI P,.sl 0 [] 0 L.length]]⟩,fun i => L.length - i,0,[],⟨Nat.zero_le _,rfl⟩,?_,?_⟩
 ·repeat' ((conv => whnf);(first | apply And.intro | intro _))
  all_goals first | rfl | trivial | exact ah rfl | exact aS ‹_› rfl | exact aT ‹_› rfl | ((repeat' first | rfl | constructor);done)
 rintro i ⟨hi,hv⟩
 have m2 : decide ((i : Int) >= 0) = true:=decide_eq_true (by omega)
 by_cases hi1 : i < L.length
 ·have p0 : decide ((i : Int) < (L.length : Int)) = true:=decide_eq_true (by omega)
  cases hw : eJ P (wk L i)
  ·have e4 : (!eJ P (w3 L i)) = true:=by rw [show w3 L i = wk L i from jX L i,hw];rfl
   rw [hv,rS hi1 hw]
   repeat' ((conv => whnf);first | apply And.intro | (intro h9;try (have h8 : (_ : Bool) = _:=h9;clear h8;revert h9;subst_vars;intro h9;exact aq h9 (by assumption))))
   all_goals try (conv => whnf)
   all_goals try first | (apply Tk.mk <;> kernel_rfl) | exact ⟨ah rfl⟩ | exact ⟨rfl⟩ | exact ⟨trivial⟩
   all_goals subst_vars
   all_goals try first | rfl | contradiction | (apply Ob.mk;first | (simp only [ag,ak,aa.ae];omega) | ((try simp only [aa.ae]);(try dsimp only);omega))
   all_goals first
    | exact ⟨show 0 + Int.toNat (i : Int) < L.length by omega⟩
  have e4 : (!eJ P (w3 L i)) = false:=by rw [show w3 L i = wk L i from jX L i,hw];rfl
  repeat' ((conv => whnf);first | apply And.intro | (intro h9;try (have h8 : (_ : Bool) = _:=h9;clear h8;revert h9;subst_vars;intro h9;exact aq h9 (by assumption))))
  all_goals try (conv => whnf)
  all_goals try first | (apply Tk.mk <;> kernel_rfl) | exact ⟨ah rfl⟩ | exact ⟨rfl⟩ | exact ⟨trivial⟩
  all_goals subst_vars
  all_goals try first | rfl | contradiction | (apply Ob.mk;first | (simp only [ag,ak,aa.ae];omega) | ((try simp only [aa.ae]);(try dsimp only);omega))
  all_goals try first
   | exact ⟨show 0 + Int.toNat (i : Int) < L.length by omega⟩
  all_goals
   refine ⟨i + 1,[],⟨hi1,by rw [hv,Ei hi1 hw]⟩,?_,by show L.length - (i + 1) < L.length - i;omega⟩
   repeat' ((conv => whnf);(first | apply And.intro | intro _))
   all_goals first | rfl | trivial | exact ah rfl | exact aS ‹_› rfl | exact aT ‹_› rfl | ((repeat' first | rfl | constructor);done)
 have p0 : decide ((i : Int) < (L.length : Int)) = false:=decide_eq_false (by omega)
 rw [hv,Eh (by omega)]
 repeat' ((conv => whnf);first | apply And.intro | (intro h9;try (have h8 : (_ : Bool) = _:=h9;clear h8;revert h9;subst_vars;intro h9;exact aq h9 (by assumption))))
 all_goals try (conv => whnf)
 all_goals try first | (apply Tk.mk <;> kernel_rfl) | exact ⟨ah rfl⟩ | exact ⟨rfl⟩ | exact ⟨trivial⟩
 all_goals subst_vars
 all_goals try first | rfl | contradiction | (apply Ob.mk;first | (simp only [ag,ak,aa.ae];omega) | ((try simp only [aa.ae]);(try dsimp only);omega)))
end Go.Proofs.YthejmgnkenokpaaGreatDoor
end
section
namespace Go.Proofs.YthejmgnkenokpaaGreatDoor
open Go Go.Sy Go.bK
variable {Γ : bn}
def uE : au:=fS (fun _ _ L => [(aa.of (L.length <= 1000000))]) (fun n P L => .a (vI (bD n P L)))
noncomputable def FX : List (Nat × au):=[(21,mg)]
theorem zo : aR Tryz.prog Γ FX:=(aR.nil.cons (aj Tryz.func21 rfl rfl).fn jx)
theorem yI : au.Ok Tryz.prog Γ 18 uE:=za (d:=0) (aP zo bq.nil false 0) (aj Tryz.func18 rfl rfl) (fun _ _ _ => rfl) (by
 intro n P L ⟨hL,_⟩
 simp only [aa.ae] at hL
 cases h1 : aQ n 1 6
 ·have e1 : (!aQ n 1 6) = true:=by rw [h1];rfl
  rw [show bD n P L = 1 by simp [bD,h1]]
  repeat' ((conv => whnf);first | apply And.intro | (intro h9;try (have h8 : (_ : Bool) = _:=h9;clear h8;revert h9;subst_vars;intro h9;exact aq h9 (by assumption))))
  all_goals try (conv => whnf)
  all_goals try first | (apply Tk.mk <;> kernel_rfl) | exact ⟨ah rfl⟩ | exact ⟨rfl⟩ | exact ⟨trivial⟩
  all_goals subst_vars
  all_goals try first | rfl | contradiction | (apply Ob.mk;first | (simp only [ag,ak,aa.ae];omega) | ((try simp only [aa.ae]);(try dsimp only);omega))
 have e1 : (!aQ n 1 6) = false:=by rw [h1];rfl
 cases h2 : aQ P 1 6
 ·have e2 : (!aQ P 1 6) = true:=by rw [h2];rfl
  rw [show bD n P L = 1 by simp [bD,h2]]
  repeat' ((conv => whnf);first | apply And.intro | (intro h9;try (have h8 : (_ : Bool) = _:=h9;clear h8;revert h9;subst_vars;intro h9;exact aq h9 (by assumption))))
  all_goals try (conv => whnf)
  all_goals try first | (apply Tk.mk <;> kernel_rfl) | exact ⟨ah rfl⟩ | exact ⟨rfl⟩ | exact ⟨trivial⟩
  all_goals subst_vars
  all_goals try first | rfl | contradiction | (apply Ob.mk;first | (simp only [ag,ak,aa.ae];omega) | ((try simp only [aa.ae]);(try dsimp only);omega))
 have e2 : (!aQ P 1 6) = false:=by rw [h2];rfl
 have q2:=bA.1 h2
 by_cases h3 : L.length > 16
 ·have e3 : decide ((L.length : Int) > 16) = true:=decide_eq_true (by omega)
  rw [show bD n P L = 2 by simp [bD,h1,h2,h3]]
  repeat' ((conv => whnf);first | apply And.intro | (intro h9;try (have h8 : (_ : Bool) = _:=h9;clear h8;revert h9;subst_vars;intro h9;exact aq h9 (by assumption))))
  all_goals try (conv => whnf)
  all_goals try first | (apply Tk.mk <;> kernel_rfl) | exact ⟨ah rfl⟩ | exact ⟨rfl⟩ | exact ⟨trivial⟩
  all_goals subst_vars
  all_goals try first | rfl | contradiction | (apply Ob.mk;first | (simp only [ag,ak,aa.ae];omega) | ((try simp only [aa.ae]);(try dsimp only);omega))
 have e3 : decide ((L.length : Int) > 16) = false:=decide_eq_false (by omega)
 rw [show bD n P L = if dY P L = true then 0 else 1 by simp [bD,h1,h2,h3]]
 repeat' ((conv => whnf);first | apply And.intro | (intro h9;try (have h8 : (_ : Bool) = _:=h9;clear h8;revert h9;subst_vars;intro h9;exact aq h9 (by assumption))))
 all_goals try (conv => whnf)
 all_goals try first | (apply Tk.mk <;> kernel_rfl) | exact ⟨ah rfl⟩ | exact ⟨rfl⟩ | exact ⟨trivial⟩
 all_goals subst_vars
 all_goals try first | rfl | contradiction | (apply Ob.mk;first | (simp only [ag,ak,aa.ae];omega) | ((try simp only [aa.ae]);(try dsimp only);omega))
 refine ⟨Nat,fun i => i <= L.length /\ dY P L = dY P (L.drop i),fun i => ⟨aI 60 [1,3] [.a (.p 1 [] 0 0),.a (vI i)],[],[.arr 46 kW L false false,.box true [vI n,vI P,.sl 0 [] 0 L.length]]⟩,fun i => L.length - i,0,[],⟨Nat.zero_le _,rfl⟩,?_,?_⟩
 ·repeat' ((conv => whnf);(first | apply And.intro | intro _))
  all_goals first | rfl | trivial | exact ah rfl | exact aS ‹_› rfl | exact aT ‹_› rfl | ((repeat' first | rfl | constructor);done)
 rintro i ⟨hi,hv⟩
 by_cases hi1 : i < L.length
 ·have p0 : decide ((i : Int) < (L.length : Int)) = true:=decide_eq_true (by omega)
  have wn : ∀ b,eJ P (wk L i) = b -> eJ P (cn L i) = b:=fun b hb => by rw [jX];exact hb
  cases w1 : aQ (cn L i).1 0 (P - 1)
  ·have f1 : (!aQ (cn L i).1 0 (P - 1)) = true:=by rw [w1];rfl
   have hw : eJ P (wk L i) = false:=by rw [<- jX];simp only [eJ,w1,Bool.false_and]
   rw [hv,rS hi1 hw]
   repeat' ((conv => whnf);first | apply And.intro | (intro h9;try (have h8 : (_ : Bool) = _:=h9;clear h8;revert h9;subst_vars;intro h9;exact aq h9 (by assumption))))
   all_goals try (conv => whnf)
   all_goals try first | (apply Tk.mk <;> kernel_rfl) | exact ⟨ah rfl⟩ | exact ⟨rfl⟩ | exact ⟨trivial⟩
   all_goals subst_vars
   all_goals try first | rfl | contradiction | (apply Ob.mk;first | (simp only [ag,ak,aa.ae];omega) | ((try simp only [aa.ae]);(try dsimp only);omega))
   all_goals first
    | exact ⟨show 0 + Int.toNat (i : Int) < L.length by omega⟩
  have f1 : (!aQ (cn L i).1 0 (P - 1)) = false:=by rw [w1];rfl
  cases w2 : aQ (cn L i).2.1 0 (P - 1)
  ·have f2 : (!aQ (cn L i).2.1 0 (P - 1)) = true:=by rw [w2];rfl
   have hw : eJ P (wk L i) = false:=by rw [<- jX];simp only [eJ,w2,Bool.false_and,Bool.and_false]
   rw [hv,rS hi1 hw]
   repeat' ((conv => whnf);first | apply And.intro | (intro h9;try (have h8 : (_ : Bool) = _:=h9;clear h8;revert h9;subst_vars;intro h9;exact aq h9 (by assumption))))
   all_goals try (conv => whnf)
   all_goals try first | (apply Tk.mk <;> kernel_rfl) | exact ⟨ah rfl⟩ | exact ⟨rfl⟩ | exact ⟨trivial⟩
   all_goals subst_vars
   all_goals try first | rfl | contradiction | (apply Ob.mk;first | (simp only [ag,ak,aa.ae];omega) | ((try simp only [aa.ae]);(try dsimp only);omega))
   all_goals first
    | exact ⟨show 0 + Int.toNat (i : Int) < L.length by omega⟩
  have f2 : (!aQ (cn L i).2.1 0 (P - 1)) = false:=by rw [w2];rfl
  cases Qd : (cn L i).1 == (cn L i).2.1
  ·have g3 : ((cn L i).1 != (cn L i).2.1) = true:=by unfold bne;rw [Qd];rfl
   cases w4 : aQ (cn L i).2.2 0 7
   ·have f4 : (!aQ (cn L i).2.2 0 7) = true:=by rw [w4];rfl
    have hw : eJ P (wk L i) = false:=by rw [<- jX];simp only [eJ,w4,Bool.and_false]
    rw [hv,rS hi1 hw]
    repeat' ((conv => whnf);first | apply And.intro | (intro h9;try (have h8 : (_ : Bool) = _:=h9;clear h8;revert h9;subst_vars;intro h9;exact aq h9 (by assumption))))
    all_goals try (conv => whnf)
    all_goals try first | (apply Tk.mk <;> kernel_rfl) | exact ⟨ah rfl⟩ | exact ⟨rfl⟩ | exact ⟨trivial⟩
    all_goals subst_vars
    all_goals try first | rfl | contradiction | (apply Ob.mk;first | (simp only [ag,ak,aa.ae];omega) | ((try simp only [aa.ae]);(try dsimp only);omega))
    all_goals first
     | exact ⟨show 0 + Int.toNat (i : Int) < L.length by omega⟩
   have f4 : (!aQ (cn L i).2.2 0 7) = false:=by rw [w4];rfl
   have hw : eJ P (wk L i) = true:=by rw [<- jX];simp only [eJ,w1,w2,w4,g3,Bool.and_true]
   repeat' ((conv => whnf);first | apply And.intro | (intro h9;try (have h8 : (_ : Bool) = _:=h9;clear h8;revert h9;subst_vars;intro h9;exact aq h9 (by assumption))))
   all_goals try (conv => whnf)
   all_goals try first | (apply Tk.mk <;> kernel_rfl) | exact ⟨ah rfl⟩ | exact ⟨rfl⟩ | exact ⟨trivial⟩
   all_goals subst_vars
   all_goals try first | rfl | contradiction | (apply Ob.mk;first | (simp only [ag,ak,aa.ae];omega) | ((try simp only [aa.ae]);(try dsimp only);omega))
   all_goals try first
    | exact ⟨show 0 + Int.toNat (i : Int) < L.length by omega⟩
   all_goals
    refine ⟨i + 1,[],⟨hi1,by rw [hv,Ei hi1 hw]⟩,?_,by show L.length - (i + 1) < L.length - i;omega⟩
    repeat' ((conv => whnf);(first | apply And.intro | intro _))
    all_goals first | rfl | trivial | exact ah rfl | exact aS ‹_› rfl | exact aT ‹_› rfl | ((repeat' first | rfl | constructor);done)
  have g3 : ((cn L i).1 != (cn L i).2.1) = false:=by unfold bne;rw [Qd];rfl
  have hw : eJ P (wk L i) = false:=by rw [<- jX];simp only [eJ,g3,Bool.and_false,Bool.false_and]
  rw [hv,rS hi1 hw]
  repeat' ((conv => whnf);first | apply And.intro | (intro h9;try (have h8 : (_ : Bool) = _:=h9;clear h8;revert h9;subst_vars;intro h9;exact aq h9 (by assumption))))
  all_goals try (conv => whnf)
  all_goals try first | (apply Tk.mk <;> kernel_rfl) | exact ⟨ah rfl⟩ | exact ⟨rfl⟩ | exact ⟨trivial⟩
  all_goals subst_vars
  all_goals try first | rfl | contradiction | (apply Ob.mk;first | (simp only [ag,ak,aa.ae];omega) | ((try simp only [aa.ae]);(try dsimp only);omega))
  all_goals first
   | exact ⟨show 0 + Int.toNat (i : Int) < L.length by omega⟩
 have p0 : decide ((i : Int) < (L.length : Int)) = false:=decide_eq_false (by omega)
 rw [hv,Eh (by omega)]
 repeat' ((conv => whnf);first | apply And.intro | (intro h9;try (have h8 : (_ : Bool) = _:=h9;clear h8;revert h9;subst_vars;intro h9;exact aq h9 (by assumption))))
 all_goals try (conv => whnf)
 all_goals try first | (apply Tk.mk <;> kernel_rfl) | exact ⟨ah rfl⟩ | exact ⟨rfl⟩ | exact ⟨trivial⟩
 all_goals subst_vars
 all_goals try first | rfl | contradiction | (apply Ob.mk;first | (simp only [ag,ak,aa.ae];omega) | ((try simp only [aa.ae]);(try dsimp only);omega)))
def bf (n P : Int) (L : List Wk) (p : Int) : Int:=if bD n P L = 0 then (if aQ p 0 (P - 1) = true then 0 else 1) else bD n P L
attribute [local irreducible] bD
def jf : au:=xL (fun _ _ L _ => [(aa.of (L.length <= 1000000))]) (fun n P L p => .a (vI (bf n P L p)))
noncomputable def Mf : List (Nat × au):=[(35,rZ),(59,gK)]
theorem FV : aR Tryz.prog Γ Mf:=((aR.nil.cons (aj Tryz.func59 rfl rfl).fn fw).cons (aj Tryz.func35 rfl rfl).fn oS)
theorem fQ : au.Ok Tryz.prog Γ 45 jf:=mG (d:=0) (aP FV bq.nil false 0) (aj Tryz.func45 rfl rfl) (fun _ _ _ _ => rfl) (by
 intro n P L p ⟨hL,_⟩
 simp only [aa.ae] at hL
 by_cases h0 : bD n P L = 0
 ·have e0 : (bD n P L != 0) = false:=by rw [h0];rfl
  have Mx : (bD n P L == 0) = true:=by rw [h0];rfl
  have sh:=(oe.1 h0).p
  cases h1 : aQ p 0 (P - 1)
  ·have e1 : (!aQ p 0 (P - 1)) = true:=by rw [h1];rfl
   rw [show bf n P L p = 1 by simp [bf,h0,h1]]
   repeat' ((conv => whnf);first | apply And.intro | (intro h9;try (have h8 : (_ : Bool) = _:=h9;clear h8;revert h9;subst_vars;intro h9;exact aq h9 (by assumption))))
   all_goals try (conv => whnf)
   all_goals try first | (apply Tk.mk <;> kernel_rfl) | exact ⟨ah rfl⟩ | exact ⟨rfl⟩ | exact ⟨trivial⟩
   all_goals subst_vars
   all_goals try first | rfl | contradiction | (apply Ob.mk;first | (simp only [ag,ak,aa.ae];omega) | ((try simp only [aa.ae]);(try dsimp only);omega))
   all_goals first
    | exact ⟨hL⟩
  have e1 : (!aQ p 0 (P - 1)) = false:=by rw [h1];rfl
  rw [show bf n P L p = 0 by simp [bf,h0,h1]]
  repeat' ((conv => whnf);first | apply And.intro | (intro h9;try (have h8 : (_ : Bool) = _:=h9;clear h8;revert h9;subst_vars;intro h9;exact aq h9 (by assumption))))
  all_goals try (conv => whnf)
  all_goals try first | (apply Tk.mk <;> kernel_rfl) | exact ⟨ah rfl⟩ | exact ⟨rfl⟩ | exact ⟨trivial⟩
  all_goals subst_vars
  all_goals try first | rfl | contradiction | (apply Ob.mk;first | (simp only [ag,ak,aa.ae];omega) | ((try simp only [aa.ae]);(try dsimp only);omega))
  all_goals first
   | exact ⟨hL⟩
 have e0 : (bD n P L != 0) = true:=by simpa using h0
 have Mx : (bD n P L == 0) = false:=by simpa using h0
 rw [show bf n P L p = bD n P L by simp [bf,h0]]
 repeat' ((conv => whnf);first | apply And.intro | (intro h9;try (have h8 : (_ : Bool) = _:=h9;clear h8;revert h9;subst_vars;intro h9;exact aq h9 (by assumption))))
 all_goals try (conv => whnf)
 all_goals try first | (apply Tk.mk <;> kernel_rfl) | exact ⟨ah rfl⟩ | exact ⟨rfl⟩ | exact ⟨trivial⟩
 all_goals subst_vars
 all_goals try first | rfl | contradiction | (apply Ob.mk;first | (simp only [ag,ak,aa.ae];omega) | ((try simp only [aa.ae]);(try dsimp only);omega))
 all_goals first
  | exact ⟨hL⟩)
def uD : au:=xL (fun _ _ L _ => [(aa.of (L.length <= 1000000))]) (fun n P L p => .a (vI (bf n P L p)))
noncomputable def FW : List (Nat × au):=[(18,uE),(21,mg)]
theorem zn : aR Tryz.prog Γ FW:=((aR.nil.cons (aj Tryz.func21 rfl rfl).fn jx).cons (aj Tryz.func18 rfl rfl).fn yI)
theorem yH : au.Ok Tryz.prog Γ 13 uD:=mG (d:=0) (aP zn bq.nil false 0) (aj Tryz.func13 rfl rfl) (fun _ _ _ _ => rfl) (by
 intro n P L p ⟨hL,_⟩
 simp only [aa.ae] at hL
 by_cases h0 : bD n P L = 0
 ·have e0 : (bD n P L != 0) = false:=by rw [h0];rfl
  have Mx : (bD n P L == 0) = true:=by rw [h0];rfl
  have sh:=(oe.1 h0).p
  cases h1 : aQ p 0 (P - 1)
  ·have e1 : (!aQ p 0 (P - 1)) = true:=by rw [h1];rfl
   rw [show bf n P L p = 1 by simp [bf,h0,h1]]
   repeat' ((conv => whnf);first | apply And.intro | (intro h9;try (have h8 : (_ : Bool) = _:=h9;clear h8;revert h9;subst_vars;intro h9;exact aq h9 (by assumption))))
   all_goals try (conv => whnf)
   all_goals try first | (apply Tk.mk <;> kernel_rfl) | exact ⟨ah rfl⟩ | exact ⟨rfl⟩ | exact ⟨trivial⟩
   all_goals subst_vars
   all_goals try first | rfl | contradiction | (apply Ob.mk;first | (simp only [ag,ak,aa.ae];omega) | ((try simp only [aa.ae]);(try dsimp only);omega))
   all_goals first
    | exact ⟨hL⟩
  have e1 : (!aQ p 0 (P - 1)) = false:=by rw [h1];rfl
  rw [show bf n P L p = 0 by simp [bf,h0,h1]]
  repeat' ((conv => whnf);first | apply And.intro | (intro h9;try (have h8 : (_ : Bool) = _:=h9;clear h8;revert h9;subst_vars;intro h9;exact aq h9 (by assumption))))
  all_goals try (conv => whnf)
  all_goals try first | (apply Tk.mk <;> kernel_rfl) | exact ⟨ah rfl⟩ | exact ⟨rfl⟩ | exact ⟨trivial⟩
  all_goals subst_vars
  all_goals try first | rfl | contradiction | (apply Ob.mk;first | (simp only [ag,ak,aa.ae];omega) | ((try simp only [aa.ae]);(try dsimp only);omega))
  all_goals first
   | trivial
   | exact ⟨hL⟩
 have e0 : (bD n P L != 0) = true:=by simpa using h0
 have Mx : (bD n P L == 0) = false:=by simpa using h0
 rw [show bf n P L p = bD n P L by simp [bf,h0]]
 repeat' ((conv => whnf);first | apply And.intro | (intro h9;try (have h8 : (_ : Bool) = _:=h9;clear h8;revert h9;subst_vars;intro h9;exact aq h9 (by assumption))))
 all_goals try (conv => whnf)
 all_goals try first | (apply Tk.mk <;> kernel_rfl) | exact ⟨ah rfl⟩ | exact ⟨rfl⟩ | exact ⟨trivial⟩
 all_goals subst_vars
 all_goals try first | rfl | contradiction | (apply Ob.mk;first | (simp only [ag,ak,aa.ae];omega) | ((try simp only [aa.ae]);(try dsimp only);omega))
 all_goals first
  | exact ⟨hL⟩)
end Go.Proofs.YthejmgnkenokpaaGreatDoor
end
section
namespace Go.Proofs.YthejmgnkenokpaaGreatDoor
open Go Go.Sy Go.bK
variable {Γ : bn}
def M5 (D : Sp -> Int -> Int -> List Wk -> Int -> List aa) (F : Sp -> Int -> Int -> List Wk -> Int -> Tm) : au:=.fn fun args rg => match args with
 | [.agg l0,.agg [.v (.int .i64 n0),.v (.int .i64 n1),x0],.a (.v (.int .i64 n2))] => (match ac1 46 kW rg x0,eu kX l0 with | some (q0,L0),some v0 => some (q0 ++ (D v0 n0 n1 L0 n2),F v0 n0 n1 L0 n2) | _,_ => none)
 | _ => none
theorem Lr {f : FuncId} {b : Body} {E : Env} {d : Nat} (hP : aL Tryz.prog Γ E) (hb : bQ Tryz.prog f b) {D : Sp -> Int -> Int -> List Wk -> Int -> List aa} {F : Sp -> Int -> Int -> List Wk -> Int -> Tm} (hp : ∀ (v0 : Sp) (n0 : Int) (n1 : Int) (L0 : List Wk) (n2 : Int),(F v0 n0 n1 L0 n2).plain = true)
  (H : ∀ (v0 : Sp) (n0 : Int) (n1 : Int) (L0 : List Wk) (n2 : Int),bW (D v0 n0 n1 L0 n2) -> cQ E d b [.agg (ai.lV kX v0),.agg [vI n0,vI n1,.sl 0 [] 0 L0.length],.a (vI n2)] [.arr 46 kW L0 false false] (fun x _ => iL x (F v0 n0 n1 L0 n2))) : au.Ok Tryz.prog Γ f (M5 D F):=au.er (d:=d) hP hb (by
 intro args rg q t hF hq
 split at hF
 next l0 n0 n1 x0 n2 =>
  split at hF
  next q0 L0 v0 hx0 hc0 =>
   obtain ⟨rfl,rfl⟩:=Prod.mk.inj (Option.some.inj hF);clear hF
   rw [aH] at hq
   obtain ⟨dm,hD⟩:=hq
   obtain ⟨e0,Vn⟩:=bP (by simp [kW]) hx0 dm
   obtain ⟨p0,r0⟩:=Vn [e0] 0 1 rfl (by omega)
   refine ⟨hp _ _ _ _ _,[e0],[.agg (ai.lV kX v0),.agg [vI n0,vI n1,.sl 0 [] 0 L0.length],.a (vI n2)],[.arr 46 kW L0 false false],⟨⟨oC hc0,⟨rfl,rfl,p0,trivial⟩,rfl,trivial⟩,fun r g hg => ?_⟩,H _ _ _ _ _ hD⟩
   match r,hg with
   | 0,hg => obtain rfl:=Option.some.inj hg;exact r0
  next => cases hF
 next => cases hF)
def MQ (D : Int -> Int -> List Wk -> Sp -> Int -> List aa) (F : Int -> Int -> List Wk -> Sp -> Int -> Tm) : au:=.fn fun args rg => match args with
 | [.agg [.v (.int .i64 n0),.v (.int .i64 n1),x0],.agg l0,.a (.v (.int .i64 n2))] => (match ac1 46 kW rg x0,eu kX l0 with | some (q0,L0),some v0 => some (q0 ++ (D n0 n1 L0 v0 n2),F n0 n1 L0 v0 n2) | _,_ => none)
 | _ => none
theorem Lm {f : FuncId} {b : Body} {E : Env} {d : Nat} (hP : aL Tryz.prog Γ E) (hb : bQ Tryz.prog f b) {D : Int -> Int -> List Wk -> Sp -> Int -> List aa} {F : Int -> Int -> List Wk -> Sp -> Int -> Tm} (hp : ∀ (n0 : Int) (n1 : Int) (L0 : List Wk) (v0 : Sp) (n2 : Int),(F n0 n1 L0 v0 n2).plain = true)
  (H : ∀ (n0 : Int) (n1 : Int) (L0 : List Wk) (v0 : Sp) (n2 : Int),bW (D n0 n1 L0 v0 n2) -> cQ E d b [.agg [vI n0,vI n1,.sl 0 [] 0 L0.length],.agg (ai.lV kX v0),.a (vI n2)] [.arr 46 kW L0 false false] (fun x _ => iL x (F n0 n1 L0 v0 n2))) : au.Ok Tryz.prog Γ f (MQ D F):=au.er (d:=d) hP hb (by
 intro args rg q t hF hq
 split at hF
 next n0 n1 x0 l0 n2 =>
  split at hF
  next q0 L0 v0 hx0 hc0 =>
   obtain ⟨rfl,rfl⟩:=Prod.mk.inj (Option.some.inj hF);clear hF
   rw [aH] at hq
   obtain ⟨dm,hD⟩:=hq
   obtain ⟨e0,Vn⟩:=bP (by simp [kW]) hx0 dm
   obtain ⟨p0,r0⟩:=Vn [e0] 0 1 rfl (by omega)
   refine ⟨hp _ _ _ _ _,[e0],[.agg [vI n0,vI n1,.sl 0 [] 0 L0.length],.agg (ai.lV kX v0),.a (vI n2)],[.arr 46 kW L0 false false],⟨⟨⟨rfl,rfl,p0,trivial⟩,oC hc0,rfl,trivial⟩,fun r g hg => ?_⟩,H _ _ _ _ _ hD⟩
   match r,hg with
   | 0,hg => obtain rfl:=Option.some.inj hg;exact r0
  next => cases hF
 next => cases hF)
theorem AS {P : Int} {L : List Wk} (h : dY P L = true) : cx P L:=cW.1 h
def Gg : au:=xL (fun _ P L s => [(aa.of (dY P L = true)),(aa.of (-(L.length : Int) <= s /\ s < (L.length : Int))),(aa.of (L.length <= 1000000))]) (fun _ P L s => .bF [.a (vI (dy L s).1),.a (vI (dy L s).2.1),.a (vI (dy L s).2.2)])
noncomputable def OP : List (Nat × au):=[(155,qq)]
theorem It : aR Tryz.prog Γ OP:=(aR.nil.cons (aj Tryz.func155 rfl rfl).fn qt)
theorem wB {L : List Wk} {s : Int} (h : s < 0) : dy L s = ((cn L (-1 - s)).2.1,(cn L (-1 - s)).1,cD (cn L (-1 - s)).2.2):=by
 unfold dy cn;rw [if_pos h,Nat.zero_add];rfl
theorem wA {L : List Wk} {s : Int} (h : ¬ s < 0) : dy L s = ((cn L s).1,(cn L s).2.1,(cn L s).2.2):=by
 unfold dy cn;rw [if_neg h,Nat.zero_add];rfl
theorem Ce {P : Int} {L : List Wk} (h : cx P L) {i : Int} (h0 : 0 <= i) (h1 : i < (L.length : Int)) : 0 <= (cn L i).2.2 /\ (cn L i).2.2 <= 7:=by
 have:=h.at (i:=i.toNat) (by omega)
 unfold cn;rw [Nat.zero_add];exact this.2.2.2
attribute [local irreducible] bJ cD dy
theorem Gh : au.Ok Tryz.prog Γ 120 Gg:=mG (d:=0) (aP It bq.nil false 0) (aj Tryz.func120 rfl rfl) (fun _ _ _ _ => rfl) (by
 intro n P L s ⟨hw,hs,hl,_⟩
 simp only [aa.ae] at hw hs hl
 replace hw:=AS hw
 by_cases h0 : s < 0
 ·have e0 : decide (s < 0) = true:=decide_eq_true h0
  have g:=Ce hw (i:=-1 - s) (by omega) (by omega)
  rw [wB h0]
  repeat' ((conv => whnf);first | apply And.intro | (intro h9;try (have h8 : (_ : Bool) = _:=h9;clear h8;revert h9;subst_vars;intro h9;exact aq h9 (by assumption))))
  all_goals try (conv => whnf)
  all_goals try first | (apply Tk.mk <;> kernel_rfl) | exact ⟨ah rfl⟩ | exact ⟨rfl⟩ | exact ⟨trivial⟩
  all_goals subst_vars
  all_goals try first | rfl | contradiction | (apply Ob.mk;first | (simp only [ag,ak,aa.ae];omega) | ((try simp only [aa.ae]);(try dsimp only);omega))
  all_goals first
   | trivial
   | exact ⟨show 0 + Int.toNat (-1 - s) < L.length by omega⟩
 have e0 : decide (s < 0) = false:=decide_eq_false h0
 rw [wA h0]
 repeat' ((conv => whnf);first | apply And.intro | (intro h9;try (have h8 : (_ : Bool) = _:=h9;clear h8;revert h9;subst_vars;intro h9;exact aq h9 (by assumption))))
 all_goals try (conv => whnf)
 all_goals try first | (apply Tk.mk <;> kernel_rfl) | exact ⟨ah rfl⟩ | exact ⟨rfl⟩ | exact ⟨trivial⟩
 all_goals subst_vars
 all_goals try first | rfl | contradiction | (apply Ob.mk;first | (simp only [ag,ak,aa.ae];omega) | ((try simp only [aa.ae]);(try dsimp only);omega))
 all_goals first
  | trivial
  | exact ⟨show 0 + Int.toNat s < L.length by omega⟩)
def Oo (x : Sp) (b : Bool) : Tm:=.bF [.agg (ai.lV kX x),.a (.v (.bool b))]
def wm : au:=M5 (fun x _ P L s => [(aa.of (0 <= x.2.1 /\ x.2.1 <= 7)),(aa.of (dY P L = true)),(aa.of (-(L.length : Int) <= s /\ s < (L.length : Int))),(aa.of (L.length <= 1000000))]) (fun x _ P L s => Oo (bw L x s) (bM L x s))
noncomputable def FT : List (Nat × au):=[(120,Gg),(84,nk)]
theorem FU : aR Tryz.prog Γ FT:=((aR.nil.cons (aj Tryz.func84 rfl rfl).fn mB).cons (aj Tryz.func120 rfl rfl).fn Gh)
def LV (id : Nat) : Option OT:=match Nat.beq id 2 with | true => some (.take 0 (.take 1 (.take 2 (.take 4 (.take 6 (.take 7 (.take 12 (.take 13 (.alt 3 (.alt 5 (.alt 8 (.take 9 (.take 10 (.take 11 (.alt 14 (.alt 15 (.alt 16 (.take 17 .fin) .fin) (.alt 16 (.alt 15 (.take 17 .fin) .fin) .fin)) (.alt 16 (.alt 14 (.alt 15 (.take 17 .fin) .fin) .fin) .fin))))) (.alt 14 (.alt 8 (.take 9 (.take 10 (.take 11 (.alt 15 (.alt 16 (.take 17 .fin) .fin) (.alt 16 (.alt 15 (.take 17 .fin) .fin) .fin))))) (.alt 15 (.alt 8 (.take 9 (.take 10 (.take 11 (.alt 16 (.take 17 .fin) .fin)))) .fin) .fin)) .fin)) (.alt 8 (.take 9 (.alt 5 (.take 10 (.take 11 (.alt 14 (.alt 15 (.alt 16 (.take 17 .fin) .fin) (.alt 16 (.alt 15 (.take 17 .fin) .fin) .fin)) (.alt 16 (.alt 14 (.alt 15 (.take 17 .fin) .fin) .fin) .fin)))) (.alt 14 (.alt 5 (.take 10 (.take 11 (.alt 15 (.alt 16 (.take 17 .fin) .fin) (.alt 16 (.alt 15 (.take 17 .fin) .fin) .fin)))) (.alt 15 (.alt 5 (.take 10 (.take 11 (.alt 16 (.take 17 .fin) .fin))) .fin) .fin)) .fin))) (.alt 14 (.alt 5 (.alt 8 (.take 9 (.take 10 (.take 11 (.alt 15 (.alt 16 (.take 17 .fin) .fin) (.alt 16 (.alt 15 (.take 17 .fin) .fin) .fin))))) (.alt 15 (.alt 8 (.take 9 (.take 10 (.take 11 (.alt 16 (.take 17 .fin) .fin)))) .fin) .fin)) (.alt 8 (.take 9 (.alt 5 (.take 10 (.take 11 (.alt 15 (.alt 16 (.take 17 .fin) .fin) (.alt 16 (.alt 15 (.take 17 .fin) .fin) .fin)))) (.alt 15 (.alt 5 (.take 10 (.take 11 (.alt 16 (.take 17 .fin) .fin))) .fin) .fin))) (.alt 15 (.alt 5 (.alt 8 (.take 9 (.take 10 (.take 11 (.alt 16 (.take 17 .fin) .fin)))) .fin) (.alt 8 (.take 9 (.alt 5 (.take 10 (.take 11 (.alt 16 (.take 17 .fin) .fin))) .fin)) .fin)) .fin))) .fin))) (.alt 8 (.take 9 (.alt 3 (.alt 5 (.take 10 (.take 11 (.alt 14 (.alt 15 (.alt 16 (.take 17 .fin) .fin) (.alt 16 (.alt 15 (.take 17 .fin) .fin) .fin)) (.alt 16 (.alt 14 (.alt 15 (.take 17 .fin) .fin) .fin) .fin)))) (.alt 14 (.alt 5 (.take 10 (.take 11 (.alt 15 (.alt 16 (.take 17 .fin) .fin) (.alt 16 (.alt 15 (.take 17 .fin) .fin) .fin)))) (.alt 15 (.alt 5 (.take 10 (.take 11 (.alt 16 (.take 17 .fin) .fin))) .fin) .fin)) .fin)) (.alt 14 (.alt 3 (.alt 5 (.take 10 (.take 11 (.alt 15 (.alt 16 (.take 17 .fin) .fin) (.alt 16 (.alt 15 (.take 17 .fin) .fin) .fin)))) (.alt 15 (.alt 5 (.take 10 (.take 11 (.alt 16 (.take 17 .fin) .fin))) .fin) .fin)) (.alt 15 (.alt 3 (.alt 5 (.take 10 (.take 11 (.alt 16 (.take 17 .fin) .fin))) .fin) .fin) .fin)) .fin))) (.alt 14 (.alt 3 (.alt 5 (.alt 8 (.take 9 (.take 10 (.take 11 (.alt 15 (.alt 16 (.take 17 .fin) .fin) (.alt 16 (.alt 15 (.take 17 .fin) .fin) .fin))))) (.alt 15 (.alt 8 (.take 9 (.take 10 (.take 11 (.alt 16 (.take 17 .fin) .fin)))) .fin) .fin)) (.alt 8 (.take 9 (.alt 5 (.take 10 (.take 11 (.alt 15 (.alt 16 (.take 17 .fin) .fin) (.alt 16 (.alt 15 (.take 17 .fin) .fin) .fin)))) (.alt 15 (.alt 5 (.take 10 (.take 11 (.alt 16 (.take 17 .fin) .fin))) .fin) .fin))) (.alt 15 (.alt 5 (.alt 8 (.take 9 (.take 10 (.take 11 (.alt 16 (.take 17 .fin) .fin)))) .fin) (.alt 8 (.take 9 (.alt 5 (.take 10 (.take 11 (.alt 16 (.take 17 .fin) .fin))) .fin)) .fin)) .fin))) (.alt 8 (.take 9 (.alt 3 (.alt 5 (.take 10 (.take 11 (.alt 15 (.alt 16 (.take 17 .fin) .fin) (.alt 16 (.alt 15 (.take 17 .fin) .fin) .fin)))) (.alt 15 (.alt 5 (.take 10 (.take 11 (.alt 16 (.take 17 .fin) .fin))) .fin) .fin)) (.alt 15 (.alt 3 (.alt 5 (.take 10 (.take 11 (.alt 16 (.take 17 .fin) .fin))) .fin) .fin) .fin))) (.alt 15 (.alt 3 (.alt 5 (.alt 8 (.take 9 (.take 10 (.take 11 (.alt 16 (.take 17 .fin) .fin)))) .fin) (.alt 8 (.take 9 (.alt 5 (.take 10 (.take 11 (.alt 16 (.take 17 .fin) .fin))) .fin)) .fin)) (.alt 8 (.take 9 (.alt 3 (.alt 5 (.take 10 (.take 11 (.alt 16 (.take 17 .fin) .fin))) .fin) .fin)) .fin)) .fin))) .fin))))))))))) | false => (none)
noncomputable def Lb : Env:={ jV.env FT [] false 0 with tree:=LV }
theorem EO : aL Tryz.prog Γ Lb:=(aP FU bq.nil false 0).vU _
theorem uB : au.Ok Tryz.prog Γ 87 wm:=Lr (d:=0) EO (aj Tryz.func87 rfl rfl) (fun _ _ _ _ _ => rfl) (by
 rintro ⟨a,t,m⟩ n P L s ⟨hx,hw,hs,hl,_⟩
 simp only [aa.ae] at hx hw hs hl
 have he:=r8 (AS hw) hs
 have g : 0 <= (dy L s).2.2 /\ (dy L s).2.2 <= 7:=he.2.2
 repeat' ((conv => whnf);first | apply And.intro | (intro h9;try (have h8 : (_ : Bool) = _:=h9;clear h8;revert h9;subst_vars;intro h9;exact aq h9 (by assumption))))
 all_goals try (conv => whnf)
 all_goals try first | (apply Tk.mk <;> kernel_rfl) | exact ⟨ah rfl⟩ | exact ⟨rfl⟩ | exact ⟨trivial⟩
 all_goals subst_vars
 all_goals try first | rfl | contradiction | (apply Ob.mk;first | (simp only [ag,ak,aa.ae];omega) | ((try simp only [aa.ae]);(try dsimp only);omega))
 all_goals first
  | trivial
  | exact ⟨hw⟩
  | exact ⟨hs⟩
  | exact ⟨hl⟩
  | exact ⟨g⟩)
end Go.Proofs.YthejmgnkenokpaaGreatDoor
end
section
namespace Go.Proofs.YthejmgnkenokpaaGreatDoor
open Go Go.Sy Go.bK
variable {Γ : bn}
noncomputable def JX : List (Nat × au):=[(134,rY),(135,zF)]
theorem Ip : aR Tryz.prog Γ JX:=((aR.nil.cons (aj Tryz.func135 rfl rfl).fn xu).cons (aj Tryz.func134 rfl rfl).fn oR)
def Oe (id : Nat) : Option (List Nat × OT):=match Nat.beq id 5 with | true => some ([3],(.take 0 (.take 1 (.take 2 (.take 3 (.take 4 (.take 5 (.take 6 (.take 7 (.take 8 (.take 9 (.take 10 (.take 11 (.take 12 (.take 13 (.take 14 (.take 15 (.take 16 (.take 17 (.take 18 (.take 19 (.alt 20 (.take 21 .fin) .fin)))))))))))))))))))))) | false => (match Nat.beq id 3 with | true => some ([3],(.take 0 (.take 1 (.take 2 (.take 3 (.take 4 (.take 5 (.take 6 (.take 7 (.take 8 (.take 9 (.take 10 (.take 11 (.take 12 (.take 13 (.take 14 (.take 15 (.take 16 (.take 17 (.take 18 (.alt 19 (.take 20 .fin) .fin))))))))))))))))))))) | false => (none))
noncomputable def My : Env:={ jV.env JX [] false 0 with str:=Oe }
theorem Gx : aL Tryz.prog Γ My:=(aP Ip bq.nil false 0).strs _
def Gd : au:=MQ (fun _ P L x s => [(aa.of (0 <= x.2.1 /\ x.2.1 <= 7)),(aa.of (dY P L = true)),(aa.of (-(L.length : Int) <= s /\ s < (L.length : Int))),(aa.of (L.length <= 1000000))]) (fun _ P L x s => Oo (bw L x s) (bM L x s))
theorem Lx {L : List Wk} {s : Int} (h : ¬ s < 0) (x : Sp) : bw L x s = ((cn L s).2.1,bJ x.2.1 (cn L s).2.2,!x.2.2):=by unfold bw;rw [wA h]
theorem agR {L : List Wk} {s : Int} (h : s < 0) (x : Sp) : bw L x s = ((cn L (-1 - s)).1,bJ x.2.1 (cD (cn L (-1 - s)).2.2),!x.2.2):=by unfold bw;rw [wB h]
theorem Lo {L : List Wk} {s : Int} (h : ¬ s < 0) (x : Sp) : bM L x s = ((cn L s).1 == x.1):=by unfold bM;rw [wA h]
theorem Lp {L : List Wk} {s : Int} (h : s < 0) (x : Sp) : bM L x s = ((cn L (-1 - s)).2.1 == x.1):=by unfold bM;rw [wB h]
attribute [local irreducible] bJ cD dy bw bM
theorem Ge : au.Ok Tryz.prog Γ 105 Gd:=Lm (d:=0) Gx (aj Tryz.func105 rfl rfl) (fun _ _ _ _ _ => rfl) (by
 rintro n P L ⟨a,t,m⟩ s ⟨hx,hw,hs,hl,_⟩
 simp only [aa.ae] at hx hw hs hl
 replace hw:=AS hw
 by_cases h0 : s < 0
 ·have e0 : decide (s >= 0) = false:=decide_eq_false (by omega)
  have g:=Ce hw (i:=-1 - s) (by omega) (by omega)
  have g2 : 0 <= cD (cn L (-1 - s)).2.2 /\ cD (cn L (-1 - s)).2.2 <= 7:=abD g
  rw [agR h0,Lp h0]
  repeat' ((conv => whnf);first | apply And.intro | (intro h9;try (have h8 : (_ : Bool) = _:=h9;clear h8;revert h9;subst_vars;intro h9;exact aq h9 (by assumption))))
  all_goals try (conv => whnf)
  all_goals try first | (apply Tk.mk <;> kernel_rfl) | exact ⟨ah rfl⟩ | exact ⟨rfl⟩ | exact ⟨trivial⟩
  all_goals subst_vars
  all_goals try first | rfl | contradiction | (apply Ob.mk;first | (simp only [ag,ak,aa.ae];omega) | ((try simp only [aa.ae]);(try dsimp only);omega))
  all_goals first
   | trivial
   | exact ⟨show 0 + Int.toNat (-1 - s) < L.length by omega⟩
 have e0 : decide (s >= 0) = true:=decide_eq_true (by omega)
 have g:=Ce hw (i:=s) (by omega) (by omega)
 rw [Lx h0,Lo h0]
 repeat' ((conv => whnf);first | apply And.intro | (intro h9;try (have h8 : (_ : Bool) = _:=h9;clear h8;revert h9;subst_vars;intro h9;exact aq h9 (by assumption))))
 all_goals try (conv => whnf)
 all_goals try first | (apply Tk.mk <;> kernel_rfl) | exact ⟨ah rfl⟩ | exact ⟨rfl⟩ | exact ⟨trivial⟩
 all_goals subst_vars
 all_goals try first | rfl | contradiction | (apply Ob.mk;first | (simp only [ag,ak,aa.ae];omega) | ((try simp only [aa.ae]);(try dsimp only);omega))
 all_goals first
  | trivial
  | exact ⟨show 0 + Int.toNat s < L.length by omega⟩)
end Go.Proofs.YthejmgnkenokpaaGreatDoor
end
section
namespace Go.Proofs.YthejmgnkenokpaaGreatDoor
open Go Go.Sy Go.bK
variable {Γ : bn}
def EV (D : Int -> Int -> List Wk -> Int -> List Int -> List aa) (F : Int -> Int -> List Wk -> Int -> List Int -> Tm) : au:=.fn fun args rg => match args with
 | [.agg [.v (.int .i64 n0),.v (.int .i64 n1),x0],.a (.v (.int .i64 n2)),.a x1] => (match ac1 46 kW rg x0,ac1 3 kI rg x1 with | some (q0,L0),some (q1,L1) => some (q0 ++ (q1 ++ (D n0 n1 L0 n2 L1)),F n0 n1 L0 n2 L1) | _,_ => none)
 | _ => none
theorem agH {f : FuncId} {b : Body} {E : Env} {d : Nat} (hP : aL Tryz.prog Γ E) (hb : bQ Tryz.prog f b) {D : Int -> Int -> List Wk -> Int -> List Int -> List aa} {F : Int -> Int -> List Wk -> Int -> List Int -> Tm} (hp : ∀ (n0 : Int) (n1 : Int) (L0 : List Wk) (n2 : Int) (L1 : List Int),(F n0 n1 L0 n2 L1).plain = true)
  (H : ∀ (n0 : Int) (n1 : Int) (L0 : List Wk) (n2 : Int) (L1 : List Int),bW (D n0 n1 L0 n2 L1) -> cQ E d b [.agg [vI n0,vI n1,.sl 0 [] 0 L0.length],.a (vI n2),.a (.sl 1 [] 0 L1.length)] [.arr 46 kW L0 false false,.arr 3 kI L1 false false] (fun x _ => iL x (F n0 n1 L0 n2 L1))) : au.Ok Tryz.prog Γ f (EV D F):=au.er (d:=d) hP hb (by
 intro args rg q t hF hq
 split at hF
 next n0 n1 x0 n2 x1 =>
  split at hF
  next q0 L0 q1 L1 hx0 cO =>
   obtain ⟨rfl,rfl⟩:=Prod.mk.inj (Option.some.inj hF);clear hF
   rw [aH,aH] at hq
   obtain ⟨dm,gk,hD⟩:=hq
   obtain ⟨e0,Vn⟩:=bP (by simp [kW]) hx0 dm
   obtain ⟨e1,iO⟩:=bP (by simp [kI]) cO gk
   obtain ⟨p0,r0⟩:=Vn [e0,e1] 0 2 rfl (by omega)
   obtain ⟨p1,r1⟩:=iO [e0,e1] 1 2 rfl (by omega)
   refine ⟨hp _ _ _ _ _,[e0,e1],[.agg [vI n0,vI n1,.sl 0 [] 0 L0.length],.a (vI n2),.a (.sl 1 [] 0 L1.length)],[.arr 46 kW L0 false false,.arr 3 kI L1 false false],⟨⟨⟨rfl,rfl,p0,trivial⟩,rfl,p1,trivial⟩,fun r g hg => ?_⟩,H _ _ _ _ _ hD⟩
   match r,hg with
   | 0,hg => obtain rfl:=Option.some.inj hg;exact r0
   | 1,hg => obtain rfl:=Option.some.inj hg;exact r1
  next => cases hF
 next => cases hF)
def PC (D : Int -> Int -> List Wk -> List Int -> List aa) (F : Int -> Int -> List Wk -> List Int -> Tm) : au:=.fn fun args rg => match args with
 | [.agg [.v (.int .i64 n0),.v (.int .i64 n1),x0],.a x1] => (match ac1 46 kW rg x0,ac1 3 kI rg x1 with | some (q0,L0),some (q1,L1) => some (q0 ++ (q1 ++ (D n0 n1 L0 L1)),F n0 n1 L0 L1) | _,_ => none)
 | _ => none
theorem MM {f : FuncId} {b : Body} {E : Env} {d : Nat} (hP : aL Tryz.prog Γ E) (hb : bQ Tryz.prog f b) {D : Int -> Int -> List Wk -> List Int -> List aa} {F : Int -> Int -> List Wk -> List Int -> Tm} (hp : ∀ (n0 : Int) (n1 : Int) (L0 : List Wk) (L1 : List Int),(F n0 n1 L0 L1).plain = true)
  (H : ∀ (n0 : Int) (n1 : Int) (L0 : List Wk) (L1 : List Int),bW (D n0 n1 L0 L1) -> cQ E d b [.agg [vI n0,vI n1,.sl 0 [] 0 L0.length],.a (.sl 1 [] 0 L1.length)] [.arr 46 kW L0 false false,.arr 3 kI L1 false false] (fun x _ => iL x (F n0 n1 L0 L1))) : au.Ok Tryz.prog Γ f (PC D F):=au.er (d:=d) hP hb (by
 intro args rg q t hF hq
 split at hF
 next n0 n1 x0 x1 =>
  split at hF
  next q0 L0 q1 L1 hx0 cO =>
   obtain ⟨rfl,rfl⟩:=Prod.mk.inj (Option.some.inj hF);clear hF
   rw [aH,aH] at hq
   obtain ⟨dm,gk,hD⟩:=hq
   obtain ⟨e0,Vn⟩:=bP (by simp [kW]) hx0 dm
   obtain ⟨e1,iO⟩:=bP (by simp [kI]) cO gk
   obtain ⟨p0,r0⟩:=Vn [e0,e1] 0 2 rfl (by omega)
   obtain ⟨p1,r1⟩:=iO [e0,e1] 1 2 rfl (by omega)
   refine ⟨hp _ _ _ _,[e0,e1],[.agg [vI n0,vI n1,.sl 0 [] 0 L0.length],.a (.sl 1 [] 0 L1.length)],[.arr 46 kW L0 false false,.arr 3 kI L1 false false],⟨⟨⟨rfl,rfl,p0,trivial⟩,p1,trivial⟩,fun r g hg => ?_⟩,H _ _ _ _ hD⟩
   match r,hg with
   | 0,hg => obtain rfl:=Option.some.inj hg;exact r0
   | 1,hg => obtain rfl:=Option.some.inj hg;exact r1
  next => cases hF
 next => cases hF)
abbrev av (w : List Int) (i : Int) : Int:=@Ar.get ⟨3,kI,w⟩ (0 + Int.toNat i)
theorem dP (w : List Int) (i : Nat) : av w i = gi w i:=by unfold av gi;rw [Nat.zero_add,Int.toNat_natCast];rfl
def oT : au:=EV (fun _ P L _ w => [(aa.of (dY P L = true)),(aa.of (bN L w = true)),(aa.of (L.length <= 1000000)),(aa.of (w.length <= 1000000))]) (fun _ _ L p w => Oo (bj L (p,0,false) w).1 (bj L (p,0,false) w).2)
noncomputable def KV : List (Nat × au):=[(87,wm)]
theorem Ek : aR Tryz.prog Γ KV:=(aR.nil.cons (aj Tryz.func87 rfl rfl).fn uB)
attribute [local irreducible] bM bw
theorem sR : au.Ok Tryz.prog Γ 52 oT:=agH (d:=0) (aP Ek bq.nil false 0) (aj Tryz.func52 rfl rfl) (fun _ _ _ _ _ => rfl) (by
 intro n P L p w ⟨hw,hs,hl,hv,_⟩
 simp only [aa.ae] at hw hs hl hv
 have hst:=yw hs
 repeat' ((conv => whnf);first | apply And.intro | (intro h9;try (have h8 : (_ : Bool) = _:=h9;clear h8;revert h9;subst_vars;intro h9;exact aq h9 (by assumption))))
 all_goals try (conv => whnf)
 all_goals try first | (apply Tk.mk <;> kernel_rfl) | exact ⟨ah rfl⟩ | exact ⟨rfl⟩ | exact ⟨trivial⟩
 all_goals subst_vars
 all_goals try first | rfl | contradiction | (apply Ob.mk;first | (simp only [ag,ak,aa.ae];omega) | ((try simp only [aa.ae]);(try dsimp only);omega))
 refine ⟨Nat × Sp,fun i => i.1 <= w.length /\ bj L (p,0,false) w = bj L i.2 (w.drop i.1) /\ (0 <= i.2.2.1 /\ i.2.2.1 <= 7),fun i => ⟨aI 34 [3,6,8,15,16,17] [.a (.p 2 [] 0 0),.a (.p 3 [] 0 0),.a (.p 4 [] 0 0),.a (.sl 1 [] 0 w.length),.a (vI w.length),.a (vI i.1)],[],[.arr 46 kW L false false,.arr 3 kI w false false,.box true [vI n,vI P,.sl 0 [] 0 L.length],.box true [vI 0,vI 0,.v (.bool false)],.box true [vI i.2.1,vI i.2.2.1,.v (.bool i.2.2.2)]]⟩,fun i => w.length - i.1,(0,(p,0,false)),[],⟨Nat.zero_le _,rfl,by show (0:Int) <= 0;omega,by show (0:Int) <= 7;omega⟩,?_,?_⟩
 ·repeat' ((conv => whnf);(first | apply And.intro | intro _))
  all_goals first | rfl | trivial | exact ah rfl | exact aS ‹_› rfl | exact aT ‹_› rfl | ((repeat' first | rfl | constructor);done)
 rintro ⟨i,a,t,m⟩ ⟨hi,hf,hx⟩
 dsimp only at hi hf hx
 by_cases hi1 : i < w.length
 ·have p0 : decide ((i : Int) < (w.length : Int)) = true:=decide_eq_true (by omega)
  have ge : av w i = gi w i:=dP w i
  have gs : -(L.length : Int) <= av w i /\ av w i < (L.length : Int):=by rw [ge];exact hst _ (qL hi1)
  have gn:=(mu hw (x:=(a,t,m)) hx (show bS L (gi w i) from ge ▸ gs)).1
  cases hb : bM L (a,t,m) (av w i)
  ·have e1 : (!bM L (a,t,m) (av w i)) = true:=by rw [hb];rfl
   rw [hf,GX hi1 (ge ▸ hb)]
   repeat' ((conv => whnf);first | apply And.intro | (intro h9;try (have h8 : (_ : Bool) = _:=h9;clear h8;revert h9;subst_vars;intro h9;exact aq h9 (by assumption))))
   all_goals try (conv => whnf)
   all_goals try first | (apply Tk.mk <;> kernel_rfl) | exact ⟨ah rfl⟩ | exact ⟨rfl⟩ | exact ⟨trivial⟩
   all_goals subst_vars
   all_goals try first | rfl | contradiction | (apply Ob.mk;first | (simp only [ag,ak,aa.ae];omega) | ((try simp only [aa.ae]);(try dsimp only);omega))
   all_goals first
    | trivial
    | exact ⟨hw⟩
    | exact ⟨hl⟩
    | exact ⟨gs⟩
    | exact ⟨show 0 + Int.toNat (i : Int) < w.length by omega⟩
  have e1 : (!bM L (a,t,m) (av w i)) = false:=by rw [hb];rfl
  have jH:=hf.trans (Dy hi1 (ge ▸ hb))
  repeat' ((conv => whnf);first | apply And.intro | (intro h9;try (have h8 : (_ : Bool) = _:=h9;clear h8;revert h9;subst_vars;intro h9;exact aq h9 (by assumption))))
  all_goals try (conv => whnf)
  all_goals try first | (apply Tk.mk <;> kernel_rfl) | exact ⟨ah rfl⟩ | exact ⟨rfl⟩ | exact ⟨trivial⟩
  all_goals subst_vars
  all_goals try first | rfl | contradiction | (apply Ob.mk;first | (simp only [ag,ak,aa.ae];omega) | ((try simp only [aa.ae]);(try dsimp only);omega))
  all_goals try first
   | exact ⟨hw⟩
   | exact ⟨hl⟩
   | exact ⟨gs⟩
   | exact ⟨show 0 + Int.toNat (i : Int) < w.length by omega⟩
  refine ⟨(i + 1,bw L (a,t,m) (av w i)),[],⟨hi1,by rw [ge];exact jH,by rw [ge];exact gn⟩,?_,by show w.length - (i + 1) < w.length - i;omega⟩
  repeat' ((conv => whnf);(first | apply And.intro | intro _))
  all_goals first | rfl | trivial | exact ah rfl | exact aS ‹_› rfl | exact aT ‹_› rfl | ((repeat' first | rfl | constructor);done)
 have p0 : decide ((i : Int) < (w.length : Int)) = false:=decide_eq_false (by omega)
 rw [hf,Dw (by omega)]
 repeat' ((conv => whnf);first | apply And.intro | (intro h9;try (have h8 : (_ : Bool) = _:=h9;clear h8;revert h9;subst_vars;intro h9;exact aq h9 (by assumption))))
 all_goals try (conv => whnf)
 all_goals try first | (apply Tk.mk <;> kernel_rfl) | exact ⟨ah rfl⟩ | exact ⟨rfl⟩ | exact ⟨trivial⟩
 all_goals subst_vars
 all_goals try first | rfl | contradiction | (apply Ob.mk;first | (simp only [ag,ak,aa.ae];omega) | ((try simp only [aa.ae]);(try dsimp only);omega))
 all_goals first
  | trivial)
end Go.Proofs.YthejmgnkenokpaaGreatDoor
end
section
namespace Go.Proofs.YthejmgnkenokpaaGreatDoor
open Go Go.Sy Go.bK
variable {Γ : bn}
def PD (D : Int -> Int -> List Wk -> List (List Int) -> List aa) (F : Int -> Int -> List Wk -> List (List Int) -> Tm) : au:=.fn fun args rg => match args with
 | [.agg [.v (.int .i64 n0),.v (.int .i64 n1),x0],.a x1] => (match ac1 46 kW rg x0,ac1 49 kT rg x1 with | some (q0,L0),some (q1,L1) => some (q0 ++ (q1 ++ (D n0 n1 L0 L1)),F n0 n1 L0 L1) | _,_ => none)
 | _ => none
theorem MN {f : FuncId} {b : Body} {E : Env} {d : Nat} (hP : aL Tryz.prog Γ E) (hb : bQ Tryz.prog f b) {D : Int -> Int -> List Wk -> List (List Int) -> List aa} {F : Int -> Int -> List Wk -> List (List Int) -> Tm} (hp : ∀ (n0 : Int) (n1 : Int) (L0 : List Wk) (L1 : List (List Int)),(F n0 n1 L0 L1).plain = true)
  (H : ∀ (n0 : Int) (n1 : Int) (L0 : List Wk) (L1 : List (List Int)),bW (D n0 n1 L0 L1) -> cQ E d b [.agg [vI n0,vI n1,.sl 0 [] 0 L0.length],.a (.sl 1 [] 0 L1.length)] [.arr 46 kW L0 false false,.arr 49 kT L1 false false] (fun x _ => iL x (F n0 n1 L0 L1))) : au.Ok Tryz.prog Γ f (PD D F):=au.er (d:=d) hP hb (by
 intro args rg q t hF hq
 split at hF
 next n0 n1 x0 x1 =>
  split at hF
  next q0 L0 q1 L1 hx0 cO =>
   obtain ⟨rfl,rfl⟩:=Prod.mk.inj (Option.some.inj hF);clear hF
   rw [aH,aH] at hq
   obtain ⟨dm,gk,hD⟩:=hq
   obtain ⟨e0,Vn⟩:=bP (by simp [kW]) hx0 dm
   obtain ⟨e1,iO⟩:=bP (by simp [kT]) cO gk
   obtain ⟨p0,r0⟩:=Vn [e0,e1] 0 2 rfl (by omega)
   obtain ⟨p1,r1⟩:=iO [e0,e1] 1 2 rfl (by omega)
   refine ⟨hp _ _ _ _,[e0,e1],[.agg [vI n0,vI n1,.sl 0 [] 0 L0.length],.a (.sl 1 [] 0 L1.length)],[.arr 46 kW L0 false false,.arr 49 kT L1 false false],⟨⟨⟨rfl,rfl,p0,trivial⟩,p1,trivial⟩,fun r g hg => ?_⟩,H _ _ _ _ hD⟩
   match r,hg with
   | 0,hg => obtain rfl:=Option.some.inj hg;exact r0
   | 1,hg => obtain rfl:=Option.some.inj hg;exact r1
  next => cases hF
 next => cases hF)
def zR : au:=xL (fun _ _ L _ => [(aa.of (L.length <= 1000000))]) (fun _ _ L s => bl (fm L s))
noncomputable def KW : List (Nat × au):=[(59,gK)]
theorem El : aR Tryz.prog Γ KW:=(aR.nil.cons (aj Tryz.func59 rfl rfl).fn fw)
theorem CF : au.Ok Tryz.prog Γ 95 zR:=mG (d:=0) (aP El bq.nil false 0) (aj Tryz.func95 rfl rfl) (fun _ _ _ _ => rfl) (by
 intro n P L s ⟨hl,_⟩
 simp only [aa.ae] at hl
 rw [show fm L s = aQ s (0 - (L.length : Int)) ((L.length : Int) - 1) by unfold fm;rw [Int.zero_sub]]
 repeat' ((conv => whnf);first | apply And.intro | (intro h9;try (have h8 : (_ : Bool) = _:=h9;clear h8;revert h9;subst_vars;intro h9;exact aq h9 (by assumption))))
 all_goals try (conv => whnf)
 all_goals try first | (apply Tk.mk <;> kernel_rfl) | exact ⟨ah rfl⟩ | exact ⟨rfl⟩ | exact ⟨trivial⟩
 all_goals subst_vars
 all_goals try first | rfl | contradiction | (apply Ob.mk;first | (simp only [ag,ak,aa.ae];omega) | ((try simp only [aa.ae]);(try dsimp only);omega)))
abbrev bh (W : List (List Int)) (i : Int) : List Int:=@Ar.get ⟨49,kT,W⟩ (0 + Int.toNat i)
theorem wV (W : List (List Int)) (i : Nat) : bh W i = gL W i:=by unfold bh gL;rw [Nat.zero_add,Int.toNat_natCast];rfl
abbrev KC (W : List (List Int)) (i k : Int) : Int:=@Ar.get ⟨3,kI,bh W i⟩ (0 + Int.toNat k)
def zK : au:=PC (fun _ _ L w => [(aa.of (L.length <= 1000000)),(aa.of (w.length <= 1000000))]) (fun _ _ L w => .a (vI (dc L w)))
noncomputable def KS : List (Nat × au):=[(21,mg)]
theorem Ej : aR Tryz.prog Γ KS:=(aR.nil.cons (aj Tryz.func21 rfl rfl).fn jx)
theorem CC : au.Ok Tryz.prog Γ 53 zK:=MM (d:=0) (aP Ej bq.nil false 0) (aj Tryz.func53 rfl rfl) (fun _ _ _ _ => rfl) (by
 intro n P L w ⟨hl,hv,_⟩
 simp only [aa.ae] at hl hv
 cases hb : decide ((w.length : Int) > 96)
 ·rw [show dc L w = match bN L w with | true => 0 | false => 1 by unfold dc fW;rw [hb];rfl]
  repeat' ((conv => whnf);first | apply And.intro | (intro h9;try (have h8 : (_ : Bool) = _:=h9;clear h8;revert h9;subst_vars;intro h9;exact aq h9 (by assumption))))
  all_goals try (conv => whnf)
  all_goals try first | (apply Tk.mk <;> kernel_rfl) | exact ⟨ah rfl⟩ | exact ⟨rfl⟩ | exact ⟨trivial⟩
  all_goals subst_vars
  all_goals try first | rfl | contradiction | (apply Ob.mk;first | (simp only [ag,ak,aa.ae];omega) | ((try simp only [aa.ae]);(try dsimp only);omega))
  refine ⟨Nat,fun i => i <= w.length /\ bN L w = bN L (w.drop i),fun i => ⟨aI 29 [1,2,5] [.a (.sl 1 [] 0 w.length),.a (.p 2 [] 0 0),.a (vI i)],[],[.arr 46 kW L false false,.arr 3 kI w false false,.box true [vI n,vI P,.sl 0 [] 0 L.length]]⟩,fun i => w.length - i,0,[],⟨Nat.zero_le _,rfl⟩,?_,?_⟩
  ·repeat' ((conv => whnf);(first | apply And.intro | intro _))
   all_goals first | rfl | trivial | exact ah rfl | exact aS ‹_› rfl | exact aT ‹_› rfl | ((repeat' first | rfl | constructor);done)
  rintro i ⟨hi,hf⟩
  by_cases hi1 : i < w.length
  ·have p0 : decide ((i : Int) < (w.length : Int)) = true:=decide_eq_true (by omega)
   have ge : av w i = gi w i:=dP w i
   have gs : fm L (gi w i) = aQ (av w i) (0 - (L.length : Int)) ((L.length : Int) - 1):=by rw [ge];unfold fm;rw [Int.zero_sub]
   cases hc : aQ (av w i) (0 - (L.length : Int)) ((L.length : Int) - 1)
   ·have e1 : (!aQ (av w i) (0 - (L.length : Int)) ((L.length : Int) - 1)) = true:=by rw [hc];rfl
    rw [hf,BU hi1 (gs.trans hc)]
    repeat' ((conv => whnf);first | apply And.intro | (intro h9;try (have h8 : (_ : Bool) = _:=h9;clear h8;revert h9;subst_vars;intro h9;exact aq h9 (by assumption))))
    all_goals try (conv => whnf)
    all_goals try first | (apply Tk.mk <;> kernel_rfl) | exact ⟨ah rfl⟩ | exact ⟨rfl⟩ | exact ⟨trivial⟩
    all_goals subst_vars
    all_goals try first | rfl | contradiction | (apply Ob.mk;first | (simp only [ag,ak,aa.ae];omega) | ((try simp only [aa.ae]);(try dsimp only);omega))
    all_goals first
     | exact ⟨show 0 + Int.toNat (i : Int) < w.length by omega⟩
   have e1 : (!aQ (av w i) (0 - (L.length : Int)) ((L.length : Int) - 1)) = false:=by rw [hc];rfl
   have jH:=hf.trans (yx hi1 (gs.trans hc))
   repeat' ((conv => whnf);first | apply And.intro | (intro h9;try (have h8 : (_ : Bool) = _:=h9;clear h8;revert h9;subst_vars;intro h9;exact aq h9 (by assumption))))
   all_goals try (conv => whnf)
   all_goals try first | (apply Tk.mk <;> kernel_rfl) | exact ⟨ah rfl⟩ | exact ⟨rfl⟩ | exact ⟨trivial⟩
   all_goals subst_vars
   all_goals try first | rfl | contradiction | (apply Ob.mk;first | (simp only [ag,ak,aa.ae];omega) | ((try simp only [aa.ae]);(try dsimp only);omega))
   all_goals try first
    | exact ⟨show 0 + Int.toNat (i : Int) < w.length by omega⟩
   refine ⟨i + 1,[],⟨hi1,jH⟩,?_,by show w.length - (i + 1) < w.length - i;omega⟩
   repeat' ((conv => whnf);(first | apply And.intro | intro _))
   all_goals first | rfl | trivial | exact ah rfl | exact aS ‹_› rfl | exact aT ‹_› rfl | ((repeat' first | rfl | constructor);done)
  have p0 : decide ((i : Int) < (w.length : Int)) = false:=decide_eq_false (by omega)
  rw [hf,yu (by omega)]
  repeat' ((conv => whnf);first | apply And.intro | (intro h9;try (have h8 : (_ : Bool) = _:=h9;clear h8;revert h9;subst_vars;intro h9;exact aq h9 (by assumption))))
  all_goals try (conv => whnf)
  all_goals try first | (apply Tk.mk <;> kernel_rfl) | exact ⟨ah rfl⟩ | exact ⟨rfl⟩ | exact ⟨trivial⟩
  all_goals subst_vars
  all_goals try first | rfl | contradiction | (apply Ob.mk;first | (simp only [ag,ak,aa.ae];omega) | ((try simp only [aa.ae]);(try dsimp only);omega))
 rw [show dc L w = 2 by unfold dc fW;rw [hb]]
 repeat' ((conv => whnf);first | apply And.intro | (intro h9;try (have h8 : (_ : Bool) = _:=h9;clear h8;revert h9;subst_vars;intro h9;exact aq h9 (by assumption))))
 all_goals try (conv => whnf)
 all_goals try first | (apply Tk.mk <;> kernel_rfl) | exact ⟨ah rfl⟩ | exact ⟨rfl⟩ | exact ⟨trivial⟩
 all_goals subst_vars
 all_goals try first | rfl | contradiction | (apply Ob.mk;first | (simp only [ag,ak,aa.ae];omega) | ((try simp only [aa.ae]);(try dsimp only);omega)))
def wv : au:=PD (fun _ _ L W => [(aa.of (L.length <= 1000000)),(aa.of (W.length <= 1000000)),(aa.of (∀ w ∈ W,w.length <= 1000000))]) (fun _ _ L W => .a (vI (cK L W)))
noncomputable def Mj : List (Nat × au):=[(95,zR)]
theorem FZ : aR Tryz.prog Γ Mj:=(aR.nil.cons (aj Tryz.func95 rfl rfl).fn CF)
noncomputable def K4 : List (Nat × Body):=[(92,bo Tryz.f92),(121,bo Tryz.f121),(93,bo Tryz.f93),(80,bo Tryz.f80),(116,bo Tryz.f116),(94,bo Tryz.f94)]
theorem ED : bq Tryz.prog K4:=((((((bq.nil.cons (cg Tryz.func94 rfl rfl)).cons (cg Tryz.func116 rfl rfl)).cons (cg Tryz.func80 rfl rfl)).cons (cg Tryz.func93 rfl rfl)).cons (cg Tryz.func121 rfl rfl)).cons (cg Tryz.func92 rfl rfl))
attribute [local irreducible] bN fW fm
theorem uF : au.Ok Tryz.prog Γ 51 wv:=MN (d:=4) (aP FZ ED false 0) (aj Tryz.func51 rfl rfl) (fun _ _ _ _ => rfl) (by
 intro n P L W ⟨hl,hW,hv,_⟩
 simp only [aa.ae] at hl hW hv
 have m1 : decide ((-1 : Int) >= 0) = false:=rfl
 repeat' ((conv => whnf);first | apply And.intro | (intro h9;try (have h8 : (_ : Bool) = _:=h9;clear h8;revert h9;subst_vars;intro h9;exact aq h9 (by assumption))))
 all_goals try (conv => whnf)
 all_goals try first | (apply Tk.mk <;> kernel_rfl) | exact ⟨ah rfl⟩ | exact ⟨rfl⟩ | exact ⟨trivial⟩
 all_goals subst_vars
 all_goals try first | rfl | contradiction | (apply Ob.mk;first | (simp only [ag,ak,aa.ae];omega) | ((try simp only [aa.ae]);(try dsimp only);omega))
 refine ⟨Nat,fun i => i <= W.length /\ W.any fW = (W.drop i).any fW,fun i => ⟨aI 19 [0,1,7,8] [.a (.sl 1 [] 0 W.length),.a (.fn 93 []),.a (vI W.length),.a (vI i)],[aI 9 [] [],aI 19 [1,2] [.a (.sl 1 [] 0 W.length),.a (.p 2 [] 0 0)]],[.arr 46 kW L false false,.arr 49 kT W false false,.box true [vI n,vI P,.sl 0 [] 0 L.length]]⟩,fun i => W.length - i,0,[],⟨Nat.zero_le _,rfl⟩,?_,?_⟩
 ·repeat' ((conv => whnf);(first | apply And.intro | intro _))
  all_goals first | rfl | trivial | exact ah rfl | exact aS ‹_› rfl | exact aT ‹_› rfl | ((repeat' first | rfl | constructor);done)
 rintro i ⟨hi,hf⟩
 have m2 : decide ((i : Int) >= 0) = true:=decide_eq_true (by omega)
 by_cases hi1 : i < W.length
 ·have p0 : decide ((i : Int) < (W.length : Int)) = true:=decide_eq_true (by omega)
  have gr:=wV W i
  have gv : (bh W i).length <= 1000000:=by rw [gr];exact hv _ (AA hi1)
  have gb : fW (gL W i) = decide (((bh W i).length : Int) > 96):=by rw [gr];unfold fW;rfl
  cases hb : decide (((bh W i).length : Int) > 96)
  ·have jH:=hf.trans (zx hi1 (d:=[]) (gb.trans hb))
   repeat' ((conv => whnf);first | apply And.intro | (intro h9;try (have h8 : (_ : Bool) = _:=h9;clear h8;revert h9;subst_vars;intro h9;exact aq h9 (by assumption))))
   all_goals try (conv => whnf)
   all_goals try first | (apply Tk.mk <;> kernel_rfl) | exact ⟨ah rfl⟩ | exact ⟨rfl⟩ | exact ⟨trivial⟩
   all_goals subst_vars
   all_goals try first | rfl | contradiction | (apply Ob.mk;first | (simp only [ag,ak,aa.ae];omega) | ((try simp only [aa.ae]);(try dsimp only);omega))
   all_goals try first
    | exact ⟨show 0 + Int.toNat (i : Int) < W.length by omega⟩
   refine ⟨i + 1,[],⟨hi1,jH⟩,?_,by show W.length - (i + 1) < W.length - i;omega⟩
   repeat' ((conv => whnf);(first | apply And.intro | intro _))
   all_goals first | rfl | trivial | exact ah rfl | exact aS ‹_› rfl | exact aT ‹_› rfl | ((repeat' first | rfl | constructor);done)
  rw [show cK L W = 2 by unfold cK;rw [hf.trans (wg hi1 (d:=[]) (gb.trans hb))]]
  repeat' ((conv => whnf);first | apply And.intro | (intro h9;try (have h8 : (_ : Bool) = _:=h9;clear h8;revert h9;subst_vars;intro h9;exact aq h9 (by assumption))))
  all_goals try (conv => whnf)
  all_goals try first | (apply Tk.mk <;> kernel_rfl) | exact ⟨ah rfl⟩ | exact ⟨rfl⟩ | exact ⟨trivial⟩
  all_goals subst_vars
  all_goals try first | rfl | contradiction | (apply Ob.mk;first | (simp only [ag,ak,aa.ae];omega) | ((try simp only [aa.ae]);(try dsimp only);omega))
  all_goals first
   | exact ⟨show 0 + Int.toNat (i : Int) < W.length by omega⟩
 have p0 : decide ((i : Int) < (W.length : Int)) = false:=decide_eq_false (by omega)
 rw [show cK L W = match W.any (fun w => !bN L w) with | true => 1 | false => 0 by unfold cK;rw [hf.trans (we (by omega))];rfl]
 repeat' ((conv => whnf);first | apply And.intro | (intro h9;try (have h8 : (_ : Bool) = _:=h9;clear h8;revert h9;subst_vars;intro h9;exact aq h9 (by assumption))))
 all_goals try (conv => whnf)
 all_goals try first | (apply Tk.mk <;> kernel_rfl) | exact ⟨ah rfl⟩ | exact ⟨rfl⟩ | exact ⟨trivial⟩
 all_goals subst_vars
 all_goals try first | rfl | contradiction | (apply Ob.mk;first | (simp only [ag,ak,aa.ae];omega) | ((try simp only [aa.ae]);(try dsimp only);omega))
 refine ⟨Nat,fun j => j <= W.length /\ W.any (fun w => !bN L w) = (W.drop j).any (fun w => !bN L w),fun j => ⟨aI 19 [2,9,10,11] [.a (.p 2 [] 0 0),.a (.sl 1 [] 0 W.length),.a (vI W.length),.a (vI j)],[],[.arr 46 kW L false false,.arr 49 kT W false false,.box true [vI n,vI P,.sl 0 [] 0 L.length]]⟩,fun j => W.length - j,0,[],⟨Nat.zero_le _,rfl⟩,?_,?_⟩
 ·repeat' ((conv => whnf);(first | apply And.intro | intro _))
  all_goals first | rfl | trivial | exact ah rfl | exact aS ‹_› rfl | exact aT ‹_› rfl | ((repeat' first | rfl | constructor);done)
 clear hf hi p0 m2 hi1
 rintro j ⟨hj,hg⟩
 by_cases Ho : j < W.length
 ·have p1 : decide ((j : Int) < (W.length : Int)) = true:=decide_eq_true (by omega)
  have gr:=wV W j
  have gv : (bh W j).length <= 1000000:=by rw [gr];exact hv _ (AA Ho)
  repeat' ((conv => whnf);first | apply And.intro | (intro h9;try (have h8 : (_ : Bool) = _:=h9;clear h8;revert h9;subst_vars;intro h9;exact aq h9 (by assumption))))
  all_goals try (conv => whnf)
  all_goals try first | (apply Tk.mk <;> kernel_rfl) | exact ⟨ah rfl⟩ | exact ⟨rfl⟩ | exact ⟨trivial⟩
  all_goals subst_vars
  all_goals try first | rfl | contradiction | (apply Ob.mk;first | (simp only [ag,ak,aa.ae];omega) | ((try simp only [aa.ae]);(try dsimp only);omega))
  all_goals try first
   | exact ⟨show 0 + Int.toNat (j : Int) < W.length by omega⟩
  refine ⟨Nat,fun k => k <= (bh W j).length /\ bN L (bh W j) = bN L ((bh W j).drop k),fun k => ⟨aI 19 [0,1,7,8] [.a (.sl 1 [(0 + Int.toNat (j : Int),0)] 0 (bh W j).length),.a (.fn 94 [2]),.a (vI (bh W j).length),.a (vI k)],[aI 9 [] [],aI 19 [2,9,10,11] [.a (.p 2 [] 0 0),.a (.sl 1 [] 0 W.length),.a (vI W.length),.a (vI j)]],[.arr 46 kW L false false,.arr 49 kT W false false,.box true [vI n,vI P,.sl 0 [] 0 L.length]]⟩,fun k => (bh W j).length - k,0,[],⟨Nat.zero_le _,rfl⟩,?_,?_⟩
  ·repeat' ((conv => whnf);(first | apply And.intro | intro _))
   all_goals first | rfl | trivial | exact ah rfl | exact aS ‹_› rfl | exact aT ‹_› rfl | ((repeat' first | rfl | constructor);done)
  rintro k ⟨hk,hs⟩
  have m2 : decide ((k : Int) >= 0) = true:=decide_eq_true (by omega)
  by_cases cB : k < (bh W j).length
  ·have p2 : decide ((k : Int) < ((bh W j).length : Int)) = true:=decide_eq_true (by omega)
   have gs : KC W j k = gi (bh W j) k:=dP _ k
   cases hb : fm L (KC W j k)
   ·have e1 : (!fm L (KC W j k)) = true:=by rw [hb];rfl
    have pT:=hs.trans (BU cB (gs ▸ hb))
    have e3 : (!bN L (gL W j)) = true:=by rw [<- gr,pT];rfl
    rw [hg.trans (wg Ho (d:=[]) e3)]
    repeat' ((conv => whnf);first | apply And.intro | (intro h9;try (have h8 : (_ : Bool) = _:=h9;clear h8;revert h9;subst_vars;intro h9;exact aq h9 (by assumption))))
    all_goals try (conv => whnf)
    all_goals try first | (apply Tk.mk <;> kernel_rfl) | exact ⟨ah rfl⟩ | exact ⟨rfl⟩ | exact ⟨trivial⟩
    all_goals subst_vars
    all_goals try first | rfl | contradiction | (apply Ob.mk;first | (simp only [ag,ak,aa.ae];omega) | ((try simp only [aa.ae]);(try dsimp only);omega))
    all_goals first
     | exact ⟨hl⟩
     | exact ⟨show 0 + Int.toNat (j : Int) < W.length by omega⟩
     | exact ⟨show 0 + Int.toNat (k : Int) < (bh W j).length by omega⟩
   have e1 : (!fm L (KC W j k)) = false:=by rw [hb];rfl
   have pT:=hs.trans (yx cB (gs ▸ hb))
   repeat' ((conv => whnf);first | apply And.intro | (intro h9;try (have h8 : (_ : Bool) = _:=h9;clear h8;revert h9;subst_vars;intro h9;exact aq h9 (by assumption))))
   all_goals try (conv => whnf)
   all_goals try first | (apply Tk.mk <;> kernel_rfl) | exact ⟨ah rfl⟩ | exact ⟨rfl⟩ | exact ⟨trivial⟩
   all_goals subst_vars
   all_goals try first | rfl | contradiction | (apply Ob.mk;first | (simp only [ag,ak,aa.ae];omega) | ((try simp only [aa.ae]);(try dsimp only);omega))
   all_goals try first
    | exact ⟨hl⟩
    | exact ⟨show 0 + Int.toNat (j : Int) < W.length by omega⟩
    | exact ⟨show 0 + Int.toNat (k : Int) < (bh W j).length by omega⟩
   refine ⟨k + 1,[],⟨cB,pT⟩,?_,by show (bh W j).length - (k + 1) < (bh W j).length - k;omega⟩
   repeat' ((conv => whnf);(first | apply And.intro | intro _))
   all_goals first | rfl | trivial | exact ah rfl | exact aS ‹_› rfl | exact aT ‹_› rfl | ((repeat' first | rfl | constructor);done)
  have p2 : decide ((k : Int) < ((bh W j).length : Int)) = false:=decide_eq_false (by omega)
  have pT:=hs.trans (yu (by omega))
  have e3 : (!bN L (gL W j)) = false:=by rw [<- gr,pT];rfl
  have AJ:=hg.trans (zx Ho (d:=[]) e3)
  repeat' ((conv => whnf);first | apply And.intro | (intro h9;try (have h8 : (_ : Bool) = _:=h9;clear h8;revert h9;subst_vars;intro h9;exact aq h9 (by assumption))))
  all_goals try (conv => whnf)
  all_goals try first | (apply Tk.mk <;> kernel_rfl) | exact ⟨ah rfl⟩ | exact ⟨rfl⟩ | exact ⟨trivial⟩
  all_goals subst_vars
  all_goals try first | rfl | contradiction | (apply Ob.mk;first | (simp only [ag,ak,aa.ae];omega) | ((try simp only [aa.ae]);(try dsimp only);omega))
  refine ⟨j + 1,[],⟨Ho,AJ⟩,?_,by show W.length - (j + 1) < W.length - j;omega⟩
  repeat' ((conv => whnf);(first | apply And.intro | intro _))
  all_goals first | rfl | trivial | exact ah rfl | exact aS ‹_› rfl | exact aT ‹_› rfl | ((repeat' first | rfl | constructor);done)
 have p1 : decide ((j : Int) < (W.length : Int)) = false:=decide_eq_false (by omega)
 rw [hg.trans (we (by omega))]
 repeat' ((conv => whnf);first | apply And.intro | (intro h9;try (have h8 : (_ : Bool) = _:=h9;clear h8;revert h9;subst_vars;intro h9;exact aq h9 (by assumption))))
 all_goals try (conv => whnf)
 all_goals try first | (apply Tk.mk <;> kernel_rfl) | exact ⟨ah rfl⟩ | exact ⟨rfl⟩ | exact ⟨trivial⟩
 all_goals subst_vars
 all_goals try first | rfl | contradiction | (apply Ob.mk;first | (simp only [ag,ak,aa.ae];omega) | ((try simp only [aa.ae]);(try dsimp only);omega)))
end Go.Proofs.YthejmgnkenokpaaGreatDoor
end
section
namespace Go.Proofs.YthejmgnkenokpaaGreatDoor
open Go Go.Sy Go.bK Go.ChangeShapes Go.WideShapes Go.RowKit
section
variable {H : Type} {enc : TypeId × Value -> H} {w : World} {base : Nat} {held : Bool}
theorem Zh {t te : TypeId} {tg : List CK} (ci : tg ≠ []) (ht : Tryz.prog.underlying t = some (.slice te)) (hc : Tryz.prog.cellsOf te = tg.length)
  (hone : ∀ (fuel : Nat) (cs : List Value) (y : DataW H × List MemPlace),cs.length = tg.length -> DataW.trod enc Tryz.prog w base (fun _ => true) held fuel te cs = some y -> ∃ x : ai tg,∀ η i,ai.aA η [] i 0 tg x cs)
  {fuel : Nat} {v : Value} {y : DataW H × List MemPlace} (h : DataW.trod enc Tryz.prog w base (fun _ => true) held fuel t [v] = some y) :
  ∃ (I : RI) (xs : List (ai tg)),I.head 0 xs.length v /\ Er w te tg xs I:=by
 have h':=h
 rcases Go.Deep.open_slice ht h with ⟨hv,_⟩ | ⟨a,len,cap,m,n,D,Pl,hv,_,hl,hm,Ns,_,hx⟩
 ·exact KF ci ht hc hone (fun a len cap e => by simp only [List.cons.injEq,and_true] at hv;rw [hv] at e;cases e) h'
 ·simp only [List.cons.injEq,and_true] at hv
  simp only [if_true] at Ns
  by_cases h0 : cap = 0
  ·obtain rfl : len = 0:=by omega
   subst h0 hv
   exact ⟨⟨0,0,tg.length,0,true⟩,[],⟨fun _ => ⟨rfl,_,rfl⟩,(fun h => by cases h)⟩,⟨ci,rfl,fun _ => rfl,(fun h => by cases h),fun i hi => by simp at hi⟩,(fun h => by cases h)⟩
  ·refine KF ci ht hc hone (fun a' len' cap' e => ?_) h'
   rw [hv] at e
   obtain ⟨rfl,rfl,rfl⟩ : a = a' /\ len = len' /\ cap = cap':=by simpa using e
   obtain ⟨cs,h1,_⟩:=hx 0 (by omega)
   obtain ⟨_,h3,h4⟩:=World.cells?_some h1
   have hp : 0 < Tryz.prog.cellsOf te:=by rw [hc];exact List.length_pos_iff.2 ci
   have h5:=h4 0 hp
   have e0 : (a.add (0 * Tryz.prog.cellsOf te)).add 0 = a:=by simp [Addr.add]
   rw [e0,List.getElem?_eq_getElem (by omega)] at h5
   unfold World.cell? at h5
   split at h5
   ·rename_i hb
    refine ⟨?_,?_⟩
    ·cases hs : a.spot with
     | none => rfl
     | some _ => rw [hs] at h5;simp at h5
    ·rcases Nat.lt_or_ge a.block w.heap.size with h6 | h6
     ·exact h6
     ·rw [Array.getElem?_eq_none h6] at hb;cases hb
   ·cases h5
structure VZ where
 te : TypeId
 tg : List CK
 xs : List (ai tg)
 η : Path -> RI
def VZ.ok (w : World) (A : VZ) : Prop:=∀ π B,Ar.has ⟨A.te,A.tg,A.xs⟩ π B -> B.aA w A.η π /\ ((A.η π).aC = false -> (A.η π).b < w.heap.size)
def VZ.Kz (A : VZ) : az:=.arr A.te A.tg A.xs false false
def Wx (Is : List (Path -> RI)) : Keys:=fun r π => (Is.getD r (fun _ => ⟨0,0,0,0,true⟩)) π
theorem Wb {te : TypeId} {tg : List CK} {xs : List (ai tg)} {I : RI} (hf : aaa tg = true) (h : Er w te tg xs I) : VZ.ok w ⟨te,tg,xs,fun _ => I⟩:=by
 intro π B hB
 obtain ⟨rfl,_,e⟩:=I4 (te:=te) hf (show (az.arr te tg xs false false).has π false (.arr B) from ⟨by cases π <;> rfl,B,hB,rfl⟩)
 obtain rfl:=e6.arr.inj e
 exact ⟨h.ar,h.lt⟩
theorem WQ {xs : List (List Int)} : ∀ {π : Path} {B : Ar},Ar.has ⟨49,kT,xs⟩ π B -> (π = [] /\ B = ⟨49,kT,xs⟩) \/ ∃ i,i < xs.length /\ π = [(i,0)] /\ B = ⟨3,kI,xs.getD i []⟩
 | [],B,h => .inl ⟨rfl,h⟩
 | (i,j) :: π,B,h => by
   obtain ⟨C,hC,hi,hs⟩:=h
   rcases WQ hC with ⟨rfl,rfl⟩ | ⟨k,hk,rfl,rfl⟩
   ·match j,hs with
    | 0,hs => exact .inr ⟨i,hi,rfl,(Option.some.inj hs).symm⟩
    | j + 1,hs => cases hs
   ·match j,hs with
    | 0,hs => cases hs
    | j + 1,hs => cases hs
theorem Ws {r : Reach} {b0 : Nat} {v : Value} {d : DataW H} {p : List MemPlace} (hv : Value.okWide Tryz.prog w r b0 25 v) (h : DataW.Trod enc Tryz.prog w base (fun _ => true) held 25 v d p) :
  ∃ (η : Path -> RI) (xs : List (List Int)),(η []).head 0 xs.length v /\ VZ.ok w ⟨49,kT,xs,η⟩:=by
 obtain ⟨a0,Sd,R7,rfl⟩:=okWide_slice Tryz.underlying25 hv
 have hlt:=BS Tryz.underlying25 (CR Tryz.underlying25 hv)
 obtain ⟨fuel,hf⟩:=h
 have hf : DataW.trod enc Tryz.prog w base (fun _ => true) held fuel 25 [.slice a0 Sd R7] = some (d,p):=by simpa [Value.cells] using hf
 rcases Go.Deep.open_slice Tryz.underlying25 hf with ⟨hv,_⟩ | ⟨a,len,cap,m,n,D,Pl,hv,_,hl,hm,Ns,_,hx⟩
 ·simp only [List.cons.injEq,and_true] at hv
  refine ⟨fun _ => ⟨0,0,1,0,true⟩,[],⟨fun _ => ⟨rfl,_,hv⟩,(fun h => by cases h)⟩,fun π B hB => ?_⟩
  rcases WQ hB with ⟨rfl,rfl⟩ | ⟨k,hk,_⟩
  ·exact ⟨⟨by simp [kT],rfl,fun _ => rfl,(fun h => by cases h),fun i hi => absurd hi (Nat.not_lt_zero i)⟩,(fun h => by cases h)⟩
  ·exact absurd hk (Nat.not_lt_zero k)
 ·simp only [List.cons.injEq,and_true] at hv
  obtain ⟨rfl,rfl,rfl⟩ : a0 = some a /\ Sd = len /\ R7 = cap:=by simpa using hv
  obtain ⟨hs,hb⟩:=hlt a Sd R7 rfl
  simp only [if_true] at Ns
  have hc : Tryz.prog.cellsOf 49 = 1:=by kernel_rfl
  rw [hc] at hx
  have hX : ∀ i,i < Sd -> ∃ q : Value × RI × List Int,w.cell? (a.add i) = some q.1 /\ q.2.1.head 0 q.2.2.length q.1 /\ Er w 3 kI q.2.2 q.2.1:=fun i hi => by
   obtain ⟨cs,h1,h2⟩:=hx i (by omega)
   obtain ⟨_,h3,h4⟩:=World.cells?_some h1
   match cs,h3 with
   | [c],_ =>
     obtain ⟨I,ys,g1,g2⟩:=Zh (by simp [kI]) Tryz.underlying49 (by kernel_rfl) NN h2
     refine ⟨(c,I,ys),?_,g1,g2⟩
     have:=h4 0 (by omega)
     simpa [Addr.add] using this
  have : Inhabited (Value × RI × List Int):=⟨(.int .i64 0,⟨0,0,0,0,true⟩,[])⟩
  obtain ⟨X,hX⟩:=Go.Deep.choose_lt hX
  obtain ⟨blk,off,spot⟩:=a
  obtain rfl : spot = none:=hs
  have hlen : ((List.range Sd).map fun i => (X i).2.2).length = Sd:=by rw [List.length_map,List.length_range]
  have eN : ∀ i,i < Sd -> ((List.range Sd).map fun i => (X i).2.2).getD i [] = (X i).2.2:=fun i hi => by
   simp [hi]
  refine ⟨fun π => match π with | [(i,_)] => (X i).2.1 | _ => ⟨blk,off,1,R7,false⟩,(List.range Sd).map fun i => (X i).2.2,⟨(fun h => by cases h),fun _ => ⟨by simpa using hl,some ⟨blk,off,none⟩,by simp,fun _ => by simp [RI.at]⟩⟩,fun π B hB => ?_⟩
  rcases WQ hB with ⟨rfl,rfl⟩ | ⟨k,hk,rfl,rfl⟩
  ·refine ⟨⟨by simp [kT],rfl,(fun h => by cases h),fun _ => Nat.le_trans (Nat.le_of_eq hlen) hl,fun i hi => ?_⟩,fun _ => hb⟩
   have hi' : i < Sd:=Nat.lt_of_lt_of_eq hi hlen
   obtain ⟨h1,h2,_⟩:=hX i hi'
   refine ⟨[(X i).1],⟨_,rfl,?_⟩,fun s y hs => ?_⟩
   ·show (X i).2.1.head 0 (Ar.get ⟨49,kT,(List.range Sd).map fun i => (X i).2.2⟩ i : List Int).length (X i).1
    have : (Ar.get ⟨49,kT,(List.range Sd).map fun i => (X i).2.2⟩ i : List Int) = (X i).2.2:=eN i hi'
    rw [this];exact h2
   ·match s,hs with
    | 0,hs =>
      obtain rfl:=Option.some.inj hs
      rw [<- h1]
      congr 1
      show (⟨blk,off + (i * 1 + 0),none⟩ : Addr) = _
      rw [Addr.add_lit,Nat.mul_one,Nat.add_zero]
  ·have hk' : k < Sd:=Nat.lt_of_lt_of_eq hk hlen
   obtain ⟨_,_,h3⟩:=hX k hk'
   dsimp only
   rw [eN k hk']
   refine ⟨⟨h3.ar.tg,h3.ar.m,h3.ar.aC,h3.ar.len,fun i hi => ?_⟩,h3.lt⟩
   obtain ⟨ys,g1,g2⟩:=h3.ar.cell i hi
   exact ⟨ys,lA (by simp [aaa,CK.flat]) g1,g2⟩
end
theorem Yg {w : World} (As : List VZ) (h : ∀ A ∈ As,A.ok w) : cA (fun _ => False) w As.length (Wx (As.map (·.η))) (As.map VZ.Kz) w:=by
 have one : ∀ (r : Nat) (g : az) π o B,(As.map VZ.Kz)[r]? = some g -> g.has π o B -> ∃ A C,A ∈ As /\ Wx (As.map (·.η)) r π = A.η π /\ Wx (As.map (·.η)) r = A.η /\ o = false /\ Ar.has ⟨A.te,A.tg,A.xs⟩ π C /\ B = .arr C:=by
  intro r g π o B hg hh
  rw [List.getElem?_map] at hg
  obtain ⟨A,hA,rfl⟩:=Option.map_eq_some_iff.1 hg
  have hm:=List.mem_of_getElem? hA
  obtain ⟨ho,C,hC,rfl⟩:=hh
  have e : Wx (As.map (·.η)) r = A.η:=by funext π;simp [Wx,List.getD_eq_getElem?_getD,List.getElem?_map,hA]
  exact ⟨A,C,hm,by rw [e],e,by rw [ho];cases π <;> rfl,hC,rfl⟩
 constructor
 ·intro r g π o B hg hh
  obtain ⟨A,C,hm,_,he,_,hC,rfl⟩:=one r g π o B hg hh
  show C.aA w (Wx (As.map (·.η)) r) π
  rw [he]
  exact (h A hm π C hC).1
 ·intro r g π o B hg hh hv
  obtain ⟨A,C,hm,hk,_,_,hC,rfl⟩:=one r g π o B hg hh
  rw [hk] at hv ⊢
  exact (h A hm π C hC).2 hv
 ·intro r g π B hg hh
  obtain ⟨_,_,_,_,_,ho,_⟩:=one r g π _ B hg hh
  cases ho
 ·intro r r' g g' π aW o' B B' hg _ hh
  obtain ⟨_,_,_,_,_,ho,_⟩:=one r g π _ B hg hh
  cases ho
theorem Wi {f : FuncId} {F : List Tm -> List az -> Option (List aa × Tm)} (hc : au.Ok Tryz.prog RZ f (.fn F)) (As : List VZ) {args : List Tm} {q : List aa} (hF : F args (As.map VZ.Kz) = some (q,bl true)) (hq : bW q) {W : World} {vs : List Value}
  (hA : ∀ A ∈ As,A.ok W) (hargs : be (Tm.ok As.length (Wx (As.map (·.η)))) args vs) : Calls Tryz.prog f vs.toArray W fun e W' => e = .returned (.bool true) /\ Below W.heap.size W W':=by
 have hl : (As.map VZ.Kz).length = As.length:=List.length_map _
 exact (hc args _ q _ hF hq (fun _ => False) W (Wx (As.map (·.η))) W vs (Nat.le_refl _) (fun b hb => absurd hb (Nat.not_lt_zero b)) trivial (by rw [hl];exact hargs) (by rw [hl];exact Yg As hA)).mono fun e w' ⟨v,he,hv,hb⟩ => by
  obtain ⟨rfl,_⟩:=hv
  exact ⟨he,hb⟩
def lD (t : TypeId) : Bool:=BC t || t == 25
theorem WV (t : TypeId) (h : lD t = true) : Tryz.prog.wantsStandIn t = false:=by
 rcases Bool.or_eq_true _ _ ▸ h with h | h
 ·exact CS t h
 ·rw [eq_of_beq h];exact (show Tryz.prog.wantsStandIn 25 = false by kernel_rfl)
theorem Xp {name : String} {g : FuncId} {gn : Func} {ps : Array TypeId} (h1 : Tryz.prog.funcNamed name = some g) (h2 : Tryz.prog.funcs[g]? = some gn) (h3 : gn.params = ps) (h4 : ps.toList.all lD = true) (f : FuncId) (fn : Func) (hf : Tryz.pinned.checked.prog.funcNamed name = some f) (hfn : Tryz.pinned.checked.prog.funcs[f]? = some fn) :
  true = Tryz.pinned.checked.prog.looks [] /\ ∀ (j : Nat) t,fn.params[j]? = some t -> Tryz.pinned.checked.prog.wantsStandIn t = false:=by
 rw [Fq] at hf hfn ⊢
 obtain rfl : g = f:=Option.some.inj (h1.symm.trans hf)
 obtain rfl : gn = fn:=Option.some.inj (h2.symm.trans hfn)
 refine ⟨NX,fun j t ht => ?_⟩
 rw [h3] at ht
 exact WV t (List.all_eq_true.1 h4 t (Array.mem_toList_iff.2 (Array.mem_of_getElem? ht)))
end Go.Proofs.YthejmgnkenokpaaGreatDoor
end
section
namespace Go.Proofs.YthejmgnkenokpaaGreatDoor
open Go Go.Sy Go.bK
variable {Γ : bn}
def Px (D : List Int -> List aa) (R : List Int -> cM) : au:=.new fun args rg K => match args with
 | [.a x0] => (match ac1 3 kI rg x0 with | some (q0,L0) => bk false (q0 ++ (D L0)) (K (R L0)) | _ => False)
 | _ => False
theorem MG {f : FuncId} {b : Body} {E : Env} {d : Nat} (hP : aL Tryz.prog Γ E) (hb : bQ Tryz.prog f b) {D : List Int -> List aa} {R : List Int -> cM}
  (H : ∀ (L0 : List Int) (K : cM -> Prop),bW (D L0) -> K (R L0) -> cQ E d b [.a (.sl 0 [] 0 L0.length)] [.arr 3 kI L0 false false] (bu K)) : au.Ok Tryz.prog Γ f (Px D R):=au.fM (d:=d) hP hb (by
 intro args rg K hF
 split at hF
 next x0 =>
  split at hF
  next q0 L0 hx0 =>
   rw [aV,aH] at hF
   obtain ⟨⟨dm,hD⟩,hK⟩:=hF
   obtain ⟨e0,Vn⟩:=bP (by simp [kI]) hx0 dm
   obtain ⟨p0,r0⟩:=Vn [e0] 0 1 rfl (by omega)
   refine ⟨[e0],[.a (.sl 0 [] 0 L0.length)],[.arr 3 kI L0 false false],⟨⟨p0,trivial⟩,fun r g hg => ?_⟩,bu K,H _ K hD hK,fun x st h => h⟩
   match r,hg with
   | 0,hg => obtain rfl:=Option.some.inj hg;exact r0
  next => exact hF.elim
 next => exact hF.elim)
def Py (D : List Wk -> List aa) (R : List Wk -> cM) : au:=.new fun args rg K => match args with
 | [.a x0] => (match ac1 46 kW rg x0 with | some (q0,L0) => bk false (q0 ++ (D L0)) (K (R L0)) | _ => False)
 | _ => False
theorem MH {f : FuncId} {b : Body} {E : Env} {d : Nat} (hP : aL Tryz.prog Γ E) (hb : bQ Tryz.prog f b) {D : List Wk -> List aa} {R : List Wk -> cM}
  (H : ∀ (L0 : List Wk) (K : cM -> Prop),bW (D L0) -> K (R L0) -> cQ E d b [.a (.sl 0 [] 0 L0.length)] [.arr 46 kW L0 false false] (bu K)) : au.Ok Tryz.prog Γ f (Py D R):=au.fM (d:=d) hP hb (by
 intro args rg K hF
 split at hF
 next x0 =>
  split at hF
  next q0 L0 hx0 =>
   rw [aV,aH] at hF
   obtain ⟨⟨dm,hD⟩,hK⟩:=hF
   obtain ⟨e0,Vn⟩:=bP (by simp [kW]) hx0 dm
   obtain ⟨p0,r0⟩:=Vn [e0] 0 1 rfl (by omega)
   refine ⟨[e0],[.a (.sl 0 [] 0 L0.length)],[.arr 46 kW L0 false false],⟨⟨p0,trivial⟩,fun r g hg => ?_⟩,bu K,H _ K hD hK,fun x st h => h⟩
   match r,hg with
   | 0,hg => obtain rfl:=Option.some.inj hg;exact r0
  next => exact hF.elim
 next => exact hF.elim)
def Am (D : Int -> Int -> List Wk -> Wk -> List aa) (R : Int -> Int -> List Wk -> Wk -> cM) : au:=.new fun args rg K => match args with
 | [.agg [.v (.int .i64 n0),.v (.int .i64 n1),x0],.agg l0] => (match ac1 46 kW rg x0,eu kW l0 with | some (q0,L0),some v0 => bk false (q0 ++ (D n0 n1 L0 v0)) (K (R n0 n1 L0 v0)) | _,_ => False)
 | _ => False
theorem Dt {f : FuncId} {b : Body} {E : Env} {d : Nat} (hP : aL Tryz.prog Γ E) (hb : bQ Tryz.prog f b) {D : Int -> Int -> List Wk -> Wk -> List aa} {R : Int -> Int -> List Wk -> Wk -> cM}
  (H : ∀ (n0 : Int) (n1 : Int) (L0 : List Wk) (v0 : Wk) (K : cM -> Prop),bW (D n0 n1 L0 v0) -> K (R n0 n1 L0 v0) -> cQ E d b [.agg [vI n0,vI n1,.sl 0 [] 0 L0.length],.agg (ai.lV kW v0)] [.arr 46 kW L0 false false] (bu K)) : au.Ok Tryz.prog Γ f (Am D R):=au.fM (d:=d) hP hb (by
 intro args rg K hF
 split at hF
 next n0 n1 x0 l0 =>
  split at hF
  next q0 L0 v0 hx0 hc0 =>
   rw [aV,aH] at hF
   obtain ⟨⟨dm,hD⟩,hK⟩:=hF
   obtain ⟨e0,Vn⟩:=bP (by simp [kW]) hx0 dm
   obtain ⟨p0,r0⟩:=Vn [e0] 0 1 rfl (by omega)
   refine ⟨[e0],[.agg [vI n0,vI n1,.sl 0 [] 0 L0.length],.agg (ai.lV kW v0)],[.arr 46 kW L0 false false],⟨⟨⟨rfl,rfl,p0,trivial⟩,oC hc0,trivial⟩,fun r g hg => ?_⟩,bu K,H _ _ _ _ K hD hK,fun x st h => h⟩
   match r,hg with
   | 0,hg => obtain rfl:=Option.some.inj hg;exact r0
  next => exact hF.elim
 next => exact hF.elim)
def zO : au:=Px (fun L => [(aa.of (L.length <= 1000000))]) (fun L => ⟨[.arr 3 kI L true true],.a (.sl 0 [] 0 L.length)⟩)
theorem CD : au.Ok Tryz.prog Γ 88 zO:=MG (d:=0) (aP aR.nil bq.nil false 0) (aj Tryz.func88 rfl rfl) (by
 intro L K ⟨hlen,_⟩ hK
 simp only [aa.ae] at hlen
 repeat' ((conv => whnf);(first | apply And.intro | intro _))
 all_goals try (conv => whnf)
 ·have h0 : L = []:=by
   rcases Nat.eq_zero_or_pos L.length with h | h
   ·exact List.eq_nil_of_length_eq_zero h
   ·rename_i h1 h2;rw [h1 h] at h2;cases h2
  subst h0
  exact bu.aC 3 kI (by simp) (.base ⟨_,[1],hK,⟨rfl,rfl,by simp,trivial⟩,rfl,rfl,rfl,rfl,rfl⟩)
 ·exact ⟨Nat.le_of_eq (Nat.zero_add _)⟩
 ·exact ⟨show L.length * 1 <= 1099511627776 by omega⟩
 ·rename_i ys hys
  obtain rfl : L = ys:=by rw [<- hys];exact List.take_length.symm
  exact .base ⟨_,[1],hK,⟨rfl,rfl,by simp,trivial⟩,rfl,rfl,rfl,rfl,rfl⟩)
def zP : au:=Py (fun L => [(aa.of (L.length <= 1000000))]) (fun L => ⟨[.arr 46 kW L true true],.a (.sl 0 [] 0 L.length)⟩)
theorem CE : au.Ok Tryz.prog Γ 106 zP:=MH (d:=0) (aP aR.nil bq.nil false 0) (aj Tryz.func106 rfl rfl) (by
 intro L K ⟨hlen,_⟩ hK
 simp only [aa.ae] at hlen
 repeat' ((conv => whnf);(first | apply And.intro | intro _))
 all_goals try (conv => whnf)
 ·have h0 : L = []:=by
   rcases Nat.eq_zero_or_pos L.length with h | h
   ·exact List.eq_nil_of_length_eq_zero h
   ·rename_i h1 h2;rw [h1 h] at h2;cases h2
  subst h0
  exact bu.aC 46 kW (by simp) (.base ⟨_,[1],hK,⟨rfl,rfl,by simp,trivial⟩,rfl,rfl,rfl,rfl,rfl⟩)
 ·exact ⟨Nat.le_of_eq (Nat.zero_add _)⟩
 ·exact ⟨show L.length * 3 <= 1099511627776 by omega⟩
 ·rename_i ys hys
  obtain rfl : L = ys:=by rw [<- hys];exact List.take_length.symm
  exact .base ⟨_,[1],hK,⟨rfl,rfl,by simp,trivial⟩,rfl,rfl,rfl,rfl,rfl⟩)
def Gk : au:=Am (fun _ _ L _ => [(aa.of (L.length <= 900000))]) (fun n P L w => ⟨[.arr 46 kW (L ++ [w]) true true],.agg [vI n,vI P,.sl 0 [] 0 (L.length + 1)]⟩)
def Nb (id : Nat) : Option (Nat × OT):=match Nat.beq id 1 with | true => some (5,.take 0 (.take 1 (.take 3 (.alt 2 (.alt 4 .fin .fin) (.alt 4 (.alt 2 .fin .fin) .fin))))) | false => none
noncomputable def JY : List (Nat × au):=[(106,zP)]
theorem Ix : aR Tryz.prog Γ JY:=(aR.nil.cons (aj Tryz.func106 rfl rfl).fn CE)
noncomputable def Mz : Env:={ jV.env JY [] false 0 with htr:=Nb }
theorem Gz : aL Tryz.prog Γ Mz:=(aP Ix bq.nil false 0).NA _
theorem Gl : au.Ok Tryz.prog Γ 68 Gk:=Dt (d:=0) Gz (aj Tryz.func68 rfl rfl) (by
 rintro n P L ⟨a,b,t⟩ K ⟨hl,_⟩ hK
 simp only [aa.ae] at hl
 have jJ : L.length + 1 = (L ++ [(a,b,t)]).length:=by rw [List.length_append,List.length_singleton]
 have agM : (L ++ [(a,b,t)]).length <= 1000000:=by rw [List.length_append,List.length_singleton];omega
 repeat' ((conv => whnf);first | apply And.intro | (intro h9;try (have h8 : (_ : Bool) = _:=h9;clear h8;revert h9;subst_vars;intro h9;exact aq h9 (by assumption))))
 all_goals try (conv => whnf)
 all_goals try first | (apply Tk.mk <;> kernel_rfl) | exact ⟨ah rfl⟩ | exact ⟨rfl⟩ | exact ⟨trivial⟩
 all_goals subst_vars
 all_goals try first | rfl | contradiction | (apply Ob.mk;first | (simp only [ag,ak,aa.ae];omega) | ((try simp only [aa.ae]);(try dsimp only);omega))
 all_goals first
  | trivial
  | exact ⟨show L.length <= 1000000 by omega⟩
  | exact ⟨Nat.zero_add _⟩
  | exact ⟨show (L.length + 1) * 3 <= 1099511627776 by omega⟩
  | (refine bu.base ⟨_,[4],hK,⟨rfl,rfl,by simp,trivial⟩,rfl,?_⟩;(repeat' ((conv => whnf);(first | apply And.intro | intro _)));all_goals first | rfl | trivial)
  | (refine bu.base ⟨_,[5],hK,⟨rfl,rfl,by simp,trivial⟩,rfl,?_⟩;(repeat' ((conv => whnf);(first | apply And.intro | intro _)));all_goals first | rfl | trivial))
def wC (e : Int) : cM:=⟨[],.bF [.agg [vI 0,vI 0,.v (.slice none 0 0)],.a (vI e)]⟩
def nO (n P : Int) (L : List Wk) (w : Wk) : cM:=match bD n P L == 0,bD n P (L ++ [w]) == 0 with
 | true,true => ⟨[.arr 46 kW (L ++ [w]) true true],.bF [.agg [vI n,vI P,.sl 0 [] 0 (L.length + 1)],.a (vI 0)]⟩
 | true,false => wC (bD n P (L ++ [w]))
 | false,_ => wC (bD n P L)
def Mp : au:=Am (fun _ _ L _ => [(aa.of (L.length <= 900000))]) nO
noncomputable def OO : List (Nat × au):=[(35,rZ),(68,Gk)]
theorem Ir : aR Tryz.prog Γ OO:=((aR.nil.cons (aj Tryz.func68 rfl rfl).fn Gl).cons (aj Tryz.func35 rfl rfl).fn oS)
theorem Gf : au.Ok Tryz.prog Γ 31 Mp:=Dt (d:=0) (aP Ir bq.nil false 0) (aj Tryz.func31 rfl rfl) (by
 rintro n P L ⟨a,b,t⟩ K ⟨hl,_⟩ hK
 simp only [aa.ae] at hl
 have jJ : L.length + 1 = (L ++ [(a,b,t)]).length:=by rw [List.length_append,List.length_singleton]
 have agM : (L ++ [(a,b,t)]).length <= 1000000:=by rw [List.length_append,List.length_singleton];omega
 cases h0 : bD n P L == 0
 ·have e0 : (bD n P L != 0) = true:=by unfold bne;rw [h0];rfl
  rw [show nO n P L (a,b,t) = wC (bD n P L) by unfold nO;rw [h0]] at hK
  repeat' ((conv => whnf);first | apply And.intro | (intro h9;try (have h8 : (_ : Bool) = _:=h9;clear h8;revert h9;subst_vars;intro h9;exact aq h9 (by assumption))))
  all_goals try (conv => whnf)
  all_goals try first | (apply Tk.mk <;> kernel_rfl) | exact ⟨ah rfl⟩ | exact ⟨rfl⟩ | exact ⟨trivial⟩
  all_goals subst_vars
  all_goals try first | rfl | contradiction | (apply Ob.mk;first | (simp only [ag,ak,aa.ae];omega) | ((try simp only [aa.ae]);(try dsimp only);omega))
  all_goals first
   | exact ⟨show L.length <= 1000000 by omega⟩
   | (refine bu.base ⟨_,[],hK,trivial,rfl,?_⟩;(repeat' ((conv => whnf);(first | apply And.intro | intro _)));all_goals first | rfl | trivial)
 have e0 : (bD n P L != 0) = false:=by unfold bne;rw [h0];rfl
 cases h1 : bD n P (L ++ [(a,b,t)]) == 0
 ·have e1 : (bD n P (L ++ [(a,b,t)]) != 0) = true:=by unfold bne;rw [h1];rfl
  rw [show nO n P L (a,b,t) = wC (bD n P (L ++ [(a,b,t)])) by unfold nO;rw [h0,h1]] at hK
  repeat' ((conv => whnf);first | apply And.intro | (intro h9;try (have h8 : (_ : Bool) = _:=h9;clear h8;revert h9;subst_vars;intro h9;exact aq h9 (by assumption))))
  all_goals try (conv => whnf)
  all_goals try first | (apply Tk.mk <;> kernel_rfl) | exact ⟨ah rfl⟩ | exact ⟨rfl⟩ | exact ⟨trivial⟩
  all_goals subst_vars
  all_goals try first | rfl | contradiction | (apply Ob.mk;first | (simp only [ag,ak,aa.ae];omega) | ((try simp only [aa.ae]);(try dsimp only);omega))
  all_goals first
   | exact ⟨hl⟩
   | exact ⟨jJ⟩
   | exact ⟨show L.length <= 1000000 by omega⟩
   | exact ⟨agM⟩
   | (refine bu.base ⟨_,[],hK,trivial,rfl,?_⟩;(repeat' ((conv => whnf);(first | apply And.intro | intro _)));all_goals first | rfl | trivial)
 have e1 : (bD n P (L ++ [(a,b,t)]) != 0) = false:=by unfold bne;rw [h1];rfl
 have e2 : bD n P (L ++ [(a,b,t)]) = 0:=eq_of_beq h1
 rw [show nO n P L (a,b,t) = ⟨[.arr 46 kW (L ++ [(a,b,t)]) true true],.bF [.agg [vI n,vI P,.sl 0 [] 0 (L.length + 1)],.a (vI 0)]⟩ by unfold nO;rw [h0,h1]] at hK
 repeat' ((conv => whnf);first | apply And.intro | (intro h9;try (have h8 : (_ : Bool) = _:=h9;clear h8;revert h9;subst_vars;intro h9;exact aq h9 (by assumption))))
 all_goals try (conv => whnf)
 all_goals try first | (apply Tk.mk <;> kernel_rfl) | exact ⟨ah rfl⟩ | exact ⟨rfl⟩ | exact ⟨trivial⟩
 all_goals subst_vars
 all_goals try first | rfl | contradiction | (apply Ob.mk;first | (simp only [ag,ak,aa.ae];omega) | ((try simp only [aa.ae]);(try dsimp only);omega))
 all_goals first
  | exact ⟨hl⟩
  | exact ⟨jJ⟩
  | exact ⟨show L.length <= 1000000 by omega⟩
  | exact ⟨agM⟩
  | (refine bu.base ⟨_,[4],hK,⟨rfl,rfl,by simp,trivial⟩,rfl,?_⟩;(repeat' ((conv => whnf);(first | apply And.intro | intro _)));all_goals first | rfl | trivial))
end Go.Proofs.YthejmgnkenokpaaGreatDoor
end
