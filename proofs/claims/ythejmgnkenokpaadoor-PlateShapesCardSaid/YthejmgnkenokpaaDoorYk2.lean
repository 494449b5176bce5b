/-
  Texts of the claims on chapter 3: Yk2. No condition: lemmas and contracts.
-/
import Derived.Test.YthejmgnkenokpaaDoorYk1
import Derived.Test.YthejmgnkenokpaaDoorPl1
set_option linter.all false
set_option maxRecDepth 100000
set_option maxHeartbeats 4000000
section
namespace Go.Proofs.YthejmgnkenokpaaDoor
open Go Go.Sy Go.bK
variable {Γ : bn}
def fS (D : Int -> Int -> List Wk -> List aa) (F : Int -> Int -> List Wk -> Tm) : au:=.fn fun args rg => match args with
 | [.agg [.v (.int .i64 n0),.v (.int .i64 n1),x0]] => (match ca 60 kW rg x0 with | some (q0,L0) => some (q0 ++ (D n0 n1 L0),F n0 n1 L0) | _ => none)
 | _ => none
theorem za {f : FuncId} {b : Body} {E : Env} {d : Nat} (hP : aL Tryd.prog Γ E) (hb : bQ Tryd.prog f b) {D : Int -> Int -> List Wk -> List aa} {F : Int -> Int -> List Wk -> Tm} (hp : ∀ (n0 : Int) (n1 : Int) (L0 : List Wk),(F n0 n1 L0).plain = true)
  (H : ∀ (n0 : Int) (n1 : Int) (L0 : List Wk),bW (D n0 n1 L0) -> cQ E d b [.agg [vI n0,vI n1,.sl 0 [] 0 L0.length]] [.arr 60 kW L0 false false] (fun x _ => iL x (F n0 n1 L0))) : au.Ok Tryd.prog Γ f (fS D F):=au.er (d:=d) hP hb (by
 intro args rg q t hF hq
 split at hF
 next n0 n1 x0 =>
  split at hF
  next q0 L0 hx0 =>
   obtain ⟨rfl,rfl⟩:=Prod.mk.inj (Option.some.inj hF);clear hF
   rw [aH] at hq
   obtain ⟨dm,hD⟩:=hq
   obtain ⟨e0,Vn⟩:=bP (by simp [kW]) hx0 dm
   obtain ⟨p0,r0⟩:=Vn [e0] 0 1 rfl (by omega)
   refine ⟨hp _ _ _,[e0],[.agg [vI n0,vI n1,.sl 0 [] 0 L0.length]],[.arr 60 kW L0 false false],⟨⟨⟨rfl,rfl,p0,trivial⟩,trivial⟩,fun r g hg => ?_⟩,H _ _ _ hD⟩
   match r,hg with
   | 0,hg => obtain rfl:=Option.some.inj hg;exact r0
  next => cases hF
 next => cases hF)
def xL (D : Int -> Int -> List Wk -> Int -> List aa) (F : Int -> Int -> List Wk -> Int -> Tm) : au:=.fn fun args rg => match args with
 | [.agg [.v (.int .i64 n0),.v (.int .i64 n1),x0],.a (.v (.int .i64 n2))] => (match ca 60 kW rg x0 with | some (q0,L0) => some (q0 ++ (D n0 n1 L0 n2),F n0 n1 L0 n2) | _ => none)
 | _ => none
theorem mG {f : FuncId} {b : Body} {E : Env} {d : Nat} (hP : aL Tryd.prog Γ E) (hb : bQ Tryd.prog f b) {D : Int -> Int -> List Wk -> Int -> List aa} {F : Int -> Int -> List Wk -> Int -> Tm} (hp : ∀ (n0 : Int) (n1 : Int) (L0 : List Wk) (n2 : Int),(F n0 n1 L0 n2).plain = true)
  (H : ∀ (n0 : Int) (n1 : Int) (L0 : List Wk) (n2 : Int),bW (D n0 n1 L0 n2) -> cQ E d b [.agg [vI n0,vI n1,.sl 0 [] 0 L0.length],.a (vI n2)] [.arr 60 kW L0 false false] (fun x _ => iL x (F n0 n1 L0 n2))) : au.Ok Tryd.prog Γ f (xL D F):=au.er (d:=d) hP hb (by
 intro args rg q t hF hq
 split at hF
 next n0 n1 x0 n2 =>
  split at hF
  next q0 L0 hx0 =>
   obtain ⟨rfl,rfl⟩:=Prod.mk.inj (Option.some.inj hF);clear hF
   rw [aH] at hq
   obtain ⟨dm,hD⟩:=hq
   obtain ⟨e0,Vn⟩:=bP (by simp [kW]) hx0 dm
   obtain ⟨p0,r0⟩:=Vn [e0] 0 1 rfl (by omega)
   refine ⟨hp _ _ _ _,[e0],[.agg [vI n0,vI n1,.sl 0 [] 0 L0.length],.a (vI n2)],[.arr 60 kW L0 false false],⟨⟨⟨rfl,rfl,p0,trivial⟩,rfl,trivial⟩,fun r g hg => ?_⟩,H _ _ _ _ hD⟩
   match r,hg with
   | 0,hg => obtain rfl:=Option.some.inj hg;exact r0
  next => cases hF
 next => cases hF)
def PE (D : Int -> Int -> List Wk -> Wk -> List aa) (F : Int -> Int -> List Wk -> Wk -> Tm) : au:=.fn fun args rg => match args with
 | [.agg [.v (.int .i64 n0),.v (.int .i64 n1),x0],.agg l0] => (match ca 60 kW rg x0,eu kW l0 with | some (q0,L0),some v0 => some (q0 ++ (D n0 n1 L0 v0),F n0 n1 L0 v0) | _,_ => none)
 | _ => none
theorem MP {f : FuncId} {b : Body} {E : Env} {d : Nat} (hP : aL Tryd.prog Γ E) (hb : bQ Tryd.prog f b) {D : Int -> Int -> List Wk -> Wk -> List aa} {F : Int -> Int -> List Wk -> Wk -> Tm} (hp : ∀ (n0 : Int) (n1 : Int) (L0 : List Wk) (v0 : Wk),(F n0 n1 L0 v0).plain = true)
  (H : ∀ (n0 : Int) (n1 : Int) (L0 : List Wk) (v0 : Wk),bW (D n0 n1 L0 v0) -> cQ E d b [.agg [vI n0,vI n1,.sl 0 [] 0 L0.length],.agg (ai.lV kW v0)] [.arr 60 kW L0 false false] (fun x _ => iL x (F n0 n1 L0 v0))) : au.Ok Tryd.prog Γ f (PE D F):=au.er (d:=d) hP hb (by
 intro args rg q t hF hq
 split at hF
 next n0 n1 x0 l0 =>
  split at hF
  next q0 L0 v0 hx0 hc0 =>
   obtain ⟨rfl,rfl⟩:=Prod.mk.inj (Option.some.inj hF);clear hF
   rw [aH] at hq
   obtain ⟨dm,hD⟩:=hq
   obtain ⟨e0,Vn⟩:=bP (by simp [kW]) hx0 dm
   obtain ⟨p0,r0⟩:=Vn [e0] 0 1 rfl (by omega)
   refine ⟨hp _ _ _ _,[e0],[.agg [vI n0,vI n1,.sl 0 [] 0 L0.length],.agg (ai.lV kW v0)],[.arr 60 kW L0 false false],⟨⟨⟨rfl,rfl,p0,trivial⟩,oC hc0,trivial⟩,fun r g hg => ?_⟩,H _ _ _ _ hD⟩
   match r,hg with
   | 0,hg => obtain rfl:=Option.some.inj hg;exact r0
  next => cases hF
 next => cases hF)
abbrev cn (L : List Wk) (i : Int) : Wk:=@Ar.get ⟨60,kW,L⟩ (0 + Int.toNat i)
theorem jX (L : List Wk) (i : Nat) : cn L i = wk L i:=by unfold cn;rw [Nat.zero_add,Int.toNat_natCast];rfl
abbrev w3 (L : List Wk) (i : Int) : Wk:=((cn L i).1,(cn L i).2.1,(cn L i).2.2)
def sS : au:=PE (fun _ P _ _ => [(aa.of (1 <= P /\ P <= 6))]) (fun _ P _ w => bl (eJ P w))
noncomputable def Qn : List (Nat × au):=[(67,gK),(71,mC)]
theorem KY : aR Tryd.prog Γ Qn:=((aR.nil.cons (aj Tryd.func71 rfl rfl).fn kE).cons (aj Tryd.func67 rfl rfl).fn fw)
theorem Z1 : au.Ok Tryd.prog Γ 97 sS:=MP (d:=0) (aP KY bq.nil false 0) (aj Tryd.func97 rfl rfl) (fun _ _ _ _ => rfl) (by
 rintro n P L ⟨a,b,t⟩ ⟨hP,_⟩
 simp only [aa.ae] at hP
 cases h1 : aQ a 0 (P - 1)
 ·rw [show eJ P (a,b,t) = false by simp [eJ,h1]]
  repeat' ((conv => whnf);first | apply And.intro | (intro h9;try (have h8 : (_ : Bool) = _:=h9;clear h8;revert h9;subst_vars;intro h9;exact aq h9 (by assumption))))
  all_goals try (conv => whnf)
  all_goals try first | (apply Tk.mk <;> kernel_rfl) | exact ⟨ah rfl⟩ | exact ⟨rfl⟩ | exact ⟨trivial⟩
  all_goals subst_vars
  all_goals try first | rfl | contradiction | (apply Ob.mk;first | (simp only [ag,ak,aa.ae];omega) | ((try simp only [aa.ae]);(try dsimp only);omega))
 cases h2 : aQ b 0 (P - 1)
 ·rw [show eJ P (a,b,t) = false by simp [eJ,h2]]
  repeat' ((conv => whnf);first | apply And.intro | (intro h9;try (have h8 : (_ : Bool) = _:=h9;clear h8;revert h9;subst_vars;intro h9;exact aq h9 (by assumption))))
  all_goals try (conv => whnf)
  all_goals try first | (apply Tk.mk <;> kernel_rfl) | exact ⟨ah rfl⟩ | exact ⟨rfl⟩ | exact ⟨trivial⟩
  all_goals subst_vars
  all_goals try first | rfl | contradiction | (apply Ob.mk;first | (simp only [ag,ak,aa.ae];omega) | ((try simp only [aa.ae]);(try dsimp only);omega))
 cases h3 : (a != b)
 ·rw [show eJ P (a,b,t) = false by simp [eJ,h3]]
  repeat' ((conv => whnf);first | apply And.intro | (intro h9;try (have h8 : (_ : Bool) = _:=h9;clear h8;revert h9;subst_vars;intro h9;exact aq h9 (by assumption))))
  all_goals try (conv => whnf)
  all_goals try first | (apply Tk.mk <;> kernel_rfl) | exact ⟨ah rfl⟩ | exact ⟨rfl⟩ | exact ⟨trivial⟩
  all_goals subst_vars
  all_goals try first | rfl | contradiction | (apply Ob.mk;first | (simp only [ag,ak,aa.ae];omega) | ((try simp only [aa.ae]);(try dsimp only);omega))
 rw [show eJ P (a,b,t) = aQ t 0 7 by simp [eJ,h1,h2,h3]]
 repeat' ((conv => whnf);first | apply And.intro | (intro h9;try (have h8 : (_ : Bool) = _:=h9;clear h8;revert h9;subst_vars;intro h9;exact aq h9 (by assumption))))
 all_goals try (conv => whnf)
 all_goals try first | (apply Tk.mk <;> kernel_rfl) | exact ⟨ah rfl⟩ | exact ⟨rfl⟩ | exact ⟨trivial⟩
 all_goals subst_vars
 all_goals try first | rfl | contradiction | (apply Ob.mk;first | (simp only [ag,ak,aa.ae];omega) | ((try simp only [aa.ae]);(try dsimp only);omega)))
def rZ : au:=fS (fun _ _ L => [(aa.of (L.length <= 1000000))]) (fun n P L => .a (vI (bD n P L)))
noncomputable def Mb : List (Nat × au):=[(67,gK),(97,sS)]
theorem FN : aR Tryd.prog Γ Mb:=((aR.nil.cons (aj Tryd.func97 rfl rfl).fn Z1).cons (aj Tryd.func67 rfl rfl).fn fw)
noncomputable def K3 : List (Nat × Body):=[(95,bo Tryd.f95),(120,bo Tryd.f120),(96,bo Tryd.f96)]
theorem EB : bq Tryd.prog K3:=(((bq.nil.cons (cg Tryd.func96 rfl rfl)).cons (cg Tryd.func120 rfl rfl)).cons (cg Tryd.func95 rfl rfl))
theorem oS : au.Ok Tryd.prog Γ 74 rZ:=za (d:=4) (aP FN EB false 0) (aj Tryd.func74 rfl rfl) (fun _ _ _ => rfl) (by
 intro n P L ⟨hL,_⟩
 simp only [aa.ae] at hL
 cases h1 : aQ n 1 6
 ·have e1 : (!aQ n 1 6) = true:=by rw [h1];rfl
  rw [show bD n P L = 1 by simp [bD,h1]]
  repeat' ((conv => whnf);first | apply And.intro | (intro h9;try (have h8 : (_ : Bool) = _:=h9;clear h8;revert h9;subst_vars;intro h9;exact aq h9 (by assumption))))
  all_goals try (conv => whnf)
  all_goals try first | (apply Tk.mk <;> kernel_rfl) | exact ⟨ah rfl⟩ | exact ⟨rfl⟩ | exact ⟨trivial⟩
  all_goals subst_vars
  all_goals try first | rfl | contradiction | (apply Ob.mk;first | (simp only [ag,ak,aa.ae];omega) | ((try simp only [aa.ae]);(try dsimp only);omega))
 have e1 : (!aQ n 1 6) = false:=by rw [h1];rfl
 cases h2 : aQ P 1 6
 ·have e2 : (!aQ P 1 6) = true:=by rw [h2];rfl
  rw [show bD n P L = 1 by simp [bD,h2]]
  repeat' ((conv => whnf);first | apply And.intro | (intro h9;try (have h8 : (_ : Bool) = _:=h9;clear h8;revert h9;subst_vars;intro h9;exact aq h9 (by assumption))))
  all_goals try (conv => whnf)
  all_goals try first | (apply Tk.mk <;> kernel_rfl) | exact ⟨ah rfl⟩ | exact ⟨rfl⟩ | exact ⟨trivial⟩
  all_goals subst_vars
  all_goals try first | rfl | contradiction | (apply Ob.mk;first | (simp only [ag,ak,aa.ae];omega) | ((try simp only [aa.ae]);(try dsimp only);omega))
 have e2 : (!aQ P 1 6) = false:=by rw [h2];rfl
 have q2:=bA.1 h2
 by_cases h3 : L.length > 16
 ·have e3 : decide ((L.length : Int) > 16) = true:=decide_eq_true (by omega)
  rw [show bD n P L = 2 by simp [bD,h1,h2,h3]]
  repeat' ((conv => whnf);first | apply And.intro | (intro h9;try (have h8 : (_ : Bool) = _:=h9;clear h8;revert h9;subst_vars;intro h9;exact aq h9 (by assumption))))
  all_goals try (conv => whnf)
  all_goals try first | (apply Tk.mk <;> kernel_rfl) | exact ⟨ah rfl⟩ | exact ⟨rfl⟩ | exact ⟨trivial⟩
  all_goals subst_vars
  all_goals try first | rfl | contradiction | (apply Ob.mk;first | (simp only [ag,ak,aa.ae];omega) | ((try simp only [aa.ae]);(try dsimp only);omega))
 have e3 : decide ((L.length : Int) > 16) = false:=decide_eq_false (by omega)
 rw [show bD n P L = if dY P L = true then 0 else 1 by simp [bD,h1,h2,h3]]
 have m1 : decide ((-1 : Int) >= 0) = false:=rfl
 repeat' ((conv => whnf);first | apply And.intro | (intro h9;try (have h8 : (_ : Bool) = _:=h9;clear h8;revert h9;subst_vars;intro h9;exact aq h9 (by assumption))))
 all_goals try (conv => whnf)
 all_goals try first | (apply Tk.mk <;> kernel_rfl) | exact ⟨ah rfl⟩ | exact ⟨rfl⟩ | exact ⟨trivial⟩
 all_goals subst_vars
 all_goals try first | rfl | contradiction | (apply Ob.mk;first | (simp only [ag,ak,aa.ae];omega) | ((try simp only [aa.ae]);(try dsimp only);omega))
 refine ⟨Nat,fun i => i <= L.length /\ dY P L = dY P (L.drop i),fun i => ⟨aI 19 [0,1,7,8] [.a (.sl 0 [] 0 L.length),.a (.fn 96 [1]),.a (vI L.length),.a (vI i)],[aI 9 [] [],aI 24 [] []],[.arr 60 kW L false false,.box true [vI n,vI P,.sl 0 [] 0 L.length]]⟩,fun i => L.length - i,0,[],⟨Nat.zero_le _,rfl⟩,?_,?_⟩
 ·repeat' ((conv => whnf);(first | apply And.intro | intro _))
  all_goals first | rfl | trivial | exact ah rfl | exact aS ‹_› rfl | exact aT ‹_› rfl | ((repeat' first | rfl | constructor);done)
 rintro i ⟨hi,hv⟩
 have m2 : decide ((i : Int) >= 0) = true:=decide_eq_true (by omega)
 by_cases hi1 : i < L.length
 ·have p0 : decide ((i : Int) < (L.length : Int)) = true:=decide_eq_true (by omega)
  cases hw : eJ P (wk L i)
  ·have e4 : (!eJ P (w3 L i)) = true:=by rw [show w3 L i = wk L i from jX L i,hw];rfl
   rw [hv,rS hi1 hw]
   repeat' ((conv => whnf);first | apply And.intro | (intro h9;try (have h8 : (_ : Bool) = _:=h9;clear h8;revert h9;subst_vars;intro h9;exact aq h9 (by assumption))))
   all_goals try (conv => whnf)
   all_goals try first | (apply Tk.mk <;> kernel_rfl) | exact ⟨ah rfl⟩ | exact ⟨rfl⟩ | exact ⟨trivial⟩
   all_goals subst_vars
   all_goals try first | rfl | contradiction | (apply Ob.mk;first | (simp only [ag,ak,aa.ae];omega) | ((try simp only [aa.ae]);(try dsimp only);omega))
   all_goals first
    | exact ⟨show 0 + Int.toNat (i : Int) < L.length by omega⟩
  have e4 : (!eJ P (w3 L i)) = false:=by rw [show w3 L i = wk L i from jX L i,hw];rfl
  repeat' ((conv => whnf);first | apply And.intro | (intro h9;try (have h8 : (_ : Bool) = _:=h9;clear h8;revert h9;subst_vars;intro h9;exact aq h9 (by assumption))))
  all_goals try (conv => whnf)
  all_goals try first | (apply Tk.mk <;> kernel_rfl) | exact ⟨ah rfl⟩ | exact ⟨rfl⟩ | exact ⟨trivial⟩
  all_goals subst_vars
  all_goals try first | rfl | contradiction | (apply Ob.mk;first | (simp only [ag,ak,aa.ae];omega) | ((try simp only [aa.ae]);(try dsimp only);omega))
  all_goals try first
   | exact ⟨show 0 + Int.toNat (i : Int) < L.length by omega⟩
  all_goals
   refine ⟨i + 1,[],⟨hi1,by rw [hv,Ei hi1 hw]⟩,?_,by show L.length - (i + 1) < L.length - i;omega⟩
   repeat' ((conv => whnf);(first | apply And.intro | intro _))
   all_goals first | rfl | trivial | exact ah rfl | exact aS ‹_› rfl | exact aT ‹_› rfl | ((repeat' first | rfl | constructor);done)
 have p0 : decide ((i : Int) < (L.length : Int)) = false:=decide_eq_false (by omega)
 rw [hv,Eh (by omega)]
 repeat' ((conv => whnf);first | apply And.intro | (intro h9;try (have h8 : (_ : Bool) = _:=h9;clear h8;revert h9;subst_vars;intro h9;exact aq h9 (by assumption))))
 all_goals try (conv => whnf)
 all_goals try first | (apply Tk.mk <;> kernel_rfl) | exact ⟨ah rfl⟩ | exact ⟨rfl⟩ | exact ⟨trivial⟩
 all_goals subst_vars
 all_goals try first | rfl | contradiction | (apply Ob.mk;first | (simp only [ag,ak,aa.ae];omega) | ((try simp only [aa.ae]);(try dsimp only);omega)))
end Go.Proofs.YthejmgnkenokpaaDoor
end
section
namespace Go.Proofs.YthejmgnkenokpaaDoor
open Go Go.Sy Go.bK
variable {Γ : bn}
def uE : au:=fS (fun _ _ L => [(aa.of (L.length <= 1000000))]) (fun n P L => .a (vI (bD n P L)))
noncomputable def FX : List (Nat × au):=[(27,mg)]
theorem zo : aR Tryd.prog Γ FX:=(aR.nil.cons (aj Tryd.func27 rfl rfl).fn jx)
theorem yI : au.Ok Tryd.prog Γ 60 uE:=za (d:=0) (aP zo bq.nil false 0) (aj Tryd.func60 rfl rfl) (fun _ _ _ => rfl) (by
 intro n P L ⟨hL,_⟩
 simp only [aa.ae] at hL
 cases h1 : aQ n 1 6
 ·have e1 : (!aQ n 1 6) = true:=by rw [h1];rfl
  rw [show bD n P L = 1 by simp [bD,h1]]
  repeat' ((conv => whnf);first | apply And.intro | (intro h9;try (have h8 : (_ : Bool) = _:=h9;clear h8;revert h9;subst_vars;intro h9;exact aq h9 (by assumption))))
  all_goals try (conv => whnf)
  all_goals try first | (apply Tk.mk <;> kernel_rfl) | exact ⟨ah rfl⟩ | exact ⟨rfl⟩ | exact ⟨trivial⟩
  all_goals subst_vars
  all_goals try first | rfl | contradiction | (apply Ob.mk;first | (simp only [ag,ak,aa.ae];omega) | ((try simp only [aa.ae]);(try dsimp only);omega))
 have e1 : (!aQ n 1 6) = false:=by rw [h1];rfl
 cases h2 : aQ P 1 6
 ·have e2 : (!aQ P 1 6) = true:=by rw [h2];rfl
  rw [show bD n P L = 1 by simp [bD,h2]]
  repeat' ((conv => whnf);first | apply And.intro | (intro h9;try (have h8 : (_ : Bool) = _:=h9;clear h8;revert h9;subst_vars;intro h9;exact aq h9 (by assumption))))
  all_goals try (conv => whnf)
  all_goals try first | (apply Tk.mk <;> kernel_rfl) | exact ⟨ah rfl⟩ | exact ⟨rfl⟩ | exact ⟨trivial⟩
  all_goals subst_vars
  all_goals try first | rfl | contradiction | (apply Ob.mk;first | (simp only [ag,ak,aa.ae];omega) | ((try simp only [aa.ae]);(try dsimp only);omega))
 have e2 : (!aQ P 1 6) = false:=by rw [h2];rfl
 have q2:=bA.1 h2
 by_cases h3 : L.length > 16
 ·have e3 : decide ((L.length : Int) > 16) = true:=decide_eq_true (by omega)
  rw [show bD n P L = 2 by simp [bD,h1,h2,h3]]
  repeat' ((conv => whnf);first | apply And.intro | (intro h9;try (have h8 : (_ : Bool) = _:=h9;clear h8;revert h9;subst_vars;intro h9;exact aq h9 (by assumption))))
  all_goals try (conv => whnf)
  all_goals try first | (apply Tk.mk <;> kernel_rfl) | exact ⟨ah rfl⟩ | exact ⟨rfl⟩ | exact ⟨trivial⟩
  all_goals subst_vars
  all_goals try first | rfl | contradiction | (apply Ob.mk;first | (simp only [ag,ak,aa.ae];omega) | ((try simp only [aa.ae]);(try dsimp only);omega))
 have e3 : decide ((L.length : Int) > 16) = false:=decide_eq_false (by omega)
 rw [show bD n P L = if dY P L = true then 0 else 1 by simp [bD,h1,h2,h3]]
 repeat' ((conv => whnf);first | apply And.intro | (intro h9;try (have h8 : (_ : Bool) = _:=h9;clear h8;revert h9;subst_vars;intro h9;exact aq h9 (by assumption))))
 all_goals try (conv => whnf)
 all_goals try first | (apply Tk.mk <;> kernel_rfl) | exact ⟨ah rfl⟩ | exact ⟨rfl⟩ | exact ⟨trivial⟩
 all_goals subst_vars
 all_goals try first | rfl | contradiction | (apply Ob.mk;first | (simp only [ag,ak,aa.ae];omega) | ((try simp only [aa.ae]);(try dsimp only);omega))
 refine ⟨Nat,fun i => i <= L.length /\ dY P L = dY P (L.drop i),fun i => ⟨aI 60 [1,3] [.a (.p 1 [] 0 0),.a (vI i)],[],[.arr 60 kW L false false,.box true [vI n,vI P,.sl 0 [] 0 L.length]]⟩,fun i => L.length - i,0,[],⟨Nat.zero_le _,rfl⟩,?_,?_⟩
 ·repeat' ((conv => whnf);(first | apply And.intro | intro _))
  all_goals first | rfl | trivial | exact ah rfl | exact aS ‹_› rfl | exact aT ‹_› rfl | ((repeat' first | rfl | constructor);done)
 rintro i ⟨hi,hv⟩
 by_cases hi1 : i < L.length
 ·have p0 : decide ((i : Int) < (L.length : Int)) = true:=decide_eq_true (by omega)
  have wn : ∀ b,eJ P (wk L i) = b -> eJ P (cn L i) = b:=fun b hb => by rw [jX];exact hb
  cases w1 : aQ (cn L i).1 0 (P - 1)
  ·have f1 : (!aQ (cn L i).1 0 (P - 1)) = true:=by rw [w1];rfl
   have hw : eJ P (wk L i) = false:=by rw [<- jX];simp only [eJ,w1,Bool.false_and]
   rw [hv,rS hi1 hw]
   repeat' ((conv => whnf);first | apply And.intro | (intro h9;try (have h8 : (_ : Bool) = _:=h9;clear h8;revert h9;subst_vars;intro h9;exact aq h9 (by assumption))))
   all_goals try (conv => whnf)
   all_goals try first | (apply Tk.mk <;> kernel_rfl) | exact ⟨ah rfl⟩ | exact ⟨rfl⟩ | exact ⟨trivial⟩
   all_goals subst_vars
   all_goals try first | rfl | contradiction | (apply Ob.mk;first | (simp only [ag,ak,aa.ae];omega) | ((try simp only [aa.ae]);(try dsimp only);omega))
   all_goals first
    | exact ⟨show 0 + Int.toNat (i : Int) < L.length by omega⟩
  have f1 : (!aQ (cn L i).1 0 (P - 1)) = false:=by rw [w1];rfl
  cases w2 : aQ (cn L i).2.1 0 (P - 1)
  ·have f2 : (!aQ (cn L i).2.1 0 (P - 1)) = true:=by rw [w2];rfl
   have hw : eJ P (wk L i) = false:=by rw [<- jX];simp only [eJ,w2,Bool.false_and,Bool.and_false]
   rw [hv,rS hi1 hw]
   repeat' ((conv => whnf);first | apply And.intro | (intro h9;try (have h8 : (_ : Bool) = _:=h9;clear h8;revert h9;subst_vars;intro h9;exact aq h9 (by assumption))))
   all_goals try (conv => whnf)
   all_goals try first | (apply Tk.mk <;> kernel_rfl) | exact ⟨ah rfl⟩ | exact ⟨rfl⟩ | exact ⟨trivial⟩
   all_goals subst_vars
   all_goals try first | rfl | contradiction | (apply Ob.mk;first | (simp only [ag,ak,aa.ae];omega) | ((try simp only [aa.ae]);(try dsimp only);omega))
   all_goals first
    | exact ⟨show 0 + Int.toNat (i : Int) < L.length by omega⟩
  have f2 : (!aQ (cn L i).2.1 0 (P - 1)) = false:=by rw [w2];rfl
  cases Qd : (cn L i).1 == (cn L i).2.1
  ·have g3 : ((cn L i).1 != (cn L i).2.1) = true:=by unfold bne;rw [Qd];rfl
   cases w4 : aQ (cn L i).2.2 0 7
   ·have f4 : (!aQ (cn L i).2.2 0 7) = true:=by rw [w4];rfl
    have hw : eJ P (wk L i) = false:=by rw [<- jX];simp only [eJ,w4,Bool.and_false]
    rw [hv,rS hi1 hw]
    repeat' ((conv => whnf);first | apply And.intro | (intro h9;try (have h8 : (_ : Bool) = _:=h9;clear h8;revert h9;subst_vars;intro h9;exact aq h9 (by assumption))))
    all_goals try (conv => whnf)
    all_goals try first | (apply Tk.mk <;> kernel_rfl) | exact ⟨ah rfl⟩ | exact ⟨rfl⟩ | exact ⟨trivial⟩
    all_goals subst_vars
    all_goals try first | rfl | contradiction | (apply Ob.mk;first | (simp only [ag,ak,aa.ae];omega) | ((try simp only [aa.ae]);(try dsimp only);omega))
    all_goals first
     | exact ⟨show 0 + Int.toNat (i : Int) < L.length by omega⟩
   have f4 : (!aQ (cn L i).2.2 0 7) = false:=by rw [w4];rfl
   have hw : eJ P (wk L i) = true:=by rw [<- jX];simp only [eJ,w1,w2,w4,g3,Bool.and_true]
   repeat' ((conv => whnf);first | apply And.intro | (intro h9;try (have h8 : (_ : Bool) = _:=h9;clear h8;revert h9;subst_vars;intro h9;exact aq h9 (by assumption))))
   all_goals try (conv => whnf)
   all_goals try first | (apply Tk.mk <;> kernel_rfl) | exact ⟨ah rfl⟩ | exact ⟨rfl⟩ | exact ⟨trivial⟩
   all_goals subst_vars
   all_goals try first | rfl | contradiction | (apply Ob.mk;first | (simp only [ag,ak,aa.ae];omega) | ((try simp only [aa.ae]);(try dsimp only);omega))
   all_goals try first
    | exact ⟨show 0 + Int.toNat (i : Int) < L.length by omega⟩
   all_goals
    refine ⟨i + 1,[],⟨hi1,by rw [hv,Ei hi1 hw]⟩,?_,by show L.length - (i + 1) < L.length - i;omega⟩
    repeat' ((conv => whnf);(first | apply And.intro | intro _))
    all_goals first | rfl | trivial | exact ah rfl | exact aS ‹_› rfl | exact aT ‹_› rfl | ((repeat' first | rfl | constructor);done)
  have g3 : ((cn L i).1 != (cn L i).2.1) = false:=by unfold bne;rw [Qd];rfl
  have hw : eJ P (wk L i) = false:=by rw [<- jX];simp only [eJ,g3,Bool.and_false,Bool.false_and]
  rw [hv,rS hi1 hw]
  repeat' ((conv => whnf);first | apply And.intro | (intro h9;try (have h8 : (_ : Bool) = _:=h9;clear h8;revert h9;subst_vars;intro h9;exact aq h9 (by assumption))))
  all_goals try (conv => whnf)
  all_goals try first | (apply Tk.mk <;> kernel_rfl) | exact ⟨ah rfl⟩ | exact ⟨rfl⟩ | exact ⟨trivial⟩
  all_goals subst_vars
  all_goals try first | rfl | contradiction | (apply Ob.mk;first | (simp only [ag,ak,aa.ae];omega) | ((try simp only [aa.ae]);(try dsimp only);omega))
  all_goals first
   | exact ⟨show 0 + Int.toNat (i : Int) < L.length by omega⟩
 have p0 : decide ((i : Int) < (L.length : Int)) = false:=decide_eq_false (by omega)
 rw [hv,Eh (by omega)]
 repeat' ((conv => whnf);first | apply And.intro | (intro h9;try (have h8 : (_ : Bool) = _:=h9;clear h8;revert h9;subst_vars;intro h9;exact aq h9 (by assumption))))
 all_goals try (conv => whnf)
 all_goals try first | (apply Tk.mk <;> kernel_rfl) | exact ⟨ah rfl⟩ | exact ⟨rfl⟩ | exact ⟨trivial⟩
 all_goals subst_vars
 all_goals try first | rfl | contradiction | (apply Ob.mk;first | (simp only [ag,ak,aa.ae];omega) | ((try simp only [aa.ae]);(try dsimp only);omega)))
def bf (n P : Int) (L : List Wk) (p : Int) : Int:=if bD n P L = 0 then (if aQ p 0 (P - 1) = true then 0 else 1) else bD n P L
attribute [local irreducible] bD
def jf : au:=xL (fun _ _ L _ => [(aa.of (L.length <= 1000000))]) (fun n P L p => .a (vI (bf n P L p)))
noncomputable def Mf : List (Nat × au):=[(74,rZ),(67,gK)]
theorem FV : aR Tryd.prog Γ Mf:=((aR.nil.cons (aj Tryd.func67 rfl rfl).fn fw).cons (aj Tryd.func74 rfl rfl).fn oS)
theorem fQ : au.Ok Tryd.prog Γ 56 jf:=mG (d:=0) (aP FV bq.nil false 0) (aj Tryd.func56 rfl rfl) (fun _ _ _ _ => rfl) (by
 intro n P L p ⟨hL,_⟩
 simp only [aa.ae] at hL
 by_cases h0 : bD n P L = 0
 ·have e0 : (bD n P L != 0) = false:=by rw [h0];rfl
  have Mx : (bD n P L == 0) = true:=by rw [h0];rfl
  have sh:=(oe.1 h0).p
  cases h1 : aQ p 0 (P - 1)
  ·have e1 : (!aQ p 0 (P - 1)) = true:=by rw [h1];rfl
   rw [show bf n P L p = 1 by simp [bf,h0,h1]]
   repeat' ((conv => whnf);first | apply And.intro | (intro h9;try (have h8 : (_ : Bool) = _:=h9;clear h8;revert h9;subst_vars;intro h9;exact aq h9 (by assumption))))
   all_goals try (conv => whnf)
   all_goals try first | (apply Tk.mk <;> kernel_rfl) | exact ⟨ah rfl⟩ | exact ⟨rfl⟩ | exact ⟨trivial⟩
   all_goals subst_vars
   all_goals try first | rfl | contradiction | (apply Ob.mk;first | (simp only [ag,ak,aa.ae];omega) | ((try simp only [aa.ae]);(try dsimp only);omega))
   all_goals first
    | exact ⟨hL⟩
  have e1 : (!aQ p 0 (P - 1)) = false:=by rw [h1];rfl
  rw [show bf n P L p = 0 by simp [bf,h0,h1]]
  repeat' ((conv => whnf);first | apply And.intro | (intro h9;try (have h8 : (_ : Bool) = _:=h9;clear h8;revert h9;subst_vars;intro h9;exact aq h9 (by assumption))))
  all_goals try (conv => whnf)
  all_goals try first | (apply Tk.mk <;> kernel_rfl) | exact ⟨ah rfl⟩ | exact ⟨rfl⟩ | exact ⟨trivial⟩
  all_goals subst_vars
  all_goals try first | rfl | contradiction | (apply Ob.mk;first | (simp only [ag,ak,aa.ae];omega) | ((try simp only [aa.ae]);(try dsimp only);omega))
  all_goals first
   | exact ⟨hL⟩
 have e0 : (bD n P L != 0) = true:=by simpa using h0
 have Mx : (bD n P L == 0) = false:=by simpa using h0
 rw [show bf n P L p = bD n P L by simp [bf,h0]]
 repeat' ((conv => whnf);first | apply And.intro | (intro h9;try (have h8 : (_ : Bool) = _:=h9;clear h8;revert h9;subst_vars;intro h9;exact aq h9 (by assumption))))
 all_goals try (conv => whnf)
 all_goals try first | (apply Tk.mk <;> kernel_rfl) | exact ⟨ah rfl⟩ | exact ⟨rfl⟩ | exact ⟨trivial⟩
 all_goals subst_vars
 all_goals try first | rfl | contradiction | (apply Ob.mk;first | (simp only [ag,ak,aa.ae];omega) | ((try simp only [aa.ae]);(try dsimp only);omega))
 all_goals first
  | exact ⟨hL⟩)
def uD : au:=xL (fun _ _ L _ => [(aa.of (L.length <= 1000000))]) (fun n P L p => .a (vI (bf n P L p)))
noncomputable def FW : List (Nat × au):=[(60,uE),(27,mg)]
theorem zn : aR Tryd.prog Γ FW:=((aR.nil.cons (aj Tryd.func27 rfl rfl).fn jx).cons (aj Tryd.func60 rfl rfl).fn yI)
theorem yH : au.Ok Tryd.prog Γ 20 uD:=mG (d:=0) (aP zn bq.nil false 0) (aj Tryd.func20 rfl rfl) (fun _ _ _ _ => rfl) (by
 intro n P L p ⟨hL,_⟩
 simp only [aa.ae] at hL
 by_cases h0 : bD n P L = 0
 ·have e0 : (bD n P L != 0) = false:=by rw [h0];rfl
  have Mx : (bD n P L == 0) = true:=by rw [h0];rfl
  have sh:=(oe.1 h0).p
  cases h1 : aQ p 0 (P - 1)
  ·have e1 : (!aQ p 0 (P - 1)) = true:=by rw [h1];rfl
   rw [show bf n P L p = 1 by simp [bf,h0,h1]]
   repeat' ((conv => whnf);first | apply And.intro | (intro h9;try (have h8 : (_ : Bool) = _:=h9;clear h8;revert h9;subst_vars;intro h9;exact aq h9 (by assumption))))
   all_goals try (conv => whnf)
   all_goals try first | (apply Tk.mk <;> kernel_rfl) | exact ⟨ah rfl⟩ | exact ⟨rfl⟩ | exact ⟨trivial⟩
   all_goals subst_vars
   all_goals try first | rfl | contradiction | (apply Ob.mk;first | (simp only [ag,ak,aa.ae];omega) | ((try simp only [aa.ae]);(try dsimp only);omega))
   all_goals first
    | exact ⟨hL⟩
  have e1 : (!aQ p 0 (P - 1)) = false:=by rw [h1];rfl
  rw [show bf n P L p = 0 by simp [bf,h0,h1]]
  repeat' ((conv => whnf);first | apply And.intro | (intro h9;try (have h8 : (_ : Bool) = _:=h9;clear h8;revert h9;subst_vars;intro h9;exact aq h9 (by assumption))))
  all_goals try (conv => whnf)
  all_goals try first | (apply Tk.mk <;> kernel_rfl) | exact ⟨ah rfl⟩ | exact ⟨rfl⟩ | exact ⟨trivial⟩
  all_goals subst_vars
  all_goals try first | rfl | contradiction | (apply Ob.mk;first | (simp only [ag,ak,aa.ae];omega) | ((try simp only [aa.ae]);(try dsimp only);omega))
  all_goals first
   | trivial
   | exact ⟨hL⟩
 have e0 : (bD n P L != 0) = true:=by simpa using h0
 have Mx : (bD n P L == 0) = false:=by simpa using h0
 rw [show bf n P L p = bD n P L by simp [bf,h0]]
 repeat' ((conv => whnf);first | apply And.intro | (intro h9;try (have h8 : (_ : Bool) = _:=h9;clear h8;revert h9;subst_vars;intro h9;exact aq h9 (by assumption))))
 all_goals try (conv => whnf)
 all_goals try first | (apply Tk.mk <;> kernel_rfl) | exact ⟨ah rfl⟩ | exact ⟨rfl⟩ | exact ⟨trivial⟩
 all_goals subst_vars
 all_goals try first | rfl | contradiction | (apply Ob.mk;first | (simp only [ag,ak,aa.ae];omega) | ((try simp only [aa.ae]);(try dsimp only);omega))
 all_goals first
  | exact ⟨hL⟩)
end Go.Proofs.YthejmgnkenokpaaDoor
end
section
namespace Go.Proofs.YthejmgnkenokpaaDoor
open Go Go.Sy Go.bK
variable {Γ : bn}
def M5 (D : Sp -> Int -> Int -> List Wk -> Int -> List aa) (F : Sp -> Int -> Int -> List Wk -> Int -> Tm) : au:=.fn fun args rg => match args with
 | [.agg l0,.agg [.v (.int .i64 n0),.v (.int .i64 n1),x0],.a (.v (.int .i64 n2))] => (match ca 60 kW rg x0,eu kX l0 with | some (q0,L0),some v0 => some (q0 ++ (D v0 n0 n1 L0 n2),F v0 n0 n1 L0 n2) | _,_ => none)
 | _ => none
theorem Lr {f : FuncId} {b : Body} {E : Env} {d : Nat} (hP : aL Tryd.prog Γ E) (hb : bQ Tryd.prog f b) {D : Sp -> Int -> Int -> List Wk -> Int -> List aa} {F : Sp -> Int -> Int -> List Wk -> Int -> Tm} (hp : ∀ (v0 : Sp) (n0 : Int) (n1 : Int) (L0 : List Wk) (n2 : Int),(F v0 n0 n1 L0 n2).plain = true)
  (H : ∀ (v0 : Sp) (n0 : Int) (n1 : Int) (L0 : List Wk) (n2 : Int),bW (D v0 n0 n1 L0 n2) -> cQ E d b [.agg (ai.lV kX v0),.agg [vI n0,vI n1,.sl 0 [] 0 L0.length],.a (vI n2)] [.arr 60 kW L0 false false] (fun x _ => iL x (F v0 n0 n1 L0 n2))) : au.Ok Tryd.prog Γ f (M5 D F):=au.er (d:=d) hP hb (by
 intro args rg q t hF hq
 split at hF
 next l0 n0 n1 x0 n2 =>
  split at hF
  next q0 L0 v0 hx0 hc0 =>
   obtain ⟨rfl,rfl⟩:=Prod.mk.inj (Option.some.inj hF);clear hF
   rw [aH] at hq
   obtain ⟨dm,hD⟩:=hq
   obtain ⟨e0,Vn⟩:=bP (by simp [kW]) hx0 dm
   obtain ⟨p0,r0⟩:=Vn [e0] 0 1 rfl (by omega)
   refine ⟨hp _ _ _ _ _,[e0],[.agg (ai.lV kX v0),.agg [vI n0,vI n1,.sl 0 [] 0 L0.length],.a (vI n2)],[.arr 60 kW L0 false false],⟨⟨oC hc0,⟨rfl,rfl,p0,trivial⟩,rfl,trivial⟩,fun r g hg => ?_⟩,H _ _ _ _ _ hD⟩
   match r,hg with
   | 0,hg => obtain rfl:=Option.some.inj hg;exact r0
  next => cases hF
 next => cases hF)
def MQ (D : Int -> Int -> List Wk -> Sp -> Int -> List aa) (F : Int -> Int -> List Wk -> Sp -> Int -> Tm) : au:=.fn fun args rg => match args with
 | [.agg [.v (.int .i64 n0),.v (.int .i64 n1),x0],.agg l0,.a (.v (.int .i64 n2))] => (match ca 60 kW rg x0,eu kX l0 with | some (q0,L0),some v0 => some (q0 ++ (D n0 n1 L0 v0 n2),F n0 n1 L0 v0 n2) | _,_ => none)
 | _ => none
theorem Lm {f : FuncId} {b : Body} {E : Env} {d : Nat} (hP : aL Tryd.prog Γ E) (hb : bQ Tryd.prog f b) {D : Int -> Int -> List Wk -> Sp -> Int -> List aa} {F : Int -> Int -> List Wk -> Sp -> Int -> Tm} (hp : ∀ (n0 : Int) (n1 : Int) (L0 : List Wk) (v0 : Sp) (n2 : Int),(F n0 n1 L0 v0 n2).plain = true)
  (H : ∀ (n0 : Int) (n1 : Int) (L0 : List Wk) (v0 : Sp) (n2 : Int),bW (D n0 n1 L0 v0 n2) -> cQ E d b [.agg [vI n0,vI n1,.sl 0 [] 0 L0.length],.agg (ai.lV kX v0),.a (vI n2)] [.arr 60 kW L0 false false] (fun x _ => iL x (F n0 n1 L0 v0 n2))) : au.Ok Tryd.prog Γ f (MQ D F):=au.er (d:=d) hP hb (by
 intro args rg q t hF hq
 split at hF
 next n0 n1 x0 l0 n2 =>
  split at hF
  next q0 L0 v0 hx0 hc0 =>
   obtain ⟨rfl,rfl⟩:=Prod.mk.inj (Option.some.inj hF);clear hF
   rw [aH] at hq
   obtain ⟨dm,hD⟩:=hq
   obtain ⟨e0,Vn⟩:=bP (by simp [kW]) hx0 dm
   obtain ⟨p0,r0⟩:=Vn [e0] 0 1 rfl (by omega)
   refine ⟨hp _ _ _ _ _,[e0],[.agg [vI n0,vI n1,.sl 0 [] 0 L0.length],.agg (ai.lV kX v0),.a (vI n2)],[.arr 60 kW L0 false false],⟨⟨⟨rfl,rfl,p0,trivial⟩,oC hc0,rfl,trivial⟩,fun r g hg => ?_⟩,H _ _ _ _ _ hD⟩
   match r,hg with
   | 0,hg => obtain rfl:=Option.some.inj hg;exact r0
  next => cases hF
 next => cases hF)
theorem AS {P : Int} {L : List Wk} (h : dY P L = true) : cx P L:=cW.1 h
def Gg : au:=xL (fun _ P L s => [(aa.of (dY P L = true)),(aa.of (-(L.length : Int) <= s /\ s < (L.length : Int))),(aa.of (L.length <= 1000000))]) (fun _ P L s => .bF [.a (vI (dy L s).1),.a (vI (dy L s).2.1),.a (vI (dy L s).2.2)])
noncomputable def OP : List (Nat × au):=[(73,qq)]
theorem It : aR Tryd.prog Γ OP:=(aR.nil.cons (aj Tryd.func73 rfl rfl).fn qt)
theorem wB {L : List Wk} {s : Int} (h : s < 0) : dy L s = ((cn L (-1 - s)).2.1,(cn L (-1 - s)).1,cD (cn L (-1 - s)).2.2):=by
 unfold dy cn;rw [if_pos h,Nat.zero_add];rfl
theorem wA {L : List Wk} {s : Int} (h : ¬ s < 0) : dy L s = ((cn L s).1,(cn L s).2.1,(cn L s).2.2):=by
 unfold dy cn;rw [if_neg h,Nat.zero_add];rfl
theorem Ce {P : Int} {L : List Wk} (h : cx P L) {i : Int} (h0 : 0 <= i) (h1 : i < (L.length : Int)) : 0 <= (cn L i).2.2 /\ (cn L i).2.2 <= 7:=by
 have:=h.at (i:=i.toNat) (by omega)
 unfold cn;rw [Nat.zero_add];exact this.2.2.2
attribute [local irreducible] bJ cD dy
theorem Gh : au.Ok Tryd.prog Γ 111 Gg:=mG (d:=0) (aP It bq.nil false 0) (aj Tryd.func111 rfl rfl) (fun _ _ _ _ => rfl) (by
 intro n P L s ⟨hw,hs,hl,_⟩
 simp only [aa.ae] at hw hs hl
 replace hw:=AS hw
 by_cases h0 : s < 0
 ·have e0 : decide (s < 0) = true:=decide_eq_true h0
  have g:=Ce hw (i:=-1 - s) (by omega) (by omega)
  rw [wB h0]
  repeat' ((conv => whnf);first | apply And.intro | (intro h9;try (have h8 : (_ : Bool) = _:=h9;clear h8;revert h9;subst_vars;intro h9;exact aq h9 (by assumption))))
  all_goals try (conv => whnf)
  all_goals try first | (apply Tk.mk <;> kernel_rfl) | exact ⟨ah rfl⟩ | exact ⟨rfl⟩ | exact ⟨trivial⟩
  all_goals subst_vars
  all_goals try first | rfl | contradiction | (apply Ob.mk;first | (simp only [ag,ak,aa.ae];omega) | ((try simp only [aa.ae]);(try dsimp only);omega))
  all_goals first
   | trivial
   | exact ⟨show 0 + Int.toNat (-1 - s) < L.length by omega⟩
 have e0 : decide (s < 0) = false:=decide_eq_false h0
 rw [wA h0]
 repeat' ((conv => whnf);first | apply And.intro | (intro h9;try (have h8 : (_ : Bool) = _:=h9;clear h8;revert h9;subst_vars;intro h9;exact aq h9 (by assumption))))
 all_goals try (conv => whnf)
 all_goals try first | (apply Tk.mk <;> kernel_rfl) | exact ⟨ah rfl⟩ | exact ⟨rfl⟩ | exact ⟨trivial⟩
 all_goals subst_vars
 all_goals try first | rfl | contradiction | (apply Ob.mk;first | (simp only [ag,ak,aa.ae];omega) | ((try simp only [aa.ae]);(try dsimp only);omega))
 all_goals first
  | trivial
  | exact ⟨show 0 + Int.toNat s < L.length by omega⟩)
def Oo (x : Sp) (b : Bool) : Tm:=.bF [.agg (ai.lV kX x),.a (.v (.bool b))]
def wm : au:=M5 (fun x _ P L s => [(aa.of (0 <= x.2.1 /\ x.2.1 <= 7)),(aa.of (dY P L = true)),(aa.of (-(L.length : Int) <= s /\ s < (L.length : Int))),(aa.of (L.length <= 1000000))]) (fun x _ P L s => Oo (bw L x s) (bM L x s))
noncomputable def FT : List (Nat × au):=[(111,Gg),(72,nk)]
theorem FU : aR Tryd.prog Γ FT:=((aR.nil.cons (aj Tryd.func72 rfl rfl).fn mB).cons (aj Tryd.func111 rfl rfl).fn Gh)
def LV (id : Nat) : Option OT:=match Nat.beq id 2 with | true => some (.take 0 (.take 1 (.take 2 (.take 4 (.take 6 (.take 7 (.take 12 (.take 13 (.alt 3 (.alt 5 (.alt 8 (.take 9 (.take 10 (.take 11 (.alt 14 (.alt 15 (.alt 16 (.take 17 .fin) .fin) (.alt 16 (.alt 15 (.take 17 .fin) .fin) .fin)) (.alt 16 (.alt 14 (.alt 15 (.take 17 .fin) .fin) .fin) .fin))))) (.alt 14 (.alt 8 (.take 9 (.take 10 (.take 11 (.alt 15 (.alt 16 (.take 17 .fin) .fin) (.alt 16 (.alt 15 (.take 17 .fin) .fin) .fin))))) (.alt 15 (.alt 8 (.take 9 (.take 10 (.take 11 (.alt 16 (.take 17 .fin) .fin)))) .fin) .fin)) .fin)) (.alt 8 (.take 9 (.alt 5 (.take 10 (.take 11 (.alt 14 (.alt 15 (.alt 16 (.take 17 .fin) .fin) (.alt 16 (.alt 15 (.take 17 .fin) .fin) .fin)) (.alt 16 (.alt 14 (.alt 15 (.take 17 .fin) .fin) .fin) .fin)))) (.alt 14 (.alt 5 (.take 10 (.take 11 (.alt 15 (.alt 16 (.take 17 .fin) .fin) (.alt 16 (.alt 15 (.take 17 .fin) .fin) .fin)))) (.alt 15 (.alt 5 (.take 10 (.take 11 (.alt 16 (.take 17 .fin) .fin))) .fin) .fin)) .fin))) (.alt 14 (.alt 5 (.alt 8 (.take 9 (.take 10 (.take 11 (.alt 15 (.alt 16 (.take 17 .fin) .fin) (.alt 16 (.alt 15 (.take 17 .fin) .fin) .fin))))) (.alt 15 (.alt 8 (.take 9 (.take 10 (.take 11 (.alt 16 (.take 17 .fin) .fin)))) .fin) .fin)) (.alt 8 (.take 9 (.alt 5 (.take 10 (.take 11 (.alt 15 (.alt 16 (.take 17 .fin) .fin) (.alt 16 (.alt 15 (.take 17 .fin) .fin) .fin)))) (.alt 15 (.alt 5 (.take 10 (.take 11 (.alt 16 (.take 17 .fin) .fin))) .fin) .fin))) (.alt 15 (.alt 5 (.alt 8 (.take 9 (.take 10 (.take 11 (.alt 16 (.take 17 .fin) .fin)))) .fin) (.alt 8 (.take 9 (.alt 5 (.take 10 (.take 11 (.alt 16 (.take 17 .fin) .fin))) .fin)) .fin)) .fin))) .fin))) (.alt 8 (.take 9 (.alt 3 (.alt 5 (.take 10 (.take 11 (.alt 14 (.alt 15 (.alt 16 (.take 17 .fin) .fin) (.alt 16 (.alt 15 (.take 17 .fin) .fin) .fin)) (.alt 16 (.alt 14 (.alt 15 (.take 17 .fin) .fin) .fin) .fin)))) (.alt 14 (.alt 5 (.take 10 (.take 11 (.alt 15 (.alt 16 (.take 17 .fin) .fin) (.alt 16 (.alt 15 (.take 17 .fin) .fin) .fin)))) (.alt 15 (.alt 5 (.take 10 (.take 11 (.alt 16 (.take 17 .fin) .fin))) .fin) .fin)) .fin)) (.alt 14 (.alt 3 (.alt 5 (.take 10 (.take 11 (.alt 15 (.alt 16 (.take 17 .fin) .fin) (.alt 16 (.alt 15 (.take 17 .fin) .fin) .fin)))) (.alt 15 (.alt 5 (.take 10 (.take 11 (.alt 16 (.take 17 .fin) .fin))) .fin) .fin)) (.alt 15 (.alt 3 (.alt 5 (.take 10 (.take 11 (.alt 16 (.take 17 .fin) .fin))) .fin) .fin) .fin)) .fin))) (.alt 14 (.alt 3 (.alt 5 (.alt 8 (.take 9 (.take 10 (.take 11 (.alt 15 (.alt 16 (.take 17 .fin) .fin) (.alt 16 (.alt 15 (.take 17 .fin) .fin) .fin))))) (.alt 15 (.alt 8 (.take 9 (.take 10 (.take 11 (.alt 16 (.take 17 .fin) .fin)))) .fin) .fin)) (.alt 8 (.take 9 (.alt 5 (.take 10 (.take 11 (.alt 15 (.alt 16 (.take 17 .fin) .fin) (.alt 16 (.alt 15 (.take 17 .fin) .fin) .fin)))) (.alt 15 (.alt 5 (.take 10 (.take 11 (.alt 16 (.take 17 .fin) .fin))) .fin) .fin))) (.alt 15 (.alt 5 (.alt 8 (.take 9 (.take 10 (.take 11 (.alt 16 (.take 17 .fin) .fin)))) .fin) (.alt 8 (.take 9 (.alt 5 (.take 10 (.take 11 (.alt 16 (.take 17 .fin) .fin))) .fin)) .fin)) .fin))) (.alt 8 (.take 9 (.alt 3 (.alt 5 (.take 10 (.take 11 (.alt 15 (.alt 16 (.take 17 .fin) .fin) (.alt 16 (.alt 15 (.take 17 .fin) .fin) .fin)))) (.alt 15 (.alt 5 (.take 10 (.take 11 (.alt 16 (.take 17 .fin) .fin))) .fin) .fin)) (.alt 15 (.alt 3 (.alt 5 (.take 10 (.take 11 (.alt 16 (.take 17 .fin) .fin))) .fin) .fin) .fin))) (.alt 15 (.alt 3 (.alt 5 (.alt 8 (.take 9 (.take 10 (.take 11 (.alt 16 (.take 17 .fin) .fin)))) .fin) (.alt 8 (.take 9 (.alt 5 (.take 10 (.take 11 (.alt 16 (.take 17 .fin) .fin))) .fin)) .fin)) (.alt 8 (.take 9 (.alt 3 (.alt 5 (.take 10 (.take 11 (.alt 16 (.take 17 .fin) .fin))) .fin) .fin)) .fin)) .fin))) .fin))))))))))) | false => (none)
noncomputable def Lb : Env:={ jV.env FT [] false 0 with tree:=LV }
theorem EO : aL Tryd.prog Γ Lb:=(aP FU bq.nil false 0).vU _
theorem uB : au.Ok Tryd.prog Γ 91 wm:=Lr (d:=0) EO (aj Tryd.func91 rfl rfl) (fun _ _ _ _ _ => rfl) (by
 rintro ⟨a,t,m⟩ n P L s ⟨hx,hw,hs,hl,_⟩
 simp only [aa.ae] at hx hw hs hl
 have he:=r8 (AS hw) hs
 have g : 0 <= (dy L s).2.2 /\ (dy L s).2.2 <= 7:=he.2.2
 repeat' ((conv => whnf);first | apply And.intro | (intro h9;try (have h8 : (_ : Bool) = _:=h9;clear h8;revert h9;subst_vars;intro h9;exact aq h9 (by assumption))))
 all_goals try (conv => whnf)
 all_goals try first | (apply Tk.mk <;> kernel_rfl) | exact ⟨ah rfl⟩ | exact ⟨rfl⟩ | exact ⟨trivial⟩
 all_goals subst_vars
 all_goals try first | rfl | contradiction | (apply Ob.mk;first | (simp only [ag,ak,aa.ae];omega) | ((try simp only [aa.ae]);(try dsimp only);omega))
 all_goals first
  | trivial
  | exact ⟨hw⟩
  | exact ⟨hs⟩
  | exact ⟨hl⟩
  | exact ⟨g⟩)
end Go.Proofs.YthejmgnkenokpaaDoor
end
section
namespace Go.Proofs.YthejmgnkenokpaaDoor
open Go Go.Sy Go.bK
variable {Γ : bn}
noncomputable def JX : List (Nat × au):=[(34,rY),(35,zF)]
theorem Ip : aR Tryd.prog Γ JX:=((aR.nil.cons (aj Tryd.func35 rfl rfl).fn xu).cons (aj Tryd.func34 rfl rfl).fn oR)
def Oe (id : Nat) : Option (List Nat × OT):=match Nat.beq id 5 with | true => some ([3],(.take 0 (.take 1 (.take 2 (.take 3 (.take 4 (.take 5 (.take 6 (.take 7 (.take 8 (.take 9 (.take 10 (.take 11 (.take 12 (.take 13 (.take 14 (.take 15 (.take 16 (.take 17 (.take 18 (.take 19 (.alt 20 (.take 21 .fin) .fin)))))))))))))))))))))) | false => (match Nat.beq id 3 with | true => some ([3],(.take 0 (.take 1 (.take 2 (.take 3 (.take 4 (.take 5 (.take 6 (.take 7 (.take 8 (.take 9 (.take 10 (.take 11 (.take 12 (.take 13 (.take 14 (.take 15 (.take 16 (.take 17 (.take 18 (.alt 19 (.take 20 .fin) .fin))))))))))))))))))))) | false => (none))
noncomputable def My : Env:={ jV.env JX [] false 0 with str:=Oe }
theorem Gx : aL Tryd.prog Γ My:=(aP Ip bq.nil false 0).strs _
def Gd : au:=MQ (fun _ P L x s => [(aa.of (0 <= x.2.1 /\ x.2.1 <= 7)),(aa.of (dY P L = true)),(aa.of (-(L.length : Int) <= s /\ s < (L.length : Int))),(aa.of (L.length <= 1000000))]) (fun _ P L x s => Oo (bw L x s) (bM L x s))
theorem Lx {L : List Wk} {s : Int} (h : ¬ s < 0) (x : Sp) : bw L x s = ((cn L s).2.1,bJ x.2.1 (cn L s).2.2,!x.2.2):=by unfold bw;rw [wA h]
theorem Ly {L : List Wk} {s : Int} (h : s < 0) (x : Sp) : bw L x s = ((cn L (-1 - s)).1,bJ x.2.1 (cD (cn L (-1 - s)).2.2),!x.2.2):=by unfold bw;rw [wB h]
theorem Lo {L : List Wk} {s : Int} (h : ¬ s < 0) (x : Sp) : bM L x s = ((cn L s).1 == x.1):=by unfold bM;rw [wA h]
theorem Lp {L : List Wk} {s : Int} (h : s < 0) (x : Sp) : bM L x s = ((cn L (-1 - s)).2.1 == x.1):=by unfold bM;rw [wB h]
attribute [local irreducible] bJ cD dy bw bM
theorem Ge : au.Ok Tryd.prog Γ 78 Gd:=Lm (d:=0) Gx (aj Tryd.func78 rfl rfl) (fun _ _ _ _ _ => rfl) (by
 rintro n P L ⟨a,t,m⟩ s ⟨hx,hw,hs,hl,_⟩
 simp only [aa.ae] at hx hw hs hl
 replace hw:=AS hw
 by_cases h0 : s < 0
 ·have e0 : decide (s >= 0) = false:=decide_eq_false (by omega)
  have g:=Ce hw (i:=-1 - s) (by omega) (by omega)
  have g2 : 0 <= cD (cn L (-1 - s)).2.2 /\ cD (cn L (-1 - s)).2.2 <= 7:=abD g
  rw [Ly h0,Lp h0]
  repeat' ((conv => whnf);first | apply And.intro | (intro h9;try (have h8 : (_ : Bool) = _:=h9;clear h8;revert h9;subst_vars;intro h9;exact aq h9 (by assumption))))
  all_goals try (conv => whnf)
  all_goals try first | (apply Tk.mk <;> kernel_rfl) | exact ⟨ah rfl⟩ | exact ⟨rfl⟩ | exact ⟨trivial⟩
  all_goals subst_vars
  all_goals try first | rfl | contradiction | (apply Ob.mk;first | (simp only [ag,ak,aa.ae];omega) | ((try simp only [aa.ae]);(try dsimp only);omega))
  all_goals first
   | trivial
   | exact ⟨show 0 + Int.toNat (-1 - s) < L.length by omega⟩
 have e0 : decide (s >= 0) = true:=decide_eq_true (by omega)
 have g:=Ce hw (i:=s) (by omega) (by omega)
 rw [Lx h0,Lo h0]
 repeat' ((conv => whnf);first | apply And.intro | (intro h9;try (have h8 : (_ : Bool) = _:=h9;clear h8;revert h9;subst_vars;intro h9;exact aq h9 (by assumption))))
 all_goals try (conv => whnf)
 all_goals try first | (apply Tk.mk <;> kernel_rfl) | exact ⟨ah rfl⟩ | exact ⟨rfl⟩ | exact ⟨trivial⟩
 all_goals subst_vars
 all_goals try first | rfl | contradiction | (apply Ob.mk;first | (simp only [ag,ak,aa.ae];omega) | ((try simp only [aa.ae]);(try dsimp only);omega))
 all_goals first
  | trivial
  | exact ⟨show 0 + Int.toNat s < L.length by omega⟩)
end Go.Proofs.YthejmgnkenokpaaDoor
end
section
namespace Go.Proofs.YthejmgnkenokpaaDoor
open Go Go.Sy Go.bK
variable {Γ : bn}
def EV (D : Int -> Int -> List Wk -> Int -> List Int -> List aa) (F : Int -> Int -> List Wk -> Int -> List Int -> Tm) : au:=.fn fun args rg => match args with
 | [.agg [.v (.int .i64 n0),.v (.int .i64 n1),x0],.a (.v (.int .i64 n2)),.a x1] => (match ca 60 kW rg x0,ca 3 kI rg x1 with | some (q0,L0),some (q1,L1) => some (q0 ++ (q1 ++ (D n0 n1 L0 n2 L1)),F n0 n1 L0 n2 L1) | _,_ => none)
 | _ => none
theorem sb {f : FuncId} {b : Body} {E : Env} {d : Nat} (hP : aL Tryd.prog Γ E) (hb : bQ Tryd.prog f b) {D : Int -> Int -> List Wk -> Int -> List Int -> List aa} {F : Int -> Int -> List Wk -> Int -> List Int -> Tm} (hp : ∀ (n0 : Int) (n1 : Int) (L0 : List Wk) (n2 : Int) (L1 : List Int),(F n0 n1 L0 n2 L1).plain = true)
  (H : ∀ (n0 : Int) (n1 : Int) (L0 : List Wk) (n2 : Int) (L1 : List Int),bW (D n0 n1 L0 n2 L1) -> cQ E d b [.agg [vI n0,vI n1,.sl 0 [] 0 L0.length],.a (vI n2),.a (.sl 1 [] 0 L1.length)] [.arr 60 kW L0 false false,.arr 3 kI L1 false false] (fun x _ => iL x (F n0 n1 L0 n2 L1))) : au.Ok Tryd.prog Γ f (EV D F):=au.er (d:=d) hP hb (by
 intro args rg q t hF hq
 split at hF
 next n0 n1 x0 n2 x1 =>
  split at hF
  next q0 L0 q1 L1 hx0 cO =>
   obtain ⟨rfl,rfl⟩:=Prod.mk.inj (Option.some.inj hF);clear hF
   rw [aH,aH] at hq
   obtain ⟨dm,gk,hD⟩:=hq
   obtain ⟨e0,Vn⟩:=bP (by simp [kW]) hx0 dm
   obtain ⟨e1,iO⟩:=bP (by simp [kI]) cO gk
   obtain ⟨p0,r0⟩:=Vn [e0,e1] 0 2 rfl (by omega)
   obtain ⟨p1,r1⟩:=iO [e0,e1] 1 2 rfl (by omega)
   refine ⟨hp _ _ _ _ _,[e0,e1],[.agg [vI n0,vI n1,.sl 0 [] 0 L0.length],.a (vI n2),.a (.sl 1 [] 0 L1.length)],[.arr 60 kW L0 false false,.arr 3 kI L1 false false],⟨⟨⟨rfl,rfl,p0,trivial⟩,rfl,p1,trivial⟩,fun r g hg => ?_⟩,H _ _ _ _ _ hD⟩
   match r,hg with
   | 0,hg => obtain rfl:=Option.some.inj hg;exact r0
   | 1,hg => obtain rfl:=Option.some.inj hg;exact r1
  next => cases hF
 next => cases hF)
abbrev av (w : List Int) (i : Int) : Int:=@Ar.get ⟨3,kI,w⟩ (0 + Int.toNat i)
theorem dP (w : List Int) (i : Nat) : av w i = gi w i:=by unfold av gi;rw [Nat.zero_add,Int.toNat_natCast];rfl
def oT : au:=EV (fun _ P L _ w => [(aa.of (dY P L = true)),(aa.of (bN L w = true)),(aa.of (L.length <= 1000000)),(aa.of (w.length <= 1000000))]) (fun _ _ L p w => Oo (bj L (p,0,false) w).1 (bj L (p,0,false) w).2)
noncomputable def KV : List (Nat × au):=[(91,wm)]
theorem Ek : aR Tryd.prog Γ KV:=(aR.nil.cons (aj Tryd.func91 rfl rfl).fn uB)
attribute [local irreducible] bM bw
theorem sR : au.Ok Tryd.prog Γ 77 oT:=sb (d:=0) (aP Ek bq.nil false 0) (aj Tryd.func77 rfl rfl) (fun _ _ _ _ _ => rfl) (by
 intro n P L p w ⟨hw,hs,hl,hv,_⟩
 simp only [aa.ae] at hw hs hl hv
 have hst:=yw hs
 repeat' ((conv => whnf);first | apply And.intro | (intro h9;try (have h8 : (_ : Bool) = _:=h9;clear h8;revert h9;subst_vars;intro h9;exact aq h9 (by assumption))))
 all_goals try (conv => whnf)
 all_goals try first | (apply Tk.mk <;> kernel_rfl) | exact ⟨ah rfl⟩ | exact ⟨rfl⟩ | exact ⟨trivial⟩
 all_goals subst_vars
 all_goals try first | rfl | contradiction | (apply Ob.mk;first | (simp only [ag,ak,aa.ae];omega) | ((try simp only [aa.ae]);(try dsimp only);omega))
 refine ⟨Nat × Sp,fun i => i.1 <= w.length /\ bj L (p,0,false) w = bj L i.2 (w.drop i.1) /\ (0 <= i.2.2.1 /\ i.2.2.1 <= 7),fun i => ⟨aI 34 [3,6,8,15,16,17] [.a (.p 2 [] 0 0),.a (.p 3 [] 0 0),.a (.p 4 [] 0 0),.a (.sl 1 [] 0 w.length),.a (vI w.length),.a (vI i.1)],[],[.arr 60 kW L false false,.arr 3 kI w false false,.box true [vI n,vI P,.sl 0 [] 0 L.length],.box true [vI 0,vI 0,.v (.bool false)],.box true [vI i.2.1,vI i.2.2.1,.v (.bool i.2.2.2)]]⟩,fun i => w.length - i.1,(0,(p,0,false)),[],⟨Nat.zero_le _,rfl,by show (0:Int) <= 0;omega,by show (0:Int) <= 7;omega⟩,?_,?_⟩
 ·repeat' ((conv => whnf);(first | apply And.intro | intro _))
  all_goals first | rfl | trivial | exact ah rfl | exact aS ‹_› rfl | exact aT ‹_› rfl | ((repeat' first | rfl | constructor);done)
 rintro ⟨i,a,t,m⟩ ⟨hi,hf,hx⟩
 dsimp only at hi hf hx
 by_cases hi1 : i < w.length
 ·have p0 : decide ((i : Int) < (w.length : Int)) = true:=decide_eq_true (by omega)
  have ge : av w i = gi w i:=dP w i
  have gs : -(L.length : Int) <= av w i /\ av w i < (L.length : Int):=by rw [ge];exact hst _ (qL hi1)
  have gn:=(mu hw (x:=(a,t,m)) hx (show bS L (gi w i) from ge ▸ gs)).1
  cases hb : bM L (a,t,m) (av w i)
  ·have e1 : (!bM L (a,t,m) (av w i)) = true:=by rw [hb];rfl
   rw [hf,GX hi1 (ge ▸ hb)]
   repeat' ((conv => whnf);first | apply And.intro | (intro h9;try (have h8 : (_ : Bool) = _:=h9;clear h8;revert h9;subst_vars;intro h9;exact aq h9 (by assumption))))
   all_goals try (conv => whnf)
   all_goals try first | (apply Tk.mk <;> kernel_rfl) | exact ⟨ah rfl⟩ | exact ⟨rfl⟩ | exact ⟨trivial⟩
   all_goals subst_vars
   all_goals try first | rfl | contradiction | (apply Ob.mk;first | (simp only [ag,ak,aa.ae];omega) | ((try simp only [aa.ae]);(try dsimp only);omega))
   all_goals first
    | trivial
    | exact ⟨hw⟩
    | exact ⟨hl⟩
    | exact ⟨gs⟩
    | exact ⟨show 0 + Int.toNat (i : Int) < w.length by omega⟩
  have e1 : (!bM L (a,t,m) (av w i)) = false:=by rw [hb];rfl
  have jH:=hf.trans (Dy hi1 (ge ▸ hb))
  repeat' ((conv => whnf);first | apply And.intro | (intro h9;try (have h8 : (_ : Bool) = _:=h9;clear h8;revert h9;subst_vars;intro h9;exact aq h9 (by assumption))))
  all_goals try (conv => whnf)
  all_goals try first | (apply Tk.mk <;> kernel_rfl) | exact ⟨ah rfl⟩ | exact ⟨rfl⟩ | exact ⟨trivial⟩
  all_goals subst_vars
  all_goals try first | rfl | contradiction | (apply Ob.mk;first | (simp only [ag,ak,aa.ae];omega) | ((try simp only [aa.ae]);(try dsimp only);omega))
  all_goals try first
   | exact ⟨hw⟩
   | exact ⟨hl⟩
   | exact ⟨gs⟩
   | exact ⟨show 0 + Int.toNat (i : Int) < w.length by omega⟩
  refine ⟨(i + 1,bw L (a,t,m) (av w i)),[],⟨hi1,by rw [ge];exact jH,by rw [ge];exact gn⟩,?_,by show w.length - (i + 1) < w.length - i;omega⟩
  repeat' ((conv => whnf);(first | apply And.intro | intro _))
  all_goals first | rfl | trivial | exact ah rfl | exact aS ‹_› rfl | exact aT ‹_› rfl | ((repeat' first | rfl | constructor);done)
 have p0 : decide ((i : Int) < (w.length : Int)) = false:=decide_eq_false (by omega)
 rw [hf,Dw (by omega)]
 repeat' ((conv => whnf);first | apply And.intro | (intro h9;try (have h8 : (_ : Bool) = _:=h9;clear h8;revert h9;subst_vars;intro h9;exact aq h9 (by assumption))))
 all_goals try (conv => whnf)
 all_goals try first | (apply Tk.mk <;> kernel_rfl) | exact ⟨ah rfl⟩ | exact ⟨rfl⟩ | exact ⟨trivial⟩
 all_goals subst_vars
 all_goals try first | rfl | contradiction | (apply Ob.mk;first | (simp only [ag,ak,aa.ae];omega) | ((try simp only [aa.ae]);(try dsimp only);omega))
 all_goals first
  | trivial)
end Go.Proofs.YthejmgnkenokpaaDoor
end
section
namespace Go.Proofs.YthejmgnkenokpaaDoor
open Go Go.Sy Go.bK
variable {Γ : bn}
attribute [local irreducible] bM bw
end Go.Proofs.YthejmgnkenokpaaDoor
end
section
namespace Go.Proofs.YthejmgnkenokpaaDoor
open Go Go.Sy Go.bK
variable {Γ : bn}
def Px (D : List Int -> List aa) (R : List Int -> cM) : au:=.new fun args rg K => match args with
 | [.a x0] => (match ca 3 kI rg x0 with | some (q0,L0) => bk false (q0 ++ (D L0)) (K (R L0)) | _ => False)
 | _ => False
theorem MG {f : FuncId} {b : Body} {E : Env} {d : Nat} (hP : aL Tryd.prog Γ E) (hb : bQ Tryd.prog f b) {D : List Int -> List aa} {R : List Int -> cM}
  (H : ∀ (L0 : List Int) (K : cM -> Prop),bW (D L0) -> K (R L0) -> cQ E d b [.a (.sl 0 [] 0 L0.length)] [.arr 3 kI L0 false false] (bu K)) : au.Ok Tryd.prog Γ f (Px D R):=au.fM (d:=d) hP hb (by
 intro args rg K hF
 split at hF
 next x0 =>
  split at hF
  next q0 L0 hx0 =>
   rw [aV,aH] at hF
   obtain ⟨⟨dm,hD⟩,hK⟩:=hF
   obtain ⟨e0,Vn⟩:=bP (by simp [kI]) hx0 dm
   obtain ⟨p0,r0⟩:=Vn [e0] 0 1 rfl (by omega)
   refine ⟨[e0],[.a (.sl 0 [] 0 L0.length)],[.arr 3 kI L0 false false],⟨⟨p0,trivial⟩,fun r g hg => ?_⟩,bu K,H _ K hD hK,fun x st h => h⟩
   match r,hg with
   | 0,hg => obtain rfl:=Option.some.inj hg;exact r0
  next => exact hF.elim
 next => exact hF.elim)
def Py (D : List Wk -> List aa) (R : List Wk -> cM) : au:=.new fun args rg K => match args with
 | [.a x0] => (match ca 60 kW rg x0 with | some (q0,L0) => bk false (q0 ++ (D L0)) (K (R L0)) | _ => False)
 | _ => False
theorem MH {f : FuncId} {b : Body} {E : Env} {d : Nat} (hP : aL Tryd.prog Γ E) (hb : bQ Tryd.prog f b) {D : List Wk -> List aa} {R : List Wk -> cM}
  (H : ∀ (L0 : List Wk) (K : cM -> Prop),bW (D L0) -> K (R L0) -> cQ E d b [.a (.sl 0 [] 0 L0.length)] [.arr 60 kW L0 false false] (bu K)) : au.Ok Tryd.prog Γ f (Py D R):=au.fM (d:=d) hP hb (by
 intro args rg K hF
 split at hF
 next x0 =>
  split at hF
  next q0 L0 hx0 =>
   rw [aV,aH] at hF
   obtain ⟨⟨dm,hD⟩,hK⟩:=hF
   obtain ⟨e0,Vn⟩:=bP (by simp [kW]) hx0 dm
   obtain ⟨p0,r0⟩:=Vn [e0] 0 1 rfl (by omega)
   refine ⟨[e0],[.a (.sl 0 [] 0 L0.length)],[.arr 60 kW L0 false false],⟨⟨p0,trivial⟩,fun r g hg => ?_⟩,bu K,H _ K hD hK,fun x st h => h⟩
   match r,hg with
   | 0,hg => obtain rfl:=Option.some.inj hg;exact r0
  next => exact hF.elim
 next => exact hF.elim)
def Am (D : Int -> Int -> List Wk -> Wk -> List aa) (R : Int -> Int -> List Wk -> Wk -> cM) : au:=.new fun args rg K => match args with
 | [.agg [.v (.int .i64 n0),.v (.int .i64 n1),x0],.agg l0] => (match ca 60 kW rg x0,eu kW l0 with | some (q0,L0),some v0 => bk false (q0 ++ (D n0 n1 L0 v0)) (K (R n0 n1 L0 v0)) | _,_ => False)
 | _ => False
theorem Dt {f : FuncId} {b : Body} {E : Env} {d : Nat} (hP : aL Tryd.prog Γ E) (hb : bQ Tryd.prog f b) {D : Int -> Int -> List Wk -> Wk -> List aa} {R : Int -> Int -> List Wk -> Wk -> cM}
  (H : ∀ (n0 : Int) (n1 : Int) (L0 : List Wk) (v0 : Wk) (K : cM -> Prop),bW (D n0 n1 L0 v0) -> K (R n0 n1 L0 v0) -> cQ E d b [.agg [vI n0,vI n1,.sl 0 [] 0 L0.length],.agg (ai.lV kW v0)] [.arr 60 kW L0 false false] (bu K)) : au.Ok Tryd.prog Γ f (Am D R):=au.fM (d:=d) hP hb (by
 intro args rg K hF
 split at hF
 next n0 n1 x0 l0 =>
  split at hF
  next q0 L0 v0 hx0 hc0 =>
   rw [aV,aH] at hF
   obtain ⟨⟨dm,hD⟩,hK⟩:=hF
   obtain ⟨e0,Vn⟩:=bP (by simp [kW]) hx0 dm
   obtain ⟨p0,r0⟩:=Vn [e0] 0 1 rfl (by omega)
   refine ⟨[e0],[.agg [vI n0,vI n1,.sl 0 [] 0 L0.length],.agg (ai.lV kW v0)],[.arr 60 kW L0 false false],⟨⟨⟨rfl,rfl,p0,trivial⟩,oC hc0,trivial⟩,fun r g hg => ?_⟩,bu K,H _ _ _ _ K hD hK,fun x st h => h⟩
   match r,hg with
   | 0,hg => obtain rfl:=Option.some.inj hg;exact r0
  next => exact hF.elim
 next => exact hF.elim)
def zO : au:=Px (fun L => [(aa.of (L.length <= 1000000))]) (fun L => ⟨[.arr 3 kI L true true],.a (.sl 0 [] 0 L.length)⟩)
theorem CD : au.Ok Tryd.prog Γ 92 zO:=MG (d:=0) (aP aR.nil bq.nil false 0) (aj Tryd.func92 rfl rfl) (by
 intro L K ⟨hlen,_⟩ hK
 simp only [aa.ae] at hlen
 repeat' ((conv => whnf);(first | apply And.intro | intro _))
 all_goals try (conv => whnf)
 ·have h0 : L = []:=by
   rcases Nat.eq_zero_or_pos L.length with h | h
   ·exact List.eq_nil_of_length_eq_zero h
   ·rename_i h1 h2;rw [h1 h] at h2;cases h2
  subst h0
  exact bu.aC 3 kI (by simp) (.base ⟨_,[1],hK,⟨rfl,rfl,by simp,trivial⟩,rfl,rfl,rfl,rfl,rfl⟩)
 ·exact ⟨Nat.le_of_eq (Nat.zero_add _)⟩
 ·exact ⟨show L.length * 1 <= 1099511627776 by omega⟩
 ·rename_i ys hys
  obtain rfl : L = ys:=by rw [<- hys];exact List.take_length.symm
  exact .base ⟨_,[1],hK,⟨rfl,rfl,by simp,trivial⟩,rfl,rfl,rfl,rfl,rfl⟩)
def zP : au:=Py (fun L => [(aa.of (L.length <= 1000000))]) (fun L => ⟨[.arr 60 kW L true true],.a (.sl 0 [] 0 L.length)⟩)
theorem CE : au.Ok Tryd.prog Γ 98 zP:=MH (d:=0) (aP aR.nil bq.nil false 0) (aj Tryd.func98 rfl rfl) (by
 intro L K ⟨hlen,_⟩ hK
 simp only [aa.ae] at hlen
 repeat' ((conv => whnf);(first | apply And.intro | intro _))
 all_goals try (conv => whnf)
 ·have h0 : L = []:=by
   rcases Nat.eq_zero_or_pos L.length with h | h
   ·exact List.eq_nil_of_length_eq_zero h
   ·rename_i h1 h2;rw [h1 h] at h2;cases h2
  subst h0
  exact bu.aC 60 kW (by simp) (.base ⟨_,[1],hK,⟨rfl,rfl,by simp,trivial⟩,rfl,rfl,rfl,rfl,rfl⟩)
 ·exact ⟨Nat.le_of_eq (Nat.zero_add _)⟩
 ·exact ⟨show L.length * 3 <= 1099511627776 by omega⟩
 ·rename_i ys hys
  obtain rfl : L = ys:=by rw [<- hys];exact List.take_length.symm
  exact .base ⟨_,[1],hK,⟨rfl,rfl,by simp,trivial⟩,rfl,rfl,rfl,rfl,rfl⟩)
def Gk : au:=Am (fun _ _ L _ => [(aa.of (L.length <= 900000))]) (fun n P L w => ⟨[.arr 60 kW (L ++ [w]) true true],.agg [vI n,vI P,.sl 0 [] 0 (L.length + 1)]⟩)
def Nb (id : Nat) : Option (Nat × OT):=match Nat.beq id 1 with | true => some (5,.take 0 (.take 1 (.take 3 (.alt 2 (.alt 4 .fin .fin) (.alt 4 (.alt 2 .fin .fin) .fin))))) | false => none
noncomputable def JY : List (Nat × au):=[(98,zP)]
theorem Ix : aR Tryd.prog Γ JY:=(aR.nil.cons (aj Tryd.func98 rfl rfl).fn CE)
noncomputable def Mz : Env:={ jV.env JY [] false 0 with Kr:=Nb }
theorem Gz : aL Tryd.prog Γ Mz:=(aP Ix bq.nil false 0).NA _
theorem Gl : au.Ok Tryd.prog Γ 75 Gk:=Dt (d:=0) Gz (aj Tryd.func75 rfl rfl) (by
 rintro n P L ⟨a,b,t⟩ K ⟨hl,_⟩ hK
 simp only [aa.ae] at hl
 have jJ : L.length + 1 = (L ++ [(a,b,t)]).length:=by rw [List.length_append,List.length_singleton]
 have j2 : (L ++ [(a,b,t)]).length <= 1000000:=by rw [List.length_append,List.length_singleton];omega
 repeat' ((conv => whnf);first | apply And.intro | (intro h9;try (have h8 : (_ : Bool) = _:=h9;clear h8;revert h9;subst_vars;intro h9;exact aq h9 (by assumption))))
 all_goals try (conv => whnf)
 all_goals try first | (apply Tk.mk <;> kernel_rfl) | exact ⟨ah rfl⟩ | exact ⟨rfl⟩ | exact ⟨trivial⟩
 all_goals subst_vars
 all_goals try first | rfl | contradiction | (apply Ob.mk;first | (simp only [ag,ak,aa.ae];omega) | ((try simp only [aa.ae]);(try dsimp only);omega))
 all_goals first
  | trivial
  | exact ⟨show L.length <= 1000000 by omega⟩
  | exact ⟨Nat.zero_add _⟩
  | exact ⟨show (L.length + 1) * 3 <= 1099511627776 by omega⟩
  | (refine bu.base ⟨_,[4],hK,⟨rfl,rfl,by simp,trivial⟩,rfl,?_⟩;(repeat' ((conv => whnf);(first | apply And.intro | intro _)));all_goals first | rfl | trivial)
  | (refine bu.base ⟨_,[5],hK,⟨rfl,rfl,by simp,trivial⟩,rfl,?_⟩;(repeat' ((conv => whnf);(first | apply And.intro | intro _)));all_goals first | rfl | trivial))
def wC (e : Int) : cM:=⟨[],.bF [.agg [vI 0,vI 0,.v (.slice none 0 0)],.a (vI e)]⟩
def nO (n P : Int) (L : List Wk) (w : Wk) : cM:=match bD n P L == 0,bD n P (L ++ [w]) == 0 with
 | true,true => ⟨[.arr 60 kW (L ++ [w]) true true],.bF [.agg [vI n,vI P,.sl 0 [] 0 (L.length + 1)],.a (vI 0)]⟩
 | true,false => wC (bD n P (L ++ [w]))
 | false,_ => wC (bD n P L)
def Mp : au:=Am (fun _ _ L _ => [(aa.of (L.length <= 900000))]) nO
noncomputable def OO : List (Nat × au):=[(74,rZ),(75,Gk)]
theorem Ir : aR Tryd.prog Γ OO:=((aR.nil.cons (aj Tryd.func75 rfl rfl).fn Gl).cons (aj Tryd.func74 rfl rfl).fn oS)
theorem Gf : au.Ok Tryd.prog Γ 36 Mp:=Dt (d:=0) (aP Ir bq.nil false 0) (aj Tryd.func36 rfl rfl) (by
 rintro n P L ⟨a,b,t⟩ K ⟨hl,_⟩ hK
 simp only [aa.ae] at hl
 have jJ : L.length + 1 = (L ++ [(a,b,t)]).length:=by rw [List.length_append,List.length_singleton]
 have j2 : (L ++ [(a,b,t)]).length <= 1000000:=by rw [List.length_append,List.length_singleton];omega
 cases h0 : bD n P L == 0
 ·have e0 : (bD n P L != 0) = true:=by unfold bne;rw [h0];rfl
  rw [show nO n P L (a,b,t) = wC (bD n P L) by unfold nO;rw [h0]] at hK
  repeat' ((conv => whnf);first | apply And.intro | (intro h9;try (have h8 : (_ : Bool) = _:=h9;clear h8;revert h9;subst_vars;intro h9;exact aq h9 (by assumption))))
  all_goals try (conv => whnf)
  all_goals try first | (apply Tk.mk <;> kernel_rfl) | exact ⟨ah rfl⟩ | exact ⟨rfl⟩ | exact ⟨trivial⟩
  all_goals subst_vars
  all_goals try first | rfl | contradiction | (apply Ob.mk;first | (simp only [ag,ak,aa.ae];omega) | ((try simp only [aa.ae]);(try dsimp only);omega))
  all_goals first
   | exact ⟨show L.length <= 1000000 by omega⟩
   | (refine bu.base ⟨_,[],hK,trivial,rfl,?_⟩;(repeat' ((conv => whnf);(first | apply And.intro | intro _)));all_goals first | rfl | trivial)
 have e0 : (bD n P L != 0) = false:=by unfold bne;rw [h0];rfl
 cases h1 : bD n P (L ++ [(a,b,t)]) == 0
 ·have e1 : (bD n P (L ++ [(a,b,t)]) != 0) = true:=by unfold bne;rw [h1];rfl
  rw [show nO n P L (a,b,t) = wC (bD n P (L ++ [(a,b,t)])) by unfold nO;rw [h0,h1]] at hK
  repeat' ((conv => whnf);first | apply And.intro | (intro h9;try (have h8 : (_ : Bool) = _:=h9;clear h8;revert h9;subst_vars;intro h9;exact aq h9 (by assumption))))
  all_goals try (conv => whnf)
  all_goals try first | (apply Tk.mk <;> kernel_rfl) | exact ⟨ah rfl⟩ | exact ⟨rfl⟩ | exact ⟨trivial⟩
  all_goals subst_vars
  all_goals try first | rfl | contradiction | (apply Ob.mk;first | (simp only [ag,ak,aa.ae];omega) | ((try simp only [aa.ae]);(try dsimp only);omega))
  all_goals first
   | exact ⟨hl⟩
   | exact ⟨jJ⟩
   | exact ⟨show L.length <= 1000000 by omega⟩
   | exact ⟨j2⟩
   | (refine bu.base ⟨_,[],hK,trivial,rfl,?_⟩;(repeat' ((conv => whnf);(first | apply And.intro | intro _)));all_goals first | rfl | trivial)
 have e1 : (bD n P (L ++ [(a,b,t)]) != 0) = false:=by unfold bne;rw [h1];rfl
 have e2 : bD n P (L ++ [(a,b,t)]) = 0:=eq_of_beq h1
 rw [show nO n P L (a,b,t) = ⟨[.arr 60 kW (L ++ [(a,b,t)]) true true],.bF [.agg [vI n,vI P,.sl 0 [] 0 (L.length + 1)],.a (vI 0)]⟩ by unfold nO;rw [h0,h1]] at hK
 repeat' ((conv => whnf);first | apply And.intro | (intro h9;try (have h8 : (_ : Bool) = _:=h9;clear h8;revert h9;subst_vars;intro h9;exact aq h9 (by assumption))))
 all_goals try (conv => whnf)
 all_goals try first | (apply Tk.mk <;> kernel_rfl) | exact ⟨ah rfl⟩ | exact ⟨rfl⟩ | exact ⟨trivial⟩
 all_goals subst_vars
 all_goals try first | rfl | contradiction | (apply Ob.mk;first | (simp only [ag,ak,aa.ae];omega) | ((try simp only [aa.ae]);(try dsimp only);omega))
 all_goals first
  | exact ⟨hl⟩
  | exact ⟨jJ⟩
  | exact ⟨show L.length <= 1000000 by omega⟩
  | exact ⟨j2⟩
  | (refine bu.base ⟨_,[4],hK,⟨rfl,rfl,by simp,trivial⟩,rfl,?_⟩;(repeat' ((conv => whnf);(first | apply And.intro | intro _)));all_goals first | rfl | trivial))
end Go.Proofs.YthejmgnkenokpaaDoor
end
section
namespace Go.Proofs.YthejmgnkenokpaaDoor
open Go Go.Sy Go.bK
variable {Γ : bn}
def tG (D : Int -> Int -> List Wk -> Int -> List aa) (R : Int -> Int -> List Wk -> Int -> cM) : au:=.new fun args rg K => match args with
 | [.agg [.v (.int .i64 n0),.v (.int .i64 n1),x0],.a (.v (.int .i64 n2))] => (match ca 60 kW rg x0 with | some (q0,L0) => bk false (q0 ++ (D n0 n1 L0 n2)) (K (R n0 n1 L0 n2)) | _ => False)
 | _ => False
theorem sa {f : FuncId} {b : Body} {E : Env} {d : Nat} (hP : aL Tryd.prog Γ E) (hb : bQ Tryd.prog f b) {D : Int -> Int -> List Wk -> Int -> List aa} {R : Int -> Int -> List Wk -> Int -> cM}
  (H : ∀ (n0 : Int) (n1 : Int) (L0 : List Wk) (n2 : Int) (K : cM -> Prop),bW (D n0 n1 L0 n2) -> K (R n0 n1 L0 n2) -> cQ E d b [.agg [vI n0,vI n1,.sl 0 [] 0 L0.length],.a (vI n2)] [.arr 60 kW L0 false false] (bu K)) : au.Ok Tryd.prog Γ f (tG D R):=au.fM (d:=d) hP hb (by
 intro args rg K hF
 split at hF
 next n0 n1 x0 n2 =>
  split at hF
  next q0 L0 hx0 =>
   rw [aV,aH] at hF
   obtain ⟨⟨dm,hD⟩,hK⟩:=hF
   obtain ⟨e0,Vn⟩:=bP (by simp [kW]) hx0 dm
   obtain ⟨p0,r0⟩:=Vn [e0] 0 1 rfl (by omega)
   refine ⟨[e0],[.agg [vI n0,vI n1,.sl 0 [] 0 L0.length],.a (vI n2)],[.arr 60 kW L0 false false],⟨⟨⟨rfl,rfl,p0,trivial⟩,rfl,trivial⟩,fun r g hg => ?_⟩,bu K,H _ _ _ _ K hD hK,fun x st h => h⟩
   match r,hg with
   | 0,hg => obtain rfl:=Option.some.inj hg;exact r0
  next => exact hF.elim
 next => exact hF.elim)
theorem wi (x y : Sp) : ai.beq kX x y = (x == y):=rfl
theorem HC {E : List bR} {x : Sp} (h : dh E x = false) : br kX x E = E.length:=by
 induction E with
 | nil => rfl
 | cons e E ih =>
   simp only [dh,List.any_cons,Bool.or_eq_false_iff] at h
   have e1 : ai.beq kX x e.1 = false:=by rw [wi,Bool.eq_false_iff];intro h1;rw [<- eq_of_beq h1] at h;simp at h
   show jM (fun p : bR => ai.beq kX x p.1) (e :: E) = _
   rw [jM,e1]
   exact congrArg (· + 1) (ih h.2)
theorem A4 {E : List bR} {x : Sp} (h : dh E x = true) : br kX x E < E.length:=by
 induction E with
 | nil => cases h
 | cons e E ih =>
   show jM (fun p : bR => ai.beq kX x p.1) (e :: E) < _
   rw [jM]
   cases h1 : ai.beq kX x e.1
   ·refine Nat.succ_lt_succ (ih ?_)
    simp only [dh,List.any_cons,Bool.or_eq_true] at h
    rcases h with h | h
    ·rw [wi] at h1;rw [<- eq_of_beq h] at h1;simp at h1
    ·exact h
   ·exact Nat.succ_pos _
theorem Ji {E : List bR} {x : Sp} {v : List Int} (h : dh E x = false) : fL kX x v E = E ++ [(x,v)]:=by
 induction E with
 | nil => rfl
 | cons e E ih =>
   simp only [dh,List.any_cons,Bool.or_eq_false_iff] at h
   have e1 : ai.beq kX x e.1 = false:=by rw [wi,Bool.eq_false_iff];intro h1;rw [<- eq_of_beq h1] at h;simp at h
   show (match ai.beq kX x e.1 with | true => (e.1,v) :: E | false => e :: fL kX x v E) = _
   rw [e1]
   exact congrArg (e :: ·) (ih h.2)
theorem NS {E : List bR} (hd : (E.map (·.1)).Nodup) {i : Nat} (hi : i < E.length) : br kX (E.getD i aG).1 E = i:=by
 induction E generalizing i with
 | nil => cases hi
 | cons e E ih =>
   rw [List.map_cons,List.nodup_cons] at hd
   show jM (fun p : bR => ai.beq kX _ p.1) (e :: E) = _
   rw [jM]
   cases i with
   | zero => rw [show ai.beq kX ((e :: E).getD 0 aG).1 e.1 = true by rw [wi];exact beq_self_eq_true e.1]
   | succ i =>
     have hi' : i < E.length:=Nat.lt_of_succ_lt_succ hi
     have hm : (E.getD i aG).1 ∈ E.map (·.1):=List.mem_map.2 ⟨_,by simp [hi'],rfl⟩
     have e1 : ai.beq kX ((e :: E).getD (i + 1) aG).1 e.1 = false:=by
      rw [wi,Bool.eq_false_iff]
      intro h1
      exact hd.1 (eq_of_beq h1 ▸ hm)
     rw [e1]
     exact congrArg (· + 1) (ih hd.2 hi')
theorem QK (n : Nat) : (0 : Int) - (n : Int) = (n : Int) - ((2 * n : Nat) : Int):=by omega
theorem sub_succ (n k : Nat) : (n : Int) - ((k + 1 : Nat) : Int) + 1 = (n : Int) - (k : Int):=by omega
theorem tX (L : List Wk) (h n : Nat) (E : List bR) : gC L h (n + 1) E = gC L h n (j9 L h E ((L.length : Int) - (n + 1 : Nat))):=rfl
theorem mq (l : List Int) (v : Int) : l.length + 1 = (l ++ [v]).length:=by simp
theorem JG (L : List Wk) (h : Nat) (E : List bR) : gC L h 0 E = E:=rfl
theorem LF {E : List bR} {x q : Sp} {h : Nat} {v : Int} (hn : dh E x = false) (hk : br kX q E = h) : fL kX x ((E.getD (br kX q E) aG).2 ++ [v]) E = E ++ [(x,(E.getD h aG).2 ++ [v])]:=by
 rw [Ji hn,hk]
theorem JA {E : List bR} {Q : List Sp} {l h : Nat} {x y : Sp} {v : List Int} (hQ : Q.drop l = (E.drop h).map (·.1)) (hh : h < E.length) (e : x = y) : (Q.drop l ++ [x]).drop 0 = ((E ++ [(y,v)]).drop h).map (·.1):=by
 rw [List.drop_zero,List.drop_append_of_le_length (Nat.le_of_lt hh),List.map_append,<- hQ,e];rfl
theorem LG {Q : List Sp} {l : Nat} {x : Sp} (h : l <= Q.length) : Q.length - l + 1 = (Q.drop l ++ [x]).length - 0:=by
 rw [List.length_append,List.length_drop];rfl
def dw (Q : List Sp) (lo : Nat) : Sp:=@Ar.get ⟨114,kX,Q⟩ (lo + Int.toNat 0)
theorem Oq (Q : List Sp) (lo : Nat) : dw Q lo = Q.getD lo aG.1:=rfl
def r5 : au:=tG (fun _ P L p => [(aa.of (dY P L = true)),(aa.of (P <= 6)),(aa.of (L.length <= 1000000)),(aa.of (0 <= p /\ p <= P - 1))]) (fun _ _ L p => ⟨[.bH 111 kX 3 kI (ap L p) true true],.a (.mp 0)⟩)
noncomputable def F0 : List (Nat × au):=[(91,wm),(92,zO)]
theorem F1 : aR Tryd.prog Γ F0:=((aR.nil.cons (aj Tryd.func92 rfl rfl).fn CD).cons (aj Tryd.func91 rfl rfl).fn uB)
def LW (id : Nat) : Option OT:=match Nat.beq id 13 with | true => some (.take 0 (.take 2 (.take 6 (.alt 1 (.alt 3 (.alt 4 (.alt 5 (.alt 7 (.alt 8 (.alt 9 .fin .fin) .fin) .fin) (.alt 7 (.alt 5 (.alt 8 (.alt 9 .fin .fin) .fin) .fin) .fin)) (.alt 7 (.alt 4 (.alt 5 (.alt 8 (.alt 9 .fin .fin) .fin) .fin) .fin) .fin)) (.alt 7 (.alt 3 (.alt 4 (.alt 5 (.alt 8 (.alt 9 .fin .fin) .fin) .fin) .fin) .fin) .fin)) (.alt 3 (.alt 1 (.alt 4 (.alt 5 (.alt 7 (.alt 8 (.alt 9 .fin .fin) .fin) .fin) (.alt 7 (.alt 5 (.alt 8 (.alt 9 .fin .fin) .fin) .fin) .fin)) (.alt 7 (.alt 4 (.alt 5 (.alt 8 (.alt 9 .fin .fin) .fin) .fin) .fin) .fin)) (.alt 4 (.alt 1 (.alt 5 (.alt 7 (.alt 8 (.alt 9 .fin .fin) .fin) .fin) (.alt 7 (.alt 5 (.alt 8 (.alt 9 .fin .fin) .fin) .fin) .fin)) (.alt 5 (.alt 1 (.alt 7 (.alt 8 (.alt 9 .fin .fin) .fin) .fin) (.alt 7 (.alt 1 (.alt 8 (.alt 9 .fin .fin) .fin) (.alt 8 (.alt 1 (.alt 9 .fin .fin) .fin) .fin)) .fin)) (.alt 7 (.alt 1 (.alt 5 (.alt 8 (.alt 9 .fin .fin) .fin) .fin) (.alt 5 (.alt 1 (.alt 8 (.alt 9 .fin .fin) .fin) (.alt 8 (.alt 1 (.alt 9 .fin .fin) .fin) .fin)) .fin)) .fin))) (.alt 7 (.alt 1 (.alt 4 (.alt 5 (.alt 8 (.alt 9 .fin .fin) .fin) .fin) .fin) (.alt 4 (.alt 1 (.alt 5 (.alt 8 (.alt 9 .fin .fin) .fin) .fin) (.alt 5 (.alt 1 (.alt 8 (.alt 9 .fin .fin) .fin) (.alt 8 (.alt 1 (.alt 9 .fin .fin) .fin) .fin)) .fin)) .fin)) .fin))) (.alt 7 (.alt 1 (.alt 3 (.alt 4 (.alt 5 (.alt 8 (.alt 9 .fin .fin) .fin) .fin) .fin) .fin) (.alt 3 (.alt 1 (.alt 4 (.alt 5 (.alt 8 (.alt 9 .fin .fin) .fin) .fin) .fin) (.alt 4 (.alt 1 (.alt 5 (.alt 8 (.alt 9 .fin .fin) .fin) .fin) (.alt 5 (.alt 1 (.alt 8 (.alt 9 .fin .fin) .fin) (.alt 8 (.alt 1 (.alt 9 .fin .fin) .fin) .fin)) .fin)) .fin)) .fin)) .fin)))))) | false => none
noncomputable def Lc : Env:={ jV.env F0 [] false 0 with tree:=LW }
theorem EP : aL Tryd.prog Γ Lc:=(aP F1 bq.nil false 0).vU _
attribute [local irreducible] bM bw gC iv
theorem oU : au.Ok Tryd.prog Γ 68 r5:=sa (d:=0) EP (aj Tryd.func68 rfl rfl) (by
 intro n P L p K ⟨hw,hP,hl,hp,_⟩ hK
 simp only [aa.ae] at hw hP hl hp
 repeat' ((conv => whnf);first | apply And.intro | (intro h9;try (have h8 : (_ : Bool) = _:=h9;clear h8;revert h9;subst_vars;intro h9;exact aq h9 (by assumption))))
 all_goals try (conv => whnf)
 all_goals try first | (apply Tk.mk <;> kernel_rfl) | exact ⟨ah rfl⟩ | exact ⟨rfl⟩ | exact ⟨trivial⟩
 all_goals subst_vars
 all_goals try first | rfl | contradiction | (apply Ob.mk;first | (simp only [ag,ak,aa.ae];omega) | ((try simp only [aa.ae]);(try dsimp only);omega))
 all_goals first | exact True.intro | skip
 refine ⟨Nat × List bR × List Sp × Nat,fun x => x.1 <= x.2.1.length /\ da P L x.2.1 /\ ap L p = iv L (97 - x.1) x.1 x.2.1 /\ x.2.2.2 <= x.2.2.1.length /\ x.2.2.1.drop x.2.2.2 = (x.2.1.drop x.1).map (·.1),fun x => ⟨aI 72 [2,6,7] [.a (.p 1 [] 0 0),.a (.mp 3),.a (.sl 4 [] x.2.2.2 (x.2.2.1.length - x.2.2.2))],[],[.arr 60 kW L false false,.box true [vI n,vI P,.sl 0 [] 0 L.length],.box true [vI p,vI 0,.v (.bool false)],.bH 111 kX 3 kI x.2.1 true true,.arr 114 kX x.2.2.1 true true]⟩,fun x => 97 - x.1,(0,[((p,0,false),[])],[(p,0,false)],0),[],⟨Nat.zero_le _,da.one hp,rfl,Nat.zero_le _,rfl⟩,?_,?_⟩
 ·repeat' ((conv => whnf);(first | apply And.intro | intro _))
  all_goals first | rfl | trivial | exact ah rfl | exact aS ‹_› rfl | exact aT ‹_› rfl | ((repeat' first | rfl | constructor);done) | exact ⟨rfl,rfl,rfl,rfl,rfl⟩
 rintro ⟨h,E,Q,lo⟩ ⟨hh,hE,hf,hlo,hQ⟩
 dsimp only at hh hE hf hlo hQ
 have hlen:=congrArg List.length hQ
 rw [List.length_drop,List.length_map,List.length_drop] at hlen
 have Sa:=hE.Kg hP
 by_cases xU : h < E.length
 ·have p0 : decide (((Q.length - lo : Nat) : Int) > 0) = true:=decide_eq_true (by omega)
  have gq : dw Q lo = (E.getD h aG).1:=by
   have h1 : (Q.drop lo)[0]? = ((E.drop h).map (·.1))[0]?:=by rw [hQ]
   rw [List.getElem?_drop,List.getElem?_map,List.getElem?_drop] at h1
   rw [Oq,List.getD_eq_getElem?_getD,<- Nat.add_zero lo,h1,Nat.add_zero,List.getElem?_eq_getElem xU]
   simp [xU]
  have hc:=hE.at xU
  rw [<- gq] at hc
  have xS : 0 <= (dw Q lo).2.1 /\ (dw Q lo).2.1 <= 7:=hc.2
  repeat' ((conv => whnf);first | apply And.intro | (intro h9;try (have h8 : (_ : Bool) = _:=h9;clear h8;revert h9;subst_vars;intro h9;exact aq h9 (by assumption))))
  all_goals try (conv => whnf)
  all_goals try first | (apply Tk.mk <;> kernel_rfl) | exact ⟨ah rfl⟩ | exact ⟨rfl⟩ | exact ⟨trivial⟩
  all_goals subst_vars
  all_goals try first | rfl | contradiction | (apply Ob.mk;first | (simp only [ag,ak,aa.ae];omega) | ((try simp only [aa.ae]);(try dsimp only);omega))
  all_goals try first
   | exact ⟨show lo < Q.length by omega⟩
  refine ⟨Nat × List bR × List Sp × Nat,fun y => y.1 <= 2 * L.length /\ da P L y.2.1 /\ h < y.2.1.length /\ gC L h (2 * L.length) E = gC L h y.1 y.2.1 /\ y.2.2.2 <= y.2.2.1.length /\ y.2.2.1.drop y.2.2.2 = (y.2.1.drop h).map (·.1) /\ y.2.1.getD h aG = E.getD h aG,fun x => ⟨aI 72 [2,6,7,8,9] [.a (.p 1 [] 0 0),.a (.mp 3),.a (.sl 4 [] x.2.2.2 (x.2.2.1.length - x.2.2.2)),.a (.p 5 [] 0 0),.a (vI ((L.length : Int) - (x.1 : Nat)))],[],[.arr 60 kW L false false,.box true [vI n,vI P,.sl 0 [] 0 L.length],.box true [vI p,vI 0,.v (.bool false)],.bH 111 kX 3 kI x.2.1 true true,.arr 114 kX x.2.2.1 true true] ++ [.box true [vI (dw Q lo).1,vI (dw Q lo).2.1,.v (.bool (dw Q lo).2.2)]]⟩,fun y => y.1,(2 * L.length,E,Q,lo),[],⟨Nat.le_refl _,hE,xU,rfl,hlo,hQ,rfl⟩,?_,?_⟩
  ·repeat' ((conv => whnf);(first | apply And.intro | intro _))
   all_goals first | rfl | trivial | exact ah rfl | exact aS ‹_› rfl | exact aT ‹_› rfl | ((repeat' first | rfl | constructor);done) | exact ⟨rfl,rfl,rfl,rfl,rfl⟩ | exact QK L.length
  rintro ⟨k,E2,Q2,l2⟩ ⟨hk,xP,s5,hr,jJ,AB,hg⟩
  dsimp only at hk xP s5 hr jJ AB hg
  cases k with
  | zero =>
    have p1 : decide (((L.length : Int) - ((0 : Nat) : Int)) < (L.length : Int)) = false:=decide_eq_false (by omega)
    have oz:=congrArg List.length AB
    rw [List.length_drop,List.length_map,List.length_drop] at oz
    have c6:=hr.trans (JG L h E2)
    have jH : ap L p = iv L (97 - (h + 1)) (h + 1) E2:=by
     rw [hf,show 97 - h = (97 - (h + 1)) + 1 by omega,yB xU,c6]
    clear c6
    have Rg : Q2.drop (l2 + 1) = (E2.drop (h + 1)).map (·.1):=by rw [<- List.drop_drop,AB,<- List.map_drop,List.drop_drop]
    repeat' ((conv => whnf);first | apply And.intro | (intro h9;try (have h8 : (_ : Bool) = _:=h9;clear h8;revert h9;subst_vars;intro h9;exact aq h9 (by assumption))))
    all_goals try (conv => whnf)
    all_goals try first | (apply Tk.mk <;> kernel_rfl) | exact ⟨ah rfl⟩ | exact ⟨rfl⟩ | exact ⟨trivial⟩
    all_goals subst_vars
    all_goals try first | rfl | contradiction | (apply Ob.mk;first | (simp only [ag,ak,aa.ae];omega) | ((try simp only [aa.ae]);(try dsimp only);omega))
    refine ⟨(h + 1,E2,Q2,l2 + 1),[0,1,2,3,4],⟨s5,xP,jH,by show l2 + 1 <= Q2.length;omega,Rg⟩,?_,by show 97 - (h + 1) < 97 - h;omega⟩
    repeat' ((conv => whnf);(first | apply And.intro | intro _))
    all_goals first | rfl | trivial | exact ah rfl | exact aS ‹_› rfl | exact aT ‹_› rfl | ((repeat' first | rfl | constructor);done) | exact ⟨rfl,rfl,rfl,rfl,rfl⟩ | exact Nat.sub_sub ..
  | succ k =>
    have p1 : decide (((L.length : Int) - ((k + 1 : Nat) : Int)) < (L.length : Int)) = true:=decide_eq_true (by omega)
    have hs : -(L.length : Int) <= (L.length : Int) - ((k + 1 : Nat) : Int) /\ (L.length : Int) - ((k + 1 : Nat) : Int) < (L.length : Int):=by omega
    have gn : bw L (dw Q lo) ((L.length : Int) - ((k + 1 : Nat) : Int)) = bw L (E2.getD h aG).1 ((L.length : Int) - ((k + 1 : Nat) : Int)):=by rw [gq,hg]
    have gf : bM L (dw Q lo) ((L.length : Int) - ((k + 1 : Nat) : Int)) = bM L (E2.getD h aG).1 ((L.length : Int) - ((k + 1 : Nat) : Int)):=by rw [gq,hg]
    cases hb : bM L (dw Q lo) ((L.length : Int) - ((k + 1 : Nat) : Int))
    ·have e1 : (!bM L (dw Q lo) ((L.length : Int) - ((k + 1 : Nat) : Int))) = true:=by rw [hb];rfl
     have c6:=(hr.trans (tX ..)).trans (congrArg (gC L h k) (n6 (gf ▸ hb)))
     repeat' ((conv => whnf);first | apply And.intro | (intro h9;try (have h8 : (_ : Bool) = _:=h9;clear h8;revert h9;subst_vars;intro h9;exact aq h9 (by assumption))))
     all_goals try (conv => whnf)
     all_goals try first | (apply Tk.mk <;> kernel_rfl) | exact ⟨ah rfl⟩ | exact ⟨rfl⟩ | exact ⟨trivial⟩
     all_goals subst_vars
     all_goals try first | rfl | contradiction | (apply Ob.mk;first | (simp only [ag,ak,aa.ae];omega) | ((try simp only [aa.ae]);(try dsimp only);omega))
     all_goals try first
      | exact ⟨hw⟩
      | exact ⟨hs⟩
      | exact ⟨hl⟩
     all_goals
      refine ⟨(k,E2,Q2,l2),[],⟨Nat.le_of_succ_le hk,xP,s5,c6,jJ,AB,hg⟩,?_,Nat.lt_succ_self k⟩
      repeat' ((conv => whnf);(first | apply And.intro | intro _))
      all_goals first | rfl | trivial | exact ah rfl | exact aS ‹_› rfl | exact aT ‹_› rfl | ((repeat' first | rfl | constructor);done) | exact ⟨rfl,rfl,rfl,rfl,rfl⟩ | exact sub_succ L.length k
    have e1 : (!bM L (dw Q lo) ((L.length : Int) - ((k + 1 : Nat) : Int))) = false:=by rw [hb];rfl
    cases hn : dh E2 (bw L (dw Q lo) ((L.length : Int) - ((k + 1 : Nat) : Int)))
    ·have DH : ¬ br kX (bw L (dw Q lo) ((L.length : Int) - ((k + 1 : Nat) : Int))) E2 < E2.length:=by rw [HC hn];exact Nat.lt_irrefl _
     have DE : br kX (dw Q lo) E2 = h:=by rw [gq,<- hg];exact NS xP.nd s5
     have oy : br kX (dw Q lo) E2 < E2.length:=by rw [DE];exact s5
     have aai : (E2.getD (br kX (dw Q lo) E2) aG).2.length <= 96:=by
      have:=xP.len h s5
      rw [DE];omega
     have oz:=congrArg List.length AB
     rw [List.length_drop,List.length_map,List.length_drop] at oz
     have R4:=xP.Kg hP
     have xW : dh E2 (bw L (E2.getD h aG).1 ((L.length : Int) - ((k + 1 : Nat) : Int))) = false:=by rw [<- gn];exact hn
     have c6:=(hr.trans (tX ..)).trans (congrArg (gC L h k) (me (gf ▸ hb) xW))
     have hput:=LF (v:=((L.length : Int) - ((k + 1 : Nat) : Int))) hn DE
     clear DE
     repeat' ((conv => whnf);first | apply And.intro | (intro h9;try (have h8 : (_ : Bool) = _:=h9;clear h8;revert h9;subst_vars;intro h9;exact aq h9 (by assumption))))
     all_goals try (conv => whnf)
     all_goals try first | (apply Tk.mk <;> kernel_rfl) | exact ⟨ah rfl⟩ | exact ⟨rfl⟩ | exact ⟨trivial⟩
     all_goals subst_vars
     all_goals try first | rfl | contradiction | (apply Ob.mk;first | (simp only [ag,ak,aa.ae];omega) | ((try simp only [aa.ae]);(try dsimp only);omega))
     all_goals try first
      | exact True.intro
      | exact ⟨oy⟩
      | exact ⟨show (E2.getD (br kX (dw Q lo) E2) aG).2.length <= 1000000 by omega⟩
      | exact ⟨Nat.zero_add _⟩
      | exact ⟨show ((E2.getD (br kX (dw Q lo) E2) aG).2.length + 1) * 1 <= 1099511627776 by omega⟩
      | exact ⟨show (Q2.length - l2 + 1) * 3 <= 1099511627776 by omega⟩
      | exact ⟨show l2 + (Q2.length - l2) = Q2.length by omega⟩
      | exact ⟨mq _ _⟩
      | exact ⟨hw⟩
      | exact ⟨hs⟩
      | exact ⟨hl⟩
     all_goals
      refine ⟨(k,E2 ++ [(bw L (E2.getD h aG).1 ((L.length : Int) - ((k + 1 : Nat) : Int)),(E2.getD h aG).2 ++ [((L.length : Int) - ((k + 1 : Nat) : Int))])],Q2.drop l2 ++ [(bw L (dw Q lo) ((L.length : Int) - ((k + 1 : Nat) : Int)))],0),[0,1,2,3,4,5],⟨Nat.le_of_succ_le hk,xP.snoc (cW.1 hw) s5 hs xW,by show h < (E2 ++ _).length;rw [List.length_append];omega,c6,Nat.zero_le _,?_,?_⟩,?_,Nat.lt_succ_self k⟩
      ·exact JA AB s5 gn
      ·exact (fP s5).trans hg
      repeat' ((conv => whnf);(first | apply And.intro | intro _))
      all_goals first | rfl | trivial | exact ah rfl | exact aS ‹_› rfl | exact aT ‹_› rfl | ((repeat' first | rfl | constructor);done) | exact ⟨rfl,rfl,rfl,rfl,rfl⟩ | exact sub_succ L.length k | exact ⟨rfl,rfl,rfl,rfl,gn ▸ hput⟩ | exact LG jJ
    have gT : ¬ br kX (bw L (dw Q lo) ((L.length : Int) - ((k + 1 : Nat) : Int))) E2 = E2.length:=Nat.ne_of_lt (A4 hn)
    have c6:=(hr.trans (tX ..)).trans (congrArg (gC L h k) (mc (gn ▸ hn)))
    repeat' ((conv => whnf);first | apply And.intro | (intro h9;try (have h8 : (_ : Bool) = _:=h9;clear h8;revert h9;subst_vars;intro h9;exact aq h9 (by assumption))))
    all_goals try (conv => whnf)
    all_goals try first | (apply Tk.mk <;> kernel_rfl) | exact ⟨ah rfl⟩ | exact ⟨rfl⟩ | exact ⟨trivial⟩
    all_goals subst_vars
    all_goals try first | rfl | contradiction | (apply Ob.mk;first | (simp only [ag,ak,aa.ae];omega) | ((try simp only [aa.ae]);(try dsimp only);omega))
    all_goals try first
     | exact ⟨hw⟩
     | exact ⟨hs⟩
     | exact ⟨hl⟩
    all_goals
     refine ⟨(k,E2,Q2,l2),[],⟨Nat.le_of_succ_le hk,xP,s5,c6,jJ,AB,hg⟩,?_,Nat.lt_succ_self k⟩
     repeat' ((conv => whnf);(first | apply And.intro | intro _))
     all_goals first | rfl | trivial | exact ah rfl | exact aS ‹_› rfl | exact aT ‹_› rfl | ((repeat' first | rfl | constructor);done) | exact ⟨rfl,rfl,rfl,rfl,rfl⟩ | exact sub_succ L.length k
 have p0 : decide (((Q.length - lo : Nat) : Int) > 0) = false:=decide_eq_false (by omega)
 rw [hf.trans (Cc (by omega))] at hK
 repeat' ((conv => whnf);first | apply And.intro | (intro h9;try (have h8 : (_ : Bool) = _:=h9;clear h8;revert h9;subst_vars;intro h9;exact aq h9 (by assumption))))
 all_goals try (conv => whnf)
 all_goals try first | (apply Tk.mk <;> kernel_rfl) | exact ⟨ah rfl⟩ | exact ⟨rfl⟩ | exact ⟨trivial⟩
 all_goals subst_vars
 all_goals try first | rfl | contradiction | (apply Ob.mk;first | (simp only [ag,ak,aa.ae];omega) | ((try simp only [aa.ae]);(try dsimp only);omega))
 refine bu.base ⟨_,[3],hK,⟨rfl,rfl,by simp,trivial⟩,rfl,?_⟩
 repeat' ((conv => whnf);(first | apply And.intro | intro _))
 all_goals first | rfl | trivial)
end Go.Proofs.YthejmgnkenokpaaDoor
end
