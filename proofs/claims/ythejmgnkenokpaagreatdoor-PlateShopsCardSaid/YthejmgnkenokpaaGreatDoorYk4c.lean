/-
  Texts of the claims on chapter 3: Yk4c. No condition: lemmas and contracts.
-/
import Derived.Test.YthejmgnkenokpaaGreatDoorYk3c
import Derived.Test.YthejmgnkenokpaaGreatDoorPl1c
import Derived.Test.YthejmgnkenokpaaGreatDoorYk2c
set_option linter.all false
set_option maxRecDepth 100000
set_option maxHeartbeats 4000000
section
namespace Go.Proofs.YthejmgnkenokpaaGreatDoor
open Go Go.Sy Go.bK
variable {Γ : bn}
def M5 (D : Sp -> Int -> Int -> List Wk -> Int -> List aa) (F : Sp -> Int -> Int -> List Wk -> Int -> Tm) : au:=.fn fun args rg => match args with
 | [.agg l0,.agg [.v (.int .i64 n0),.v (.int .i64 n1),x0],.a (.v (.int .i64 n2))] => (match ac1 46 kW rg x0,eu kX l0 with | some (q0,L0),some v0 => some (q0 ++ (D v0 n0 n1 L0 n2),F v0 n0 n1 L0 n2) | _,_ => none)
 | _ => none
theorem Lr {f : FuncId} {b : Body} {E : Env} {d : Nat} (hP : aL Tryz.prog Γ E) (hb : bQ Tryz.prog f b) {D : Sp -> Int -> Int -> List Wk -> Int -> List aa} {F : Sp -> Int -> Int -> List Wk -> Int -> Tm} (hp : ∀ (v0 : Sp) (n0 : Int) (n1 : Int) (L0 : List Wk) (n2 : Int),(F v0 n0 n1 L0 n2).plain = true)
  (H : ∀ (v0 : Sp) (n0 : Int) (n1 : Int) (L0 : List Wk) (n2 : Int),bW (D v0 n0 n1 L0 n2) -> cQ E d b [.agg (ai.lV kX v0),.agg [vI n0,vI n1,.sl 0 [] 0 L0.length],.a (vI n2)] [.arr 46 kW L0 false false] (fun x _ => iL x (F v0 n0 n1 L0 n2))) : au.Ok Tryz.prog Γ f (M5 D F):=au.er (d:=d) hP hb (by
 intro args rg q t hF hq
 split at hF
 next l0 n0 n1 x0 n2 =>
  split at hF
  next q0 L0 v0 hx0 hc0 =>
   obtain ⟨rfl,rfl⟩:=Prod.mk.inj (Option.some.inj hF);clear hF
   rw [aH] at hq
   obtain ⟨dm,hD⟩:=hq
   obtain ⟨e0,Vn⟩:=bP (by simp [kW]) hx0 dm
   obtain ⟨p0,r0⟩:=Vn [e0] 0 1 rfl (by omega)
   refine ⟨hp _ _ _ _ _,[e0],[.agg (ai.lV kX v0),.agg [vI n0,vI n1,.sl 0 [] 0 L0.length],.a (vI n2)],[.arr 46 kW L0 false false],⟨⟨oC hc0,⟨rfl,rfl,p0,trivial⟩,rfl,trivial⟩,fun r g hg => ?_⟩,H _ _ _ _ _ hD⟩
   match r,hg with
   | 0,hg => obtain rfl:=Option.some.inj hg;exact r0
  next => cases hF
 next => cases hF)
theorem AS {P : Int} {L : List Wk} (h : dY P L = true) : cx P L:=cW.1 h
def Gg : au:=xL (fun _ P L s => [(aa.of (dY P L = true)),(aa.of (-(L.length : Int) <= s /\ s < (L.length : Int))),(aa.of (L.length <= 1000000))]) (fun _ P L s => .bF [.a (vI (dy L s).1),.a (vI (dy L s).2.1),.a (vI (dy L s).2.2)])
noncomputable def OP : List (Nat × au):=[(155,qq)]
theorem It : aR Tryz.prog Γ OP:=(aR.nil.cons (aj Tryz.func155 rfl rfl).fn qt)
theorem wB {L : List Wk} {s : Int} (h : s < 0) : dy L s = ((cn L (-1 - s)).2.1,(cn L (-1 - s)).1,cD (cn L (-1 - s)).2.2):=by
 unfold dy cn;rw [if_pos h,Nat.zero_add];rfl
theorem wA {L : List Wk} {s : Int} (h : ¬ s < 0) : dy L s = ((cn L s).1,(cn L s).2.1,(cn L s).2.2):=by
 unfold dy cn;rw [if_neg h,Nat.zero_add];rfl
theorem Ce {P : Int} {L : List Wk} (h : cx P L) {i : Int} (h0 : 0 <= i) (h1 : i < (L.length : Int)) : 0 <= (cn L i).2.2 /\ (cn L i).2.2 <= 7:=by
 have:=h.at (i:=i.toNat) (by omega)
 unfold cn;rw [Nat.zero_add];exact this.2.2.2
attribute [local irreducible] bJ cD dy
theorem Gh : au.Ok Tryz.prog Γ 120 Gg:=mG (d:=0) (aP It bq.nil false 0) (aj Tryz.func120 rfl rfl) (fun _ _ _ _ => rfl) (by
 intro n P L s ⟨hw,hs,hl,_⟩
 simp only [aa.ae] at hw hs hl
 replace hw:=AS hw
 by_cases h0 : s < 0
 ·have e0 : decide (s < 0) = true:=decide_eq_true h0
  have g:=Ce hw (i:=-1 - s) (by omega) (by omega)
  rw [wB h0]
  repeat' ((conv => whnf);first | apply And.intro | (intro h9;try (have h8 : (_ : Bool) = _:=h9;clear h8;revert h9;subst_vars;intro h9;exact aq h9 (by assumption))))
  all_goals try (conv => whnf)
  all_goals try first | (apply Tk.mk <;> kernel_rfl) | exact ⟨ah rfl⟩ | exact ⟨rfl⟩ | exact ⟨trivial⟩
  all_goals subst_vars
  all_goals try first | rfl | contradiction | (apply Ob.mk;first | (simp only [ag,ak,aa.ae];omega) | ((try simp only [aa.ae]);(try dsimp only);omega))
  all_goals first
   | trivial
   | exact ⟨show 0 + Int.toNat (-1 - s) < L.length by omega⟩
 have e0 : decide (s < 0) = false:=decide_eq_false h0
 rw [wA h0]
 repeat' ((conv => whnf);first | apply And.intro | (intro h9;try (have h8 : (_ : Bool) = _:=h9;clear h8;revert h9;subst_vars;intro h9;exact aq h9 (by assumption))))
 all_goals try (conv => whnf)
 all_goals try first | (apply Tk.mk <;> kernel_rfl) | exact ⟨ah rfl⟩ | exact ⟨rfl⟩ | exact ⟨trivial⟩
 all_goals subst_vars
 all_goals try first | rfl | contradiction | (apply Ob.mk;first | (simp only [ag,ak,aa.ae];omega) | ((try simp only [aa.ae]);(try dsimp only);omega))
 all_goals first
  | trivial
  | exact ⟨show 0 + Int.toNat s < L.length by omega⟩)
def Oo (x : Sp) (b : Bool) : Tm:=.bF [.agg (ai.lV kX x),.a (.v (.bool b))]
def wm : au:=M5 (fun x _ P L s => [(aa.of (0 <= x.2.1 /\ x.2.1 <= 7)),(aa.of (dY P L = true)),(aa.of (-(L.length : Int) <= s /\ s < (L.length : Int))),(aa.of (L.length <= 1000000))]) (fun x _ P L s => Oo (bw L x s) (bM L x s))
noncomputable def FT : List (Nat × au):=[(120,Gg),(84,nk)]
theorem FU : aR Tryz.prog Γ FT:=((aR.nil.cons (aj Tryz.func84 rfl rfl).fn mB).cons (aj Tryz.func120 rfl rfl).fn Gh)
def LV (id : Nat) : Option OT:=match Nat.beq id 2 with | true => some (.take 0 (.take 1 (.take 2 (.take 4 (.take 6 (.take 7 (.take 12 (.take 13 (.alt 3 (.alt 5 (.alt 8 (.take 9 (.take 10 (.take 11 (.alt 14 (.alt 15 (.alt 16 (.take 17 .fin) .fin) (.alt 16 (.alt 15 (.take 17 .fin) .fin) .fin)) (.alt 16 (.alt 14 (.alt 15 (.take 17 .fin) .fin) .fin) .fin))))) (.alt 14 (.alt 8 (.take 9 (.take 10 (.take 11 (.alt 15 (.alt 16 (.take 17 .fin) .fin) (.alt 16 (.alt 15 (.take 17 .fin) .fin) .fin))))) (.alt 15 (.alt 8 (.take 9 (.take 10 (.take 11 (.alt 16 (.take 17 .fin) .fin)))) .fin) .fin)) .fin)) (.alt 8 (.take 9 (.alt 5 (.take 10 (.take 11 (.alt 14 (.alt 15 (.alt 16 (.take 17 .fin) .fin) (.alt 16 (.alt 15 (.take 17 .fin) .fin) .fin)) (.alt 16 (.alt 14 (.alt 15 (.take 17 .fin) .fin) .fin) .fin)))) (.alt 14 (.alt 5 (.take 10 (.take 11 (.alt 15 (.alt 16 (.take 17 .fin) .fin) (.alt 16 (.alt 15 (.take 17 .fin) .fin) .fin)))) (.alt 15 (.alt 5 (.take 10 (.take 11 (.alt 16 (.take 17 .fin) .fin))) .fin) .fin)) .fin))) (.alt 14 (.alt 5 (.alt 8 (.take 9 (.take 10 (.take 11 (.alt 15 (.alt 16 (.take 17 .fin) .fin) (.alt 16 (.alt 15 (.take 17 .fin) .fin) .fin))))) (.alt 15 (.alt 8 (.take 9 (.take 10 (.take 11 (.alt 16 (.take 17 .fin) .fin)))) .fin) .fin)) (.alt 8 (.take 9 (.alt 5 (.take 10 (.take 11 (.alt 15 (.alt 16 (.take 17 .fin) .fin) (.alt 16 (.alt 15 (.take 17 .fin) .fin) .fin)))) (.alt 15 (.alt 5 (.take 10 (.take 11 (.alt 16 (.take 17 .fin) .fin))) .fin) .fin))) (.alt 15 (.alt 5 (.alt 8 (.take 9 (.take 10 (.take 11 (.alt 16 (.take 17 .fin) .fin)))) .fin) (.alt 8 (.take 9 (.alt 5 (.take 10 (.take 11 (.alt 16 (.take 17 .fin) .fin))) .fin)) .fin)) .fin))) .fin))) (.alt 8 (.take 9 (.alt 3 (.alt 5 (.take 10 (.take 11 (.alt 14 (.alt 15 (.alt 16 (.take 17 .fin) .fin) (.alt 16 (.alt 15 (.take 17 .fin) .fin) .fin)) (.alt 16 (.alt 14 (.alt 15 (.take 17 .fin) .fin) .fin) .fin)))) (.alt 14 (.alt 5 (.take 10 (.take 11 (.alt 15 (.alt 16 (.take 17 .fin) .fin) (.alt 16 (.alt 15 (.take 17 .fin) .fin) .fin)))) (.alt 15 (.alt 5 (.take 10 (.take 11 (.alt 16 (.take 17 .fin) .fin))) .fin) .fin)) .fin)) (.alt 14 (.alt 3 (.alt 5 (.take 10 (.take 11 (.alt 15 (.alt 16 (.take 17 .fin) .fin) (.alt 16 (.alt 15 (.take 17 .fin) .fin) .fin)))) (.alt 15 (.alt 5 (.take 10 (.take 11 (.alt 16 (.take 17 .fin) .fin))) .fin) .fin)) (.alt 15 (.alt 3 (.alt 5 (.take 10 (.take 11 (.alt 16 (.take 17 .fin) .fin))) .fin) .fin) .fin)) .fin))) (.alt 14 (.alt 3 (.alt 5 (.alt 8 (.take 9 (.take 10 (.take 11 (.alt 15 (.alt 16 (.take 17 .fin) .fin) (.alt 16 (.alt 15 (.take 17 .fin) .fin) .fin))))) (.alt 15 (.alt 8 (.take 9 (.take 10 (.take 11 (.alt 16 (.take 17 .fin) .fin)))) .fin) .fin)) (.alt 8 (.take 9 (.alt 5 (.take 10 (.take 11 (.alt 15 (.alt 16 (.take 17 .fin) .fin) (.alt 16 (.alt 15 (.take 17 .fin) .fin) .fin)))) (.alt 15 (.alt 5 (.take 10 (.take 11 (.alt 16 (.take 17 .fin) .fin))) .fin) .fin))) (.alt 15 (.alt 5 (.alt 8 (.take 9 (.take 10 (.take 11 (.alt 16 (.take 17 .fin) .fin)))) .fin) (.alt 8 (.take 9 (.alt 5 (.take 10 (.take 11 (.alt 16 (.take 17 .fin) .fin))) .fin)) .fin)) .fin))) (.alt 8 (.take 9 (.alt 3 (.alt 5 (.take 10 (.take 11 (.alt 15 (.alt 16 (.take 17 .fin) .fin) (.alt 16 (.alt 15 (.take 17 .fin) .fin) .fin)))) (.alt 15 (.alt 5 (.take 10 (.take 11 (.alt 16 (.take 17 .fin) .fin))) .fin) .fin)) (.alt 15 (.alt 3 (.alt 5 (.take 10 (.take 11 (.alt 16 (.take 17 .fin) .fin))) .fin) .fin) .fin))) (.alt 15 (.alt 3 (.alt 5 (.alt 8 (.take 9 (.take 10 (.take 11 (.alt 16 (.take 17 .fin) .fin)))) .fin) (.alt 8 (.take 9 (.alt 5 (.take 10 (.take 11 (.alt 16 (.take 17 .fin) .fin))) .fin)) .fin)) (.alt 8 (.take 9 (.alt 3 (.alt 5 (.take 10 (.take 11 (.alt 16 (.take 17 .fin) .fin))) .fin) .fin)) .fin)) .fin))) .fin))))))))))) | false => (none)
noncomputable def Lb : Env:={ jV.env FT [] false 0 with tree:=LV }
theorem EO : aL Tryz.prog Γ Lb:=(aP FU bq.nil false 0).vU _
theorem uB : au.Ok Tryz.prog Γ 87 wm:=Lr (d:=0) EO (aj Tryz.func87 rfl rfl) (fun _ _ _ _ _ => rfl) (by
 rintro ⟨a,t,m⟩ n P L s ⟨hx,hw,hs,hl,_⟩
 simp only [aa.ae] at hx hw hs hl
 have he:=r8 (AS hw) hs
 have g : 0 <= (dy L s).2.2 /\ (dy L s).2.2 <= 7:=he.2.2
 repeat' ((conv => whnf);first | apply And.intro | (intro h9;try (have h8 : (_ : Bool) = _:=h9;clear h8;revert h9;subst_vars;intro h9;exact aq h9 (by assumption))))
 all_goals try (conv => whnf)
 all_goals try first | (apply Tk.mk <;> kernel_rfl) | exact ⟨ah rfl⟩ | exact ⟨rfl⟩ | exact ⟨trivial⟩
 all_goals subst_vars
 all_goals try first | rfl | contradiction | (apply Ob.mk;first | (simp only [ag,ak,aa.ae];omega) | ((try simp only [aa.ae]);(try dsimp only);omega))
 all_goals first
  | trivial
  | exact ⟨hw⟩
  | exact ⟨hs⟩
  | exact ⟨hl⟩
  | exact ⟨g⟩)
end Go.Proofs.YthejmgnkenokpaaGreatDoor
end
section
namespace Go.Proofs.YthejmgnkenokpaaGreatDoor
open Go Go.Sy Go.bK
variable {Γ : bn}
attribute [local irreducible] bJ cD dy bw bM
end Go.Proofs.YthejmgnkenokpaaGreatDoor
end
section
namespace Go.Proofs.YthejmgnkenokpaaGreatDoor
open Go Go.Sy Go.bK
variable {Γ : bn}
def EV (D : Int -> Int -> List Wk -> Int -> List Int -> List aa) (F : Int -> Int -> List Wk -> Int -> List Int -> Tm) : au:=.fn fun args rg => match args with
 | [.agg [.v (.int .i64 n0),.v (.int .i64 n1),x0],.a (.v (.int .i64 n2)),.a x1] => (match ac1 46 kW rg x0,ac1 3 kI rg x1 with | some (q0,L0),some (q1,L1) => some (q0 ++ (q1 ++ (D n0 n1 L0 n2 L1)),F n0 n1 L0 n2 L1) | _,_ => none)
 | _ => none
theorem agH {f : FuncId} {b : Body} {E : Env} {d : Nat} (hP : aL Tryz.prog Γ E) (hb : bQ Tryz.prog f b) {D : Int -> Int -> List Wk -> Int -> List Int -> List aa} {F : Int -> Int -> List Wk -> Int -> List Int -> Tm} (hp : ∀ (n0 : Int) (n1 : Int) (L0 : List Wk) (n2 : Int) (L1 : List Int),(F n0 n1 L0 n2 L1).plain = true)
  (H : ∀ (n0 : Int) (n1 : Int) (L0 : List Wk) (n2 : Int) (L1 : List Int),bW (D n0 n1 L0 n2 L1) -> cQ E d b [.agg [vI n0,vI n1,.sl 0 [] 0 L0.length],.a (vI n2),.a (.sl 1 [] 0 L1.length)] [.arr 46 kW L0 false false,.arr 3 kI L1 false false] (fun x _ => iL x (F n0 n1 L0 n2 L1))) : au.Ok Tryz.prog Γ f (EV D F):=au.er (d:=d) hP hb (by
 intro args rg q t hF hq
 split at hF
 next n0 n1 x0 n2 x1 =>
  split at hF
  next q0 L0 q1 L1 hx0 cO =>
   obtain ⟨rfl,rfl⟩:=Prod.mk.inj (Option.some.inj hF);clear hF
   rw [aH,aH] at hq
   obtain ⟨dm,gk,hD⟩:=hq
   obtain ⟨e0,Vn⟩:=bP (by simp [kW]) hx0 dm
   obtain ⟨e1,iO⟩:=bP (by simp [kI]) cO gk
   obtain ⟨p0,r0⟩:=Vn [e0,e1] 0 2 rfl (by omega)
   obtain ⟨p1,r1⟩:=iO [e0,e1] 1 2 rfl (by omega)
   refine ⟨hp _ _ _ _ _,[e0,e1],[.agg [vI n0,vI n1,.sl 0 [] 0 L0.length],.a (vI n2),.a (.sl 1 [] 0 L1.length)],[.arr 46 kW L0 false false,.arr 3 kI L1 false false],⟨⟨⟨rfl,rfl,p0,trivial⟩,rfl,p1,trivial⟩,fun r g hg => ?_⟩,H _ _ _ _ _ hD⟩
   match r,hg with
   | 0,hg => obtain rfl:=Option.some.inj hg;exact r0
   | 1,hg => obtain rfl:=Option.some.inj hg;exact r1
  next => cases hF
 next => cases hF)
abbrev av (w : List Int) (i : Int) : Int:=@Ar.get ⟨3,kI,w⟩ (0 + Int.toNat i)
theorem dP (w : List Int) (i : Nat) : av w i = gi w i:=by unfold av gi;rw [Nat.zero_add,Int.toNat_natCast];rfl
def oT : au:=EV (fun _ P L _ w => [(aa.of (dY P L = true)),(aa.of (bN L w = true)),(aa.of (L.length <= 1000000)),(aa.of (w.length <= 1000000))]) (fun _ _ L p w => Oo (bj L (p,0,false) w).1 (bj L (p,0,false) w).2)
noncomputable def KV : List (Nat × au):=[(87,wm)]
theorem Ek : aR Tryz.prog Γ KV:=(aR.nil.cons (aj Tryz.func87 rfl rfl).fn uB)
attribute [local irreducible] bM bw
theorem sR : au.Ok Tryz.prog Γ 52 oT:=agH (d:=0) (aP Ek bq.nil false 0) (aj Tryz.func52 rfl rfl) (fun _ _ _ _ _ => rfl) (by
 intro n P L p w ⟨hw,hs,hl,hv,_⟩
 simp only [aa.ae] at hw hs hl hv
 have hst:=yw hs
 repeat' ((conv => whnf);first | apply And.intro | (intro h9;try (have h8 : (_ : Bool) = _:=h9;clear h8;revert h9;subst_vars;intro h9;exact aq h9 (by assumption))))
 all_goals try (conv => whnf)
 all_goals try first | (apply Tk.mk <;> kernel_rfl) | exact ⟨ah rfl⟩ | exact ⟨rfl⟩ | exact ⟨trivial⟩
 all_goals subst_vars
 all_goals try first | rfl | contradiction | (apply Ob.mk;first | (simp only [ag,ak,aa.ae];omega) | ((try simp only [aa.ae]);(try dsimp only);omega))
 refine ⟨Nat × Sp,fun i => i.1 <= w.length /\ bj L (p,0,false) w = bj L i.2 (w.drop i.1) /\ (0 <= i.2.2.1 /\ i.2.2.1 <= 7),fun i => ⟨aI 34 [3,6,8,15,16,17] [.a (.p 2 [] 0 0),.a (.p 3 [] 0 0),.a (.p 4 [] 0 0),.a (.sl 1 [] 0 w.length),.a (vI w.length),.a (vI i.1)],[],[.arr 46 kW L false false,.arr 3 kI w false false,.box true [vI n,vI P,.sl 0 [] 0 L.length],.box true [vI 0,vI 0,.v (.bool false)],.box true [vI i.2.1,vI i.2.2.1,.v (.bool i.2.2.2)]]⟩,fun i => w.length - i.1,(0,(p,0,false)),[],⟨Nat.zero_le _,rfl,by show (0:Int) <= 0;omega,by show (0:Int) <= 7;omega⟩,?_,?_⟩
 ·repeat' ((conv => whnf);(first | apply And.intro | intro _))
  all_goals first | rfl | trivial | exact ah rfl | exact aS ‹_› rfl | exact aT ‹_› rfl | ((repeat' first | rfl | constructor);done)
 rintro ⟨i,a,t,m⟩ ⟨hi,hf,hx⟩
 dsimp only at hi hf hx
 by_cases hi1 : i < w.length
 ·have p0 : decide ((i : Int) < (w.length : Int)) = true:=decide_eq_true (by omega)
  have ge : av w i = gi w i:=dP w i
  have gs : -(L.length : Int) <= av w i /\ av w i < (L.length : Int):=by rw [ge];exact hst _ (qL hi1)
  have gn:=(mu hw (x:=(a,t,m)) hx (show bS L (gi w i) from ge ▸ gs)).1
  cases hb : bM L (a,t,m) (av w i)
  ·have e1 : (!bM L (a,t,m) (av w i)) = true:=by rw [hb];rfl
   rw [hf,GX hi1 (ge ▸ hb)]
   repeat' ((conv => whnf);first | apply And.intro | (intro h9;try (have h8 : (_ : Bool) = _:=h9;clear h8;revert h9;subst_vars;intro h9;exact aq h9 (by assumption))))
   all_goals try (conv => whnf)
   all_goals try first | (apply Tk.mk <;> kernel_rfl) | exact ⟨ah rfl⟩ | exact ⟨rfl⟩ | exact ⟨trivial⟩
   all_goals subst_vars
   all_goals try first | rfl | contradiction | (apply Ob.mk;first | (simp only [ag,ak,aa.ae];omega) | ((try simp only [aa.ae]);(try dsimp only);omega))
   all_goals first
    | trivial
    | exact ⟨hw⟩
    | exact ⟨hl⟩
    | exact ⟨gs⟩
    | exact ⟨show 0 + Int.toNat (i : Int) < w.length by omega⟩
  have e1 : (!bM L (a,t,m) (av w i)) = false:=by rw [hb];rfl
  have jH:=hf.trans (Dy hi1 (ge ▸ hb))
  repeat' ((conv => whnf);first | apply And.intro | (intro h9;try (have h8 : (_ : Bool) = _:=h9;clear h8;revert h9;subst_vars;intro h9;exact aq h9 (by assumption))))
  all_goals try (conv => whnf)
  all_goals try first | (apply Tk.mk <;> kernel_rfl) | exact ⟨ah rfl⟩ | exact ⟨rfl⟩ | exact ⟨trivial⟩
  all_goals subst_vars
  all_goals try first | rfl | contradiction | (apply Ob.mk;first | (simp only [ag,ak,aa.ae];omega) | ((try simp only [aa.ae]);(try dsimp only);omega))
  all_goals try first
   | exact ⟨hw⟩
   | exact ⟨hl⟩
   | exact ⟨gs⟩
   | exact ⟨show 0 + Int.toNat (i : Int) < w.length by omega⟩
  refine ⟨(i + 1,bw L (a,t,m) (av w i)),[],⟨hi1,by rw [ge];exact jH,by rw [ge];exact gn⟩,?_,by show w.length - (i + 1) < w.length - i;omega⟩
  repeat' ((conv => whnf);(first | apply And.intro | intro _))
  all_goals first | rfl | trivial | exact ah rfl | exact aS ‹_› rfl | exact aT ‹_› rfl | ((repeat' first | rfl | constructor);done)
 have p0 : decide ((i : Int) < (w.length : Int)) = false:=decide_eq_false (by omega)
 rw [hf,Dw (by omega)]
 repeat' ((conv => whnf);first | apply And.intro | (intro h9;try (have h8 : (_ : Bool) = _:=h9;clear h8;revert h9;subst_vars;intro h9;exact aq h9 (by assumption))))
 all_goals try (conv => whnf)
 all_goals try first | (apply Tk.mk <;> kernel_rfl) | exact ⟨ah rfl⟩ | exact ⟨rfl⟩ | exact ⟨trivial⟩
 all_goals subst_vars
 all_goals try first | rfl | contradiction | (apply Ob.mk;first | (simp only [ag,ak,aa.ae];omega) | ((try simp only [aa.ae]);(try dsimp only);omega))
 all_goals first
  | trivial)
end Go.Proofs.YthejmgnkenokpaaGreatDoor
end
section
namespace Go.Proofs.YthejmgnkenokpaaGreatDoor
open Go Go.Sy Go.bK
variable {Γ : bn}
def tG (D : Int -> Int -> List Wk -> Int -> List aa) (R : Int -> Int -> List Wk -> Int -> cM) : au:=.new fun args rg K => match args with
 | [.agg [.v (.int .i64 n0),.v (.int .i64 n1),x0],.a (.v (.int .i64 n2))] => (match ac1 46 kW rg x0 with | some (q0,L0) => bk false (q0 ++ (D n0 n1 L0 n2)) (K (R n0 n1 L0 n2)) | _ => False)
 | _ => False
theorem sa {f : FuncId} {b : Body} {E : Env} {d : Nat} (hP : aL Tryz.prog Γ E) (hb : bQ Tryz.prog f b) {D : Int -> Int -> List Wk -> Int -> List aa} {R : Int -> Int -> List Wk -> Int -> cM}
  (H : ∀ (n0 : Int) (n1 : Int) (L0 : List Wk) (n2 : Int) (K : cM -> Prop),bW (D n0 n1 L0 n2) -> K (R n0 n1 L0 n2) -> cQ E d b [.agg [vI n0,vI n1,.sl 0 [] 0 L0.length],.a (vI n2)] [.arr 46 kW L0 false false] (bu K)) : au.Ok Tryz.prog Γ f (tG D R):=au.fM (d:=d) hP hb (by
 intro args rg K hF
 split at hF
 next n0 n1 x0 n2 =>
  split at hF
  next q0 L0 hx0 =>
   rw [aV,aH] at hF
   obtain ⟨⟨dm,hD⟩,hK⟩:=hF
   obtain ⟨e0,Vn⟩:=bP (by simp [kW]) hx0 dm
   obtain ⟨p0,r0⟩:=Vn [e0] 0 1 rfl (by omega)
   refine ⟨[e0],[.agg [vI n0,vI n1,.sl 0 [] 0 L0.length],.a (vI n2)],[.arr 46 kW L0 false false],⟨⟨⟨rfl,rfl,p0,trivial⟩,rfl,trivial⟩,fun r g hg => ?_⟩,bu K,H _ _ _ _ K hD hK,fun x st h => h⟩
   match r,hg with
   | 0,hg => obtain rfl:=Option.some.inj hg;exact r0
  next => exact hF.elim
 next => exact hF.elim)
theorem wi (x y : Sp) : ai.beq kX x y = (x == y):=rfl
theorem HC {E : List bR} {x : Sp} (h : dh E x = false) : br kX x E = E.length:=by
 induction E with
 | nil => rfl
 | cons e E ih =>
   simp only [dh,List.any_cons,Bool.or_eq_false_iff] at h
   have e1 : ai.beq kX x e.1 = false:=by rw [wi,Bool.eq_false_iff];intro h1;rw [<- eq_of_beq h1] at h;simp at h
   show jM (fun p : bR => ai.beq kX x p.1) (e :: E) = _
   rw [jM,e1]
   exact congrArg (· + 1) (ih h.2)
theorem A4 {E : List bR} {x : Sp} (h : dh E x = true) : br kX x E < E.length:=by
 induction E with
 | nil => cases h
 | cons e E ih =>
   show jM (fun p : bR => ai.beq kX x p.1) (e :: E) < _
   rw [jM]
   cases h1 : ai.beq kX x e.1
   ·refine Nat.succ_lt_succ (ih ?_)
    simp only [dh,List.any_cons,Bool.or_eq_true] at h
    rcases h with h | h
    ·rw [wi] at h1;rw [<- eq_of_beq h] at h1;simp at h1
    ·exact h
   ·exact Nat.succ_pos _
theorem Ji {E : List bR} {x : Sp} {v : List Int} (h : dh E x = false) : fL kX x v E = E ++ [(x,v)]:=by
 induction E with
 | nil => rfl
 | cons e E ih =>
   simp only [dh,List.any_cons,Bool.or_eq_false_iff] at h
   have e1 : ai.beq kX x e.1 = false:=by rw [wi,Bool.eq_false_iff];intro h1;rw [<- eq_of_beq h1] at h;simp at h
   show (match ai.beq kX x e.1 with | true => (e.1,v) :: E | false => e :: fL kX x v E) = _
   rw [e1]
   exact congrArg (e :: ·) (ih h.2)
theorem NS {E : List bR} (hd : (E.map (·.1)).Nodup) {i : Nat} (hi : i < E.length) : br kX (E.getD i aG).1 E = i:=by
 induction E generalizing i with
 | nil => cases hi
 | cons e E ih =>
   rw [List.map_cons,List.nodup_cons] at hd
   show jM (fun p : bR => ai.beq kX _ p.1) (e :: E) = _
   rw [jM]
   cases i with
   | zero => rw [show ai.beq kX ((e :: E).getD 0 aG).1 e.1 = true by rw [wi];exact beq_self_eq_true e.1]
   | succ i =>
     have hi' : i < E.length:=Nat.lt_of_succ_lt_succ hi
     have hm : (E.getD i aG).1 ∈ E.map (·.1):=List.mem_map.2 ⟨_,by simp [hi'],rfl⟩
     have e1 : ai.beq kX ((e :: E).getD (i + 1) aG).1 e.1 = false:=by
      rw [wi,Bool.eq_false_iff]
      intro h1
      exact hd.1 (eq_of_beq h1 ▸ hm)
     rw [e1]
     exact congrArg (· + 1) (ih hd.2 hi')
theorem QK (n : Nat) : (0 : Int) - (n : Int) = (n : Int) - ((2 * n : Nat) : Int):=by omega
theorem sub_succ (n k : Nat) : (n : Int) - ((k + 1 : Nat) : Int) + 1 = (n : Int) - (k : Int):=by omega
theorem tX (L : List Wk) (h n : Nat) (E : List bR) : gC L h (n + 1) E = gC L h n (j9 L h E ((L.length : Int) - (n + 1 : Nat))):=rfl
theorem mq (l : List Int) (v : Int) : l.length + 1 = (l ++ [v]).length:=by simp
theorem JG (L : List Wk) (h : Nat) (E : List bR) : gC L h 0 E = E:=rfl
theorem LF {E : List bR} {x q : Sp} {h : Nat} {v : Int} (hn : dh E x = false) (hk : br kX q E = h) : fL kX x ((E.getD (br kX q E) aG).2 ++ [v]) E = E ++ [(x,(E.getD h aG).2 ++ [v])]:=by
 rw [Ji hn,hk]
theorem JA {E : List bR} {Q : List Sp} {l h : Nat} {x y : Sp} {v : List Int} (hQ : Q.drop l = (E.drop h).map (·.1)) (hh : h < E.length) (e : x = y) : (Q.drop l ++ [x]).drop 0 = ((E ++ [(y,v)]).drop h).map (·.1):=by
 rw [List.drop_zero,List.drop_append_of_le_length (Nat.le_of_lt hh),List.map_append,<- hQ,e];rfl
theorem LG {Q : List Sp} {l : Nat} {x : Sp} (h : l <= Q.length) : Q.length - l + 1 = (Q.drop l ++ [x]).length - 0:=by
 rw [List.length_append,List.length_drop];rfl
def dw (Q : List Sp) (lo : Nat) : Sp:=@Ar.get ⟨87,kX,Q⟩ (lo + Int.toNat 0)
theorem Oq (Q : List Sp) (lo : Nat) : dw Q lo = Q.getD lo aG.1:=rfl
def r5 : au:=tG (fun _ P L p => [(aa.of (dY P L = true)),(aa.of (P <= 6)),(aa.of (L.length <= 1000000)),(aa.of (0 <= p /\ p <= P - 1))]) (fun _ _ L p => ⟨[.bH 82 kX 3 kI (ag5 L p) true true],.a (.mp 0)⟩)
noncomputable def F0 : List (Nat × au):=[(87,wm),(88,zO)]
theorem F1 : aR Tryz.prog Γ F0:=((aR.nil.cons (aj Tryz.func88 rfl rfl).fn CD).cons (aj Tryz.func87 rfl rfl).fn uB)
def LW (id : Nat) : Option OT:=match Nat.beq id 13 with | true => some (.take 0 (.take 2 (.take 6 (.alt 1 (.alt 3 (.alt 4 (.alt 5 (.alt 7 (.alt 8 (.alt 9 .fin .fin) .fin) .fin) (.alt 7 (.alt 5 (.alt 8 (.alt 9 .fin .fin) .fin) .fin) .fin)) (.alt 7 (.alt 4 (.alt 5 (.alt 8 (.alt 9 .fin .fin) .fin) .fin) .fin) .fin)) (.alt 7 (.alt 3 (.alt 4 (.alt 5 (.alt 8 (.alt 9 .fin .fin) .fin) .fin) .fin) .fin) .fin)) (.alt 3 (.alt 1 (.alt 4 (.alt 5 (.alt 7 (.alt 8 (.alt 9 .fin .fin) .fin) .fin) (.alt 7 (.alt 5 (.alt 8 (.alt 9 .fin .fin) .fin) .fin) .fin)) (.alt 7 (.alt 4 (.alt 5 (.alt 8 (.alt 9 .fin .fin) .fin) .fin) .fin) .fin)) (.alt 4 (.alt 1 (.alt 5 (.alt 7 (.alt 8 (.alt 9 .fin .fin) .fin) .fin) (.alt 7 (.alt 5 (.alt 8 (.alt 9 .fin .fin) .fin) .fin) .fin)) (.alt 5 (.alt 1 (.alt 7 (.alt 8 (.alt 9 .fin .fin) .fin) .fin) (.alt 7 (.alt 1 (.alt 8 (.alt 9 .fin .fin) .fin) (.alt 8 (.alt 1 (.alt 9 .fin .fin) .fin) .fin)) .fin)) (.alt 7 (.alt 1 (.alt 5 (.alt 8 (.alt 9 .fin .fin) .fin) .fin) (.alt 5 (.alt 1 (.alt 8 (.alt 9 .fin .fin) .fin) (.alt 8 (.alt 1 (.alt 9 .fin .fin) .fin) .fin)) .fin)) .fin))) (.alt 7 (.alt 1 (.alt 4 (.alt 5 (.alt 8 (.alt 9 .fin .fin) .fin) .fin) .fin) (.alt 4 (.alt 1 (.alt 5 (.alt 8 (.alt 9 .fin .fin) .fin) .fin) (.alt 5 (.alt 1 (.alt 8 (.alt 9 .fin .fin) .fin) (.alt 8 (.alt 1 (.alt 9 .fin .fin) .fin) .fin)) .fin)) .fin)) .fin))) (.alt 7 (.alt 1 (.alt 3 (.alt 4 (.alt 5 (.alt 8 (.alt 9 .fin .fin) .fin) .fin) .fin) .fin) (.alt 3 (.alt 1 (.alt 4 (.alt 5 (.alt 8 (.alt 9 .fin .fin) .fin) .fin) .fin) (.alt 4 (.alt 1 (.alt 5 (.alt 8 (.alt 9 .fin .fin) .fin) .fin) (.alt 5 (.alt 1 (.alt 8 (.alt 9 .fin .fin) .fin) (.alt 8 (.alt 1 (.alt 9 .fin .fin) .fin) .fin)) .fin)) .fin)) .fin)) .fin)))))) | false => none
noncomputable def Lc : Env:={ jV.env F0 [] false 0 with tree:=LW }
theorem EP : aL Tryz.prog Γ Lc:=(aP F1 bq.nil false 0).vU _
attribute [local irreducible] bM bw gC iv
theorem oU : au.Ok Tryz.prog Γ 47 r5:=sa (d:=0) EP (aj Tryz.func47 rfl rfl) (by
 intro n P L p K ⟨hw,hP,hl,hp,_⟩ hK
 simp only [aa.ae] at hw hP hl hp
 repeat' ((conv => whnf);first | apply And.intro | (intro h9;try (have h8 : (_ : Bool) = _:=h9;clear h8;revert h9;subst_vars;intro h9;exact aq h9 (by assumption))))
 all_goals try (conv => whnf)
 all_goals try first | (apply Tk.mk <;> kernel_rfl) | exact ⟨ah rfl⟩ | exact ⟨rfl⟩ | exact ⟨trivial⟩
 all_goals subst_vars
 all_goals try first | rfl | contradiction | (apply Ob.mk;first | (simp only [ag,ak,aa.ae];omega) | ((try simp only [aa.ae]);(try dsimp only);omega))
 all_goals first | exact True.intro | skip
 refine ⟨Nat × List bR × List Sp × Nat,fun x => x.1 <= x.2.1.length /\ da P L x.2.1 /\ ag5 L p = iv L (97 - x.1) x.1 x.2.1 /\ x.2.2.2 <= x.2.2.1.length /\ x.2.2.1.drop x.2.2.2 = (x.2.1.drop x.1).map (·.1),fun x => ⟨aI 72 [2,6,7] [.a (.p 1 [] 0 0),.a (.mp 3),.a (.sl 4 [] x.2.2.2 (x.2.2.1.length - x.2.2.2))],[],[.arr 46 kW L false false,.box true [vI n,vI P,.sl 0 [] 0 L.length],.box true [vI p,vI 0,.v (.bool false)],.bH 82 kX 3 kI x.2.1 true true,.arr 87 kX x.2.2.1 true true]⟩,fun x => 97 - x.1,(0,[((p,0,false),[])],[(p,0,false)],0),[],⟨Nat.zero_le _,da.one hp,rfl,Nat.zero_le _,rfl⟩,?_,?_⟩
 ·repeat' ((conv => whnf);(first | apply And.intro | intro _))
  all_goals first | rfl | trivial | exact ah rfl | exact aS ‹_› rfl | exact aT ‹_› rfl | ((repeat' first | rfl | constructor);done) | exact ⟨rfl,rfl,rfl,rfl,rfl⟩
 rintro ⟨h,E,Q,lo⟩ ⟨hh,hE,hf,hlo,hQ⟩
 dsimp only at hh hE hf hlo hQ
 have hlen:=congrArg List.length hQ
 rw [List.length_drop,List.length_map,List.length_drop] at hlen
 have Sa:=hE.Kg hP
 by_cases xU : h < E.length
 ·have p0 : decide (((Q.length - lo : Nat) : Int) > 0) = true:=decide_eq_true (by omega)
  have gq : dw Q lo = (E.getD h aG).1:=by
   have h1 : (Q.drop lo)[0]? = ((E.drop h).map (·.1))[0]?:=by rw [hQ]
   rw [List.getElem?_drop,List.getElem?_map,List.getElem?_drop] at h1
   rw [Oq,List.getD_eq_getElem?_getD,<- Nat.add_zero lo,h1,Nat.add_zero,List.getElem?_eq_getElem xU]
   simp [xU]
  have hc:=hE.at xU
  rw [<- gq] at hc
  have xS : 0 <= (dw Q lo).2.1 /\ (dw Q lo).2.1 <= 7:=hc.2
  repeat' ((conv => whnf);first | apply And.intro | (intro h9;try (have h8 : (_ : Bool) = _:=h9;clear h8;revert h9;subst_vars;intro h9;exact aq h9 (by assumption))))
  all_goals try (conv => whnf)
  all_goals try first | (apply Tk.mk <;> kernel_rfl) | exact ⟨ah rfl⟩ | exact ⟨rfl⟩ | exact ⟨trivial⟩
  all_goals subst_vars
  all_goals try first | rfl | contradiction | (apply Ob.mk;first | (simp only [ag,ak,aa.ae];omega) | ((try simp only [aa.ae]);(try dsimp only);omega))
  all_goals try first
   | exact ⟨show lo < Q.length by omega⟩
  refine ⟨Nat × List bR × List Sp × Nat,fun y => y.1 <= 2 * L.length /\ da P L y.2.1 /\ h < y.2.1.length /\ gC L h (2 * L.length) E = gC L h y.1 y.2.1 /\ y.2.2.2 <= y.2.2.1.length /\ y.2.2.1.drop y.2.2.2 = (y.2.1.drop h).map (·.1) /\ y.2.1.getD h aG = E.getD h aG,fun x => ⟨aI 72 [2,6,7,8,9] [.a (.p 1 [] 0 0),.a (.mp 3),.a (.sl 4 [] x.2.2.2 (x.2.2.1.length - x.2.2.2)),.a (.p 5 [] 0 0),.a (vI ((L.length : Int) - (x.1 : Nat)))],[],[.arr 46 kW L false false,.box true [vI n,vI P,.sl 0 [] 0 L.length],.box true [vI p,vI 0,.v (.bool false)],.bH 82 kX 3 kI x.2.1 true true,.arr 87 kX x.2.2.1 true true] ++ [.box true [vI (dw Q lo).1,vI (dw Q lo).2.1,.v (.bool (dw Q lo).2.2)]]⟩,fun y => y.1,(2 * L.length,E,Q,lo),[],⟨Nat.le_refl _,hE,xU,rfl,hlo,hQ,rfl⟩,?_,?_⟩
  ·repeat' ((conv => whnf);(first | apply And.intro | intro _))
   all_goals first | rfl | trivial | exact ah rfl | exact aS ‹_› rfl | exact aT ‹_› rfl | ((repeat' first | rfl | constructor);done) | exact ⟨rfl,rfl,rfl,rfl,rfl⟩ | exact QK L.length
  rintro ⟨k,E2,Q2,l2⟩ ⟨hk,xP,s5,hr,jJ,AB,hg⟩
  dsimp only at hk xP s5 hr jJ AB hg
  cases k with
  | zero =>
    have p1 : decide (((L.length : Int) - ((0 : Nat) : Int)) < (L.length : Int)) = false:=decide_eq_false (by omega)
    have oz:=congrArg List.length AB
    rw [List.length_drop,List.length_map,List.length_drop] at oz
    have c6:=hr.trans (JG L h E2)
    have jH : ag5 L p = iv L (97 - (h + 1)) (h + 1) E2:=by
     rw [hf,show 97 - h = (97 - (h + 1)) + 1 by omega,yB xU,c6]
    clear c6
    have Rg : Q2.drop (l2 + 1) = (E2.drop (h + 1)).map (·.1):=by rw [<- List.drop_drop,AB,<- List.map_drop,List.drop_drop]
    repeat' ((conv => whnf);first | apply And.intro | (intro h9;try (have h8 : (_ : Bool) = _:=h9;clear h8;revert h9;subst_vars;intro h9;exact aq h9 (by assumption))))
    all_goals try (conv => whnf)
    all_goals try first | (apply Tk.mk <;> kernel_rfl) | exact ⟨ah rfl⟩ | exact ⟨rfl⟩ | exact ⟨trivial⟩
    all_goals subst_vars
    all_goals try first | rfl | contradiction | (apply Ob.mk;first | (simp only [ag,ak,aa.ae];omega) | ((try simp only [aa.ae]);(try dsimp only);omega))
    refine ⟨(h + 1,E2,Q2,l2 + 1),[0,1,2,3,4],⟨s5,xP,jH,by show l2 + 1 <= Q2.length;omega,Rg⟩,?_,by show 97 - (h + 1) < 97 - h;omega⟩
    repeat' ((conv => whnf);(first | apply And.intro | intro _))
    all_goals first | rfl | trivial | exact ah rfl | exact aS ‹_› rfl | exact aT ‹_› rfl | ((repeat' first | rfl | constructor);done) | exact ⟨rfl,rfl,rfl,rfl,rfl⟩ | exact Nat.sub_sub ..
  | succ k =>
    have p1 : decide (((L.length : Int) - ((k + 1 : Nat) : Int)) < (L.length : Int)) = true:=decide_eq_true (by omega)
    have hs : -(L.length : Int) <= (L.length : Int) - ((k + 1 : Nat) : Int) /\ (L.length : Int) - ((k + 1 : Nat) : Int) < (L.length : Int):=by omega
    have gn : bw L (dw Q lo) ((L.length : Int) - ((k + 1 : Nat) : Int)) = bw L (E2.getD h aG).1 ((L.length : Int) - ((k + 1 : Nat) : Int)):=by rw [gq,hg]
    have gf : bM L (dw Q lo) ((L.length : Int) - ((k + 1 : Nat) : Int)) = bM L (E2.getD h aG).1 ((L.length : Int) - ((k + 1 : Nat) : Int)):=by rw [gq,hg]
    cases hb : bM L (dw Q lo) ((L.length : Int) - ((k + 1 : Nat) : Int))
    ·have e1 : (!bM L (dw Q lo) ((L.length : Int) - ((k + 1 : Nat) : Int))) = true:=by rw [hb];rfl
     have c6:=(hr.trans (tX ..)).trans (congrArg (gC L h k) (n6 (gf ▸ hb)))
     repeat' ((conv => whnf);first | apply And.intro | (intro h9;try (have h8 : (_ : Bool) = _:=h9;clear h8;revert h9;subst_vars;intro h9;exact aq h9 (by assumption))))
     all_goals try (conv => whnf)
     all_goals try first | (apply Tk.mk <;> kernel_rfl) | exact ⟨ah rfl⟩ | exact ⟨rfl⟩ | exact ⟨trivial⟩
     all_goals subst_vars
     all_goals try first | rfl | contradiction | (apply Ob.mk;first | (simp only [ag,ak,aa.ae];omega) | ((try simp only [aa.ae]);(try dsimp only);omega))
     all_goals try first
      | exact ⟨hw⟩
      | exact ⟨hs⟩
      | exact ⟨hl⟩
     all_goals
      refine ⟨(k,E2,Q2,l2),[],⟨Nat.le_of_succ_le hk,xP,s5,c6,jJ,AB,hg⟩,?_,Nat.lt_succ_self k⟩
      repeat' ((conv => whnf);(first | apply And.intro | intro _))
      all_goals first | rfl | trivial | exact ah rfl | exact aS ‹_› rfl | exact aT ‹_› rfl | ((repeat' first | rfl | constructor);done) | exact ⟨rfl,rfl,rfl,rfl,rfl⟩ | exact sub_succ L.length k
    have e1 : (!bM L (dw Q lo) ((L.length : Int) - ((k + 1 : Nat) : Int))) = false:=by rw [hb];rfl
    cases hn : dh E2 (bw L (dw Q lo) ((L.length : Int) - ((k + 1 : Nat) : Int)))
    ·have hnl : ¬ br kX (bw L (dw Q lo) ((L.length : Int) - ((k + 1 : Nat) : Int))) E2 < E2.length:=by rw [HC hn];exact Nat.lt_irrefl _
     have DE : br kX (dw Q lo) E2 = h:=by rw [gq,<- hg];exact NS xP.nd s5
     have oy : br kX (dw Q lo) E2 < E2.length:=by rw [DE];exact s5
     have aai : (E2.getD (br kX (dw Q lo) E2) aG).2.length <= 96:=by
      have:=xP.len h s5
      rw [DE];omega
     have oz:=congrArg List.length AB
     rw [List.length_drop,List.length_map,List.length_drop] at oz
     have R4:=xP.Kg hP
     have xW : dh E2 (bw L (E2.getD h aG).1 ((L.length : Int) - ((k + 1 : Nat) : Int))) = false:=by rw [<- gn];exact hn
     have c6:=(hr.trans (tX ..)).trans (congrArg (gC L h k) (me (gf ▸ hb) xW))
     have hput:=LF (v:=((L.length : Int) - ((k + 1 : Nat) : Int))) hn DE
     clear DE
     repeat' ((conv => whnf);first | apply And.intro | (intro h9;try (have h8 : (_ : Bool) = _:=h9;clear h8;revert h9;subst_vars;intro h9;exact aq h9 (by assumption))))
     all_goals try (conv => whnf)
     all_goals try first | (apply Tk.mk <;> kernel_rfl) | exact ⟨ah rfl⟩ | exact ⟨rfl⟩ | exact ⟨trivial⟩
     all_goals subst_vars
     all_goals try first | rfl | contradiction | (apply Ob.mk;first | (simp only [ag,ak,aa.ae];omega) | ((try simp only [aa.ae]);(try dsimp only);omega))
     all_goals try first
      | exact True.intro
      | exact ⟨oy⟩
      | exact ⟨show (E2.getD (br kX (dw Q lo) E2) aG).2.length <= 1000000 by omega⟩
      | exact ⟨Nat.zero_add _⟩
      | exact ⟨show ((E2.getD (br kX (dw Q lo) E2) aG).2.length + 1) * 1 <= 1099511627776 by omega⟩
      | exact ⟨show (Q2.length - l2 + 1) * 3 <= 1099511627776 by omega⟩
      | exact ⟨show l2 + (Q2.length - l2) = Q2.length by omega⟩
      | exact ⟨mq _ _⟩
      | exact ⟨hw⟩
      | exact ⟨hs⟩
      | exact ⟨hl⟩
     all_goals
      refine ⟨(k,E2 ++ [(bw L (E2.getD h aG).1 ((L.length : Int) - ((k + 1 : Nat) : Int)),(E2.getD h aG).2 ++ [((L.length : Int) - ((k + 1 : Nat) : Int))])],Q2.drop l2 ++ [(bw L (dw Q lo) ((L.length : Int) - ((k + 1 : Nat) : Int)))],0),[0,1,2,3,4,5],⟨Nat.le_of_succ_le hk,xP.snoc (cW.1 hw) s5 hs xW,by show h < (E2 ++ _).length;rw [List.length_append];omega,c6,Nat.zero_le _,?_,?_⟩,?_,Nat.lt_succ_self k⟩
      ·exact JA AB s5 gn
      ·exact (fP s5).trans hg
      repeat' ((conv => whnf);(first | apply And.intro | intro _))
      all_goals first | rfl | trivial | exact ah rfl | exact aS ‹_› rfl | exact aT ‹_› rfl | ((repeat' first | rfl | constructor);done) | exact ⟨rfl,rfl,rfl,rfl,rfl⟩ | exact sub_succ L.length k | exact ⟨rfl,rfl,rfl,rfl,gn ▸ hput⟩ | exact LG jJ
    have gT : ¬ br kX (bw L (dw Q lo) ((L.length : Int) - ((k + 1 : Nat) : Int))) E2 = E2.length:=Nat.ne_of_lt (A4 hn)
    have c6:=(hr.trans (tX ..)).trans (congrArg (gC L h k) (mc (gn ▸ hn)))
    repeat' ((conv => whnf);first | apply And.intro | (intro h9;try (have h8 : (_ : Bool) = _:=h9;clear h8;revert h9;subst_vars;intro h9;exact aq h9 (by assumption))))
    all_goals try (conv => whnf)
    all_goals try first | (apply Tk.mk <;> kernel_rfl) | exact ⟨ah rfl⟩ | exact ⟨rfl⟩ | exact ⟨trivial⟩
    all_goals subst_vars
    all_goals try first | rfl | contradiction | (apply Ob.mk;first | (simp only [ag,ak,aa.ae];omega) | ((try simp only [aa.ae]);(try dsimp only);omega))
    all_goals try first
     | exact ⟨hw⟩
     | exact ⟨hs⟩
     | exact ⟨hl⟩
    all_goals
     refine ⟨(k,E2,Q2,l2),[],⟨Nat.le_of_succ_le hk,xP,s5,c6,jJ,AB,hg⟩,?_,Nat.lt_succ_self k⟩
     repeat' ((conv => whnf);(first | apply And.intro | intro _))
     all_goals first | rfl | trivial | exact ah rfl | exact aS ‹_› rfl | exact aT ‹_› rfl | ((repeat' first | rfl | constructor);done) | exact ⟨rfl,rfl,rfl,rfl,rfl⟩ | exact sub_succ L.length k
 have p0 : decide (((Q.length - lo : Nat) : Int) > 0) = false:=decide_eq_false (by omega)
 rw [hf.trans (Cc (by omega))] at hK
 repeat' ((conv => whnf);first | apply And.intro | (intro h9;try (have h8 : (_ : Bool) = _:=h9;clear h8;revert h9;subst_vars;intro h9;exact aq h9 (by assumption))))
 all_goals try (conv => whnf)
 all_goals try first | (apply Tk.mk <;> kernel_rfl) | exact ⟨ah rfl⟩ | exact ⟨rfl⟩ | exact ⟨trivial⟩
 all_goals subst_vars
 all_goals try first | rfl | contradiction | (apply Ob.mk;first | (simp only [ag,ak,aa.ae];omega) | ((try simp only [aa.ae]);(try dsimp only);omega))
 refine bu.base ⟨_,[3],hK,⟨rfl,rfl,by simp,trivial⟩,rfl,?_⟩
 repeat' ((conv => whnf);(first | apply And.intro | intro _))
 all_goals first | rfl | trivial)
end Go.Proofs.YthejmgnkenokpaaGreatDoor
end
section
namespace Go.Proofs.YthejmgnkenokpaaGreatDoor
open Go Go.Sy Go.bK
variable {Γ : bn}
theorem DO {E : List bR} {x : Sp} (h : dh E x = false) : ¬ br kX x E < E.length:=by rw [HC h];exact Nat.lt_irrefl _
theorem DN {E : List bR} {x : Sp} (h : dh E x = true) : ¬ br kX x E = E.length:=Nat.ne_of_lt (A4 h)
theorem tM {α : Type} {l m : List α} {x : α} (h : m = l ++ [x]) : l.length + 1 = m.length:=by rw [h];simp
def mh : au:=tG (fun _ P L p => [(aa.of (dY P L = true)),(aa.of (P <= 6)),(aa.of (L.length <= 1000000)),(aa.of (0 <= p /\ p <= P - 1))]) (fun _ _ L p => ⟨[.arr 48 kG (af L p) true true],.a (.sl 0 [] 0 (af L p).length)⟩)
noncomputable def Mi : List (Nat × au):=[(47,r5)]
theorem FY : aR Tryz.prog Γ Mi:=(aR.nil.cons (aj Tryz.func47 rfl rfl).fn oU)
attribute [local irreducible] ag5 fA
theorem jy : au.Ok Tryz.prog Γ 48 mh:=sa (d:=0) (aP FY bq.nil false 0) (aj Tryz.func48 rfl rfl) (by
 intro n P L p K ⟨hw,hP,hl,hp,_⟩ hK
 simp only [aa.ae] at hw hP hl hp
 repeat' ((conv => whnf);first | apply And.intro | (intro h9;try (have h8 : (_ : Bool) = _:=h9;clear h8;revert h9;subst_vars;intro h9;exact aq h9 (by assumption))))
 all_goals try (conv => whnf)
 all_goals try first | (apply Tk.mk <;> kernel_rfl) | exact ⟨ah rfl⟩ | exact ⟨rfl⟩ | exact ⟨trivial⟩
 all_goals subst_vars
 all_goals try first | rfl | contradiction | (apply Ob.mk;first | (simp only [ag,ak,aa.ae];omega) | ((try simp only [aa.ae]);(try dsimp only);omega))
 all_goals try first
  | exact ⟨hw⟩
  | exact ⟨hl⟩
 refine ⟨Nat,fun i => i <= 8,fun i => ⟨aI 42 [1,5,6,16] [.a (vI p),.a (.mp 2),.a (.sl 3 [] 0 (ee (ag5 L p) p (2 * i)).length),.a (vI i)],[],[.arr 46 kW L false false,.box true [vI n,vI P,.sl 0 [] 0 L.length],.bH 82 kX 3 kI (ag5 L p) true true,.arr 48 kG (ee (ag5 L p) p (2 * i)) true true]⟩,fun i => 8 - i,0,[0,1,2,1000],Nat.zero_le _,?_,?_⟩
 ·repeat' ((conv => whnf);(first | apply And.intro | intro _))
  all_goals first | rfl | trivial | exact ah rfl | exact aS ‹_› rfl | exact aT ‹_› rfl | ((repeat' first | rfl | constructor);done)
 rintro i hi
 by_cases hi1 : i < 8
 ·have p0 : decide ((i : Int) < 8) = true:=decide_eq_true (by omega)
  repeat' ((conv => whnf);first | apply And.intro | (intro h9;try (have h8 : (_ : Bool) = _:=h9;clear h8;revert h9;subst_vars;intro h9;exact aq h9 (by assumption))))
  all_goals try (conv => whnf)
  all_goals try first | (apply Tk.mk <;> kernel_rfl) | exact ⟨ah rfl⟩ | exact ⟨rfl⟩ | exact ⟨trivial⟩
  all_goals subst_vars
  all_goals try first | rfl | contradiction | (apply Ob.mk;first | (simp only [ag,ak,aa.ae];omega) | ((try simp only [aa.ae]);(try dsimp only);omega))
  refine ⟨Nat,fun j => j <= 2,fun j => ⟨aI 42 [1,5,6,7,16,19,20] [.a (vI p),.a (.mp 2),.a (.sl 3 [] 0 (ee (ag5 L p) p (2 * i + j)).length),.a (vI i),.a (vI i),.agg [.ff,.tt],.a (vI j)],[],[.arr 46 kW L false false,.box true [vI n,vI P,.sl 0 [] 0 L.length],.bH 82 kX 3 kI (ag5 L p) true true,.arr 48 kG (ee (ag5 L p) p (2 * i + j)) true true]⟩,fun j => 2 - j,0,[],Nat.zero_le _,?_,?_⟩
  ·repeat' ((conv => whnf);(first | apply And.intro | intro _))
   all_goals first | rfl | trivial | exact ah rfl | exact aS ‹_› rfl | exact aT ‹_› rfl | ((repeat' first | rfl | constructor);done)
  rintro j hj
  by_cases Ho : j < 2
  ·have p1 : decide ((j : Int) < 2) = true:=decide_eq_true (by omega)
   have jJ:=oK (ag5 L p) p (2 * i + j)
   have fK : fA (2 * i) = ((i : Int),false):=HW i
   have hs1 : fA (2 * i + 1) = ((i : Int),true):=HX i
   obtain rfl | rfl : j = 0 \/ j = 1:=by omega
   ·cases hn : akt (ag5 L p) p (fA (2 * i + 0))
    ·have gT : ¬ br kX (p,(i : Int),false) (ag5 L p) < (ag5 L p).length:=DO (by
      rw [show (2 * i + 0) = 2 * i from rfl,fK] at hn
      exact hn)
     have hno:=HY hn
     repeat' ((conv => whnf);first | apply And.intro | (intro h9;try (have h8 : (_ : Bool) = _:=h9;clear h8;revert h9;subst_vars;intro h9;exact aq h9 (by assumption))))
     all_goals try (conv => whnf)
     all_goals try first | (apply Tk.mk <;> kernel_rfl) | exact ⟨ah rfl⟩ | exact ⟨rfl⟩ | exact ⟨trivial⟩
     all_goals subst_vars
     all_goals try first | rfl | contradiction | (apply Ob.mk;first | (simp only [ag,ak,aa.ae];omega) | ((try simp only [aa.ae]);(try dsimp only);omega))
     all_goals try first
      | exact True.intro
     refine ⟨0 + 1,[],(by omega),?_,by show 2 - (0 + 1) < 2 - 0;omega⟩
     repeat' ((conv => whnf);(first | apply And.intro | intro _))
     all_goals first | rfl | trivial | exact ah rfl | exact aS ‹_› rfl | exact aT ‹_› rfl | ((repeat' first | rfl | constructor);done) | exact hno.symm | exact hno | exact ⟨rfl,rfl,hno.symm⟩ | (rw [hno])
    have gT : ¬ br kX (p,(i : Int),false) (ag5 L p) = (ag5 L p).length:=DN (by
     rw [show (2 * i + 0) = 2 * i from rfl,fK] at hn
     exact hn)
    have iB:=D7 hn
    rw [show (2 * i + 0) = 2 * i from rfl,fK] at iB
    have qX:=(tM iB)
    repeat' ((conv => whnf);first | apply And.intro | (intro h9;try (have h8 : (_ : Bool) = _:=h9;clear h8;revert h9;subst_vars;intro h9;exact aq h9 (by assumption))))
    all_goals try (conv => whnf)
    all_goals try first | (apply Tk.mk <;> kernel_rfl) | exact ⟨ah rfl⟩ | exact ⟨rfl⟩ | exact ⟨trivial⟩
    all_goals subst_vars
    all_goals try first | rfl | contradiction | (apply Ob.mk;first | (simp only [ag,ak,aa.ae];omega) | ((try simp only [aa.ae]);(try dsimp only);omega))
    all_goals try first
     | exact True.intro
     | exact ⟨Nat.zero_add _⟩
     | exact ⟨show ((ee (ag5 L p) p (2 * i + 0)).length + 1) * 2 <= 1099511627776 by omega⟩
    refine ⟨0 + 1,[0,1,2,3],(by omega),?_,by show 2 - (0 + 1) < 2 - 0;omega⟩
    repeat' ((conv => whnf);(first | apply And.intro | intro _))
    all_goals first | rfl | trivial | exact ah rfl | exact aS ‹_› rfl | exact aT ‹_› rfl | ((repeat' first | rfl | constructor);done) | exact qX | exact ⟨rfl,rfl,iB.symm⟩
   cases hn : akt (ag5 L p) p (fA (2 * i + 1))
   ·have gT : ¬ br kX (p,(i : Int),true) (ag5 L p) < (ag5 L p).length:=DO (by
     rw [show (2 * i + 1) = 2 * i + 1 from rfl,hs1] at hn
     exact hn)
    have hno:=HY hn
    repeat' ((conv => whnf);first | apply And.intro | (intro h9;try (have h8 : (_ : Bool) = _:=h9;clear h8;revert h9;subst_vars;intro h9;exact aq h9 (by assumption))))
    all_goals try (conv => whnf)
    all_goals try first | (apply Tk.mk <;> kernel_rfl) | exact ⟨ah rfl⟩ | exact ⟨rfl⟩ | exact ⟨trivial⟩
    all_goals subst_vars
    all_goals try first | rfl | contradiction | (apply Ob.mk;first | (simp only [ag,ak,aa.ae];omega) | ((try simp only [aa.ae]);(try dsimp only);omega))
    all_goals try first
     | exact True.intro
    refine ⟨1 + 1,[],(by omega),?_,by show 2 - (1 + 1) < 2 - 1;omega⟩
    repeat' ((conv => whnf);(first | apply And.intro | intro _))
    all_goals first | rfl | trivial | exact ah rfl | exact aS ‹_› rfl | exact aT ‹_› rfl | ((repeat' first | rfl | constructor);done) | exact hno.symm | exact hno | exact ⟨rfl,rfl,hno.symm⟩ | (rw [hno])
   have gT : ¬ br kX (p,(i : Int),true) (ag5 L p) = (ag5 L p).length:=DN (by
    rw [show (2 * i + 1) = 2 * i + 1 from rfl,hs1] at hn
    exact hn)
   have iB:=D7 hn
   rw [show (2 * i + 1) = 2 * i + 1 from rfl,hs1] at iB
   have qX:=(tM iB)
   repeat' ((conv => whnf);first | apply And.intro | (intro h9;try (have h8 : (_ : Bool) = _:=h9;clear h8;revert h9;subst_vars;intro h9;exact aq h9 (by assumption))))
   all_goals try (conv => whnf)
   all_goals try first | (apply Tk.mk <;> kernel_rfl) | exact ⟨ah rfl⟩ | exact ⟨rfl⟩ | exact ⟨trivial⟩
   all_goals subst_vars
   all_goals try first | rfl | contradiction | (apply Ob.mk;first | (simp only [ag,ak,aa.ae];omega) | ((try simp only [aa.ae]);(try dsimp only);omega))
   all_goals try first
    | exact True.intro
    | exact ⟨Nat.zero_add _⟩
    | exact ⟨show ((ee (ag5 L p) p (2 * i + 1)).length + 1) * 2 <= 1099511627776 by omega⟩
   refine ⟨1 + 1,[0,1,2,3],(by omega),?_,by show 2 - (1 + 1) < 2 - 1;omega⟩
   repeat' ((conv => whnf);(first | apply And.intro | intro _))
   all_goals first | rfl | trivial | exact ah rfl | exact aS ‹_› rfl | exact aT ‹_› rfl | ((repeat' first | rfl | constructor);done) | exact qX | exact ⟨rfl,rfl,iB.symm⟩
  obtain rfl : j = 2:=by omega
  have p1 : decide (((2 : Nat) : Int) < 2) = false:=rfl
  repeat' ((conv => whnf);first | apply And.intro | (intro h9;try (have h8 : (_ : Bool) = _:=h9;clear h8;revert h9;subst_vars;intro h9;exact aq h9 (by assumption))))
  all_goals try (conv => whnf)
  all_goals try first | (apply Tk.mk <;> kernel_rfl) | exact ⟨ah rfl⟩ | exact ⟨rfl⟩ | exact ⟨trivial⟩
  all_goals subst_vars
  all_goals try first | rfl | contradiction | (apply Ob.mk;first | (simp only [ag,ak,aa.ae];omega) | ((try simp only [aa.ae]);(try dsimp only);omega))
  refine ⟨i + 1,[],hi1,?_,by show 8 - (i + 1) < 8 - i;omega⟩
  repeat' ((conv => whnf);(first | apply And.intro | intro _))
  all_goals first | rfl | trivial | exact ah rfl | exact aS ‹_› rfl | exact aT ‹_› rfl | ((repeat' first | rfl | constructor);done)
 have p0 : decide ((i : Int) < 8) = false:=decide_eq_false (by omega)
 obtain rfl : i = 8:=by omega
 repeat' ((conv => whnf);first | apply And.intro | (intro h9;try (have h8 : (_ : Bool) = _:=h9;clear h8;revert h9;subst_vars;intro h9;exact aq h9 (by assumption))))
 all_goals try (conv => whnf)
 all_goals try first | (apply Tk.mk <;> kernel_rfl) | exact ⟨ah rfl⟩ | exact ⟨rfl⟩ | exact ⟨trivial⟩
 all_goals subst_vars
 all_goals try first | rfl | contradiction | (apply Ob.mk;first | (simp only [ag,ak,aa.ae];omega) | ((try simp only [aa.ae]);(try dsimp only);omega))
 refine bu.base ⟨_,[3],hK,⟨rfl,rfl,by simp,trivial⟩,rfl,?_⟩
 repeat' ((conv => whnf);(first | apply And.intro | intro _))
 all_goals first | rfl | trivial)
end Go.Proofs.YthejmgnkenokpaaGreatDoor
end
section
namespace Go.Proofs.YthejmgnkenokpaaGreatDoor
open Go Go.Sy Go.bK
variable {Γ : bn}
def MF (D : List Int -> List Int -> List aa) (R : List Int -> List Int -> cM) : au:=.new fun args rg K => match args with
 | [.a x0,.a x1] => (match ac1 3 kI rg x0,ac1 3 kI rg x1 with | some (q0,L0),some (q1,L1) => bk false (q0 ++ (q1 ++ (D L0 L1))) (K (R L0 L1)) | _,_ => False)
 | _ => False
theorem Li {f : FuncId} {b : Body} {E : Env} {d : Nat} (hP : aL Tryz.prog Γ E) (hb : bQ Tryz.prog f b) {D : List Int -> List Int -> List aa} {R : List Int -> List Int -> cM}
  (H : ∀ (L0 : List Int) (L1 : List Int) (K : cM -> Prop),bW (D L0 L1) -> K (R L0 L1) -> cQ E d b [.a (.sl 0 [] 0 L0.length),.a (.sl 1 [] 0 L1.length)] [.arr 3 kI L0 false false,.arr 3 kI L1 false false] (bu K)) : au.Ok Tryz.prog Γ f (MF D R):=au.fM (d:=d) hP hb (by
 intro args rg K hF
 split at hF
 next x0 x1 =>
  split at hF
  next q0 L0 q1 L1 hx0 cO =>
   rw [aV,aH,aH] at hF
   obtain ⟨⟨dm,gk,hD⟩,hK⟩:=hF
   obtain ⟨e0,Vn⟩:=bP (by simp [kI]) hx0 dm
   obtain ⟨e1,iO⟩:=bP (by simp [kI]) cO gk
   obtain ⟨p0,r0⟩:=Vn [e0,e1] 0 2 rfl (by omega)
   obtain ⟨p1,r1⟩:=iO [e0,e1] 1 2 rfl (by omega)
   refine ⟨[e0,e1],[.a (.sl 0 [] 0 L0.length),.a (.sl 1 [] 0 L1.length)],[.arr 3 kI L0 false false,.arr 3 kI L1 false false],⟨⟨p0,p1,trivial⟩,fun r g hg => ?_⟩,bu K,H _ _ K hD hK,fun x st h => h⟩
   match r,hg with
   | 0,hg => obtain rfl:=Option.some.inj hg;exact r0
   | 1,hg => obtain rfl:=Option.some.inj hg;exact r1
  next => exact hF.elim
 next => exact hF.elim)
def oL (n P : Int) (L : List Wk) (p : Int) : cM:=match bf n P L p == 0 with
 | true => ⟨[.arr 48 kG (af L p) true true],.bF [.a (.sl 0 [] 0 (af L p).length),.a (vI 0)]⟩
 | false => ⟨[],.bF [.a (.v (.slice none 0 0)),.a (vI (bf n P L p))]⟩
def K7 : au:=tG (fun _ _ L _ => [(aa.of (L.length <= 1000000))]) oL
theorem gg {n P : Int} {L : List Wk} {p : Int} (h : bf n P L p = 0) : dY P L = true /\ P <= 6 /\ (0 <= p /\ p <= P - 1) /\ (1 <= n /\ n <= 6):=by
 unfold bf at h
 by_cases h0 : bD n P L = 0
 ·rw [if_pos h0] at h
  by_cases h1 : aQ p 0 (P - 1) = true
  ·have s:=oe.1 h0
   exact ⟨cW.2 s.w,s.p.2,akk.1 h1,s.n⟩
  ·rw [if_neg h1] at h;cases h
 ·rw [if_neg h0] at h;exact absurd h h0
noncomputable def Me : List (Nat × au):=[(45,jf),(48,mh)]
theorem FR : aR Tryz.prog Γ Me:=((aR.nil.cons (aj Tryz.func48 rfl rfl).fn jy).cons (aj Tryz.func45 rfl rfl).fn fQ)
attribute [local irreducible] af
theorem EH : au.Ok Tryz.prog Γ 24 K7:=sa (d:=0) (aP FR bq.nil false 0) (aj Tryz.func24 rfl rfl) (by
 intro n P L p K ⟨hl,_⟩ hK
 simp only [aa.ae] at hl
 cases h0 : bf n P L p == 0
 ·have e0 : (bf n P L p != 0) = true:=by unfold bne;rw [h0];rfl
  rw [show oL n P L p = ⟨[],.bF [.a (.v (.slice none 0 0)),.a (vI (bf n P L p))]⟩ by unfold oL;rw [h0]] at hK
  repeat' ((conv => whnf);first | apply And.intro | (intro h9;try (have h8 : (_ : Bool) = _:=h9;clear h8;revert h9;subst_vars;intro h9;exact aq h9 (by assumption))))
  all_goals try (conv => whnf)
  all_goals try first | (apply Tk.mk <;> kernel_rfl) | exact ⟨ah rfl⟩ | exact ⟨rfl⟩ | exact ⟨trivial⟩
  all_goals subst_vars
  all_goals try first | rfl | contradiction | (apply Ob.mk;first | (simp only [ag,ak,aa.ae];omega) | ((try simp only [aa.ae]);(try dsimp only);omega))
  all_goals first
   | exact ⟨hl⟩
   | (refine bu.base ⟨_,[],hK,trivial,rfl,?_⟩;(repeat' ((conv => whnf);(first | apply And.intro | intro _)));all_goals first | rfl | trivial)
 have e0 : (bf n P L p != 0) = false:=by unfold bne;rw [h0];rfl
 have e2:=eq_of_beq h0
 obtain ⟨hw,hP,hp,hn⟩:=gg e2
 rw [show oL n P L p = ⟨[.arr 48 kG (af L p) true true],.bF [.a (.sl 0 [] 0 (af L p).length),.a (vI 0)]⟩ by unfold oL;rw [h0]] at hK
 repeat' ((conv => whnf);first | apply And.intro | (intro h9;try (have h8 : (_ : Bool) = _:=h9;clear h8;revert h9;subst_vars;intro h9;exact aq h9 (by assumption))))
 all_goals try (conv => whnf)
 all_goals try first | (apply Tk.mk <;> kernel_rfl) | exact ⟨ah rfl⟩ | exact ⟨rfl⟩ | exact ⟨trivial⟩
 all_goals subst_vars
 all_goals try first | rfl | contradiction | (apply Ob.mk;first | (simp only [ag,ak,aa.ae];omega) | ((try simp only [aa.ae]);(try dsimp only);omega))
 all_goals first
  | exact ⟨hw⟩
  | exact ⟨hl⟩
  | (refine bu.base ⟨_,[2],hK,⟨rfl,rfl,by simp,trivial⟩,rfl,?_⟩;(repeat' ((conv => whnf);(first | apply And.intro | intro _)));all_goals first | rfl | trivial))
def wo : au:=MF (fun A S => [(aa.of (A.length <= 1000000)),(aa.of (S.length = A.length))]) (fun A S => ⟨[.arr 3 kI (eR A S A.length) true true],.a (.sl 0 [] 0 (eR A S A.length).length)⟩)
theorem uC : au.Ok Tryz.prog Γ 79 wo:=Li (d:=0) (aP aR.nil bq.nil false 0) (aj Tryz.func79 rfl rfl) (by
 intro A S K ⟨hA,hS,_⟩ hK
 simp only [aa.ae] at hA hS
 repeat' ((conv => whnf);first | apply And.intro | (intro h9;try (have h8 : (_ : Bool) = _:=h9;clear h8;revert h9;subst_vars;intro h9;exact aq h9 (by assumption))))
 all_goals try (conv => whnf)
 all_goals try first | (apply Tk.mk <;> kernel_rfl) | exact ⟨ah rfl⟩ | exact ⟨rfl⟩ | exact ⟨trivial⟩
 all_goals subst_vars
 all_goals try first | rfl | contradiction | (apply Ob.mk;first | (simp only [ag,ak,aa.ae];omega) | ((try simp only [aa.ae]);(try dsimp only);omega))
 refine ⟨Nat,fun x => x <= A.length,fun x => ⟨aI 31 [1,5,8,9,10] [.a (.sl 1 [] 0 S.length),.a (.sl 2 [] 0 (eR A S x).length),.a (.sl 0 [] 0 A.length),.a (vI A.length),.a (vI x)],[],[.arr 3 kI A false false,.arr 3 kI S false false,.arr 3 kI (eR A S (x)) true true]⟩,fun x => A.length - x,0,[0,1,1000],Nat.zero_le _,?_,?_⟩
 ·repeat' ((conv => whnf);(first | apply And.intro | intro _))
  all_goals first | rfl | trivial | exact ah rfl | exact aS ‹_› rfl | exact aT ‹_› rfl | ((repeat' first | rfl | constructor);done)
 rintro x hx
 have jJ:=r9 A S x
 by_cases cO : x < A.length
 ·have p0 : decide ((x : Int) < (A.length : Int)) = true:=decide_eq_true (by omega)
  have ga : av A x = gi A x:=dP A x
  have gs : av S x = gi S x:=dP S x
  cases h1 : (av A x == (x : Int))
  ·have hno : eR A S (x + 1) = eR A S x:=GK (by unfold uQ;rw [<- ga,h1];rfl)
   repeat' ((conv => whnf);first | apply And.intro | (intro h9;try (have h8 : (_ : Bool) = _:=h9;clear h8;revert h9;subst_vars;intro h9;exact aq h9 (by assumption))))
   all_goals try (conv => whnf)
   all_goals try first | (apply Tk.mk <;> kernel_rfl) | exact ⟨ah rfl⟩ | exact ⟨rfl⟩ | exact ⟨trivial⟩
   all_goals subst_vars
   all_goals try first | rfl | contradiction | (apply Ob.mk;first | (simp only [ag,ak,aa.ae];omega) | ((try simp only [aa.ae]);(try dsimp only);omega))
   all_goals try first
    | exact ⟨show 0 + Int.toNat (x : Int) < A.length by omega⟩
   refine ⟨x + 1,[],cO,?_,by show A.length - (x + 1) < A.length - x;omega⟩
   repeat' ((conv => whnf);(first | apply And.intro | intro _))
   all_goals first | rfl | trivial | exact ah rfl | exact aS ‹_› rfl | exact aT ‹_› rfl | ((repeat' first | rfl | constructor);done) | exact congrArg List.length hno.symm | exact ⟨rfl,rfl,hno.symm⟩
  cases h2 : (av S x == 0)
  ·have h3 : (av S x != 0) = true:=by unfold bne;rw [h2];rfl
   have iB : eR A S (x + 1) = eR A S x ++ [(x : Int)]:=Lf (by unfold uQ;rw [<- ga,<- gs,h1,h2];rfl)
   have qX:=tM iB
   repeat' ((conv => whnf);first | apply And.intro | (intro h9;try (have h8 : (_ : Bool) = _:=h9;clear h8;revert h9;subst_vars;intro h9;exact aq h9 (by assumption))))
   all_goals try (conv => whnf)
   all_goals try first | (apply Tk.mk <;> kernel_rfl) | exact ⟨ah rfl⟩ | exact ⟨rfl⟩ | exact ⟨trivial⟩
   all_goals subst_vars
   all_goals try first | rfl | contradiction | (apply Ob.mk;first | (simp only [ag,ak,aa.ae];omega) | ((try simp only [aa.ae]);(try dsimp only);omega))
   all_goals try first
    | exact ⟨show 0 + Int.toNat (x : Int) < A.length by omega⟩
    | exact ⟨show 0 + Int.toNat (x : Int) < S.length by omega⟩
    | exact ⟨Nat.zero_add _⟩
    | exact ⟨show ((eR A S x).length + 1) * 1 <= 1099511627776 by omega⟩
   refine ⟨x + 1,[0,1,2],cO,?_,by show A.length - (x + 1) < A.length - x;omega⟩
   repeat' ((conv => whnf);(first | apply And.intro | intro _))
   all_goals first | rfl | trivial | exact ah rfl | exact aS ‹_› rfl | exact aT ‹_› rfl | ((repeat' first | rfl | constructor);done) | exact qX | exact ⟨rfl,rfl,iB.symm⟩
  have h3 : (av S x != 0) = false:=by unfold bne;rw [h2];rfl
  have hno : eR A S (x + 1) = eR A S x:=GK (by unfold uQ;rw [<- gs,h2];cases (gi A x == (x : Int)) <;> rfl)
  repeat' ((conv => whnf);first | apply And.intro | (intro h9;try (have h8 : (_ : Bool) = _:=h9;clear h8;revert h9;subst_vars;intro h9;exact aq h9 (by assumption))))
  all_goals try (conv => whnf)
  all_goals try first | (apply Tk.mk <;> kernel_rfl) | exact ⟨ah rfl⟩ | exact ⟨rfl⟩ | exact ⟨trivial⟩
  all_goals subst_vars
  all_goals try first | rfl | contradiction | (apply Ob.mk;first | (simp only [ag,ak,aa.ae];omega) | ((try simp only [aa.ae]);(try dsimp only);omega))
  all_goals try first
   | exact ⟨show 0 + Int.toNat (x : Int) < A.length by omega⟩
   | exact ⟨show 0 + Int.toNat (x : Int) < S.length by omega⟩
  refine ⟨x + 1,[],cO,?_,by show A.length - (x + 1) < A.length - x;omega⟩
  repeat' ((conv => whnf);(first | apply And.intro | intro _))
  all_goals first | rfl | trivial | exact ah rfl | exact aS ‹_› rfl | exact aT ‹_› rfl | ((repeat' first | rfl | constructor);done) | exact congrArg List.length hno.symm | exact ⟨rfl,rfl,hno.symm⟩
 have p0 : decide ((x : Int) < (A.length : Int)) = false:=decide_eq_false (by omega)
 obtain rfl : x = A.length:=by omega
 repeat' ((conv => whnf);first | apply And.intro | (intro h9;try (have h8 : (_ : Bool) = _:=h9;clear h8;revert h9;subst_vars;intro h9;exact aq h9 (by assumption))))
 all_goals try (conv => whnf)
 all_goals try first | (apply Tk.mk <;> kernel_rfl) | exact ⟨ah rfl⟩ | exact ⟨rfl⟩ | exact ⟨trivial⟩
 all_goals subst_vars
 all_goals try first | rfl | contradiction | (apply Ob.mk;first | (simp only [ag,ak,aa.ae];omega) | ((try simp only [aa.ae]);(try dsimp only);omega))
 refine bu.base ⟨_,[2],hK,⟨rfl,rfl,by simp,trivial⟩,rfl,?_⟩
 repeat' ((conv => whnf);(first | apply And.intro | intro _))
 all_goals first | rfl | trivial)
end Go.Proofs.YthejmgnkenokpaaGreatDoor
end
section
namespace Go.Proofs.YthejmgnkenokpaaGreatDoor
open Go Go.Sy Go.bK
variable {Γ : bn}
def Mn (l : List UInt8) : ByteArray:=⟨l.toArray⟩
def lU (n : Int) : ByteArray:=Mn (Lib.decDigits n.toNat)
def Gb : au:=.fn fun args _ => match args with
 | [.a (.v (.int .i64 n))] => some ([(aa.of (0 <= n /\ n < 100))],.a (.v (.string (lU n))))
 | _ => none
theorem Gc : au.Ok Tryz.prog Γ 107 Gb:=by
 intro args rg q t hF hq M w0 ρ w vs hl qR nv hargs s8
 simp only at hF
 split at hF
 next n =>
  obtain ⟨rfl,rfl⟩:=Prod.mk.inj (Option.some.inj hF);clear hF
  obtain ⟨h1,-⟩:=hq
  simp only [aa.ae] at h1
  match vs,hargs with
  | [y],⟨⟨hy,_⟩,_⟩ =>
    subst hy
    obtain ⟨i,rfl⟩ : ∃ i : Nat,n = (i : Int):=⟨n.toNat,by omega⟩
    refine (Tryz.strconv_Itoa_small i (by omega) w).mono fun e w' ⟨he,hw⟩ => ?_
    subst hw
    exact ⟨_,he,⟨rfl,rfl⟩,Go.RowKit.Below.refl _ _⟩
 next => cases hF
def PG (D : ByteArray -> List Int -> List aa) (F : ByteArray -> List Int -> Tm) : au:=.fn fun args rg => match args with
 | [.a (.v (.string s0)),.a x0] => (match ac1 3 kI rg x0 with | some (q0,L0) => some (q0 ++ (D s0 L0),F s0 L0) | _ => none)
 | _ => none
theorem M4 {f : FuncId} {b : Body} {E : Env} {d : Nat} (hP : aL Tryz.prog Γ E) (hb : bQ Tryz.prog f b) {D : ByteArray -> List Int -> List aa} {F : ByteArray -> List Int -> Tm} (hp : ∀ (s0 : ByteArray) (L0 : List Int),(F s0 L0).plain = true)
  (H : ∀ (s0 : ByteArray) (L0 : List Int),bW (D s0 L0) -> cQ E d b [.a (.v (.string s0)),.a (.sl 0 [] 0 L0.length)] [.arr 3 kI L0 false false] (fun x _ => iL x (F s0 L0))) : au.Ok Tryz.prog Γ f (PG D F):=au.er (d:=d) hP hb (by
 intro args rg q t hF hq
 split at hF
 next s0 x0 =>
  split at hF
  next q0 L0 hx0 =>
   obtain ⟨rfl,rfl⟩:=Prod.mk.inj (Option.some.inj hF);clear hF
   rw [aH] at hq
   obtain ⟨dm,hD⟩:=hq
   obtain ⟨e0,Vn⟩:=bP (by simp [kI]) hx0 dm
   obtain ⟨p0,r0⟩:=Vn [e0] 0 1 rfl (by omega)
   refine ⟨hp _ _,[e0],[.a (.v (.string s0)),.a (.sl 0 [] 0 L0.length)],[.arr 3 kI L0 false false],⟨⟨rfl,p0,trivial⟩,fun r g hg => ?_⟩,H _ _ hD⟩
   match r,hg with
   | 0,hg => obtain rfl:=Option.some.inj hg;exact r0
  next => cases hF
 next => cases hF)
def vP : ByteArray:={ data:=#[32] }
def N1 : ByteArray:={ data:=#[10] }
def mR (w : ByteArray) (l : List Int) : Nat -> ByteArray
 | 0 => w
 | k + 1 => mR w l k ++ (vP ++ lU (gi l k))
def abE (w : ByteArray) (l : List Int) : ByteArray:=mR w l l.length ++ N1
theorem AW {v : Int} (h : 0 <= v /\ v < 100) : (lU v).size <= 2:=by
 have h1 : (lU v).size = (Lib.decDigits v.toNat).length:=by simp [lU,Mn,ByteArray.size]
 rw [h1]
 by_cases h2 : v.toNat < 10
 ·rw [Lib.decDigits_one h2];exact Nat.le_succ _
 ·rw [Lib.decDigits_two h2 (by omega)];exact Nat.le_refl _
theorem tN {w : ByteArray} {l : List Int} (hl : ∀ v ∈ l,0 <= v /\ v < 100) : ∀ k,k <= l.length -> (mR w l k).size <= w.size + 3 * k
 | 0,_ => Nat.le_refl _
 | k + 1,hk => by
   have h1:=tN (w:=w) hl k (by omega)
   have h2:=AW (hl (gi l k) (qL hk))
   rw [mR,ByteArray.size_append,ByteArray.size_append]
   have : vP.size = 1:=rfl
   omega
def Gi : au:=PG (fun w l => [(aa.of (l.length <= 10)),(aa.of (∀ v ∈ l,0 <= v /\ v < 100)),(aa.of (w.size <= 100))]) (fun w l => .a (.v (.string (abE w l))))
noncomputable def OQ : List (Nat × au):=[(107,Gb)]
theorem Iw : aR Tryz.prog Γ OQ:=(aR.nil.cons (aj Tryz.func107 rfl rfl).fn Gc)
attribute [local irreducible] lU
theorem Gj : au.Ok Tryz.prog Γ 69 Gi:=M4 (d:=0) (aP Iw bq.nil false 0) (aj Tryz.func69 rfl rfl) (fun _ _ => rfl) (by
 intro w l ⟨hl,hv,hw,_⟩
 simp only [aa.ae] at hl hv hw
 repeat' ((conv => whnf);first | apply And.intro | (intro h9;try (have h8 : (_ : Bool) = _:=h9;clear h8;revert h9;subst_vars;intro h9;exact aq h9 (by assumption))))
 all_goals try (conv => whnf)
 all_goals try first | (apply Tk.mk <;> kernel_rfl) | exact ⟨ah rfl⟩ | exact ⟨rfl⟩ | exact ⟨trivial⟩
 all_goals subst_vars
 all_goals try first | rfl | contradiction | (apply Ob.mk;first | (simp only [ag,ak,aa.ae];omega) | ((try simp only [aa.ae]);(try dsimp only);omega))
 refine ⟨Nat,fun k => k <= l.length,fun k => ⟨aI 21 [0,7,8,9] [.a (.v (.string (mR w l k))),.a (.sl 0 [] 0 l.length),.a (vI l.length),.a (vI k)],[],[.arr 3 kI l false false]⟩,fun k => l.length - k,0,[],Nat.zero_le _,?_,?_⟩
 ·repeat' ((conv => whnf);(first | apply And.intro | intro _))
  all_goals first | rfl | trivial | exact ah rfl | exact aS ‹_› rfl | exact aT ‹_› rfl | ((repeat' first | rfl | constructor);done)
 rintro k hk
 have hsz:=tN (w:=w) hv k hk
 by_cases cB : k < l.length
 ·have p0 : decide ((k : Int) < (l.length : Int)) = true:=decide_eq_true (by omega)
  have ge : av l k = gi l k:=dP l k
  have gv : 0 <= av l k /\ av l k < 100:=by rw [ge];exact hv _ (qL cB)
  have gs:=AW gv
  have DJ : mR w l k ++ (vP ++ lU (av l k)) = mR w l (k + 1):=by rw [ge];rfl
  have pT : (vP ++ lU (av l k)).size <= 3:=by rw [ByteArray.size_append];have : vP.size = 1:=rfl;omega
  repeat' ((conv => whnf);first | apply And.intro | (intro h9;try (have h8 : (_ : Bool) = _:=h9;clear h8;revert h9;subst_vars;intro h9;exact aq h9 (by assumption))))
  all_goals try (conv => whnf)
  all_goals try first | (apply Tk.mk <;> kernel_rfl) | exact ⟨ah rfl⟩ | exact ⟨rfl⟩ | exact ⟨trivial⟩
  all_goals subst_vars
  all_goals try first | rfl | contradiction | (apply Ob.mk;first | (simp only [ag,ak,aa.ae];omega) | ((try simp only [aa.ae]);(try dsimp only);omega))
  all_goals try first
   | exact ⟨show 0 + Int.toNat (k : Int) < l.length by omega⟩
   | exact ⟨show ((1 + (lU (av l k)).size : Nat) <= 9223372036854775807) by omega⟩
   | exact ⟨show (((mR w l k).size + (vP ++ lU (av l k)).size : Nat) <= 9223372036854775807) by omega⟩
  refine ⟨k + 1,[],cB,?_,by show l.length - (k + 1) < l.length - k;omega⟩
  repeat' ((conv => whnf);(first | apply And.intro | intro _))
  all_goals first | rfl | trivial | exact ah rfl | exact aS ‹_› rfl | exact aT ‹_› rfl | ((repeat' first | rfl | constructor);done) | exact congrArg Value.string DJ | exact DJ
 have p0 : decide ((k : Int) < (l.length : Int)) = false:=decide_eq_false (by omega)
 obtain rfl : k = l.length:=by omega
 repeat' ((conv => whnf);first | apply And.intro | (intro h9;try (have h8 : (_ : Bool) = _:=h9;clear h8;revert h9;subst_vars;intro h9;exact aq h9 (by assumption))))
 all_goals try (conv => whnf)
 all_goals try first | (apply Tk.mk <;> kernel_rfl) | exact ⟨ah rfl⟩ | exact ⟨rfl⟩ | exact ⟨trivial⟩
 all_goals subst_vars
 all_goals try first | rfl | contradiction | (apply Ob.mk;first | (simp only [ag,ak,aa.ae];omega) | ((try simp only [aa.ae]);(try dsimp only);omega))
 all_goals first
  | exact ⟨show (((mR w l l.length).size + 1 : Nat) <= 9223372036854775807) by omega⟩)
end Go.Proofs.YthejmgnkenokpaaGreatDoor
end
section
namespace Go.Proofs.YthejmgnkenokpaaGreatDoor
open Go Go.Sy Go.bK
variable {Γ : bn}
def KD : ByteArray:={ data:=#[115,104,111,112] }
def kO : ByteArray:={ data:=#[119,111,114,107] }
def nF (n P : Int) (L : List Wk) : Nat -> ByteArray
 | 0 => abE KD [n,P]
 | k + 1 => nF n P L k ++ abE kO [(wk L k).1,(wk L k).2.1,(wk L k).2.2]
def vF (n P : Int) (L : List Wk) : ByteArray:=match bD n P L == 0 with | true => nF n P L L.length | false => { data:=#[] }
theorem akn {w : ByteArray} {l : List Int} (hl : ∀ v ∈ l,0 <= v /\ v < 100) : (abE w l).size <= w.size + 3 * l.length + 1:=by
 have:=tN (w:=w) hl l.length (Nat.le_refl _)
 unfold abE
 rw [ByteArray.size_append]
 have : N1.size = 1:=rfl
 omega
theorem nX {n P : Int} {L : List Wk} (h : Ep n P L) : (∀ v ∈ [n,P],0 <= v /\ v < 100) /\ ∀ k,k < L.length -> ∀ v ∈ [(wk L k).1,(wk L k).2.1,(wk L k).2.2],0 <= v /\ v < 100:=by
 have h1:=h.n;have h2:=h.p
 refine ⟨fun v hv => ?_,fun k hk v hv => ?_⟩
 ·simp only [List.mem_cons,List.not_mem_nil,or_false] at hv
  rcases hv with rfl | rfl <;> omega
 ·have:=rR (h.w _ (Cf hk))
  simp only [List.mem_cons,List.not_mem_nil,or_false] at hv
  rcases hv with rfl | rfl | rfl <;> omega
theorem tT {n P : Int} {L : List Wk} (h : Ep n P L) : ∀ k,k <= L.length -> (nF n P L k).size <= 11 + 14 * k
 | 0,_ => akn (nX h).1
 | k + 1,hk => by
   have h1:=tT h k (by omega)
   have h2:=akn (w:=kO) ((nX h).2 k (by omega))
   rw [nF,ByteArray.size_append]
   have e1 : kO.size = 4:=rfl
   have e2 : [(wk L k).1,(wk L k).2.1,(wk L k).2.2].length = 3:=rfl
   omega
def Dd : au:=fS (fun _ _ L => [(aa.of (L.length <= 1000000))]) (fun n P L => .bF [.a (.v (.string (vF n P L))),.a (vI (bD n P L))])
noncomputable def Md : List (Nat × au):=[(35,rZ),(69,Gi)]
theorem FO : aR Tryz.prog Γ Md:=((aR.nil.cons (aj Tryz.func69 rfl rfl).fn Gj).cons (aj Tryz.func35 rfl rfl).fn oS)
attribute [local irreducible] abE bD
theorem EF : au.Ok Tryz.prog Γ 32 Dd:=za (d:=0) (aP FO bq.nil false 0) (aj Tryz.func32 rfl rfl) (fun _ _ _ => rfl) (by
 intro n P L ⟨hl,_⟩
 simp only [aa.ae] at hl
 cases h0 : bD n P L == 0
 ·have e0 : (bD n P L != 0) = true:=by unfold bne;rw [h0];rfl
  rw [show vF n P L = { data:=#[] } by unfold vF;rw [h0]]
  repeat' ((conv => whnf);first | apply And.intro | (intro h9;try (have h8 : (_ : Bool) = _:=h9;clear h8;revert h9;subst_vars;intro h9;exact aq h9 (by assumption))))
  all_goals try (conv => whnf)
  all_goals try first | (apply Tk.mk <;> kernel_rfl) | exact ⟨ah rfl⟩ | exact ⟨rfl⟩ | exact ⟨trivial⟩
  all_goals subst_vars
  all_goals try first | rfl | contradiction | (apply Ob.mk;first | (simp only [ag,ak,aa.ae];omega) | ((try simp only [aa.ae]);(try dsimp only);omega))
  all_goals first
   | trivial
   | exact ⟨hl⟩
 have e0 : (bD n P L != 0) = false:=by unfold bne;rw [h0];rfl
 have e1:=eq_of_beq h0
 have hsh:=oe.1 e1
 rw [show vF n P L = nF n P L L.length by unfold vF;rw [h0],e1]
 have hd:=nX hsh
 have Kk:=hd.1
 have fK:=tT hsh 0 (Nat.zero_le _)
 have Np:=hsh.l
 repeat' ((conv => whnf);first | apply And.intro | (intro h9;try (have h8 : (_ : Bool) = _:=h9;clear h8;revert h9;subst_vars;intro h9;exact aq h9 (by assumption))))
 all_goals try (conv => whnf)
 all_goals try first | (apply Tk.mk <;> kernel_rfl) | exact ⟨ah rfl⟩ | exact ⟨rfl⟩ | exact ⟨trivial⟩
 all_goals subst_vars
 all_goals try first | rfl | contradiction | (apply Ob.mk;first | (simp only [ag,ak,aa.ae];omega) | ((try simp only [aa.ae]);(try dsimp only);omega))
 all_goals try first
  | exact ⟨hl⟩
  | exact ⟨Kk⟩
 refine ⟨Nat,fun k => k <= L.length,fun k => ⟨aI 38 [5,20,21,22] [.a (.v (.string (nF n P L k))),.a (.sl 0 [] 0 L.length),.a (vI L.length),.a (vI k)],[],[.arr 46 kW L false false,.box true [vI n,vI P,.sl 0 [] 0 L.length]]⟩,fun k => L.length - k,0,[0,1],Nat.zero_le _,?_,?_⟩
 ·repeat' ((conv => whnf);(first | apply And.intro | intro _))
  all_goals first | rfl | trivial | exact ah rfl | exact aS ‹_› rfl | exact aT ‹_› rfl | ((repeat' first | rfl | constructor);done)
 rintro k hk
 have hsz:=tT hsh k hk
 by_cases cB : k < L.length
 ·have p0 : decide ((k : Int) < (L.length : Int)) = true:=decide_eq_true (by omega)
  have ew : cn L k = wk L k:=jX L k
  have hdk : ∀ v ∈ [(cn L k).1,(cn L k).2.1,(cn L k).2.2],0 <= v /\ v < 100:=by rw [ew];exact hd.2 k cB
  have dZ : (abE kO [(cn L k).1,(cn L k).2.1,(cn L k).2.2]).size <= 14:=akn hdk
  have Kq : nF n P L k ++ abE kO [(cn L k).1,(cn L k).2.1,(cn L k).2.2] = nF n P L (k + 1):=by rw [ew];rfl
  repeat' ((conv => whnf);first | apply And.intro | (intro h9;try (have h8 : (_ : Bool) = _:=h9;clear h8;revert h9;subst_vars;intro h9;exact aq h9 (by assumption))))
  all_goals try (conv => whnf)
  all_goals try first | (apply Tk.mk <;> kernel_rfl) | exact ⟨ah rfl⟩ | exact ⟨rfl⟩ | exact ⟨trivial⟩
  all_goals subst_vars
  all_goals try first | rfl | contradiction | (apply Ob.mk;first | (simp only [ag,ak,aa.ae];omega) | ((try simp only [aa.ae]);(try dsimp only);omega))
  all_goals try first
   | exact ⟨hdk⟩
   | exact ⟨show ((nF n P L k).size + (abE kO [(cn L k).1,(cn L k).2.1,(cn L k).2.2]).size : Nat) <= 9223372036854775807 by omega⟩
   | exact ⟨show 0 + Int.toNat (k : Int) < L.length by omega⟩
  refine ⟨k + 1,[0,1],cB,?_,by show L.length - (k + 1) < L.length - k;omega⟩
  repeat' ((conv => whnf);(first | apply And.intro | intro _))
  all_goals first | rfl | trivial | exact ah rfl | exact aS ‹_› rfl | exact aT ‹_› rfl | ((repeat' first | rfl | constructor);done) | exact Kq | exact congrArg Value.string Kq
 have p0 : decide ((k : Int) < (L.length : Int)) = false:=decide_eq_false (by omega)
 obtain rfl : k = L.length:=by omega
 repeat' ((conv => whnf);first | apply And.intro | (intro h9;try (have h8 : (_ : Bool) = _:=h9;clear h8;revert h9;subst_vars;intro h9;exact aq h9 (by assumption))))
 all_goals try (conv => whnf)
 all_goals try first | (apply Tk.mk <;> kernel_rfl) | exact ⟨ah rfl⟩ | exact ⟨rfl⟩ | exact ⟨trivial⟩
 all_goals subst_vars
 all_goals try first | rfl | contradiction | (apply Ob.mk;first | (simp only [ag,ak,aa.ae];omega) | ((try simp only [aa.ae]);(try dsimp only);omega))
 all_goals first
  | trivial)
/-! ### One digit each -/
def NJ (v : Int) : ByteArray:={ data:=#[UInt8.ofNat (48 + v.toNat)] }
theorem O9 {v : Int} (h : 0 <= v /\ v < 10) : lU v = NJ v:=by
 unfold lU Mn NJ
 rw [Lib.decDigits_one (by omega)]
def Kw (w : ByteArray) (l : List Int) : Nat -> ByteArray
 | 0 => w
 | k + 1 => Kw w l k ++ (vP ++ NJ (gi l k))
def zh (w : ByteArray) (l : List Int) : ByteArray:=Kw w l l.length ++ N1
def N4 (n P : Int) (L : List Wk) : Nat -> ByteArray
 | 0 => zh KD [n,P]
 | k + 1 => N4 n P L k ++ zh kO [(wk L k).1,(wk L k).2.1,(wk L k).2.2]
theorem NW {w : ByteArray} {l : List Int} (hl : ∀ v ∈ l,0 <= v /\ v < 10) : ∀ k,k <= l.length -> mR w l k = Kw w l k
 | 0,_ => rfl
 | k + 1,hk => by rw [mR,Kw,NW hl k (by omega),O9 (hl _ (qL hk))]
theorem HH {w : ByteArray} {l : List Int} (hl : ∀ v ∈ l,0 <= v /\ v < 10) : abE w l = zh w l:=by
 unfold abE zh;rw [NW hl l.length (Nat.le_refl _)]
theorem N5 {n P : Int} {L : List Wk} (h : Ep n P L) : ∀ k,k <= L.length -> nF n P L k = N4 n P L k
 | 0,_ => HH (by
   have h1:=h.n;have h2:=h.p
   intro v hv
   simp only [List.mem_cons,List.not_mem_nil,or_false] at hv
   rcases hv with rfl | rfl <;> omega)
 | k + 1,hk => by
   have h2:=h.p
   have:=rR (h.w _ (Cf (show k < L.length from hk)))
   rw [nF,N4,N5 h k (by omega),HH (by
    intro v hv
    simp only [List.mem_cons,List.not_mem_nil,or_false] at hv
    rcases hv with rfl | rfl | rfl <;> omega)]
end Go.Proofs.YthejmgnkenokpaaGreatDoor
end
section
namespace Go.Proofs.YthejmgnkenokpaaGreatDoor
open Go Go.Sy Go.bK
variable {Γ : bn}
def ajQ (D : Int -> Int -> List Wk -> List aa) (F : Int -> Int -> List Wk -> Tm) : au:=.fn fun args rg => match args with
 | [.agg [.v (.int .i64 n0),.v (.int .i64 n1),x0]] => (match ac1 46 kW rg x0 with | some (q0,L0) => some (q0 ++ (D n0 n1 L0),F n0 n1 L0) | _ => none)
 | _ => none
theorem ajx {f : FuncId} {b : Body} {E : Env} {d : Nat} (hP : aL Tryz.prog Γ E) (hb : bQ Tryz.prog f b) {D : Int -> Int -> List Wk -> List aa} {F : Int -> Int -> List Wk -> Tm} (hp : ∀ (n0 : Int) (n1 : Int) (L0 : List Wk),(F n0 n1 L0).plain = true)
  (H : ∀ (n0 : Int) (n1 : Int) (L0 : List Wk),bW (D n0 n1 L0) -> cQ E d b [.agg [vI n0,vI n1,.sl 0 [] 0 L0.length]] [.arr 46 kW L0 false false] (fun x _ => iL x (F n0 n1 L0))) : au.Ok Tryz.prog Γ f (ajQ D F):=au.er (d:=d) hP hb (by
 intro args rg q t hF hq
 split at hF
 next n0 n1 x0 =>
  split at hF
  next q0 L0 hx0 =>
   obtain ⟨rfl,rfl⟩:=Prod.mk.inj (Option.some.inj hF);clear hF
   rw [aH] at hq
   obtain ⟨dm,hD⟩:=hq
   obtain ⟨e0,Vn⟩:=bP (by simp [kW]) hx0 dm
   obtain ⟨p0,r0⟩:=Vn [e0] 0 1 rfl (by omega)
   refine ⟨hp _ _ _,[e0],[.agg [vI n0,vI n1,.sl 0 [] 0 L0.length]],[.arr 46 kW L0 false false],⟨⟨⟨rfl,rfl,p0,trivial⟩,trivial⟩,fun r g hg => ?_⟩,H _ _ _ hD⟩
   match r,hg with
   | 0,hg => obtain rfl:=Option.some.inj hg;exact r0
  next => cases hF
 next => cases hF)
theorem kV (a b : List UInt8) : bA a ++ bA b = bA (a ++ b):=ag6 (by
 show (bA a ++ bA b).data.toList = a ++ b
 rw [ByteArray.data_append,Array.toList_append];rfl)
theorem ajF {n : Int} (h : 0 <= n /\ n <= 9) : strOfNums (List.take 1 (List.drop 0 [(48 + Int.tmod n 10 : Int)])) = bA [dg n]:=by
 obtain ⟨a,rfl⟩ : ∃ a : Nat,n = (a : Int):=⟨n.toNat,by omega⟩
 have k : ∀ a : Nat,a < 10 -> strOfNums (List.take 1 (List.drop 0 [(48 + Int.tmod (a : Int) 10 : Int)])) = bA [dg (a : Int)]:=by decide +kernel
 exact k a (by omega)
theorem ajD {n : Int} (h : 0 <= n /\ n <= 9) : 0 <= Int.tmod n 10 /\ Int.tmod n 10 <= 9:=by
 rw [Int.tmod_eq_emod_of_nonneg h.1];omega
def ahJ : au:=.fn fun args _ => match args with
 | [.a (.v (.int .i64 n))] => some ([(aa.of (0 <= n /\ n <= 9))],.a (.v (.string (bA [dg n]))))
 | _ => none
attribute [local irreducible] dg
theorem ahY : au.Ok Tryz.prog Γ 77 ahJ:=au.er (d:=0) (aP aR.nil bq.nil false 0) (aj Tryz.func77 rfl rfl) (by
 intro args rg q t hF hq
 split at hF
 next n =>
  obtain ⟨rfl,rfl⟩:=Prod.mk.inj (Option.some.inj hF);clear hF
  obtain ⟨hn,-⟩:=hq
  simp only [aa.ae] at hn
  refine ⟨rfl,[],[.a (vI n)],[],⟨⟨rfl,trivial⟩,fun r g hg => (by cases hg)⟩,?_⟩
  have hm:=ajD hn
  have hs:=ajF hn
  have p0 : decide (n > 9) = false:=decide_eq_false (by omega)
  repeat' ((conv => whnf);first | apply And.intro | (intro h9;try (have h8 : (_ : Bool) = _:=h9;clear h8;revert h9;subst_vars;intro h9;exact aq h9 (by assumption))))
  all_goals try (conv => whnf)
  all_goals try first | (apply Tk.mk <;> kernel_rfl) | exact ⟨ah rfl⟩ | exact ⟨rfl⟩ | exact ⟨trivial⟩
  all_goals subst_vars
  all_goals try first | rfl | contradiction | (apply Ob.mk;first | (simp only [ag,ak,aa.ae];omega) | ((try simp only [aa.ae]);(try dsimp only);omega))
  all_goals try first
   | exact True.intro
   | exact ⟨hn⟩
   | exact ⟨g1⟩
   | exact ⟨g2⟩
   | exact ⟨f1⟩
   | exact ⟨f2⟩
   | exact ⟨f3⟩
   | exact ⟨show 0 <= (k : Int) /\ (k : Int) < (L.length : Int) by omega⟩
   | exact ⟨show 0 + Int.toNat (k : Int) < L.length by omega⟩
   | exact ⟨show 0 + 1 <= 1 from Nat.le_refl _⟩
   | (apply Ob.mk;show (ag .i64 _).p;simp only [ag,ak,aa.ae];omega)
   | (refine Ob.mk ?_;show (ag .u8 _).p;simp only [ag,ak,aa.ae];omega)
   | (refine Ob.mk ?_;simp only [aa.ae,ByteArray.size_append,d1,z1,z2,z3,z4];omega)
   | (refine Ob.mk ?_;simp only [aa.ae,ByteArray.size_append,d2,d3,d4,z1,z2,z3,z4];omega)
  refine ⟨Unit,fun _ => True,fun _ => ⟨aI 23 [0,3] [.a (vI n),.a (.v (.string (bA [dg n])))],[],[]⟩,fun _ => 0,(),[],trivial,?_,?_⟩
  ·repeat' ((conv => whnf);(first | apply And.intro | intro _))
   all_goals first | rfl | trivial | exact ah rfl | exact aS ‹_› rfl | exact aT ‹_› rfl | ((repeat' first | rfl | constructor);done) | exact congrArg Value.string hs | exact congrArg Value.string hs.symm
  rintro ⟨⟩ -
  repeat' ((conv => whnf);first | apply And.intro | (intro h9;try (have h8 : (_ : Bool) = _:=h9;clear h8;revert h9;subst_vars;intro h9;exact aq h9 (by assumption))))
  all_goals try (conv => whnf)
  all_goals try first | (apply Tk.mk <;> kernel_rfl) | exact ⟨ah rfl⟩ | exact ⟨rfl⟩ | exact ⟨trivial⟩
  all_goals subst_vars
  all_goals try first | rfl | contradiction | (apply Ob.mk;first | (simp only [ag,ak,aa.ae];omega) | ((try simp only [aa.ae]);(try dsimp only);omega))
  all_goals first
   | trivial
   | exact True.intro
   | exact ⟨hn⟩
   | exact ⟨g1⟩
   | exact ⟨g2⟩
   | exact ⟨f1⟩
   | exact ⟨f2⟩
   | exact ⟨f3⟩
   | exact ⟨show 0 <= (k : Int) /\ (k : Int) < (L.length : Int) by omega⟩
   | exact ⟨show 0 + Int.toNat (k : Int) < L.length by omega⟩
   | exact ⟨show 0 + 1 <= 1 from Nat.le_refl _⟩
   | (apply Ob.mk;show (ag .i64 _).p;simp only [ag,ak,aa.ae];omega)
   | (refine Ob.mk ?_;show (ag .u8 _).p;simp only [ag,ak,aa.ae];omega)
   | (refine Ob.mk ?_;simp only [aa.ae,ByteArray.size_append,d1,z1,z2,z3,z4];omega)
   | (refine Ob.mk ?_;simp only [aa.ae,ByteArray.size_append,d2,d3,d4,z1,z2,z3,z4];omega)
 next => cases hF)
def ahc : au:=ajQ (fun n P L => [(aa.of (bD n P L = 0))]) (fun n P L => .a (.v (.string (bA (ld n P L)))))
theorem ai5 (n P : Int) : (({ data:=#[115,104,111,112,32] } : ByteArray) ++ bA [dg n]) ++ ({ data:=#[32] } : ByteArray) ++ bA [dg P] ++ ({ data:=#[10] } : ByteArray) = bA (ot n P):=by
 show (bA [115,104,111,112,32] ++ bA [dg n]) ++ bA [32] ++ bA [dg P] ++ bA [10] = _
 rw [kV,kV,kV,kV];rfl
theorem ajO (s : ByteArray) (a b c : Int) : ((((((s ++ ({ data:=#[119,111,114,107,32] } : ByteArray)) ++ bA [dg a]) ++ ({ data:=#[32] } : ByteArray)) ++ bA [dg b]) ++ ({ data:=#[32] } : ByteArray)) ++ bA [dg c]) ++ ({ data:=#[10] } : ByteArray) = s ++ bA (E0 (a,b,c)):=by
 obtain ⟨⟨l⟩⟩:=s
 show ((((((bA l ++ bA [119,111,114,107,32]) ++ bA [dg a]) ++ bA [32]) ++ bA [dg b]) ++ bA [32]) ++ bA [dg c]) ++ bA [10] = bA l ++ bA (E0 (a,b,c))
 rw [kV,kV,kV,kV,kV,kV,kV,kV]
 simp [E0]
theorem aib {L : List Wk} {k : Nat} (h : k < L.length) : gx (L.take (k + 1)) = gx (L.take k) ++ E0 (wk L k):=by
 have ajZ : ∀ (A B : List Wk),gx (A ++ B) = gx A ++ gx B:=fun A B => by
  induction A with
  | nil => rfl
  | cons a A ih => rw [List.cons_append,gx,ih,gx,List.append_assoc]
 have e : L[k] = wk L k:=by unfold wk;rw [List.getD_eq_getElem?_getD,List.getElem?_eq_getElem h];rfl
 rw [List.take_succ_eq_append_getElem h,ajZ,e]
 simp [gx]
theorem ai8 {n P : Int} {L : List Wk} (h : Ep n P L) : nF n P L L.length = bA (ld n P L):=by
 have key : ∀ k,k <= L.length -> N4 n P L k = bA (ot n P ++ gx (L.take k)):=by
  intro k
  induction k with
  | zero =>
    intro _
    show zh KD [n,P] = bA (ot n P ++ [])
    rw [List.append_nil,<- ai5]
    show ((KD ++ (vP ++ NJ n)) ++ (vP ++ NJ P)) ++ N1 = _
    refine ag6 ?_
    simp only [ByteArray.data_append,Array.toList_append]
    simp [KD,vP,N1,NJ,bA,dg]
  | succ k ih =>
    intro hk
    have e : zh kO [(wk L k).1,(wk L k).2.1,(wk L k).2.2] = bA (E0 (wk L k)):=by
     show (((kO ++ (vP ++ NJ _)) ++ (vP ++ NJ _)) ++ (vP ++ NJ _)) ++ N1 = _
     refine ag6 ?_
     simp only [ByteArray.data_append,Array.toList_append]
     simp [kO,vP,N1,NJ,bA,dg,E0,gi]
    rw [N4,ih (by omega),aib (show k < L.length from hk),e,kV,List.append_assoc]
 rw [N5 h _ (Nat.le_refl _),key _ (Nat.le_refl _),List.take_length]
 rfl
theorem aho (l : List UInt8) : (bA l).size = l.length:=Wy l
noncomputable def ajd : List (Nat × au):=[(77,ahJ)]
theorem aiw : aR Tryz.prog Γ ajd:=(aR.nil.cons (aj Tryz.func77 rfl rfl).fn ahY)
attribute [local irreducible] bA bD ot E0 gx
theorem ahd : au.Ok Tryz.prog Γ 37 ahc:=ajx (d:=0) (aP aiw bq.nil false 0) (aj Tryz.func37 rfl rfl) (fun _ _ _ => rfl) (by
 intro n P L ⟨hc,_⟩
 simp only [aa.ae] at hc
 have hs:=oe.1 hc
 have hn:=hs.n
 have hP:=hs.p
 have hl:=hs.l
 have d1 : ∀ v : Int,(bA [dg v]).size = 1:=fun v => aho _
 have z1 : ({ data:=#[115,104,111,112,32] } : ByteArray).size = 5:=rfl
 have z2 : ({ data:=#[32] } : ByteArray).size = 1:=rfl
 have z3 : ({ data:=#[10] } : ByteArray).size = 1:=rfl
 have z4 : ({ data:=#[119,111,114,107,32] } : ByteArray).size = 5:=rfl
 have hh:=ai5 n P
 have h0 : bA (ot n P) = bA (ot n P ++ gx (L.take 0)):=by rw [List.take_zero];rw [show gx [] = [] by unfold gx;rfl,List.append_nil]
 have g1 : 0 <= n /\ n <= 9:=by omega
 have g2 : 0 <= P /\ P <= 9:=by omega
 repeat' ((conv => whnf);first | apply And.intro | (intro h9;try (have h8 : (_ : Bool) = _:=h9;clear h8;revert h9;subst_vars;intro h9;exact aq h9 (by assumption))))
 all_goals try (conv => whnf)
 all_goals try first | (apply Tk.mk <;> kernel_rfl) | exact ⟨ah rfl⟩ | exact ⟨rfl⟩ | exact ⟨trivial⟩
 all_goals subst_vars
 all_goals try first | rfl | contradiction | (apply Ob.mk;first | (simp only [ag,ak,aa.ae];omega) | ((try simp only [aa.ae]);(try dsimp only);omega))
 all_goals try first
  | exact True.intro
  | exact ⟨hn⟩
  | exact ⟨g1⟩
  | exact ⟨g2⟩
  | exact ⟨f1⟩
  | exact ⟨f2⟩
  | exact ⟨f3⟩
  | exact ⟨show 0 <= (k : Int) /\ (k : Int) < (L.length : Int) by omega⟩
  | exact ⟨show 0 + Int.toNat (k : Int) < L.length by omega⟩
  | exact ⟨show 0 + 1 <= 1 from Nat.le_refl _⟩
  | (apply Ob.mk;show (ag .i64 _).p;simp only [ag,ak,aa.ae];omega)
  | (refine Ob.mk ?_;show (ag .u8 _).p;simp only [ag,ak,aa.ae];omega)
  | (refine Ob.mk ?_;simp only [aa.ae,ByteArray.size_append,d1,z1,z2,z3,z4];omega)
  | (refine Ob.mk ?_;simp only [aa.ae,ByteArray.size_append,d2,d3,d4,z1,z2,z3,z4];omega)
 refine ⟨Nat,fun k => k <= L.length,fun k => ⟨aI 46 [1,3,4] [.a (.p 1 [] 0 0),.a (.v (.string (bA (ot n P ++ gx (L.take k))))),.a (vI k)],[],[.arr 46 kW L false false,.box true [vI n,vI P,.sl 0 [] 0 L.length]]⟩,fun k => L.length - k,0,[0,1],Nat.zero_le _,?_,?_⟩
 ·repeat' ((conv => whnf);(first | apply And.intro | intro _))
  all_goals first | rfl | trivial | exact ah rfl | exact aS ‹_› rfl | exact aT ‹_› rfl | ((repeat' first | rfl | constructor);done) | exact hh.trans h0 | exact congrArg Value.string (hh.trans h0)
 clear h0 hh
 rintro k hk
 by_cases cB : k < L.length
 ·have p0 : decide ((k : Int) < (L.length : Int)) = true:=decide_eq_true (by omega)
  have ew : cn L k = wk L k:=jX L k
  have hf:=rR (hs.w _ (Cf cB))
  have f1 : 0 <= (cn L k).1 /\ (cn L k).1 <= 9:=by rw [ew];omega
  have f2 : 0 <= (cn L k).2.1 /\ (cn L k).2.1 <= 9:=by rw [ew];omega
  have f3 : 0 <= (cn L k).2.2 /\ (cn L k).2.2 <= 9:=by rw [ew];omega
  have d2 : (bA [dg (cn L k).1]).size = 1:=aho _
  have d3 : (bA [dg (cn L k).2.1]).size = 1:=aho _
  have d4 : (bA [dg (cn L k).2.2]).size = 1:=aho _
  have hrw:=ajO (bA (ot n P ++ gx (L.take k))) (cn L k).1 (cn L k).2.1 (cn L k).2.2
  have DJ : bA (ot n P ++ gx (L.take k)) ++ bA (E0 ((cn L k).1,(cn L k).2.1,(cn L k).2.2)) = bA (ot n P ++ gx (L.take (k + 1))):=by
   rw [ew,kV,aib cB,List.append_assoc]
  have hsz : (bA (ot n P ++ gx (L.take k))).size <= 9 + 11 * k:=by
   rw [aho,List.length_append,ahH,List.length_take]
   have : (ot n P).length = 9:=by unfold ot;rfl
   omega
  repeat' ((conv => whnf);first | apply And.intro | (intro h9;try (have h8 : (_ : Bool) = _:=h9;clear h8;revert h9;subst_vars;intro h9;exact aq h9 (by assumption))))
  all_goals try (conv => whnf)
  all_goals try first | (apply Tk.mk <;> kernel_rfl) | exact ⟨ah rfl⟩ | exact ⟨rfl⟩ | exact ⟨trivial⟩
  all_goals subst_vars
  all_goals try first | rfl | contradiction | (apply Ob.mk;first | (simp only [ag,ak,aa.ae];omega) | ((try simp only [aa.ae]);(try dsimp only);omega))
  all_goals try first
   | exact True.intro
   | exact ⟨hn⟩
   | exact ⟨g1⟩
   | exact ⟨g2⟩
   | exact ⟨f1⟩
   | exact ⟨f2⟩
   | exact ⟨f3⟩
   | exact ⟨show 0 <= (k : Int) /\ (k : Int) < (L.length : Int) by omega⟩
   | exact ⟨show 0 + Int.toNat (k : Int) < L.length by omega⟩
   | exact ⟨show 0 + 1 <= 1 from Nat.le_refl _⟩
   | (apply Ob.mk;show (ag .i64 _).p;simp only [ag,ak,aa.ae];omega)
   | (refine Ob.mk ?_;show (ag .u8 _).p;simp only [ag,ak,aa.ae];omega)
   | (refine Ob.mk ?_;simp only [aa.ae,ByteArray.size_append,d1,z1,z2,z3,z4];omega)
   | (refine Ob.mk ?_;simp only [aa.ae,ByteArray.size_append,d2,d3,d4,z1,z2,z3,z4];omega)
  refine ⟨k + 1,[0,1],cB,?_,by show L.length - (k + 1) < L.length - k;omega⟩
  repeat' ((conv => whnf);(first | apply And.intro | intro _))
  all_goals first | rfl | trivial | exact ah rfl | exact aS ‹_› rfl | exact aT ‹_› rfl | ((repeat' first | rfl | constructor);done) | exact hrw.trans DJ | exact congrArg Value.string (hrw.trans DJ)
 have p0 : decide ((k : Int) < (L.length : Int)) = false:=decide_eq_false (by omega)
 obtain rfl : k = L.length:=by omega
 rw [show bA (ld n P L) = bA (ot n P ++ gx (L.take L.length)) by rw [List.take_length];rfl]
 repeat' ((conv => whnf);first | apply And.intro | (intro h9;try (have h8 : (_ : Bool) = _:=h9;clear h8;revert h9;subst_vars;intro h9;exact aq h9 (by assumption))))
 all_goals try (conv => whnf)
 all_goals try first | (apply Tk.mk <;> kernel_rfl) | exact ⟨ah rfl⟩ | exact ⟨rfl⟩ | exact ⟨trivial⟩
 all_goals subst_vars
 all_goals try first | rfl | contradiction | (apply Ob.mk;first | (simp only [ag,ak,aa.ae];omega) | ((try simp only [aa.ae]);(try dsimp only);omega))
 all_goals first
  | trivial
  | exact True.intro
  | exact ⟨hn⟩
  | exact ⟨g1⟩
  | exact ⟨g2⟩
  | exact ⟨f1⟩
  | exact ⟨f2⟩
  | exact ⟨f3⟩
  | exact ⟨show 0 <= (k : Int) /\ (k : Int) < (L.length : Int) by omega⟩
  | exact ⟨show 0 + Int.toNat (k : Int) < L.length by omega⟩
  | exact ⟨show 0 + 1 <= 1 from Nat.le_refl _⟩
  | (apply Ob.mk;show (ag .i64 _).p;simp only [ag,ak,aa.ae];omega)
  | (refine Ob.mk ?_;show (ag .u8 _).p;simp only [ag,ak,aa.ae];omega)
  | (refine Ob.mk ?_;simp only [aa.ae,ByteArray.size_append,d1,z1,z2,z3,z4];omega)
  | (refine Ob.mk ?_;simp only [aa.ae,ByteArray.size_append,d2,d3,d4,z1,z2,z3,z4];omega))
end Go.Proofs.YthejmgnkenokpaaGreatDoor
end
