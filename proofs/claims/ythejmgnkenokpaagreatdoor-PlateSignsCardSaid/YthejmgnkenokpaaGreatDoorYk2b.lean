/-
  Texts of the claims on chapter 3: Yk2b. No condition: lemmas and contracts.
-/
import Derived.Test.YthejmgnkenokpaaGreatDoorYk1b
set_option linter.all false
set_option maxRecDepth 100000
set_option maxHeartbeats 4000000
section
namespace Go.Proofs.YthejmgnkenokpaaGreatDoor
open Go Go.Sy Go.bK
variable {Γ : bn}
theorem xb (n t x : Nat) : aX n t x = ((td n t x : Nat) : Int):=rfl
theorem zu {a b : Nat} (ha : a < 8) (hb : b < 8) (h : ∀ t,t < 8 -> kS a b t = false) : False:=by
 have:=h _ (og ha hb)
 rw [uu ha hb (og ha hb)] at this
 simp at this
attribute [local irreducible] aX bJ cD kS
def rY : au:=Kf (fun a b => [(aa.of (0 <= a /\ a <= 7)),(aa.of (0 <= b /\ b <= 7))]) (fun a b => .a (vI (bJ a b)))
noncomputable def Ma : List (Nat × au):=[(63,nQ)]
theorem FM : aR Tryz.prog Γ Ma:=(aR.nil.cons (aj Tryz.func63 rfl rfl).fn Z2)
theorem oR : au.Ok Tryz.prog Γ 134 rY:=An (d:=0) (aP FM bq.nil false 0) (aj Tryz.func134 rfl rfl) (fun _ _ => rfl) (by
 intro a b ⟨ha,hb,_⟩
 simp only [aa.ae] at ha hb
 obtain ⟨a,rfl⟩ : ∃ k : Nat,a = (k : Int):=⟨a.toNat,by omega⟩
 obtain ⟨b,rfl⟩ : ∃ k : Nat,b = (k : Int):=⟨b.toNat,by omega⟩
 have g2:=FA (n:=4) (a:=a) (x:=1) (by omega) (by omega) (by omega)
 have g1 : aX 4 a 1 = ((td 4 a 1 : Nat) : Int):=xb 4 a 1
 have g3 : aX 4 b (aX 4 a 1) = ((td 4 b (td 4 a 1) : Nat) : Int):=by rw [g1];exact xb 4 b _
 repeat' ((conv => whnf);first | apply And.intro | (intro h9;try (have h8 : (_ : Bool) = _:=h9;clear h8;revert h9;subst_vars;intro h9;exact aq h9 (by assumption))))
 all_goals try (conv => whnf)
 all_goals try first | (apply Tk.mk <;> kernel_rfl) | exact ⟨ah rfl⟩ | exact ⟨rfl⟩ | exact ⟨trivial⟩
 all_goals subst_vars
 all_goals try first | rfl | contradiction | (apply Ob.mk;first | (simp only [ag,ak,aa.ae];omega) | ((try simp only [aa.ae]);(try dsimp only);omega))
 refine ⟨Nat,fun i => i <= 8 /\ ∀ t,t < i -> kS a b t = false,fun i => ⟨aI 20 [5,6] [.a (vI (aX 4 b (aX 4 a 1))),.a (vI i)],[],[]⟩,fun i => 8 - i,0,[],⟨Nat.zero_le _,fun t h => absurd h (Nat.not_lt_zero _)⟩,?_,?_⟩
 ·repeat' ((conv => whnf);(first | apply And.intro | intro _))
  all_goals first | rfl | trivial | exact ah rfl | exact aS ‹_› rfl | exact aT ‹_› rfl | ((repeat' first | rfl | constructor);done)
 rintro i ⟨hi,hno⟩
 by_cases hi1 : i < 8
 ·have p0 : decide ((i : Int) < 8) = true:=decide_eq_true (by omega)
  have g4 : aX 4 i 1 = ((td 4 i 1 : Nat) : Int):=xb 4 i 1
  cases hs : kS a b i
  ·have p1 : (aX 4 i 1 == aX 4 b (aX 4 a 1)) = false:=by rw [g4,g3];unfold kS at hs;rw [beq_eq_false_iff_ne] at hs ⊢;omega
   repeat' ((conv => whnf);first | apply And.intro | (intro h9;try (have h8 : (_ : Bool) = _:=h9;clear h8;revert h9;subst_vars;intro h9;exact aq h9 (by assumption))))
   all_goals try (conv => whnf)
   all_goals try first | (apply Tk.mk <;> kernel_rfl) | exact ⟨ah rfl⟩ | exact ⟨rfl⟩ | exact ⟨trivial⟩
   all_goals subst_vars
   all_goals try first | rfl | contradiction | (apply Ob.mk;first | (simp only [ag,ak,aa.ae];omega) | ((try simp only [aa.ae]);(try dsimp only);omega))
   refine ⟨i + 1,[],⟨hi1,fun t ht => (Nat.lt_succ_iff_lt_or_eq.1 ht).elim (hno t) (fun e => e ▸ hs)⟩,?_,by show 8 - (i + 1) < 8 - i;omega⟩
   repeat' ((conv => whnf);(first | apply And.intro | intro _))
   all_goals first | rfl | trivial | exact ah rfl | exact aS ‹_› rfl | exact aT ‹_› rfl | ((repeat' first | rfl | constructor);done)
  have p1 : (aX 4 i 1 == aX 4 b (aX 4 a 1)) = true:=by rw [g4,g3];unfold kS at hs;rw [beq_iff_eq] at hs ⊢;omega
  repeat' ((conv => whnf);first | apply And.intro | (intro h9;try (have h8 : (_ : Bool) = _:=h9;clear h8;revert h9;subst_vars;intro h9;exact aq h9 (by assumption))))
  all_goals try (conv => whnf)
  all_goals try first | (apply Tk.mk <;> kernel_rfl) | exact ⟨ah rfl⟩ | exact ⟨rfl⟩ | exact ⟨trivial⟩
  all_goals subst_vars
  all_goals try first | rfl | contradiction | (apply Ob.mk;first | (simp only [ag,ak,aa.ae];omega) | ((try simp only [aa.ae]);(try dsimp only);omega))
  all_goals (rw [uu (by omega) (by omega) hi1] at hs;have:=eq_of_beq hs;unfold bJ;rw [this];rfl)
 exact (zu (a:=a) (b:=b) (by omega) (by omega) fun t ht => hno t (by omega)).elim)
def zF : au:=fN (fun a => [(aa.of (0 <= a /\ a <= 7))]) (fun a => .a (vI (cD a)))
noncomputable def OM : List (Nat × au):=[(134,rY)]
theorem Ij : aR Tryz.prog Γ OM:=(aR.nil.cons (aj Tryz.func134 rfl rfl).fn oR)
theorem xu : au.Ok Tryz.prog Γ 135 zF:=y9 (d:=0) (aP Ij bq.nil false 0) (aj Tryz.func135 rfl rfl) (fun _ => rfl) (by
 intro a ⟨ha,_⟩
 simp only [aa.ae] at ha
 obtain ⟨a,rfl⟩ : ∃ k : Nat,a = (k : Int):=⟨a.toNat,by omega⟩
 repeat' ((conv => whnf);(first | apply And.intro | intro _))
 all_goals try (conv => whnf)
 refine ⟨Nat,fun i => i <= 8 /\ ∀ t,t < i -> (cmp a t == 0) = false,fun i => ⟨aI 13 [0,3] [.a (vI a),.a (vI i)],[],[]⟩,fun i => 8 - i,0,[],⟨Nat.zero_le _,fun t h => absurd h (Nat.not_lt_zero _)⟩,?_,?_⟩
 ·repeat' ((conv => whnf);(first | apply And.intro | intro _))
  all_goals first | rfl | trivial | exact ah rfl | exact aS ‹_› rfl | exact aT ‹_› rfl | ((repeat' first | rfl | constructor);done)
 rintro i ⟨hi,hno⟩
 by_cases hi1 : i < 8
 ·have p0 : decide ((i : Int) < 8) = true:=decide_eq_true (by omega)
  have g1 : bJ a i = ((cmp a i : Nat) : Int):=by unfold bJ;rfl
  cases hs : cmp a i == 0
  ·have p1 : (bJ a i == 0) = false:=by rw [g1];rw [beq_eq_false_iff_ne] at hs ⊢;omega
   repeat' ((conv => whnf);first | apply And.intro | (intro h9;try (have h8 : (_ : Bool) = _:=h9;clear h8;revert h9;subst_vars;intro h9;exact aq h9 (by assumption))))
   all_goals try (conv => whnf)
   all_goals try first | (apply Tk.mk <;> kernel_rfl) | exact ⟨ah rfl⟩ | exact ⟨rfl⟩ | exact ⟨trivial⟩
   all_goals subst_vars
   all_goals try first | rfl | contradiction | (apply Ob.mk;first | (simp only [ag,ak,aa.ae];omega) | ((try simp only [aa.ae]);(try dsimp only);omega))
   refine ⟨i + 1,[],⟨hi1,fun t ht => (Nat.lt_succ_iff_lt_or_eq.1 ht).elim (hno t) (fun e => e ▸ hs)⟩,?_,by show 8 - (i + 1) < 8 - i;omega⟩
   repeat' ((conv => whnf);(first | apply And.intro | intro _))
   all_goals first | rfl | trivial | exact ah rfl | exact aS ‹_› rfl | exact aT ‹_› rfl | ((repeat' first | rfl | constructor);done)
  have p1 : (bJ a i == 0) = true:=by rw [g1];rw [beq_iff_eq] at hs ⊢;omega
  repeat' ((conv => whnf);first | apply And.intro | (intro h9;try (have h8 : (_ : Bool) = _:=h9;clear h8;revert h9;subst_vars;intro h9;exact aq h9 (by assumption))))
  all_goals try (conv => whnf)
  all_goals try first | (apply Tk.mk <;> kernel_rfl) | exact ⟨ah rfl⟩ | exact ⟨rfl⟩ | exact ⟨trivial⟩
  all_goals subst_vars
  all_goals try first | rfl | contradiction | (apply Ob.mk;first | (simp only [ag,ak,aa.ae];omega) | ((try simp only [aa.ae]);(try dsimp only);omega))
  all_goals (rw [wK (by omega) hi1] at hs;have:=eq_of_beq hs;unfold cD;rw [this];rfl)
 exact (yb (a:=a) (by omega) fun t ht => hno t (by omega)).elim)
end Go.Proofs.YthejmgnkenokpaaGreatDoor
end
section
namespace Go.Proofs.YthejmgnkenokpaaGreatDoor
open Go Go.Sy Go.bK
variable {Γ : bn}
def fS (D : Int -> Int -> List Wk -> List aa) (F : Int -> Int -> List Wk -> Tm) : au:=.fn fun args rg => match args with
 | [.agg [.v (.int .i64 n0),.v (.int .i64 n1),x0]] => (match ac1 46 kW rg x0 with | some (q0,L0) => some (q0 ++ (D n0 n1 L0),F n0 n1 L0) | _ => none)
 | _ => none
theorem za {f : FuncId} {b : Body} {E : Env} {d : Nat} (hP : aL Tryz.prog Γ E) (hb : bQ Tryz.prog f b) {D : Int -> Int -> List Wk -> List aa} {F : Int -> Int -> List Wk -> Tm} (hp : ∀ (n0 : Int) (n1 : Int) (L0 : List Wk),(F n0 n1 L0).plain = true)
  (H : ∀ (n0 : Int) (n1 : Int) (L0 : List Wk),bW (D n0 n1 L0) -> cQ E d b [.agg [vI n0,vI n1,.sl 0 [] 0 L0.length]] [.arr 46 kW L0 false false] (fun x _ => iL x (F n0 n1 L0))) : au.Ok Tryz.prog Γ f (fS D F):=au.er (d:=d) hP hb (by
 intro args rg q t hF hq
 split at hF
 next n0 n1 x0 =>
  split at hF
  next q0 L0 hx0 =>
   obtain ⟨rfl,rfl⟩:=Prod.mk.inj (Option.some.inj hF);clear hF
   rw [aH] at hq
   obtain ⟨dm,hD⟩:=hq
   obtain ⟨e0,Vn⟩:=bP (by simp [kW]) hx0 dm
   obtain ⟨p0,r0⟩:=Vn [e0] 0 1 rfl (by omega)
   refine ⟨hp _ _ _,[e0],[.agg [vI n0,vI n1,.sl 0 [] 0 L0.length]],[.arr 46 kW L0 false false],⟨⟨⟨rfl,rfl,p0,trivial⟩,trivial⟩,fun r g hg => ?_⟩,H _ _ _ hD⟩
   match r,hg with
   | 0,hg => obtain rfl:=Option.some.inj hg;exact r0
  next => cases hF
 next => cases hF)
def xL (D : Int -> Int -> List Wk -> Int -> List aa) (F : Int -> Int -> List Wk -> Int -> Tm) : au:=.fn fun args rg => match args with
 | [.agg [.v (.int .i64 n0),.v (.int .i64 n1),x0],.a (.v (.int .i64 n2))] => (match ac1 46 kW rg x0 with | some (q0,L0) => some (q0 ++ (D n0 n1 L0 n2),F n0 n1 L0 n2) | _ => none)
 | _ => none
theorem mG {f : FuncId} {b : Body} {E : Env} {d : Nat} (hP : aL Tryz.prog Γ E) (hb : bQ Tryz.prog f b) {D : Int -> Int -> List Wk -> Int -> List aa} {F : Int -> Int -> List Wk -> Int -> Tm} (hp : ∀ (n0 : Int) (n1 : Int) (L0 : List Wk) (n2 : Int),(F n0 n1 L0 n2).plain = true)
  (H : ∀ (n0 : Int) (n1 : Int) (L0 : List Wk) (n2 : Int),bW (D n0 n1 L0 n2) -> cQ E d b [.agg [vI n0,vI n1,.sl 0 [] 0 L0.length],.a (vI n2)] [.arr 46 kW L0 false false] (fun x _ => iL x (F n0 n1 L0 n2))) : au.Ok Tryz.prog Γ f (xL D F):=au.er (d:=d) hP hb (by
 intro args rg q t hF hq
 split at hF
 next n0 n1 x0 n2 =>
  split at hF
  next q0 L0 hx0 =>
   obtain ⟨rfl,rfl⟩:=Prod.mk.inj (Option.some.inj hF);clear hF
   rw [aH] at hq
   obtain ⟨dm,hD⟩:=hq
   obtain ⟨e0,Vn⟩:=bP (by simp [kW]) hx0 dm
   obtain ⟨p0,r0⟩:=Vn [e0] 0 1 rfl (by omega)
   refine ⟨hp _ _ _ _,[e0],[.agg [vI n0,vI n1,.sl 0 [] 0 L0.length],.a (vI n2)],[.arr 46 kW L0 false false],⟨⟨⟨rfl,rfl,p0,trivial⟩,rfl,trivial⟩,fun r g hg => ?_⟩,H _ _ _ _ hD⟩
   match r,hg with
   | 0,hg => obtain rfl:=Option.some.inj hg;exact r0
  next => cases hF
 next => cases hF)
def PE (D : Int -> Int -> List Wk -> Wk -> List aa) (F : Int -> Int -> List Wk -> Wk -> Tm) : au:=.fn fun args rg => match args with
 | [.agg [.v (.int .i64 n0),.v (.int .i64 n1),x0],.agg l0] => (match ac1 46 kW rg x0,eu kW l0 with | some (q0,L0),some v0 => some (q0 ++ (D n0 n1 L0 v0),F n0 n1 L0 v0) | _,_ => none)
 | _ => none
theorem MP {f : FuncId} {b : Body} {E : Env} {d : Nat} (hP : aL Tryz.prog Γ E) (hb : bQ Tryz.prog f b) {D : Int -> Int -> List Wk -> Wk -> List aa} {F : Int -> Int -> List Wk -> Wk -> Tm} (hp : ∀ (n0 : Int) (n1 : Int) (L0 : List Wk) (v0 : Wk),(F n0 n1 L0 v0).plain = true)
  (H : ∀ (n0 : Int) (n1 : Int) (L0 : List Wk) (v0 : Wk),bW (D n0 n1 L0 v0) -> cQ E d b [.agg [vI n0,vI n1,.sl 0 [] 0 L0.length],.agg (ai.lV kW v0)] [.arr 46 kW L0 false false] (fun x _ => iL x (F n0 n1 L0 v0))) : au.Ok Tryz.prog Γ f (PE D F):=au.er (d:=d) hP hb (by
 intro args rg q t hF hq
 split at hF
 next n0 n1 x0 l0 =>
  split at hF
  next q0 L0 v0 hx0 hc0 =>
   obtain ⟨rfl,rfl⟩:=Prod.mk.inj (Option.some.inj hF);clear hF
   rw [aH] at hq
   obtain ⟨dm,hD⟩:=hq
   obtain ⟨e0,Vn⟩:=bP (by simp [kW]) hx0 dm
   obtain ⟨p0,r0⟩:=Vn [e0] 0 1 rfl (by omega)
   refine ⟨hp _ _ _ _,[e0],[.agg [vI n0,vI n1,.sl 0 [] 0 L0.length],.agg (ai.lV kW v0)],[.arr 46 kW L0 false false],⟨⟨⟨rfl,rfl,p0,trivial⟩,oC hc0,trivial⟩,fun r g hg => ?_⟩,H _ _ _ _ hD⟩
   match r,hg with
   | 0,hg => obtain rfl:=Option.some.inj hg;exact r0
  next => cases hF
 next => cases hF)
abbrev cn (L : List Wk) (i : Int) : Wk:=@Ar.get ⟨46,kW,L⟩ (0 + Int.toNat i)
theorem jX (L : List Wk) (i : Nat) : cn L i = wk L i:=by unfold cn;rw [Nat.zero_add,Int.toNat_natCast];rfl
abbrev w3 (L : List Wk) (i : Int) : Wk:=((cn L i).1,(cn L i).2.1,(cn L i).2.2)
def sS : au:=PE (fun _ P _ _ => [(aa.of (1 <= P /\ P <= 6))]) (fun _ P _ w => bl (eJ P w))
noncomputable def Qn : List (Nat × au):=[(59,gK),(66,mC)]
theorem KY : aR Tryz.prog Γ Qn:=((aR.nil.cons (aj Tryz.func66 rfl rfl).fn kE).cons (aj Tryz.func59 rfl rfl).fn fw)
theorem Z1 : au.Ok Tryz.prog Γ 76 sS:=MP (d:=0) (aP KY bq.nil false 0) (aj Tryz.func76 rfl rfl) (fun _ _ _ _ => rfl) (by
 rintro n P L ⟨a,b,t⟩ ⟨hP,_⟩
 simp only [aa.ae] at hP
 cases h1 : aQ a 0 (P - 1)
 ·rw [show eJ P (a,b,t) = false by simp [eJ,h1]]
  repeat' ((conv => whnf);first | apply And.intro | (intro h9;try (have h8 : (_ : Bool) = _:=h9;clear h8;revert h9;subst_vars;intro h9;exact aq h9 (by assumption))))
  all_goals try (conv => whnf)
  all_goals try first | (apply Tk.mk <;> kernel_rfl) | exact ⟨ah rfl⟩ | exact ⟨rfl⟩ | exact ⟨trivial⟩
  all_goals subst_vars
  all_goals try first | rfl | contradiction | (apply Ob.mk;first | (simp only [ag,ak,aa.ae];omega) | ((try simp only [aa.ae]);(try dsimp only);omega))
 cases h2 : aQ b 0 (P - 1)
 ·rw [show eJ P (a,b,t) = false by simp [eJ,h2]]
  repeat' ((conv => whnf);first | apply And.intro | (intro h9;try (have h8 : (_ : Bool) = _:=h9;clear h8;revert h9;subst_vars;intro h9;exact aq h9 (by assumption))))
  all_goals try (conv => whnf)
  all_goals try first | (apply Tk.mk <;> kernel_rfl) | exact ⟨ah rfl⟩ | exact ⟨rfl⟩ | exact ⟨trivial⟩
  all_goals subst_vars
  all_goals try first | rfl | contradiction | (apply Ob.mk;first | (simp only [ag,ak,aa.ae];omega) | ((try simp only [aa.ae]);(try dsimp only);omega))
 cases h3 : (a != b)
 ·rw [show eJ P (a,b,t) = false by simp [eJ,h3]]
  repeat' ((conv => whnf);first | apply And.intro | (intro h9;try (have h8 : (_ : Bool) = _:=h9;clear h8;revert h9;subst_vars;intro h9;exact aq h9 (by assumption))))
  all_goals try (conv => whnf)
  all_goals try first | (apply Tk.mk <;> kernel_rfl) | exact ⟨ah rfl⟩ | exact ⟨rfl⟩ | exact ⟨trivial⟩
  all_goals subst_vars
  all_goals try first | rfl | contradiction | (apply Ob.mk;first | (simp only [ag,ak,aa.ae];omega) | ((try simp only [aa.ae]);(try dsimp only);omega))
 rw [show eJ P (a,b,t) = aQ t 0 7 by simp [eJ,h1,h2,h3]]
 repeat' ((conv => whnf);first | apply And.intro | (intro h9;try (have h8 : (_ : Bool) = _:=h9;clear h8;revert h9;subst_vars;intro h9;exact aq h9 (by assumption))))
 all_goals try (conv => whnf)
 all_goals try first | (apply Tk.mk <;> kernel_rfl) | exact ⟨ah rfl⟩ | exact ⟨rfl⟩ | exact ⟨trivial⟩
 all_goals subst_vars
 all_goals try first | rfl | contradiction | (apply Ob.mk;first | (simp only [ag,ak,aa.ae];omega) | ((try simp only [aa.ae]);(try dsimp only);omega)))
def rZ : au:=fS (fun _ _ L => [(aa.of (L.length <= 1000000))]) (fun n P L => .a (vI (bD n P L)))
noncomputable def Mb : List (Nat × au):=[(59,gK),(76,sS)]
theorem FN : aR Tryz.prog Γ Mb:=((aR.nil.cons (aj Tryz.func76 rfl rfl).fn Z1).cons (aj Tryz.func59 rfl rfl).fn fw)
noncomputable def K3 : List (Nat × Body):=[(74,bo Tryz.f74),(114,bo Tryz.f114),(75,bo Tryz.f75)]
theorem EB : bq Tryz.prog K3:=(((bq.nil.cons (cg Tryz.func75 rfl rfl)).cons (cg Tryz.func114 rfl rfl)).cons (cg Tryz.func74 rfl rfl))
theorem oS : au.Ok Tryz.prog Γ 35 rZ:=za (d:=4) (aP FN EB false 0) (aj Tryz.func35 rfl rfl) (fun _ _ _ => rfl) (by
 intro n P L ⟨hL,_⟩
 simp only [aa.ae] at hL
 cases h1 : aQ n 1 6
 ·have e1 : (!aQ n 1 6) = true:=by rw [h1];rfl
  rw [show bD n P L = 1 by simp [bD,h1]]
  repeat' ((conv => whnf);first | apply And.intro | (intro h9;try (have h8 : (_ : Bool) = _:=h9;clear h8;revert h9;subst_vars;intro h9;exact aq h9 (by assumption))))
  all_goals try (conv => whnf)
  all_goals try first | (apply Tk.mk <;> kernel_rfl) | exact ⟨ah rfl⟩ | exact ⟨rfl⟩ | exact ⟨trivial⟩
  all_goals subst_vars
  all_goals try first | rfl | contradiction | (apply Ob.mk;first | (simp only [ag,ak,aa.ae];omega) | ((try simp only [aa.ae]);(try dsimp only);omega))
 have e1 : (!aQ n 1 6) = false:=by rw [h1];rfl
 cases h2 : aQ P 1 6
 ·have e2 : (!aQ P 1 6) = true:=by rw [h2];rfl
  rw [show bD n P L = 1 by simp [bD,h2]]
  repeat' ((conv => whnf);first | apply And.intro | (intro h9;try (have h8 : (_ : Bool) = _:=h9;clear h8;revert h9;subst_vars;intro h9;exact aq h9 (by assumption))))
  all_goals try (conv => whnf)
  all_goals try first | (apply Tk.mk <;> kernel_rfl) | exact ⟨ah rfl⟩ | exact ⟨rfl⟩ | exact ⟨trivial⟩
  all_goals subst_vars
  all_goals try first | rfl | contradiction | (apply Ob.mk;first | (simp only [ag,ak,aa.ae];omega) | ((try simp only [aa.ae]);(try dsimp only);omega))
 have e2 : (!aQ P 1 6) = false:=by rw [h2];rfl
 have q2:=bA.1 h2
 by_cases h3 : L.length > 16
 ·have e3 : decide ((L.length : Int) > 16) = true:=decide_eq_true (by omega)
  rw [show bD n P L = 2 by simp [bD,h1,h2,h3]]
  repeat' ((conv => whnf);first | apply And.intro | (intro h9;try (have h8 : (_ : Bool) = _:=h9;clear h8;revert h9;subst_vars;intro h9;exact aq h9 (by assumption))))
  all_goals try (conv => whnf)
  all_goals try first | (apply Tk.mk <;> kernel_rfl) | exact ⟨ah rfl⟩ | exact ⟨rfl⟩ | exact ⟨trivial⟩
  all_goals subst_vars
  all_goals try first | rfl | contradiction | (apply Ob.mk;first | (simp only [ag,ak,aa.ae];omega) | ((try simp only [aa.ae]);(try dsimp only);omega))
 have e3 : decide ((L.length : Int) > 16) = false:=decide_eq_false (by omega)
 rw [show bD n P L = if dY P L = true then 0 else 1 by simp [bD,h1,h2,h3]]
 have m1 : decide ((-1 : Int) >= 0) = false:=rfl
 repeat' ((conv => whnf);first | apply And.intro | (intro h9;try (have h8 : (_ : Bool) = _:=h9;clear h8;revert h9;subst_vars;intro h9;exact aq h9 (by assumption))))
 all_goals try (conv => whnf)
 all_goals try first | (apply Tk.mk <;> kernel_rfl) | exact ⟨ah rfl⟩ | exact ⟨rfl⟩ | exact ⟨trivial⟩
 all_goals subst_vars
 all_goals try first | rfl | contradiction | (apply Ob.mk;first | (simp only [ag,ak,aa.ae];omega) | ((try simp only [aa.ae]);(try dsimp only);omega))
 refine ⟨Nat,fun i => i <= L.length /\ dY P L = dY P (L.drop i),fun i => ⟨aI 19 [0,1,7,8] [.a (.sl 0 [] 0 L.length),.a (.fn 75 [1]),.a (vI L.length),.a (vI i)],[aI 9 [] [],aI 24 [] []],[.arr 46 kW L false false,.box true [vI n,vI P,.sl 0 [] 0 L.length]]⟩,fun i => L.length - i,0,[],⟨Nat.zero_le _,rfl⟩,?_,?_⟩
 ·repeat' ((conv => whnf);(first | apply And.intro | intro _))
  all_goals first | rfl | trivial | exact ah rfl | exact aS ‹_› rfl | exact aT ‹_› rfl | ((repeat' first | rfl | constructor);done)
 rintro i ⟨hi,hv⟩
 have m2 : decide ((i : Int) >= 0) = true:=decide_eq_true (by omega)
 by_cases hi1 : i < L.length
 ·have p0 : decide ((i : Int) < (L.length : Int)) = true:=decide_eq_true (by omega)
  cases hw : eJ P (wk L i)
  ·have e4 : (!eJ P (w3 L i)) = true:=by rw [show w3 L i = wk L i from jX L i,hw];rfl
   rw [hv,rS hi1 hw]
   repeat' ((conv => whnf);first | apply And.intro | (intro h9;try (have h8 : (_ : Bool) = _:=h9;clear h8;revert h9;subst_vars;intro h9;exact aq h9 (by assumption))))
   all_goals try (conv => whnf)
   all_goals try first | (apply Tk.mk <;> kernel_rfl) | exact ⟨ah rfl⟩ | exact ⟨rfl⟩ | exact ⟨trivial⟩
   all_goals subst_vars
   all_goals try first | rfl | contradiction | (apply Ob.mk;first | (simp only [ag,ak,aa.ae];omega) | ((try simp only [aa.ae]);(try dsimp only);omega))
   all_goals first
    | exact ⟨show 0 + Int.toNat (i : Int) < L.length by omega⟩
  have e4 : (!eJ P (w3 L i)) = false:=by rw [show w3 L i = wk L i from jX L i,hw];rfl
  repeat' ((conv => whnf);first | apply And.intro | (intro h9;try (have h8 : (_ : Bool) = _:=h9;clear h8;revert h9;subst_vars;intro h9;exact aq h9 (by assumption))))
  all_goals try (conv => whnf)
  all_goals try first | (apply Tk.mk <;> kernel_rfl) | exact ⟨ah rfl⟩ | exact ⟨rfl⟩ | exact ⟨trivial⟩
  all_goals subst_vars
  all_goals try first | rfl | contradiction | (apply Ob.mk;first | (simp only [ag,ak,aa.ae];omega) | ((try simp only [aa.ae]);(try dsimp only);omega))
  all_goals try first
   | exact ⟨show 0 + Int.toNat (i : Int) < L.length by omega⟩
  all_goals
   refine ⟨i + 1,[],⟨hi1,by rw [hv,Ei hi1 hw]⟩,?_,by show L.length - (i + 1) < L.length - i;omega⟩
   repeat' ((conv => whnf);(first | apply And.intro | intro _))
   all_goals first | rfl | trivial | exact ah rfl | exact aS ‹_› rfl | exact aT ‹_› rfl | ((repeat' first | rfl | constructor);done)
 have p0 : decide ((i : Int) < (L.length : Int)) = false:=decide_eq_false (by omega)
 rw [hv,Eh (by omega)]
 repeat' ((conv => whnf);first | apply And.intro | (intro h9;try (have h8 : (_ : Bool) = _:=h9;clear h8;revert h9;subst_vars;intro h9;exact aq h9 (by assumption))))
 all_goals try (conv => whnf)
 all_goals try first | (apply Tk.mk <;> kernel_rfl) | exact ⟨ah rfl⟩ | exact ⟨rfl⟩ | exact ⟨trivial⟩
 all_goals subst_vars
 all_goals try first | rfl | contradiction | (apply Ob.mk;first | (simp only [ag,ak,aa.ae];omega) | ((try simp only [aa.ae]);(try dsimp only);omega)))
end Go.Proofs.YthejmgnkenokpaaGreatDoor
end
section
namespace Go.Proofs.YthejmgnkenokpaaGreatDoor
open Go Go.Sy Go.bK
variable {Γ : bn}
def uE : au:=fS (fun _ _ L => [(aa.of (L.length <= 1000000))]) (fun n P L => .a (vI (bD n P L)))
noncomputable def FX : List (Nat × au):=[(21,mg)]
theorem zo : aR Tryz.prog Γ FX:=(aR.nil.cons (aj Tryz.func21 rfl rfl).fn jx)
theorem yI : au.Ok Tryz.prog Γ 18 uE:=za (d:=0) (aP zo bq.nil false 0) (aj Tryz.func18 rfl rfl) (fun _ _ _ => rfl) (by
 intro n P L ⟨hL,_⟩
 simp only [aa.ae] at hL
 cases h1 : aQ n 1 6
 ·have e1 : (!aQ n 1 6) = true:=by rw [h1];rfl
  rw [show bD n P L = 1 by simp [bD,h1]]
  repeat' ((conv => whnf);first | apply And.intro | (intro h9;try (have h8 : (_ : Bool) = _:=h9;clear h8;revert h9;subst_vars;intro h9;exact aq h9 (by assumption))))
  all_goals try (conv => whnf)
  all_goals try first | (apply Tk.mk <;> kernel_rfl) | exact ⟨ah rfl⟩ | exact ⟨rfl⟩ | exact ⟨trivial⟩
  all_goals subst_vars
  all_goals try first | rfl | contradiction | (apply Ob.mk;first | (simp only [ag,ak,aa.ae];omega) | ((try simp only [aa.ae]);(try dsimp only);omega))
 have e1 : (!aQ n 1 6) = false:=by rw [h1];rfl
 cases h2 : aQ P 1 6
 ·have e2 : (!aQ P 1 6) = true:=by rw [h2];rfl
  rw [show bD n P L = 1 by simp [bD,h2]]
  repeat' ((conv => whnf);first | apply And.intro | (intro h9;try (have h8 : (_ : Bool) = _:=h9;clear h8;revert h9;subst_vars;intro h9;exact aq h9 (by assumption))))
  all_goals try (conv => whnf)
  all_goals try first | (apply Tk.mk <;> kernel_rfl) | exact ⟨ah rfl⟩ | exact ⟨rfl⟩ | exact ⟨trivial⟩
  all_goals subst_vars
  all_goals try first | rfl | contradiction | (apply Ob.mk;first | (simp only [ag,ak,aa.ae];omega) | ((try simp only [aa.ae]);(try dsimp only);omega))
 have e2 : (!aQ P 1 6) = false:=by rw [h2];rfl
 have q2:=bA.1 h2
 by_cases h3 : L.length > 16
 ·have e3 : decide ((L.length : Int) > 16) = true:=decide_eq_true (by omega)
  rw [show bD n P L = 2 by simp [bD,h1,h2,h3]]
  repeat' ((conv => whnf);first | apply And.intro | (intro h9;try (have h8 : (_ : Bool) = _:=h9;clear h8;revert h9;subst_vars;intro h9;exact aq h9 (by assumption))))
  all_goals try (conv => whnf)
  all_goals try first | (apply Tk.mk <;> kernel_rfl) | exact ⟨ah rfl⟩ | exact ⟨rfl⟩ | exact ⟨trivial⟩
  all_goals subst_vars
  all_goals try first | rfl | contradiction | (apply Ob.mk;first | (simp only [ag,ak,aa.ae];omega) | ((try simp only [aa.ae]);(try dsimp only);omega))
 have e3 : decide ((L.length : Int) > 16) = false:=decide_eq_false (by omega)
 rw [show bD n P L = if dY P L = true then 0 else 1 by simp [bD,h1,h2,h3]]
 repeat' ((conv => whnf);first | apply And.intro | (intro h9;try (have h8 : (_ : Bool) = _:=h9;clear h8;revert h9;subst_vars;intro h9;exact aq h9 (by assumption))))
 all_goals try (conv => whnf)
 all_goals try first | (apply Tk.mk <;> kernel_rfl) | exact ⟨ah rfl⟩ | exact ⟨rfl⟩ | exact ⟨trivial⟩
 all_goals subst_vars
 all_goals try first | rfl | contradiction | (apply Ob.mk;first | (simp only [ag,ak,aa.ae];omega) | ((try simp only [aa.ae]);(try dsimp only);omega))
 refine ⟨Nat,fun i => i <= L.length /\ dY P L = dY P (L.drop i),fun i => ⟨aI 60 [1,3] [.a (.p 1 [] 0 0),.a (vI i)],[],[.arr 46 kW L false false,.box true [vI n,vI P,.sl 0 [] 0 L.length]]⟩,fun i => L.length - i,0,[],⟨Nat.zero_le _,rfl⟩,?_,?_⟩
 ·repeat' ((conv => whnf);(first | apply And.intro | intro _))
  all_goals first | rfl | trivial | exact ah rfl | exact aS ‹_› rfl | exact aT ‹_› rfl | ((repeat' first | rfl | constructor);done)
 rintro i ⟨hi,hv⟩
 by_cases hi1 : i < L.length
 ·have p0 : decide ((i : Int) < (L.length : Int)) = true:=decide_eq_true (by omega)
  have wn : ∀ b,eJ P (wk L i) = b -> eJ P (cn L i) = b:=fun b hb => by rw [jX];exact hb
  cases w1 : aQ (cn L i).1 0 (P - 1)
  ·have f1 : (!aQ (cn L i).1 0 (P - 1)) = true:=by rw [w1];rfl
   have hw : eJ P (wk L i) = false:=by rw [<- jX];simp only [eJ,w1,Bool.false_and]
   rw [hv,rS hi1 hw]
   repeat' ((conv => whnf);first | apply And.intro | (intro h9;try (have h8 : (_ : Bool) = _:=h9;clear h8;revert h9;subst_vars;intro h9;exact aq h9 (by assumption))))
   all_goals try (conv => whnf)
   all_goals try first | (apply Tk.mk <;> kernel_rfl) | exact ⟨ah rfl⟩ | exact ⟨rfl⟩ | exact ⟨trivial⟩
   all_goals subst_vars
   all_goals try first | rfl | contradiction | (apply Ob.mk;first | (simp only [ag,ak,aa.ae];omega) | ((try simp only [aa.ae]);(try dsimp only);omega))
   all_goals first
    | exact ⟨show 0 + Int.toNat (i : Int) < L.length by omega⟩
  have f1 : (!aQ (cn L i).1 0 (P - 1)) = false:=by rw [w1];rfl
  cases w2 : aQ (cn L i).2.1 0 (P - 1)
  ·have f2 : (!aQ (cn L i).2.1 0 (P - 1)) = true:=by rw [w2];rfl
   have hw : eJ P (wk L i) = false:=by rw [<- jX];simp only [eJ,w2,Bool.false_and,Bool.and_false]
   rw [hv,rS hi1 hw]
   repeat' ((conv => whnf);first | apply And.intro | (intro h9;try (have h8 : (_ : Bool) = _:=h9;clear h8;revert h9;subst_vars;intro h9;exact aq h9 (by assumption))))
   all_goals try (conv => whnf)
   all_goals try first | (apply Tk.mk <;> kernel_rfl) | exact ⟨ah rfl⟩ | exact ⟨rfl⟩ | exact ⟨trivial⟩
   all_goals subst_vars
   all_goals try first | rfl | contradiction | (apply Ob.mk;first | (simp only [ag,ak,aa.ae];omega) | ((try simp only [aa.ae]);(try dsimp only);omega))
   all_goals first
    | exact ⟨show 0 + Int.toNat (i : Int) < L.length by omega⟩
  have f2 : (!aQ (cn L i).2.1 0 (P - 1)) = false:=by rw [w2];rfl
  cases Qd : (cn L i).1 == (cn L i).2.1
  ·have g3 : ((cn L i).1 != (cn L i).2.1) = true:=by unfold bne;rw [Qd];rfl
   cases w4 : aQ (cn L i).2.2 0 7
   ·have f4 : (!aQ (cn L i).2.2 0 7) = true:=by rw [w4];rfl
    have hw : eJ P (wk L i) = false:=by rw [<- jX];simp only [eJ,w4,Bool.and_false]
    rw [hv,rS hi1 hw]
    repeat' ((conv => whnf);first | apply And.intro | (intro h9;try (have h8 : (_ : Bool) = _:=h9;clear h8;revert h9;subst_vars;intro h9;exact aq h9 (by assumption))))
    all_goals try (conv => whnf)
    all_goals try first | (apply Tk.mk <;> kernel_rfl) | exact ⟨ah rfl⟩ | exact ⟨rfl⟩ | exact ⟨trivial⟩
    all_goals subst_vars
    all_goals try first | rfl | contradiction | (apply Ob.mk;first | (simp only [ag,ak,aa.ae];omega) | ((try simp only [aa.ae]);(try dsimp only);omega))
    all_goals first
     | exact ⟨show 0 + Int.toNat (i : Int) < L.length by omega⟩
   have f4 : (!aQ (cn L i).2.2 0 7) = false:=by rw [w4];rfl
   have hw : eJ P (wk L i) = true:=by rw [<- jX];simp only [eJ,w1,w2,w4,g3,Bool.and_true]
   repeat' ((conv => whnf);first | apply And.intro | (intro h9;try (have h8 : (_ : Bool) = _:=h9;clear h8;revert h9;subst_vars;intro h9;exact aq h9 (by assumption))))
   all_goals try (conv => whnf)
   all_goals try first | (apply Tk.mk <;> kernel_rfl) | exact ⟨ah rfl⟩ | exact ⟨rfl⟩ | exact ⟨trivial⟩
   all_goals subst_vars
   all_goals try first | rfl | contradiction | (apply Ob.mk;first | (simp only [ag,ak,aa.ae];omega) | ((try simp only [aa.ae]);(try dsimp only);omega))
   all_goals try first
    | exact ⟨show 0 + Int.toNat (i : Int) < L.length by omega⟩
   all_goals
    refine ⟨i + 1,[],⟨hi1,by rw [hv,Ei hi1 hw]⟩,?_,by show L.length - (i + 1) < L.length - i;omega⟩
    repeat' ((conv => whnf);(first | apply And.intro | intro _))
    all_goals first | rfl | trivial | exact ah rfl | exact aS ‹_› rfl | exact aT ‹_› rfl | ((repeat' first | rfl | constructor);done)
  have g3 : ((cn L i).1 != (cn L i).2.1) = false:=by unfold bne;rw [Qd];rfl
  have hw : eJ P (wk L i) = false:=by rw [<- jX];simp only [eJ,g3,Bool.and_false,Bool.false_and]
  rw [hv,rS hi1 hw]
  repeat' ((conv => whnf);first | apply And.intro | (intro h9;try (have h8 : (_ : Bool) = _:=h9;clear h8;revert h9;subst_vars;intro h9;exact aq h9 (by assumption))))
  all_goals try (conv => whnf)
  all_goals try first | (apply Tk.mk <;> kernel_rfl) | exact ⟨ah rfl⟩ | exact ⟨rfl⟩ | exact ⟨trivial⟩
  all_goals subst_vars
  all_goals try first | rfl | contradiction | (apply Ob.mk;first | (simp only [ag,ak,aa.ae];omega) | ((try simp only [aa.ae]);(try dsimp only);omega))
  all_goals first
   | exact ⟨show 0 + Int.toNat (i : Int) < L.length by omega⟩
 have p0 : decide ((i : Int) < (L.length : Int)) = false:=decide_eq_false (by omega)
 rw [hv,Eh (by omega)]
 repeat' ((conv => whnf);first | apply And.intro | (intro h9;try (have h8 : (_ : Bool) = _:=h9;clear h8;revert h9;subst_vars;intro h9;exact aq h9 (by assumption))))
 all_goals try (conv => whnf)
 all_goals try first | (apply Tk.mk <;> kernel_rfl) | exact ⟨ah rfl⟩ | exact ⟨rfl⟩ | exact ⟨trivial⟩
 all_goals subst_vars
 all_goals try first | rfl | contradiction | (apply Ob.mk;first | (simp only [ag,ak,aa.ae];omega) | ((try simp only [aa.ae]);(try dsimp only);omega)))
def bf (n P : Int) (L : List Wk) (p : Int) : Int:=if bD n P L = 0 then (if aQ p 0 (P - 1) = true then 0 else 1) else bD n P L
attribute [local irreducible] bD
def jf : au:=xL (fun _ _ L _ => [(aa.of (L.length <= 1000000))]) (fun n P L p => .a (vI (bf n P L p)))
noncomputable def Mf : List (Nat × au):=[(35,rZ),(59,gK)]
theorem FV : aR Tryz.prog Γ Mf:=((aR.nil.cons (aj Tryz.func59 rfl rfl).fn fw).cons (aj Tryz.func35 rfl rfl).fn oS)
theorem fQ : au.Ok Tryz.prog Γ 45 jf:=mG (d:=0) (aP FV bq.nil false 0) (aj Tryz.func45 rfl rfl) (fun _ _ _ _ => rfl) (by
 intro n P L p ⟨hL,_⟩
 simp only [aa.ae] at hL
 by_cases h0 : bD n P L = 0
 ·have e0 : (bD n P L != 0) = false:=by rw [h0];rfl
  have Mx : (bD n P L == 0) = true:=by rw [h0];rfl
  have sh:=(oe.1 h0).p
  cases h1 : aQ p 0 (P - 1)
  ·have e1 : (!aQ p 0 (P - 1)) = true:=by rw [h1];rfl
   rw [show bf n P L p = 1 by simp [bf,h0,h1]]
   repeat' ((conv => whnf);first | apply And.intro | (intro h9;try (have h8 : (_ : Bool) = _:=h9;clear h8;revert h9;subst_vars;intro h9;exact aq h9 (by assumption))))
   all_goals try (conv => whnf)
   all_goals try first | (apply Tk.mk <;> kernel_rfl) | exact ⟨ah rfl⟩ | exact ⟨rfl⟩ | exact ⟨trivial⟩
   all_goals subst_vars
   all_goals try first | rfl | contradiction | (apply Ob.mk;first | (simp only [ag,ak,aa.ae];omega) | ((try simp only [aa.ae]);(try dsimp only);omega))
   all_goals first
    | exact ⟨hL⟩
  have e1 : (!aQ p 0 (P - 1)) = false:=by rw [h1];rfl
  rw [show bf n P L p = 0 by simp [bf,h0,h1]]
  repeat' ((conv => whnf);first | apply And.intro | (intro h9;try (have h8 : (_ : Bool) = _:=h9;clear h8;revert h9;subst_vars;intro h9;exact aq h9 (by assumption))))
  all_goals try (conv => whnf)
  all_goals try first | (apply Tk.mk <;> kernel_rfl) | exact ⟨ah rfl⟩ | exact ⟨rfl⟩ | exact ⟨trivial⟩
  all_goals subst_vars
  all_goals try first | rfl | contradiction | (apply Ob.mk;first | (simp only [ag,ak,aa.ae];omega) | ((try simp only [aa.ae]);(try dsimp only);omega))
  all_goals first
   | exact ⟨hL⟩
 have e0 : (bD n P L != 0) = true:=by simpa using h0
 have Mx : (bD n P L == 0) = false:=by simpa using h0
 rw [show bf n P L p = bD n P L by simp [bf,h0]]
 repeat' ((conv => whnf);first | apply And.intro | (intro h9;try (have h8 : (_ : Bool) = _:=h9;clear h8;revert h9;subst_vars;intro h9;exact aq h9 (by assumption))))
 all_goals try (conv => whnf)
 all_goals try first | (apply Tk.mk <;> kernel_rfl) | exact ⟨ah rfl⟩ | exact ⟨rfl⟩ | exact ⟨trivial⟩
 all_goals subst_vars
 all_goals try first | rfl | contradiction | (apply Ob.mk;first | (simp only [ag,ak,aa.ae];omega) | ((try simp only [aa.ae]);(try dsimp only);omega))
 all_goals first
  | exact ⟨hL⟩)
def uD : au:=xL (fun _ _ L _ => [(aa.of (L.length <= 1000000))]) (fun n P L p => .a (vI (bf n P L p)))
noncomputable def FW : List (Nat × au):=[(18,uE),(21,mg)]
theorem zn : aR Tryz.prog Γ FW:=((aR.nil.cons (aj Tryz.func21 rfl rfl).fn jx).cons (aj Tryz.func18 rfl rfl).fn yI)
theorem yH : au.Ok Tryz.prog Γ 13 uD:=mG (d:=0) (aP zn bq.nil false 0) (aj Tryz.func13 rfl rfl) (fun _ _ _ _ => rfl) (by
 intro n P L p ⟨hL,_⟩
 simp only [aa.ae] at hL
 by_cases h0 : bD n P L = 0
 ·have e0 : (bD n P L != 0) = false:=by rw [h0];rfl
  have Mx : (bD n P L == 0) = true:=by rw [h0];rfl
  have sh:=(oe.1 h0).p
  cases h1 : aQ p 0 (P - 1)
  ·have e1 : (!aQ p 0 (P - 1)) = true:=by rw [h1];rfl
   rw [show bf n P L p = 1 by simp [bf,h0,h1]]
   repeat' ((conv => whnf);first | apply And.intro | (intro h9;try (have h8 : (_ : Bool) = _:=h9;clear h8;revert h9;subst_vars;intro h9;exact aq h9 (by assumption))))
   all_goals try (conv => whnf)
   all_goals try first | (apply Tk.mk <;> kernel_rfl) | exact ⟨ah rfl⟩ | exact ⟨rfl⟩ | exact ⟨trivial⟩
   all_goals subst_vars
   all_goals try first | rfl | contradiction | (apply Ob.mk;first | (simp only [ag,ak,aa.ae];omega) | ((try simp only [aa.ae]);(try dsimp only);omega))
   all_goals first
    | exact ⟨hL⟩
  have e1 : (!aQ p 0 (P - 1)) = false:=by rw [h1];rfl
  rw [show bf n P L p = 0 by simp [bf,h0,h1]]
  repeat' ((conv => whnf);first | apply And.intro | (intro h9;try (have h8 : (_ : Bool) = _:=h9;clear h8;revert h9;subst_vars;intro h9;exact aq h9 (by assumption))))
  all_goals try (conv => whnf)
  all_goals try first | (apply Tk.mk <;> kernel_rfl) | exact ⟨ah rfl⟩ | exact ⟨rfl⟩ | exact ⟨trivial⟩
  all_goals subst_vars
  all_goals try first | rfl | contradiction | (apply Ob.mk;first | (simp only [ag,ak,aa.ae];omega) | ((try simp only [aa.ae]);(try dsimp only);omega))
  all_goals first
   | trivial
   | exact ⟨hL⟩
 have e0 : (bD n P L != 0) = true:=by simpa using h0
 have Mx : (bD n P L == 0) = false:=by simpa using h0
 rw [show bf n P L p = bD n P L by simp [bf,h0]]
 repeat' ((conv => whnf);first | apply And.intro | (intro h9;try (have h8 : (_ : Bool) = _:=h9;clear h8;revert h9;subst_vars;intro h9;exact aq h9 (by assumption))))
 all_goals try (conv => whnf)
 all_goals try first | (apply Tk.mk <;> kernel_rfl) | exact ⟨ah rfl⟩ | exact ⟨rfl⟩ | exact ⟨trivial⟩
 all_goals subst_vars
 all_goals try first | rfl | contradiction | (apply Ob.mk;first | (simp only [ag,ak,aa.ae];omega) | ((try simp only [aa.ae]);(try dsimp only);omega))
 all_goals first
  | exact ⟨hL⟩)
end Go.Proofs.YthejmgnkenokpaaGreatDoor
end
section
namespace Go.Proofs.YthejmgnkenokpaaGreatDoor
open Go Go.Sy Go.bK
variable {Γ : bn}
def M5 (D : Sp -> Int -> Int -> List Wk -> Int -> List aa) (F : Sp -> Int -> Int -> List Wk -> Int -> Tm) : au:=.fn fun args rg => match args with
 | [.agg l0,.agg [.v (.int .i64 n0),.v (.int .i64 n1),x0],.a (.v (.int .i64 n2))] => (match ac1 46 kW rg x0,eu kX l0 with | some (q0,L0),some v0 => some (q0 ++ (D v0 n0 n1 L0 n2),F v0 n0 n1 L0 n2) | _,_ => none)
 | _ => none
theorem Lr {f : FuncId} {b : Body} {E : Env} {d : Nat} (hP : aL Tryz.prog Γ E) (hb : bQ Tryz.prog f b) {D : Sp -> Int -> Int -> List Wk -> Int -> List aa} {F : Sp -> Int -> Int -> List Wk -> Int -> Tm} (hp : ∀ (v0 : Sp) (n0 : Int) (n1 : Int) (L0 : List Wk) (n2 : Int),(F v0 n0 n1 L0 n2).plain = true)
  (H : ∀ (v0 : Sp) (n0 : Int) (n1 : Int) (L0 : List Wk) (n2 : Int),bW (D v0 n0 n1 L0 n2) -> cQ E d b [.agg (ai.lV kX v0),.agg [vI n0,vI n1,.sl 0 [] 0 L0.length],.a (vI n2)] [.arr 46 kW L0 false false] (fun x _ => iL x (F v0 n0 n1 L0 n2))) : au.Ok Tryz.prog Γ f (M5 D F):=au.er (d:=d) hP hb (by
 intro args rg q t hF hq
 split at hF
 next l0 n0 n1 x0 n2 =>
  split at hF
  next q0 L0 v0 hx0 hc0 =>
   obtain ⟨rfl,rfl⟩:=Prod.mk.inj (Option.some.inj hF);clear hF
   rw [aH] at hq
   obtain ⟨dm,hD⟩:=hq
   obtain ⟨e0,Vn⟩:=bP (by simp [kW]) hx0 dm
   obtain ⟨p0,r0⟩:=Vn [e0] 0 1 rfl (by omega)
   refine ⟨hp _ _ _ _ _,[e0],[.agg (ai.lV kX v0),.agg [vI n0,vI n1,.sl 0 [] 0 L0.length],.a (vI n2)],[.arr 46 kW L0 false false],⟨⟨oC hc0,⟨rfl,rfl,p0,trivial⟩,rfl,trivial⟩,fun r g hg => ?_⟩,H _ _ _ _ _ hD⟩
   match r,hg with
   | 0,hg => obtain rfl:=Option.some.inj hg;exact r0
  next => cases hF
 next => cases hF)
def MQ (D : Int -> Int -> List Wk -> Sp -> Int -> List aa) (F : Int -> Int -> List Wk -> Sp -> Int -> Tm) : au:=.fn fun args rg => match args with
 | [.agg [.v (.int .i64 n0),.v (.int .i64 n1),x0],.agg l0,.a (.v (.int .i64 n2))] => (match ac1 46 kW rg x0,eu kX l0 with | some (q0,L0),some v0 => some (q0 ++ (D n0 n1 L0 v0 n2),F n0 n1 L0 v0 n2) | _,_ => none)
 | _ => none
theorem Lm {f : FuncId} {b : Body} {E : Env} {d : Nat} (hP : aL Tryz.prog Γ E) (hb : bQ Tryz.prog f b) {D : Int -> Int -> List Wk -> Sp -> Int -> List aa} {F : Int -> Int -> List Wk -> Sp -> Int -> Tm} (hp : ∀ (n0 : Int) (n1 : Int) (L0 : List Wk) (v0 : Sp) (n2 : Int),(F n0 n1 L0 v0 n2).plain = true)
  (H : ∀ (n0 : Int) (n1 : Int) (L0 : List Wk) (v0 : Sp) (n2 : Int),bW (D n0 n1 L0 v0 n2) -> cQ E d b [.agg [vI n0,vI n1,.sl 0 [] 0 L0.length],.agg (ai.lV kX v0),.a (vI n2)] [.arr 46 kW L0 false false] (fun x _ => iL x (F n0 n1 L0 v0 n2))) : au.Ok Tryz.prog Γ f (MQ D F):=au.er (d:=d) hP hb (by
 intro args rg q t hF hq
 split at hF
 next n0 n1 x0 l0 n2 =>
  split at hF
  next q0 L0 v0 hx0 hc0 =>
   obtain ⟨rfl,rfl⟩:=Prod.mk.inj (Option.some.inj hF);clear hF
   rw [aH] at hq
   obtain ⟨dm,hD⟩:=hq
   obtain ⟨e0,Vn⟩:=bP (by simp [kW]) hx0 dm
   obtain ⟨p0,r0⟩:=Vn [e0] 0 1 rfl (by omega)
   refine ⟨hp _ _ _ _ _,[e0],[.agg [vI n0,vI n1,.sl 0 [] 0 L0.length],.agg (ai.lV kX v0),.a (vI n2)],[.arr 46 kW L0 false false],⟨⟨⟨rfl,rfl,p0,trivial⟩,oC hc0,rfl,trivial⟩,fun r g hg => ?_⟩,H _ _ _ _ _ hD⟩
   match r,hg with
   | 0,hg => obtain rfl:=Option.some.inj hg;exact r0
  next => cases hF
 next => cases hF)
theorem AS {P : Int} {L : List Wk} (h : dY P L = true) : cx P L:=cW.1 h
def Gg : au:=xL (fun _ P L s => [(aa.of (dY P L = true)),(aa.of (-(L.length : Int) <= s /\ s < (L.length : Int))),(aa.of (L.length <= 1000000))]) (fun _ P L s => .bF [.a (vI (dy L s).1),.a (vI (dy L s).2.1),.a (vI (dy L s).2.2)])
noncomputable def OP : List (Nat × au):=[(155,qq)]
theorem It : aR Tryz.prog Γ OP:=(aR.nil.cons (aj Tryz.func155 rfl rfl).fn qt)
theorem wB {L : List Wk} {s : Int} (h : s < 0) : dy L s = ((cn L (-1 - s)).2.1,(cn L (-1 - s)).1,cD (cn L (-1 - s)).2.2):=by
 unfold dy cn;rw [if_pos h,Nat.zero_add];rfl
theorem wA {L : List Wk} {s : Int} (h : ¬ s < 0) : dy L s = ((cn L s).1,(cn L s).2.1,(cn L s).2.2):=by
 unfold dy cn;rw [if_neg h,Nat.zero_add];rfl
theorem Ce {P : Int} {L : List Wk} (h : cx P L) {i : Int} (h0 : 0 <= i) (h1 : i < (L.length : Int)) : 0 <= (cn L i).2.2 /\ (cn L i).2.2 <= 7:=by
 have:=h.at (i:=i.toNat) (by omega)
 unfold cn;rw [Nat.zero_add];exact this.2.2.2
attribute [local irreducible] bJ cD dy
theorem Gh : au.Ok Tryz.prog Γ 120 Gg:=mG (d:=0) (aP It bq.nil false 0) (aj Tryz.func120 rfl rfl) (fun _ _ _ _ => rfl) (by
 intro n P L s ⟨hw,hs,hl,_⟩
 simp only [aa.ae] at hw hs hl
 replace hw:=AS hw
 by_cases h0 : s < 0
 ·have e0 : decide (s < 0) = true:=decide_eq_true h0
  have g:=Ce hw (i:=-1 - s) (by omega) (by omega)
  rw [wB h0]
  repeat' ((conv => whnf);first | apply And.intro | (intro h9;try (have h8 : (_ : Bool) = _:=h9;clear h8;revert h9;subst_vars;intro h9;exact aq h9 (by assumption))))
  all_goals try (conv => whnf)
  all_goals try first | (apply Tk.mk <;> kernel_rfl) | exact ⟨ah rfl⟩ | exact ⟨rfl⟩ | exact ⟨trivial⟩
  all_goals subst_vars
  all_goals try first | rfl | contradiction | (apply Ob.mk;first | (simp only [ag,ak,aa.ae];omega) | ((try simp only [aa.ae]);(try dsimp only);omega))
  all_goals first
   | trivial
   | exact ⟨show 0 + Int.toNat (-1 - s) < L.length by omega⟩
 have e0 : decide (s < 0) = false:=decide_eq_false h0
 rw [wA h0]
 repeat' ((conv => whnf);first | apply And.intro | (intro h9;try (have h8 : (_ : Bool) = _:=h9;clear h8;revert h9;subst_vars;intro h9;exact aq h9 (by assumption))))
 all_goals try (conv => whnf)
 all_goals try first | (apply Tk.mk <;> kernel_rfl) | exact ⟨ah rfl⟩ | exact ⟨rfl⟩ | exact ⟨trivial⟩
 all_goals subst_vars
 all_goals try first | rfl | contradiction | (apply Ob.mk;first | (simp only [ag,ak,aa.ae];omega) | ((try simp only [aa.ae]);(try dsimp only);omega))
 all_goals first
  | trivial
  | exact ⟨show 0 + Int.toNat s < L.length by omega⟩)
def Oo (x : Sp) (b : Bool) : Tm:=.bF [.agg (ai.lV kX x),.a (.v (.bool b))]
def wm : au:=M5 (fun x _ P L s => [(aa.of (0 <= x.2.1 /\ x.2.1 <= 7)),(aa.of (dY P L = true)),(aa.of (-(L.length : Int) <= s /\ s < (L.length : Int))),(aa.of (L.length <= 1000000))]) (fun x _ P L s => Oo (bw L x s) (bM L x s))
noncomputable def FT : List (Nat × au):=[(120,Gg),(84,nk)]
theorem FU : aR Tryz.prog Γ FT:=((aR.nil.cons (aj Tryz.func84 rfl rfl).fn mB).cons (aj Tryz.func120 rfl rfl).fn Gh)
def LV (id : Nat) : Option OT:=match Nat.beq id 2 with | true => some (.take 0 (.take 1 (.take 2 (.take 4 (.take 6 (.take 7 (.take 12 (.take 13 (.alt 3 (.alt 5 (.alt 8 (.take 9 (.take 10 (.take 11 (.alt 14 (.alt 15 (.alt 16 (.take 17 .fin) .fin) (.alt 16 (.alt 15 (.take 17 .fin) .fin) .fin)) (.alt 16 (.alt 14 (.alt 15 (.take 17 .fin) .fin) .fin) .fin))))) (.alt 14 (.alt 8 (.take 9 (.take 10 (.take 11 (.alt 15 (.alt 16 (.take 17 .fin) .fin) (.alt 16 (.alt 15 (.take 17 .fin) .fin) .fin))))) (.alt 15 (.alt 8 (.take 9 (.take 10 (.take 11 (.alt 16 (.take 17 .fin) .fin)))) .fin) .fin)) .fin)) (.alt 8 (.take 9 (.alt 5 (.take 10 (.take 11 (.alt 14 (.alt 15 (.alt 16 (.take 17 .fin) .fin) (.alt 16 (.alt 15 (.take 17 .fin) .fin) .fin)) (.alt 16 (.alt 14 (.alt 15 (.take 17 .fin) .fin) .fin) .fin)))) (.alt 14 (.alt 5 (.take 10 (.take 11 (.alt 15 (.alt 16 (.take 17 .fin) .fin) (.alt 16 (.alt 15 (.take 17 .fin) .fin) .fin)))) (.alt 15 (.alt 5 (.take 10 (.take 11 (.alt 16 (.take 17 .fin) .fin))) .fin) .fin)) .fin))) (.alt 14 (.alt 5 (.alt 8 (.take 9 (.take 10 (.take 11 (.alt 15 (.alt 16 (.take 17 .fin) .fin) (.alt 16 (.alt 15 (.take 17 .fin) .fin) .fin))))) (.alt 15 (.alt 8 (.take 9 (.take 10 (.take 11 (.alt 16 (.take 17 .fin) .fin)))) .fin) .fin)) (.alt 8 (.take 9 (.alt 5 (.take 10 (.take 11 (.alt 15 (.alt 16 (.take 17 .fin) .fin) (.alt 16 (.alt 15 (.take 17 .fin) .fin) .fin)))) (.alt 15 (.alt 5 (.take 10 (.take 11 (.alt 16 (.take 17 .fin) .fin))) .fin) .fin))) (.alt 15 (.alt 5 (.alt 8 (.take 9 (.take 10 (.take 11 (.alt 16 (.take 17 .fin) .fin)))) .fin) (.alt 8 (.take 9 (.alt 5 (.take 10 (.take 11 (.alt 16 (.take 17 .fin) .fin))) .fin)) .fin)) .fin))) .fin))) (.alt 8 (.take 9 (.alt 3 (.alt 5 (.take 10 (.take 11 (.alt 14 (.alt 15 (.alt 16 (.take 17 .fin) .fin) (.alt 16 (.alt 15 (.take 17 .fin) .fin) .fin)) (.alt 16 (.alt 14 (.alt 15 (.take 17 .fin) .fin) .fin) .fin)))) (.alt 14 (.alt 5 (.take 10 (.take 11 (.alt 15 (.alt 16 (.take 17 .fin) .fin) (.alt 16 (.alt 15 (.take 17 .fin) .fin) .fin)))) (.alt 15 (.alt 5 (.take 10 (.take 11 (.alt 16 (.take 17 .fin) .fin))) .fin) .fin)) .fin)) (.alt 14 (.alt 3 (.alt 5 (.take 10 (.take 11 (.alt 15 (.alt 16 (.take 17 .fin) .fin) (.alt 16 (.alt 15 (.take 17 .fin) .fin) .fin)))) (.alt 15 (.alt 5 (.take 10 (.take 11 (.alt 16 (.take 17 .fin) .fin))) .fin) .fin)) (.alt 15 (.alt 3 (.alt 5 (.take 10 (.take 11 (.alt 16 (.take 17 .fin) .fin))) .fin) .fin) .fin)) .fin))) (.alt 14 (.alt 3 (.alt 5 (.alt 8 (.take 9 (.take 10 (.take 11 (.alt 15 (.alt 16 (.take 17 .fin) .fin) (.alt 16 (.alt 15 (.take 17 .fin) .fin) .fin))))) (.alt 15 (.alt 8 (.take 9 (.take 10 (.take 11 (.alt 16 (.take 17 .fin) .fin)))) .fin) .fin)) (.alt 8 (.take 9 (.alt 5 (.take 10 (.take 11 (.alt 15 (.alt 16 (.take 17 .fin) .fin) (.alt 16 (.alt 15 (.take 17 .fin) .fin) .fin)))) (.alt 15 (.alt 5 (.take 10 (.take 11 (.alt 16 (.take 17 .fin) .fin))) .fin) .fin))) (.alt 15 (.alt 5 (.alt 8 (.take 9 (.take 10 (.take 11 (.alt 16 (.take 17 .fin) .fin)))) .fin) (.alt 8 (.take 9 (.alt 5 (.take 10 (.take 11 (.alt 16 (.take 17 .fin) .fin))) .fin)) .fin)) .fin))) (.alt 8 (.take 9 (.alt 3 (.alt 5 (.take 10 (.take 11 (.alt 15 (.alt 16 (.take 17 .fin) .fin) (.alt 16 (.alt 15 (.take 17 .fin) .fin) .fin)))) (.alt 15 (.alt 5 (.take 10 (.take 11 (.alt 16 (.take 17 .fin) .fin))) .fin) .fin)) (.alt 15 (.alt 3 (.alt 5 (.take 10 (.take 11 (.alt 16 (.take 17 .fin) .fin))) .fin) .fin) .fin))) (.alt 15 (.alt 3 (.alt 5 (.alt 8 (.take 9 (.take 10 (.take 11 (.alt 16 (.take 17 .fin) .fin)))) .fin) (.alt 8 (.take 9 (.alt 5 (.take 10 (.take 11 (.alt 16 (.take 17 .fin) .fin))) .fin)) .fin)) (.alt 8 (.take 9 (.alt 3 (.alt 5 (.take 10 (.take 11 (.alt 16 (.take 17 .fin) .fin))) .fin) .fin)) .fin)) .fin))) .fin))))))))))) | false => (none)
noncomputable def Lb : Env:={ jV.env FT [] false 0 with tree:=LV }
theorem EO : aL Tryz.prog Γ Lb:=(aP FU bq.nil false 0).vU _
theorem uB : au.Ok Tryz.prog Γ 87 wm:=Lr (d:=0) EO (aj Tryz.func87 rfl rfl) (fun _ _ _ _ _ => rfl) (by
 rintro ⟨a,t,m⟩ n P L s ⟨hx,hw,hs,hl,_⟩
 simp only [aa.ae] at hx hw hs hl
 have he:=r8 (AS hw) hs
 have g : 0 <= (dy L s).2.2 /\ (dy L s).2.2 <= 7:=he.2.2
 repeat' ((conv => whnf);first | apply And.intro | (intro h9;try (have h8 : (_ : Bool) = _:=h9;clear h8;revert h9;subst_vars;intro h9;exact aq h9 (by assumption))))
 all_goals try (conv => whnf)
 all_goals try first | (apply Tk.mk <;> kernel_rfl) | exact ⟨ah rfl⟩ | exact ⟨rfl⟩ | exact ⟨trivial⟩
 all_goals subst_vars
 all_goals try first | rfl | contradiction | (apply Ob.mk;first | (simp only [ag,ak,aa.ae];omega) | ((try simp only [aa.ae]);(try dsimp only);omega))
 all_goals first
  | trivial
  | exact ⟨hw⟩
  | exact ⟨hs⟩
  | exact ⟨hl⟩
  | exact ⟨g⟩)
end Go.Proofs.YthejmgnkenokpaaGreatDoor
end
section
namespace Go.Proofs.YthejmgnkenokpaaGreatDoor
open Go Go.Sy Go.bK
variable {Γ : bn}
noncomputable def JX : List (Nat × au):=[(134,rY),(135,zF)]
theorem Ip : aR Tryz.prog Γ JX:=((aR.nil.cons (aj Tryz.func135 rfl rfl).fn xu).cons (aj Tryz.func134 rfl rfl).fn oR)
def Oe (id : Nat) : Option (List Nat × OT):=match Nat.beq id 5 with | true => some ([3],(.take 0 (.take 1 (.take 2 (.take 3 (.take 4 (.take 5 (.take 6 (.take 7 (.take 8 (.take 9 (.take 10 (.take 11 (.take 12 (.take 13 (.take 14 (.take 15 (.take 16 (.take 17 (.take 18 (.take 19 (.alt 20 (.take 21 .fin) .fin)))))))))))))))))))))) | false => (match Nat.beq id 3 with | true => some ([3],(.take 0 (.take 1 (.take 2 (.take 3 (.take 4 (.take 5 (.take 6 (.take 7 (.take 8 (.take 9 (.take 10 (.take 11 (.take 12 (.take 13 (.take 14 (.take 15 (.take 16 (.take 17 (.take 18 (.alt 19 (.take 20 .fin) .fin))))))))))))))))))))) | false => (none))
noncomputable def My : Env:={ jV.env JX [] false 0 with str:=Oe }
theorem Gx : aL Tryz.prog Γ My:=(aP Ip bq.nil false 0).strs _
def Gd : au:=MQ (fun _ P L x s => [(aa.of (0 <= x.2.1 /\ x.2.1 <= 7)),(aa.of (dY P L = true)),(aa.of (-(L.length : Int) <= s /\ s < (L.length : Int))),(aa.of (L.length <= 1000000))]) (fun _ P L x s => Oo (bw L x s) (bM L x s))
theorem Lx {L : List Wk} {s : Int} (h : ¬ s < 0) (x : Sp) : bw L x s = ((cn L s).2.1,bJ x.2.1 (cn L s).2.2,!x.2.2):=by unfold bw;rw [wA h]
theorem agR {L : List Wk} {s : Int} (h : s < 0) (x : Sp) : bw L x s = ((cn L (-1 - s)).1,bJ x.2.1 (cD (cn L (-1 - s)).2.2),!x.2.2):=by unfold bw;rw [wB h]
theorem Lo {L : List Wk} {s : Int} (h : ¬ s < 0) (x : Sp) : bM L x s = ((cn L s).1 == x.1):=by unfold bM;rw [wA h]
theorem Lp {L : List Wk} {s : Int} (h : s < 0) (x : Sp) : bM L x s = ((cn L (-1 - s)).2.1 == x.1):=by unfold bM;rw [wB h]
attribute [local irreducible] bJ cD dy bw bM
theorem Ge : au.Ok Tryz.prog Γ 105 Gd:=Lm (d:=0) Gx (aj Tryz.func105 rfl rfl) (fun _ _ _ _ _ => rfl) (by
 rintro n P L ⟨a,t,m⟩ s ⟨hx,hw,hs,hl,_⟩
 simp only [aa.ae] at hx hw hs hl
 replace hw:=AS hw
 by_cases h0 : s < 0
 ·have e0 : decide (s >= 0) = false:=decide_eq_false (by omega)
  have g:=Ce hw (i:=-1 - s) (by omega) (by omega)
  have g2 : 0 <= cD (cn L (-1 - s)).2.2 /\ cD (cn L (-1 - s)).2.2 <= 7:=abD g
  rw [agR h0,Lp h0]
  repeat' ((conv => whnf);first | apply And.intro | (intro h9;try (have h8 : (_ : Bool) = _:=h9;clear h8;revert h9;subst_vars;intro h9;exact aq h9 (by assumption))))
  all_goals try (conv => whnf)
  all_goals try first | (apply Tk.mk <;> kernel_rfl) | exact ⟨ah rfl⟩ | exact ⟨rfl⟩ | exact ⟨trivial⟩
  all_goals subst_vars
  all_goals try first | rfl | contradiction | (apply Ob.mk;first | (simp only [ag,ak,aa.ae];omega) | ((try simp only [aa.ae]);(try dsimp only);omega))
  all_goals first
   | trivial
   | exact ⟨show 0 + Int.toNat (-1 - s) < L.length by omega⟩
 have e0 : decide (s >= 0) = true:=decide_eq_true (by omega)
 have g:=Ce hw (i:=s) (by omega) (by omega)
 rw [Lx h0,Lo h0]
 repeat' ((conv => whnf);first | apply And.intro | (intro h9;try (have h8 : (_ : Bool) = _:=h9;clear h8;revert h9;subst_vars;intro h9;exact aq h9 (by assumption))))
 all_goals try (conv => whnf)
 all_goals try first | (apply Tk.mk <;> kernel_rfl) | exact ⟨ah rfl⟩ | exact ⟨rfl⟩ | exact ⟨trivial⟩
 all_goals subst_vars
 all_goals try first | rfl | contradiction | (apply Ob.mk;first | (simp only [ag,ak,aa.ae];omega) | ((try simp only [aa.ae]);(try dsimp only);omega))
 all_goals first
  | trivial
  | exact ⟨show 0 + Int.toNat s < L.length by omega⟩)
end Go.Proofs.YthejmgnkenokpaaGreatDoor
end
section
namespace Go.Proofs.YthejmgnkenokpaaGreatDoor
open Go Go.Sy Go.bK
variable {Γ : bn}
def EV (D : Int -> Int -> List Wk -> Int -> List Int -> List aa) (F : Int -> Int -> List Wk -> Int -> List Int -> Tm) : au:=.fn fun args rg => match args with
 | [.agg [.v (.int .i64 n0),.v (.int .i64 n1),x0],.a (.v (.int .i64 n2)),.a x1] => (match ac1 46 kW rg x0,ac1 3 kI rg x1 with | some (q0,L0),some (q1,L1) => some (q0 ++ (q1 ++ (D n0 n1 L0 n2 L1)),F n0 n1 L0 n2 L1) | _,_ => none)
 | _ => none
theorem agH {f : FuncId} {b : Body} {E : Env} {d : Nat} (hP : aL Tryz.prog Γ E) (hb : bQ Tryz.prog f b) {D : Int -> Int -> List Wk -> Int -> List Int -> List aa} {F : Int -> Int -> List Wk -> Int -> List Int -> Tm} (hp : ∀ (n0 : Int) (n1 : Int) (L0 : List Wk) (n2 : Int) (L1 : List Int),(F n0 n1 L0 n2 L1).plain = true)
  (H : ∀ (n0 : Int) (n1 : Int) (L0 : List Wk) (n2 : Int) (L1 : List Int),bW (D n0 n1 L0 n2 L1) -> cQ E d b [.agg [vI n0,vI n1,.sl 0 [] 0 L0.length],.a (vI n2),.a (.sl 1 [] 0 L1.length)] [.arr 46 kW L0 false false,.arr 3 kI L1 false false] (fun x _ => iL x (F n0 n1 L0 n2 L1))) : au.Ok Tryz.prog Γ f (EV D F):=au.er (d:=d) hP hb (by
 intro args rg q t hF hq
 split at hF
 next n0 n1 x0 n2 x1 =>
  split at hF
  next q0 L0 q1 L1 hx0 cO =>
   obtain ⟨rfl,rfl⟩:=Prod.mk.inj (Option.some.inj hF);clear hF
   rw [aH,aH] at hq
   obtain ⟨dm,gk,hD⟩:=hq
   obtain ⟨e0,Vn⟩:=bP (by simp [kW]) hx0 dm
   obtain ⟨e1,iO⟩:=bP (by simp [kI]) cO gk
   obtain ⟨p0,r0⟩:=Vn [e0,e1] 0 2 rfl (by omega)
   obtain ⟨p1,r1⟩:=iO [e0,e1] 1 2 rfl (by omega)
   refine ⟨hp _ _ _ _ _,[e0,e1],[.agg [vI n0,vI n1,.sl 0 [] 0 L0.length],.a (vI n2),.a (.sl 1 [] 0 L1.length)],[.arr 46 kW L0 false false,.arr 3 kI L1 false false],⟨⟨⟨rfl,rfl,p0,trivial⟩,rfl,p1,trivial⟩,fun r g hg => ?_⟩,H _ _ _ _ _ hD⟩
   match r,hg with
   | 0,hg => obtain rfl:=Option.some.inj hg;exact r0
   | 1,hg => obtain rfl:=Option.some.inj hg;exact r1
  next => cases hF
 next => cases hF)
abbrev av (w : List Int) (i : Int) : Int:=@Ar.get ⟨3,kI,w⟩ (0 + Int.toNat i)
theorem dP (w : List Int) (i : Nat) : av w i = gi w i:=by unfold av gi;rw [Nat.zero_add,Int.toNat_natCast];rfl
def oT : au:=EV (fun _ P L _ w => [(aa.of (dY P L = true)),(aa.of (bN L w = true)),(aa.of (L.length <= 1000000)),(aa.of (w.length <= 1000000))]) (fun _ _ L p w => Oo (bj L (p,0,false) w).1 (bj L (p,0,false) w).2)
noncomputable def KV : List (Nat × au):=[(87,wm)]
theorem Ek : aR Tryz.prog Γ KV:=(aR.nil.cons (aj Tryz.func87 rfl rfl).fn uB)
attribute [local irreducible] bM bw
theorem sR : au.Ok Tryz.prog Γ 52 oT:=agH (d:=0) (aP Ek bq.nil false 0) (aj Tryz.func52 rfl rfl) (fun _ _ _ _ _ => rfl) (by
 intro n P L p w ⟨hw,hs,hl,hv,_⟩
 simp only [aa.ae] at hw hs hl hv
 have hst:=yw hs
 repeat' ((conv => whnf);first | apply And.intro | (intro h9;try (have h8 : (_ : Bool) = _:=h9;clear h8;revert h9;subst_vars;intro h9;exact aq h9 (by assumption))))
 all_goals try (conv => whnf)
 all_goals try first | (apply Tk.mk <;> kernel_rfl) | exact ⟨ah rfl⟩ | exact ⟨rfl⟩ | exact ⟨trivial⟩
 all_goals subst_vars
 all_goals try first | rfl | contradiction | (apply Ob.mk;first | (simp only [ag,ak,aa.ae];omega) | ((try simp only [aa.ae]);(try dsimp only);omega))
 refine ⟨Nat × Sp,fun i => i.1 <= w.length /\ bj L (p,0,false) w = bj L i.2 (w.drop i.1) /\ (0 <= i.2.2.1 /\ i.2.2.1 <= 7),fun i => ⟨aI 34 [3,6,8,15,16,17] [.a (.p 2 [] 0 0),.a (.p 3 [] 0 0),.a (.p 4 [] 0 0),.a (.sl 1 [] 0 w.length),.a (vI w.length),.a (vI i.1)],[],[.arr 46 kW L false false,.arr 3 kI w false false,.box true [vI n,vI P,.sl 0 [] 0 L.length],.box true [vI 0,vI 0,.v (.bool false)],.box true [vI i.2.1,vI i.2.2.1,.v (.bool i.2.2.2)]]⟩,fun i => w.length - i.1,(0,(p,0,false)),[],⟨Nat.zero_le _,rfl,by show (0:Int) <= 0;omega,by show (0:Int) <= 7;omega⟩,?_,?_⟩
 ·repeat' ((conv => whnf);(first | apply And.intro | intro _))
  all_goals first | rfl | trivial | exact ah rfl | exact aS ‹_› rfl | exact aT ‹_› rfl | ((repeat' first | rfl | constructor);done)
 rintro ⟨i,a,t,m⟩ ⟨hi,hf,hx⟩
 dsimp only at hi hf hx
 by_cases hi1 : i < w.length
 ·have p0 : decide ((i : Int) < (w.length : Int)) = true:=decide_eq_true (by omega)
  have ge : av w i = gi w i:=dP w i
  have gs : -(L.length : Int) <= av w i /\ av w i < (L.length : Int):=by rw [ge];exact hst _ (qL hi1)
  have gn:=(mu hw (x:=(a,t,m)) hx (show bS L (gi w i) from ge ▸ gs)).1
  cases hb : bM L (a,t,m) (av w i)
  ·have e1 : (!bM L (a,t,m) (av w i)) = true:=by rw [hb];rfl
   rw [hf,GX hi1 (ge ▸ hb)]
   repeat' ((conv => whnf);first | apply And.intro | (intro h9;try (have h8 : (_ : Bool) = _:=h9;clear h8;revert h9;subst_vars;intro h9;exact aq h9 (by assumption))))
   all_goals try (conv => whnf)
   all_goals try first | (apply Tk.mk <;> kernel_rfl) | exact ⟨ah rfl⟩ | exact ⟨rfl⟩ | exact ⟨trivial⟩
   all_goals subst_vars
   all_goals try first | rfl | contradiction | (apply Ob.mk;first | (simp only [ag,ak,aa.ae];omega) | ((try simp only [aa.ae]);(try dsimp only);omega))
   all_goals first
    | trivial
    | exact ⟨hw⟩
    | exact ⟨hl⟩
    | exact ⟨gs⟩
    | exact ⟨show 0 + Int.toNat (i : Int) < w.length by omega⟩
  have e1 : (!bM L (a,t,m) (av w i)) = false:=by rw [hb];rfl
  have jH:=hf.trans (Dy hi1 (ge ▸ hb))
  repeat' ((conv => whnf);first | apply And.intro | (intro h9;try (have h8 : (_ : Bool) = _:=h9;clear h8;revert h9;subst_vars;intro h9;exact aq h9 (by assumption))))
  all_goals try (conv => whnf)
  all_goals try first | (apply Tk.mk <;> kernel_rfl) | exact ⟨ah rfl⟩ | exact ⟨rfl⟩ | exact ⟨trivial⟩
  all_goals subst_vars
  all_goals try first | rfl | contradiction | (apply Ob.mk;first | (simp only [ag,ak,aa.ae];omega) | ((try simp only [aa.ae]);(try dsimp only);omega))
  all_goals try first
   | exact ⟨hw⟩
   | exact ⟨hl⟩
   | exact ⟨gs⟩
   | exact ⟨show 0 + Int.toNat (i : Int) < w.length by omega⟩
  refine ⟨(i + 1,bw L (a,t,m) (av w i)),[],⟨hi1,by rw [ge];exact jH,by rw [ge];exact gn⟩,?_,by show w.length - (i + 1) < w.length - i;omega⟩
  repeat' ((conv => whnf);(first | apply And.intro | intro _))
  all_goals first | rfl | trivial | exact ah rfl | exact aS ‹_› rfl | exact aT ‹_› rfl | ((repeat' first | rfl | constructor);done)
 have p0 : decide ((i : Int) < (w.length : Int)) = false:=decide_eq_false (by omega)
 rw [hf,Dw (by omega)]
 repeat' ((conv => whnf);first | apply And.intro | (intro h9;try (have h8 : (_ : Bool) = _:=h9;clear h8;revert h9;subst_vars;intro h9;exact aq h9 (by assumption))))
 all_goals try (conv => whnf)
 all_goals try first | (apply Tk.mk <;> kernel_rfl) | exact ⟨ah rfl⟩ | exact ⟨rfl⟩ | exact ⟨trivial⟩
 all_goals subst_vars
 all_goals try first | rfl | contradiction | (apply Ob.mk;first | (simp only [ag,ak,aa.ae];omega) | ((try simp only [aa.ae]);(try dsimp only);omega))
 all_goals first
  | trivial)
end Go.Proofs.YthejmgnkenokpaaGreatDoor
end
section
namespace Go.Proofs.YthejmgnkenokpaaGreatDoor
open Go Go.Sy Go.bK
variable {Γ : bn}
attribute [local irreducible] bM bw
end Go.Proofs.YthejmgnkenokpaaGreatDoor
end
section
namespace Go.Proofs.YthejmgnkenokpaaGreatDoor
open Go Go.Sy Go.bK
variable {Γ : bn}
def Px (D : List Int -> List aa) (R : List Int -> cM) : au:=.new fun args rg K => match args with
 | [.a x0] => (match ac1 3 kI rg x0 with | some (q0,L0) => bk false (q0 ++ (D L0)) (K (R L0)) | _ => False)
 | _ => False
theorem MG {f : FuncId} {b : Body} {E : Env} {d : Nat} (hP : aL Tryz.prog Γ E) (hb : bQ Tryz.prog f b) {D : List Int -> List aa} {R : List Int -> cM}
  (H : ∀ (L0 : List Int) (K : cM -> Prop),bW (D L0) -> K (R L0) -> cQ E d b [.a (.sl 0 [] 0 L0.length)] [.arr 3 kI L0 false false] (bu K)) : au.Ok Tryz.prog Γ f (Px D R):=au.fM (d:=d) hP hb (by
 intro args rg K hF
 split at hF
 next x0 =>
  split at hF
  next q0 L0 hx0 =>
   rw [aV,aH] at hF
   obtain ⟨⟨dm,hD⟩,hK⟩:=hF
   obtain ⟨e0,Vn⟩:=bP (by simp [kI]) hx0 dm
   obtain ⟨p0,r0⟩:=Vn [e0] 0 1 rfl (by omega)
   refine ⟨[e0],[.a (.sl 0 [] 0 L0.length)],[.arr 3 kI L0 false false],⟨⟨p0,trivial⟩,fun r g hg => ?_⟩,bu K,H _ K hD hK,fun x st h => h⟩
   match r,hg with
   | 0,hg => obtain rfl:=Option.some.inj hg;exact r0
  next => exact hF.elim
 next => exact hF.elim)
def Py (D : List Wk -> List aa) (R : List Wk -> cM) : au:=.new fun args rg K => match args with
 | [.a x0] => (match ac1 46 kW rg x0 with | some (q0,L0) => bk false (q0 ++ (D L0)) (K (R L0)) | _ => False)
 | _ => False
theorem MH {f : FuncId} {b : Body} {E : Env} {d : Nat} (hP : aL Tryz.prog Γ E) (hb : bQ Tryz.prog f b) {D : List Wk -> List aa} {R : List Wk -> cM}
  (H : ∀ (L0 : List Wk) (K : cM -> Prop),bW (D L0) -> K (R L0) -> cQ E d b [.a (.sl 0 [] 0 L0.length)] [.arr 46 kW L0 false false] (bu K)) : au.Ok Tryz.prog Γ f (Py D R):=au.fM (d:=d) hP hb (by
 intro args rg K hF
 split at hF
 next x0 =>
  split at hF
  next q0 L0 hx0 =>
   rw [aV,aH] at hF
   obtain ⟨⟨dm,hD⟩,hK⟩:=hF
   obtain ⟨e0,Vn⟩:=bP (by simp [kW]) hx0 dm
   obtain ⟨p0,r0⟩:=Vn [e0] 0 1 rfl (by omega)
   refine ⟨[e0],[.a (.sl 0 [] 0 L0.length)],[.arr 46 kW L0 false false],⟨⟨p0,trivial⟩,fun r g hg => ?_⟩,bu K,H _ K hD hK,fun x st h => h⟩
   match r,hg with
   | 0,hg => obtain rfl:=Option.some.inj hg;exact r0
  next => exact hF.elim
 next => exact hF.elim)
def Am (D : Int -> Int -> List Wk -> Wk -> List aa) (R : Int -> Int -> List Wk -> Wk -> cM) : au:=.new fun args rg K => match args with
 | [.agg [.v (.int .i64 n0),.v (.int .i64 n1),x0],.agg l0] => (match ac1 46 kW rg x0,eu kW l0 with | some (q0,L0),some v0 => bk false (q0 ++ (D n0 n1 L0 v0)) (K (R n0 n1 L0 v0)) | _,_ => False)
 | _ => False
theorem Dt {f : FuncId} {b : Body} {E : Env} {d : Nat} (hP : aL Tryz.prog Γ E) (hb : bQ Tryz.prog f b) {D : Int -> Int -> List Wk -> Wk -> List aa} {R : Int -> Int -> List Wk -> Wk -> cM}
  (H : ∀ (n0 : Int) (n1 : Int) (L0 : List Wk) (v0 : Wk) (K : cM -> Prop),bW (D n0 n1 L0 v0) -> K (R n0 n1 L0 v0) -> cQ E d b [.agg [vI n0,vI n1,.sl 0 [] 0 L0.length],.agg (ai.lV kW v0)] [.arr 46 kW L0 false false] (bu K)) : au.Ok Tryz.prog Γ f (Am D R):=au.fM (d:=d) hP hb (by
 intro args rg K hF
 split at hF
 next n0 n1 x0 l0 =>
  split at hF
  next q0 L0 v0 hx0 hc0 =>
   rw [aV,aH] at hF
   obtain ⟨⟨dm,hD⟩,hK⟩:=hF
   obtain ⟨e0,Vn⟩:=bP (by simp [kW]) hx0 dm
   obtain ⟨p0,r0⟩:=Vn [e0] 0 1 rfl (by omega)
   refine ⟨[e0],[.agg [vI n0,vI n1,.sl 0 [] 0 L0.length],.agg (ai.lV kW v0)],[.arr 46 kW L0 false false],⟨⟨⟨rfl,rfl,p0,trivial⟩,oC hc0,trivial⟩,fun r g hg => ?_⟩,bu K,H _ _ _ _ K hD hK,fun x st h => h⟩
   match r,hg with
   | 0,hg => obtain rfl:=Option.some.inj hg;exact r0
  next => exact hF.elim
 next => exact hF.elim)
def zO : au:=Px (fun L => [(aa.of (L.length <= 1000000))]) (fun L => ⟨[.arr 3 kI L true true],.a (.sl 0 [] 0 L.length)⟩)
theorem CD : au.Ok Tryz.prog Γ 88 zO:=MG (d:=0) (aP aR.nil bq.nil false 0) (aj Tryz.func88 rfl rfl) (by
 intro L K ⟨hlen,_⟩ hK
 simp only [aa.ae] at hlen
 repeat' ((conv => whnf);(first | apply And.intro | intro _))
 all_goals try (conv => whnf)
 ·have h0 : L = []:=by
   rcases Nat.eq_zero_or_pos L.length with h | h
   ·exact List.eq_nil_of_length_eq_zero h
   ·rename_i h1 h2;rw [h1 h] at h2;cases h2
  subst h0
  exact bu.aC 3 kI (by simp) (.base ⟨_,[1],hK,⟨rfl,rfl,by simp,trivial⟩,rfl,rfl,rfl,rfl,rfl⟩)
 ·exact ⟨Nat.le_of_eq (Nat.zero_add _)⟩
 ·exact ⟨show L.length * 1 <= 1099511627776 by omega⟩
 ·rename_i ys hys
  obtain rfl : L = ys:=by rw [<- hys];exact List.take_length.symm
  exact .base ⟨_,[1],hK,⟨rfl,rfl,by simp,trivial⟩,rfl,rfl,rfl,rfl,rfl⟩)
def zP : au:=Py (fun L => [(aa.of (L.length <= 1000000))]) (fun L => ⟨[.arr 46 kW L true true],.a (.sl 0 [] 0 L.length)⟩)
theorem CE : au.Ok Tryz.prog Γ 106 zP:=MH (d:=0) (aP aR.nil bq.nil false 0) (aj Tryz.func106 rfl rfl) (by
 intro L K ⟨hlen,_⟩ hK
 simp only [aa.ae] at hlen
 repeat' ((conv => whnf);(first | apply And.intro | intro _))
 all_goals try (conv => whnf)
 ·have h0 : L = []:=by
   rcases Nat.eq_zero_or_pos L.length with h | h
   ·exact List.eq_nil_of_length_eq_zero h
   ·rename_i h1 h2;rw [h1 h] at h2;cases h2
  subst h0
  exact bu.aC 46 kW (by simp) (.base ⟨_,[1],hK,⟨rfl,rfl,by simp,trivial⟩,rfl,rfl,rfl,rfl,rfl⟩)
 ·exact ⟨Nat.le_of_eq (Nat.zero_add _)⟩
 ·exact ⟨show L.length * 3 <= 1099511627776 by omega⟩
 ·rename_i ys hys
  obtain rfl : L = ys:=by rw [<- hys];exact List.take_length.symm
  exact .base ⟨_,[1],hK,⟨rfl,rfl,by simp,trivial⟩,rfl,rfl,rfl,rfl,rfl⟩)
def Gk : au:=Am (fun _ _ L _ => [(aa.of (L.length <= 900000))]) (fun n P L w => ⟨[.arr 46 kW (L ++ [w]) true true],.agg [vI n,vI P,.sl 0 [] 0 (L.length + 1)]⟩)
def Nb (id : Nat) : Option (Nat × OT):=match Nat.beq id 1 with | true => some (5,.take 0 (.take 1 (.take 3 (.alt 2 (.alt 4 .fin .fin) (.alt 4 (.alt 2 .fin .fin) .fin))))) | false => none
noncomputable def JY : List (Nat × au):=[(106,zP)]
theorem Ix : aR Tryz.prog Γ JY:=(aR.nil.cons (aj Tryz.func106 rfl rfl).fn CE)
noncomputable def Mz : Env:={ jV.env JY [] false 0 with htr:=Nb }
theorem Gz : aL Tryz.prog Γ Mz:=(aP Ix bq.nil false 0).NA _
theorem Gl : au.Ok Tryz.prog Γ 68 Gk:=Dt (d:=0) Gz (aj Tryz.func68 rfl rfl) (by
 rintro n P L ⟨a,b,t⟩ K ⟨hl,_⟩ hK
 simp only [aa.ae] at hl
 have jJ : L.length + 1 = (L ++ [(a,b,t)]).length:=by rw [List.length_append,List.length_singleton]
 have agM : (L ++ [(a,b,t)]).length <= 1000000:=by rw [List.length_append,List.length_singleton];omega
 repeat' ((conv => whnf);first | apply And.intro | (intro h9;try (have h8 : (_ : Bool) = _:=h9;clear h8;revert h9;subst_vars;intro h9;exact aq h9 (by assumption))))
 all_goals try (conv => whnf)
 all_goals try first | (apply Tk.mk <;> kernel_rfl) | exact ⟨ah rfl⟩ | exact ⟨rfl⟩ | exact ⟨trivial⟩
 all_goals subst_vars
 all_goals try first | rfl | contradiction | (apply Ob.mk;first | (simp only [ag,ak,aa.ae];omega) | ((try simp only [aa.ae]);(try dsimp only);omega))
 all_goals first
  | trivial
  | exact ⟨show L.length <= 1000000 by omega⟩
  | exact ⟨Nat.zero_add _⟩
  | exact ⟨show (L.length + 1) * 3 <= 1099511627776 by omega⟩
  | (refine bu.base ⟨_,[4],hK,⟨rfl,rfl,by simp,trivial⟩,rfl,?_⟩;(repeat' ((conv => whnf);(first | apply And.intro | intro _)));all_goals first | rfl | trivial)
  | (refine bu.base ⟨_,[5],hK,⟨rfl,rfl,by simp,trivial⟩,rfl,?_⟩;(repeat' ((conv => whnf);(first | apply And.intro | intro _)));all_goals first | rfl | trivial))
def wC (e : Int) : cM:=⟨[],.bF [.agg [vI 0,vI 0,.v (.slice none 0 0)],.a (vI e)]⟩
def nO (n P : Int) (L : List Wk) (w : Wk) : cM:=match bD n P L == 0,bD n P (L ++ [w]) == 0 with
 | true,true => ⟨[.arr 46 kW (L ++ [w]) true true],.bF [.agg [vI n,vI P,.sl 0 [] 0 (L.length + 1)],.a (vI 0)]⟩
 | true,false => wC (bD n P (L ++ [w]))
 | false,_ => wC (bD n P L)
def Mp : au:=Am (fun _ _ L _ => [(aa.of (L.length <= 900000))]) nO
noncomputable def OO : List (Nat × au):=[(35,rZ),(68,Gk)]
theorem Ir : aR Tryz.prog Γ OO:=((aR.nil.cons (aj Tryz.func68 rfl rfl).fn Gl).cons (aj Tryz.func35 rfl rfl).fn oS)
theorem Gf : au.Ok Tryz.prog Γ 31 Mp:=Dt (d:=0) (aP Ir bq.nil false 0) (aj Tryz.func31 rfl rfl) (by
 rintro n P L ⟨a,b,t⟩ K ⟨hl,_⟩ hK
 simp only [aa.ae] at hl
 have jJ : L.length + 1 = (L ++ [(a,b,t)]).length:=by rw [List.length_append,List.length_singleton]
 have agM : (L ++ [(a,b,t)]).length <= 1000000:=by rw [List.length_append,List.length_singleton];omega
 cases h0 : bD n P L == 0
 ·have e0 : (bD n P L != 0) = true:=by unfold bne;rw [h0];rfl
  rw [show nO n P L (a,b,t) = wC (bD n P L) by unfold nO;rw [h0]] at hK
  repeat' ((conv => whnf);first | apply And.intro | (intro h9;try (have h8 : (_ : Bool) = _:=h9;clear h8;revert h9;subst_vars;intro h9;exact aq h9 (by assumption))))
  all_goals try (conv => whnf)
  all_goals try first | (apply Tk.mk <;> kernel_rfl) | exact ⟨ah rfl⟩ | exact ⟨rfl⟩ | exact ⟨trivial⟩
  all_goals subst_vars
  all_goals try first | rfl | contradiction | (apply Ob.mk;first | (simp only [ag,ak,aa.ae];omega) | ((try simp only [aa.ae]);(try dsimp only);omega))
  all_goals first
   | exact ⟨show L.length <= 1000000 by omega⟩
   | (refine bu.base ⟨_,[],hK,trivial,rfl,?_⟩;(repeat' ((conv => whnf);(first | apply And.intro | intro _)));all_goals first | rfl | trivial)
 have e0 : (bD n P L != 0) = false:=by unfold bne;rw [h0];rfl
 cases h1 : bD n P (L ++ [(a,b,t)]) == 0
 ·have e1 : (bD n P (L ++ [(a,b,t)]) != 0) = true:=by unfold bne;rw [h1];rfl
  rw [show nO n P L (a,b,t) = wC (bD n P (L ++ [(a,b,t)])) by unfold nO;rw [h0,h1]] at hK
  repeat' ((conv => whnf);first | apply And.intro | (intro h9;try (have h8 : (_ : Bool) = _:=h9;clear h8;revert h9;subst_vars;intro h9;exact aq h9 (by assumption))))
  all_goals try (conv => whnf)
  all_goals try first | (apply Tk.mk <;> kernel_rfl) | exact ⟨ah rfl⟩ | exact ⟨rfl⟩ | exact ⟨trivial⟩
  all_goals subst_vars
  all_goals try first | rfl | contradiction | (apply Ob.mk;first | (simp only [ag,ak,aa.ae];omega) | ((try simp only [aa.ae]);(try dsimp only);omega))
  all_goals first
   | exact ⟨hl⟩
   | exact ⟨jJ⟩
   | exact ⟨show L.length <= 1000000 by omega⟩
   | exact ⟨agM⟩
   | (refine bu.base ⟨_,[],hK,trivial,rfl,?_⟩;(repeat' ((conv => whnf);(first | apply And.intro | intro _)));all_goals first | rfl | trivial)
 have e1 : (bD n P (L ++ [(a,b,t)]) != 0) = false:=by unfold bne;rw [h1];rfl
 have e2 : bD n P (L ++ [(a,b,t)]) = 0:=eq_of_beq h1
 rw [show nO n P L (a,b,t) = ⟨[.arr 46 kW (L ++ [(a,b,t)]) true true],.bF [.agg [vI n,vI P,.sl 0 [] 0 (L.length + 1)],.a (vI 0)]⟩ by unfold nO;rw [h0,h1]] at hK
 repeat' ((conv => whnf);first | apply And.intro | (intro h9;try (have h8 : (_ : Bool) = _:=h9;clear h8;revert h9;subst_vars;intro h9;exact aq h9 (by assumption))))
 all_goals try (conv => whnf)
 all_goals try first | (apply Tk.mk <;> kernel_rfl) | exact ⟨ah rfl⟩ | exact ⟨rfl⟩ | exact ⟨trivial⟩
 all_goals subst_vars
 all_goals try first | rfl | contradiction | (apply Ob.mk;first | (simp only [ag,ak,aa.ae];omega) | ((try simp only [aa.ae]);(try dsimp only);omega))
 all_goals first
  | exact ⟨hl⟩
  | exact ⟨jJ⟩
  | exact ⟨show L.length <= 1000000 by omega⟩
  | exact ⟨agM⟩
  | (refine bu.base ⟨_,[4],hK,⟨rfl,rfl,by simp,trivial⟩,rfl,?_⟩;(repeat' ((conv => whnf);(first | apply And.intro | intro _)));all_goals first | rfl | trivial))
end Go.Proofs.YthejmgnkenokpaaGreatDoor
end
