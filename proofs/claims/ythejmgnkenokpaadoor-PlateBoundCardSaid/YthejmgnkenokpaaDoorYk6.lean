/-
  Texts of the claims on chapter 3: Yk6. No condition: lemmas and contracts.
-/
import Derived.Test.YthejmgnkenokpaaDoorYk3
import Derived.Test.YthejmgnkenokpaaDoorYk2
import Derived.Test.YthejmgnkenokpaaDoorYk5
import Derived.Test.YthejmgnkenokpaaDoorQ18
import Derived.Test.YthejmgnkenokpaaDoorYk1
import Derived.Test.YthejmgnkenokpaaDoorPl1
set_option linter.all false
set_option maxRecDepth 100000
set_option maxHeartbeats 4000000
section
namespace Go.Proofs.YthejmgnkenokpaaDoor
open Go Go.Sy Go.bK
variable {Γ : bn}
def Wy (D : Int -> Int -> List Wk -> Int -> List aa) (R : Int -> Int -> List Wk -> Int -> cM) : au:=.new fun args rg K => match args with
 | [.agg [.v (.int .i64 n0),.v (.int .i64 n1),x0],.a (.v (.int .i64 n2))] => (match ca 60 kW rg x0 with | some (q0,L0) => bk false (q0 ++ (D n0 n1 L0 n2)) (K (R n0 n1 L0 n2)) | _ => False)
 | _ => False
theorem X6 {f : FuncId} {b : Body} {E : Env} {d : Nat} (hP : aL Tryd.prog Γ E) (hb : bQ Tryd.prog f b) {D : Int -> Int -> List Wk -> Int -> List aa} {R : Int -> Int -> List Wk -> Int -> cM}
  (H : ∀ (n0 : Int) (n1 : Int) (L0 : List Wk) (n2 : Int) (K : cM -> Prop),bW (D n0 n1 L0 n2) -> K (R n0 n1 L0 n2) -> cQ E d b [.agg [vI n0,vI n1,.sl 0 [] 0 L0.length],.a (vI n2)] [.arr 60 kW L0 false false] (bu K)) : au.Ok Tryd.prog Γ f (Wy D R):=au.fM (d:=d) hP hb (by
 intro args rg K hF
 split at hF
 next n0 n1 x0 n2 =>
  split at hF
  next q0 L0 hx0 =>
   rw [aV,aH] at hF
   obtain ⟨⟨dm,hD⟩,hK⟩:=hF
   obtain ⟨e0,Vn⟩:=bP (by simp [kW]) hx0 dm
   obtain ⟨p0,r0⟩:=Vn [e0] 0 1 rfl (by omega)
   refine ⟨[e0],[.agg [vI n0,vI n1,.sl 0 [] 0 L0.length],.a (vI n2)],[.arr 60 kW L0 false false],⟨⟨⟨rfl,rfl,p0,trivial⟩,rfl,trivial⟩,fun r g hg => ?_⟩,bu K,H _ _ _ _ K hD hK,fun x st h => h⟩
   match r,hg with
   | 0,hg => obtain rfl:=Option.some.inj hg;exact r0
  next => exact hF.elim
 next => exact hF.elim)
def Zt (D : List Sg -> Sg -> List aa) (F : List Sg -> Sg -> Tm) : au:=.fn fun args rg => match args with
 | [.a x0,.agg l0] => (match ca 64 kG rg x0,eu kG l0 with | some (q0,L0),some v0 => some (q0 ++ (D L0 v0),F L0 v0) | _,_ => none)
 | _ => none
theorem Y1 {f : FuncId} {b : Body} {E : Env} {d : Nat} (hP : aL Tryd.prog Γ E) (hb : bQ Tryd.prog f b) {D : List Sg -> Sg -> List aa} {F : List Sg -> Sg -> Tm} (hp : ∀ (L0 : List Sg) (v0 : Sg),(F L0 v0).plain = true)
  (H : ∀ (L0 : List Sg) (v0 : Sg),bW (D L0 v0) -> cQ E d b [.a (.sl 0 [] 0 L0.length),.agg (ai.lV kG v0)] [.arr 64 kG L0 false false] (fun x _ => iL x (F L0 v0))) : au.Ok Tryd.prog Γ f (Zt D F):=au.er (d:=d) hP hb (by
 intro args rg q t hF hq
 split at hF
 next x0 l0 =>
  split at hF
  next q0 L0 v0 hx0 hc0 =>
   obtain ⟨rfl,rfl⟩:=Prod.mk.inj (Option.some.inj hF);clear hF
   rw [aH] at hq
   obtain ⟨dm,hD⟩:=hq
   obtain ⟨e0,Vn⟩:=bP (by simp [kG]) hx0 dm
   obtain ⟨p0,r0⟩:=Vn [e0] 0 1 rfl (by omega)
   refine ⟨hp _ _,[e0],[.a (.sl 0 [] 0 L0.length),.agg (ai.lV kG v0)],[.arr 64 kG L0 false false],⟨⟨p0,oC hc0,trivial⟩,fun r g hg => ?_⟩,H _ _ hD⟩
   match r,hg with
   | 0,hg => obtain rfl:=Option.some.inj hg;exact r0
  next => cases hF
 next => cases hF)
def VY (n : Int) (L : List Wk) (p : Int) (w : Wk) : Bool:=lP n (af (L ++ [w]) p) == 0
def Vs (n : Int) (L : List Wk) (p a b : Int) : Nat -> List Wk
 | 0 => []
 | t + 1 => match VY n L p (a,b,(t : Nat)) with | true => Vs n L p a b t ++ [(a,b,((t : Nat) : Int))] | false => Vs n L p a b t
def TL (n : Int) (L : List Wk) (p : Int) (i : Nat) : Nat -> List Wk
 | 0 => []
 | j + 1 => TL n L p i j ++ Vs n L p (i : Nat) ((i : Nat) + 1 + (j : Nat)) 8
def TD (n P : Int) (L : List Wk) (p : Int) : Nat -> List Wk
 | 0 => []
 | i + 1 => TD n P L p i ++ TL n L p i (P.toNat - 1 - i)
def yN (n P : Int) (L : List Wk) (p : Int) : List Wk:=TD n P L p P.toNat
theorem WT {n : Int} {L : List Wk} {p a b : Int} {t : Nat} (h : VY n L p (a,b,(t : Nat)) = true) : Vs n L p a b (t + 1) = Vs n L p a b t ++ [(a,b,((t : Nat) : Int))]:=by rw [Vs,h]
theorem Xk {n : Int} {L : List Wk} {p a b : Int} {t : Nat} (h : VY n L p (a,b,(t : Nat)) = false) : Vs n L p a b (t + 1) = Vs n L p a b t:=by rw [Vs,h]
theorem V8 {n : Int} {L : List Wk} {p a b : Int} {w : Wk} : ∀ k : Nat,w ∈ Vs n L p a b k <-> ∃ t : Nat,t < k /\ w = (a,b,(t : Int)) /\ VY n L p w = true
 | 0 => by simp [Vs]
 | k + 1 => by
   cases hb : VY n L p (a,b,(k : Nat))
   ·rw [Xk hb,V8 k]
    constructor
    ·rintro ⟨t,h1,h2⟩;exact ⟨t,by omega,h2⟩
    ·rintro ⟨t,h1,h2,h3⟩
     rcases Nat.lt_or_ge t k with h4 | h4
     ·exact ⟨t,h4,h2,h3⟩
     ·obtain rfl : t = k:=by omega
      rw [h2,hb] at h3;cases h3
   ·rw [WT hb,List.mem_append,V8 k,List.mem_singleton]
    constructor
    ·rintro (⟨t,h1,h2⟩ | h1)
     ·exact ⟨t,by omega,h2⟩
     ·exact ⟨k,by omega,h1,h1 ▸ hb⟩
    ·rintro ⟨t,h1,h2,h3⟩
     rcases Nat.lt_or_ge t k with h4 | h4
     ·exact .inl ⟨t,h4,h2,h3⟩
     ·obtain rfl : t = k:=by omega
      exact .inr h2
theorem WS {n : Int} {L : List Wk} {p : Int} {i : Nat} {w : Wk} : ∀ k : Nat,w ∈ TL n L p i k <-> ∃ j t : Nat,j < k /\ t < 8 /\ w = ((i : Int),(i : Int) + 1 + (j : Int),(t : Int)) /\ VY n L p w = true
 | 0 => by simp [TL]
 | k + 1 => by
   rw [TL,List.mem_append,WS k,V8]
   constructor
   ·rintro (⟨j,t,h1,h2⟩ | ⟨t,h1,h2⟩)
    ·exact ⟨j,t,by omega,h2⟩
    ·exact ⟨k,t,by omega,h1,h2⟩
   ·rintro ⟨j,t,h1,h2,h3⟩
    rcases Nat.lt_or_ge j k with h4 | h4
    ·exact .inl ⟨j,t,h4,h2,h3⟩
    ·obtain rfl : j = k:=by omega
     exact .inr ⟨t,h2,h3⟩
theorem WR {n P : Int} {L : List Wk} {p : Int} {w : Wk} : ∀ k : Nat,w ∈ TD n P L p k <-> ∃ i j t : Nat,i < k /\ j < P.toNat - 1 - i /\ t < 8 /\ w = ((i : Int),(i : Int) + 1 + (j : Int),(t : Int)) /\ VY n L p w = true
 | 0 => by simp [TD]
 | k + 1 => by
   rw [TD,List.mem_append,WR k,WS]
   constructor
   ·rintro (⟨i,j,t,h1,h2⟩ | ⟨j,t,h1,h2⟩)
    ·exact ⟨i,j,t,by omega,h2⟩
    ·exact ⟨k,j,t,by omega,h1,h2⟩
   ·rintro ⟨i,j,t,h1,h2,h3⟩
    rcases Nat.lt_or_ge i k with h4 | h4
    ·exact .inl ⟨i,j,t,h4,h2,h3⟩
    ·obtain rfl : i = k:=by omega
     exact .inr ⟨j,t,h2,h3⟩
theorem Yc {n P : Int} {L : List Wk} {p : Int} {w : Wk} : w ∈ yN n P L p <-> (0 <= w.1 /\ w.1 < w.2.1 /\ w.2.1 < P /\ 0 <= w.2.2 /\ w.2.2 < 8) /\ VY n L p w = true:=by
 unfold yN
 rw [WR]
 constructor
 ·rintro ⟨i,j,t,h1,h2,h3,rfl,h4⟩
  exact ⟨by dsimp only;omega,h4⟩
 ·obtain ⟨a,b,t⟩:=w
  rintro ⟨h1,h2⟩
  dsimp only at h1
  refine ⟨a.toNat,(b - a - 1).toNat,t.toNat,by omega,by omega,by omega,?_,h2⟩
  have e1 : (a.toNat : Int) = a:=by omega
  have e2 : (a.toNat : Int) + 1 + ((b - a - 1).toNat : Int) = b:=by omega
  have e3 : (t.toNat : Int) = t:=by omega
  rw [e2,e1,e3]
theorem V9 (n : Int) (L : List Wk) (p a b : Int) : ∀ t,(Vs n L p a b t).length <= t
 | 0 => Nat.le_refl _
 | t + 1 => by
   have:=V9 n L p a b t
   rw [Vs]
   split
   ·simp only [List.length_append,List.length_singleton];omega
   ·omega
theorem V7 (n : Int) (L : List Wk) (p : Int) (i : Nat) : ∀ j,(TL n L p i j).length <= 8 * j
 | 0 => Nat.le_refl _
 | j + 1 => by
   have:=V7 n L p i j
   have:=V9 n L p i ((i : Nat) + 1 + (j : Nat)) 8
   rw [TL,List.length_append];omega
theorem V6 (n P : Int) (L : List Wk) (p : Int) : ∀ i,(TD n P L p i).length <= 8 * P.toNat * i
 | 0 => Nat.le_refl _
 | i + 1 => by
   have:=V6 n P L p i
   have:=V7 n L p i (P.toNat - 1 - i)
   rw [TD,List.length_append,Nat.mul_add];omega
def VW (n P : Int) (L : List Wk) (p : Int) : cM:=match bf n P L p == 0 with
 | true => ⟨[.arr 60 kW (yN n P L p) true true],.bF [.a (.sl 0 [] 0 (yN n P L p).length),.a (vI 0)]⟩
 | false => ⟨[],.bF [.a (.v (.slice none 0 0)),.a (vI (bf n P L p))]⟩
def YB : au:=Wy (fun _ _ L _ => [(aa.of (L.length <= 800000))]) VW
noncomputable def YV : List (Nat × au):=[(56,jf),(75,Gk),(59,qo)]
theorem XB : aR Tryd.prog Γ YV:=(((aR.nil.cons (aj Tryd.func59 rfl rfl).fn qp).cons (aj Tryd.func75 rfl rfl).fn Gl).cons (aj Tryd.func56 rfl rfl).fn fQ)
attribute [local irreducible] TD TL Vs bf lP af
theorem Xw : au.Ok Tryd.prog Γ 40 YB:=X6 (d:=0) (aP XB bq.nil false 0) (aj Tryd.func40 rfl rfl) (by
 intro n P L p K ⟨hl,_⟩ hK
 simp only [aa.ae] at hl
 obtain h0 | h0 : (bf n P L p == 0) = false \/ (bf n P L p == 0) = true:=by cases bf n P L p == 0 <;> simp
 ·have e0 : (bf n P L p != 0) = true:=by unfold bne;rw [h0];rfl
  rw [show VW n P L p = ⟨[],.bF [.a (.v (.slice none 0 0)),.a (vI (bf n P L p))]⟩ by unfold VW;rw [h0]] at hK
  repeat' ((conv => whnf);first | apply And.intro | (intro h9;try (have h8 : (_ : Bool) = _:=h9;clear h8;revert h9;subst_vars;intro h9;exact aq h9 (by assumption))))
  all_goals try (conv => whnf)
  all_goals try first | (apply Tk.mk <;> kernel_rfl) | exact ⟨ah rfl⟩ | exact ⟨rfl⟩ | exact ⟨trivial⟩
  all_goals subst_vars
  all_goals try first | rfl | contradiction | (apply Ob.mk;first | (simp only [ag,ak,aa.ae];omega) | ((try simp only [aa.ae]);(try dsimp only);omega))
  all_goals first
   | (refine bu.base ⟨_,[],hK,trivial,rfl,?_⟩;(repeat' ((conv => whnf);(first | apply And.intro | intro _)));all_goals first | rfl | trivial)
   | exact ⟨show L.length <= 1000000 by omega⟩
 have e0 : (bf n P L p != 0) = false:=by unfold bne;rw [h0];rfl
 rw [show VW n P L p = ⟨[.arr 60 kW (yN n P L p) true true],.bF [.a (.sl 0 [] 0 (yN n P L p).length),.a (vI 0)]⟩ by unfold VW;rw [h0]] at hK
 obtain ⟨hw,hP,hp,hn⟩:=gg (eq_of_beq h0)
 have lS:=cW.1 hw
 repeat' ((conv => whnf);first | apply And.intro | (intro h9;try (have h8 : (_ : Bool) = _:=h9;clear h8;revert h9;subst_vars;intro h9;exact aq h9 (by assumption))))
 all_goals try (conv => whnf)
 all_goals try first | (apply Tk.mk <;> kernel_rfl) | exact ⟨ah rfl⟩ | exact ⟨rfl⟩ | exact ⟨trivial⟩
 all_goals subst_vars
 all_goals try first | rfl | contradiction | (apply Ob.mk;first | (simp only [ag,ak,aa.ae];omega) | ((try simp only [aa.ae]);(try dsimp only);omega))
 all_goals try first
  | exact ⟨show L.length <= 1000000 by omega⟩
 refine ⟨Nat,fun i => i <= P.toNat,fun i => ⟨aI 51 [1,2,7,19,20] [.a (vI p),.a (.p 1 [] 0 0),.a (.sl 2 [] 0 (TD n P L p i).length),.a (vI P),.a (vI i)],[],[.arr 60 kW L false false,.box true [vI n,vI P,.sl 0 [] 0 L.length],.arr 60 kW (TD n P L p i) true true]⟩,fun i => P.toNat - i,0,[0,1,1000],Nat.zero_le _,?_,?_⟩
 ·have a0 : TD n P L p 0 = []:=by unfold TD;rfl
  repeat' ((conv => whnf);(first | apply And.intro | intro _))
  all_goals first | rfl | trivial | exact ah rfl | exact aS ‹_› rfl | exact aT ‹_› rfl | ((repeat' first | rfl | constructor);done) | exact a0 | (rw [a0];rfl)
 rintro i hi
 by_cases hi1 : i < P.toNat
 ·have p0 : decide ((i : Int) < P) = true:=decide_eq_true (by omega)
  repeat' ((conv => whnf);first | apply And.intro | (intro h9;try (have h8 : (_ : Bool) = _:=h9;clear h8;revert h9;subst_vars;intro h9;exact aq h9 (by assumption))))
  all_goals try (conv => whnf)
  all_goals try first | (apply Tk.mk <;> kernel_rfl) | exact ⟨ah rfl⟩ | exact ⟨rfl⟩ | exact ⟨trivial⟩
  all_goals subst_vars
  all_goals try first | rfl | contradiction | (apply Ob.mk;first | (simp only [ag,ak,aa.ae];omega) | ((try simp only [aa.ae]);(try dsimp only);omega))
  refine ⟨Nat,fun j => j <= P.toNat - 1 - i,fun j => ⟨aI 51 [1,2,7,8,9,19,20] [.a (vI p),.a (.p 1 [] 0 0),.a (.sl 2 [] 0 (TD n P L p i ++ TL n L p i j).length),.a (vI i),.a (vI ((i : Nat) + 1 + (j : Nat))),.a (vI P),.a (vI i)],[],[.arr 60 kW L false false,.box true [vI n,vI P,.sl 0 [] 0 L.length],.arr 60 kW (TD n P L p i ++ TL n L p i j) true true]⟩,fun j => P.toNat - 1 - i - j,0,[],Nat.zero_le _,?_,?_⟩
  ·have a0 : TD n P L p i ++ TL n L p i 0 = TD n P L p i:=by unfold TL;rw [List.append_nil]
   have a1:=congrArg List.length a0
   repeat' ((conv => whnf);(first | apply And.intro | intro _))
   all_goals first | rfl | trivial | exact ah rfl | exact aS ‹_› rfl | exact aT ‹_› rfl | ((repeat' first | rfl | constructor);done) | exact a0.symm | exact a1.symm | exact ⟨rfl,rfl,a0.symm⟩ | omega
  rintro j hj
  by_cases Ho : j < P.toNat - 1 - i
  ·have p1 : decide ((i : Int) + 1 + (j : Int) < P) = true:=decide_eq_true (by omega)
   repeat' ((conv => whnf);first | apply And.intro | (intro h9;try (have h8 : (_ : Bool) = _:=h9;clear h8;revert h9;subst_vars;intro h9;exact aq h9 (by assumption))))
   all_goals try (conv => whnf)
   all_goals try first | (apply Tk.mk <;> kernel_rfl) | exact ⟨ah rfl⟩ | exact ⟨rfl⟩ | exact ⟨trivial⟩
   all_goals subst_vars
   all_goals try first | rfl | contradiction | (apply Ob.mk;first | (simp only [ag,ak,aa.ae];omega) | ((try simp only [aa.ae]);(try dsimp only);omega))
   refine ⟨Nat,fun t => t <= 8,fun t => ⟨aI 51 [1,2,7,8,9,19,20,31] [.a (vI p),.a (.p 1 [] 0 0),.a (.sl 2 [] 0 (TD n P L p i ++ TL n L p i j ++ Vs n L p i ((i : Nat) + 1 + (j : Nat)) t).length),.a (vI i),.a (vI ((i : Nat) + 1 + (j : Nat))),.a (vI P),.a (vI i),.a (vI t)],[],[.arr 60 kW L false false,.box true [vI n,vI P,.sl 0 [] 0 L.length],.arr 60 kW (TD n P L p i ++ TL n L p i j ++ Vs n L p i ((i : Nat) + 1 + (j : Nat)) t) true true]⟩,fun t => 8 - t,0,[],Nat.zero_le _,?_,?_⟩
   ·have a0 : TD n P L p i ++ TL n L p i j ++ Vs n L p i ((i : Nat) + 1 + (j : Nat)) 0 = TD n P L p i ++ TL n L p i j:=by unfold Vs;rw [List.append_nil]
    have a1:=congrArg List.length a0
    repeat' ((conv => whnf);(first | apply And.intro | intro _))
    all_goals first | rfl | trivial | exact ah rfl | exact aS ‹_› rfl | exact aT ‹_› rfl | ((repeat' first | rfl | constructor);done) | exact a0.symm | exact a1.symm | exact ⟨rfl,rfl,a0.symm⟩
   rintro t ht
   by_cases ht1 : t < 8
   ·have p2 : decide ((t : Int) < 8) = true:=decide_eq_true (by omega)
    have hwk : eJ P ((i : Int),(i : Int) + 1 + (j : Int),(t : Int)) = true:=by
     simp only [eJ,Bool.and_eq_true,bA,bne_iff_ne,ne_eq];omega
    have VX : dY P (L ++ [((i : Int),(i : Int) + 1 + (j : Int),(t : Int))]) = true:=cW.2 (fun w h => by
     rcases List.mem_append.1 h with h | h
     ·exact lS w h
     ·rw [List.mem_singleton] at h;rw [h];exact hwk)
    have hal:=V6 n P L p i
    have Hg:=V7 n L p i j
    have RK:=V9 n L p i ((i : Nat) + 1 + (j : Nat)) t
    have hac : (TD n P L p i ++ TL n L p i j ++ Vs n L p i ((i : Nat) + 1 + (j : Nat)) t).length <= 1000:=by
     rw [List.length_append,List.length_append]
     have : 8 * P.toNat * i <= 8 * 6 * 6:=Nat.mul_le_mul (by omega) (by omega)
     omega
    obtain hb | hb : (lP n (af (L ++ [((i : Int),(i : Int) + 1 + (j : Int),(t : Int))]) p) == 0) = false \/ (lP n (af (L ++ [((i : Int),(i : Int) + 1 + (j : Int),(t : Int))]) p) == 0) = true:=by cases (lP n (af (L ++ [((i : Int),(i : Int) + 1 + (j : Int),(t : Int))]) p) == 0) <;> simp
    ·have hx:=Xk (n:=n) (L:=L) (p:=p) (a:=(i : Int)) (b:=(i : Nat) + 1 + (j : Nat)) (t:=t) hb
     have a0 : (TD n P L p i ++ TL n L p i j ++ Vs n L p i ((i : Nat) + 1 + (j : Nat)) t) = TD n P L p i ++ TL n L p i j ++ Vs n L p i ((i : Nat) + 1 + (j : Nat)) (t + 1):=by rw [hx]
     have a1:=congrArg List.length a0
     repeat' ((conv => whnf);first | apply And.intro | (intro h9;try (have h8 : (_ : Bool) = _:=h9;clear h8;revert h9;subst_vars;intro h9;exact aq h9 (by assumption))))
     all_goals try (conv => whnf)
     all_goals try first | (apply Tk.mk <;> kernel_rfl) | exact ⟨ah rfl⟩ | exact ⟨rfl⟩ | exact ⟨trivial⟩
     all_goals subst_vars
     all_goals try first | rfl | contradiction | (apply Ob.mk;first | (simp only [ag,ak,aa.ae];omega) | ((try simp only [aa.ae]);(try dsimp only);omega))
     all_goals try first
      | exact ⟨show L.length + 1 = (L ++ [((i : Int),(i : Int) + 1 + (j : Int),(t : Int))]).length by simp⟩
      | exact ⟨VX⟩
      | exact ⟨show (L ++ [((i : Int),(i : Int) + 1 + (j : Int),(t : Int))]).length <= 1000000 by rw [List.length_append,List.length_singleton];omega⟩
      | exact ⟨show L.length <= 900000 by omega⟩
     refine ⟨t + 1,[0,1,2],ht1,?_,by show 8 - (t + 1) < 8 - t;omega⟩
     repeat' ((conv => whnf);(first | apply And.intro | intro _))
     all_goals first | rfl | trivial | exact ah rfl | exact aS ‹_› rfl | exact aT ‹_› rfl | ((repeat' first | rfl | constructor);done) | exact a1 | exact ⟨rfl,rfl,a0⟩
    have hx:=WT (n:=n) (L:=L) (p:=p) (a:=(i : Int)) (b:=(i : Nat) + 1 + (j : Nat)) (t:=t) hb
    have a0 : (TD n P L p i ++ TL n L p i j ++ Vs n L p i ((i : Nat) + 1 + (j : Nat)) t) ++ [((i : Int),(i : Int) + 1 + (j : Int),(t : Int))] = TD n P L p i ++ TL n L p i j ++ Vs n L p i ((i : Nat) + 1 + (j : Nat)) (t + 1):=by rw [hx,<- List.append_assoc]
    have a1:=congrArg List.length a0
    rw [List.length_append,List.length_singleton] at a1
    repeat' ((conv => whnf);first | apply And.intro | (intro h9;try (have h8 : (_ : Bool) = _:=h9;clear h8;revert h9;subst_vars;intro h9;exact aq h9 (by assumption))))
    all_goals try (conv => whnf)
    all_goals try first | (apply Tk.mk <;> kernel_rfl) | exact ⟨ah rfl⟩ | exact ⟨rfl⟩ | exact ⟨trivial⟩
    all_goals subst_vars
    all_goals try first | rfl | contradiction | (apply Ob.mk;first | (simp only [ag,ak,aa.ae];omega) | ((try simp only [aa.ae]);(try dsimp only);omega))
    all_goals try first
     | exact ⟨show L.length + 1 = (L ++ [((i : Int),(i : Int) + 1 + (j : Int),(t : Int))]).length by simp⟩
     | exact ⟨VX⟩
     | exact ⟨show (L ++ [((i : Int),(i : Int) + 1 + (j : Int),(t : Int))]).length <= 1000000 by rw [List.length_append,List.length_singleton];omega⟩
     | exact ⟨show L.length <= 900000 by omega⟩
     | exact ⟨Nat.zero_add _⟩
     | exact ⟨show ((TD n P L p i ++ TL n L p i j ++ Vs n L p i ((i : Nat) + 1 + (j : Nat)) t).length + 1) * 3 <= 1099511627776 by omega⟩
    refine ⟨t + 1,[0,1,2],ht1,?_,by show 8 - (t + 1) < 8 - t;omega⟩
    repeat' ((conv => whnf);(first | apply And.intro | intro _))
    all_goals first | rfl | trivial | exact ah rfl | exact aS ‹_› rfl | exact aT ‹_› rfl | ((repeat' first | rfl | constructor);done) | exact a1 | exact ⟨rfl,rfl,a0⟩
   have p2 : decide ((t : Int) < 8) = false:=decide_eq_false (by omega)
   obtain rfl : t = 8:=by omega
   have a0 : TD n P L p i ++ TL n L p i j ++ Vs n L p i ((i : Nat) + 1 + (j : Nat)) 8 = TD n P L p i ++ TL n L p i (j + 1):=by
    conv => rhs;unfold TL
    rw [List.append_assoc]
   have a1:=congrArg List.length a0
   repeat' ((conv => whnf);first | apply And.intro | (intro h9;try (have h8 : (_ : Bool) = _:=h9;clear h8;revert h9;subst_vars;intro h9;exact aq h9 (by assumption))))
   all_goals try (conv => whnf)
   all_goals try first | (apply Tk.mk <;> kernel_rfl) | exact ⟨ah rfl⟩ | exact ⟨rfl⟩ | exact ⟨trivial⟩
   all_goals subst_vars
   all_goals try first | rfl | contradiction | (apply Ob.mk;first | (simp only [ag,ak,aa.ae];omega) | ((try simp only [aa.ae]);(try dsimp only);omega))
   refine ⟨j + 1,[],Ho,?_,by show P.toNat - 1 - i - (j + 1) < P.toNat - 1 - i - j;omega⟩
   repeat' ((conv => whnf);(first | apply And.intro | intro _))
   all_goals first | rfl | trivial | exact ah rfl | exact aS ‹_› rfl | exact aT ‹_› rfl | ((repeat' first | rfl | constructor);done) | exact a1 | exact ⟨rfl,rfl,a0⟩ | omega
  have p1 : decide ((i : Int) + 1 + (j : Int) < P) = false:=decide_eq_false (by omega)
  have a0 : TD n P L p i ++ TL n L p i j = TD n P L p (i + 1):=by
   conv => rhs;unfold TD
   rw [show P.toNat - 1 - i = j by omega]
  have a1:=congrArg List.length a0
  repeat' ((conv => whnf);first | apply And.intro | (intro h9;try (have h8 : (_ : Bool) = _:=h9;clear h8;revert h9;subst_vars;intro h9;exact aq h9 (by assumption))))
  all_goals try (conv => whnf)
  all_goals try first | (apply Tk.mk <;> kernel_rfl) | exact ⟨ah rfl⟩ | exact ⟨rfl⟩ | exact ⟨trivial⟩
  all_goals subst_vars
  all_goals try first | rfl | contradiction | (apply Ob.mk;first | (simp only [ag,ak,aa.ae];omega) | ((try simp only [aa.ae]);(try dsimp only);omega))
  refine ⟨i + 1,[],hi1,?_,by show P.toNat - (i + 1) < P.toNat - i;omega⟩
  repeat' ((conv => whnf);(first | apply And.intro | intro _))
  all_goals first | rfl | trivial | exact ah rfl | exact aS ‹_› rfl | exact aT ‹_› rfl | ((repeat' first | rfl | constructor);done) | exact a1 | exact ⟨rfl,rfl,a0⟩ | omega
 have p0 : decide ((i : Int) < P) = false:=decide_eq_false (by omega)
 obtain rfl : i = P.toNat:=by omega
 repeat' ((conv => whnf);first | apply And.intro | (intro h9;try (have h8 : (_ : Bool) = _:=h9;clear h8;revert h9;subst_vars;intro h9;exact aq h9 (by assumption))))
 all_goals try (conv => whnf)
 all_goals try first | (apply Tk.mk <;> kernel_rfl) | exact ⟨ah rfl⟩ | exact ⟨rfl⟩ | exact ⟨trivial⟩
 all_goals subst_vars
 all_goals try first | rfl | contradiction | (apply Ob.mk;first | (simp only [ag,ak,aa.ae];omega) | ((try simp only [aa.ae]);(try dsimp only);omega))
 refine bu.base ⟨_,[2],hK,⟨rfl,rfl,by simp,trivial⟩,rfl,?_⟩
 repeat' ((conv => whnf);(first | apply And.intro | intro _))
 all_goals first | rfl | trivial)
def V1 : au:=Zt (fun G _ => [(aa.of (G.length <= 1000000))]) (fun G g => bl (G.any (fun h => h.1 == g.1 && (h.2 == g.2 && true))))
theorem V2 : au.Ok Tryd.prog Γ 43 V1:=Y1 (d:=0) (aP aR.nil bq.nil false 0) (aj Tryd.func43 rfl rfl) (fun _ _ => rfl) (by
 rintro G ⟨t,m⟩ ⟨hG,_⟩
 simp only [aa.ae] at hG
 repeat' ((conv => whnf);first | apply And.intro | (intro h9;try (have h8 : (_ : Bool) = _:=h9;clear h8;revert h9;subst_vars;intro h9;exact aq h9 (by assumption))))
 all_goals try (conv => whnf)
 all_goals try first | (apply Tk.mk <;> kernel_rfl) | exact ⟨ah rfl⟩ | exact ⟨rfl⟩ | exact ⟨trivial⟩
 all_goals subst_vars
 all_goals try first | rfl | contradiction | (apply Ob.mk;first | (simp only [ag,ak,aa.ae];omega) | ((try simp only [aa.ae]);(try dsimp only);omega))
 refine ⟨Nat,fun i => i <= G.length /\ G.any (fun h => h.1 == t && (h.2 == m && true)) = (G.drop i).any (fun h => h.1 == t && (h.2 == m && true)),fun i => ⟨aI 18 [0,3,5] [.a (.sl 0 [] 0 G.length),.a (.p 1 [] 0 0),.a (vI i)],[],[.arr 64 kG G false false,.box true [vI t,.v (.bool m)]]⟩,fun i => G.length - i,0,[],⟨Nat.zero_le _,rfl⟩,?_,?_⟩
 ·repeat' ((conv => whnf);(first | apply And.intro | intro _))
  all_goals first | rfl | trivial | exact ah rfl | exact aS ‹_› rfl | exact aT ‹_› rfl | ((repeat' first | rfl | constructor);done)
 rintro i ⟨hi,hf⟩
 by_cases hi1 : i < G.length
 ·have p0 : decide ((i : Int) < (G.length : Int)) = true:=decide_eq_true (by omega)
  have es:=BP G i
  obtain hb | hb : ((bI G i).1 == t && ((bI G i).2 == m && true)) = false \/ ((bI G i).1 == t && ((bI G i).2 == m && true)) = true:=by cases ((bI G i).1 == t && ((bI G i).2 == m && true)) <;> simp
  ·have jH:=hf.trans (zx hi1 (d:=(0,false)) (by rw [<- es];exact hb))
   repeat' ((conv => whnf);first | apply And.intro | (intro h9;try (have h8 : (_ : Bool) = _:=h9;clear h8;revert h9;subst_vars;intro h9;exact aq h9 (by assumption))))
   all_goals try (conv => whnf)
   all_goals try first | (apply Tk.mk <;> kernel_rfl) | exact ⟨ah rfl⟩ | exact ⟨rfl⟩ | exact ⟨trivial⟩
   all_goals subst_vars
   all_goals try first | rfl | contradiction | (apply Ob.mk;first | (simp only [ag,ak,aa.ae];omega) | ((try simp only [aa.ae]);(try dsimp only);omega))
   all_goals try first
    | exact ⟨show 0 + Int.toNat (i : Int) < G.length by omega⟩
   refine ⟨i + 1,[],⟨hi1,jH⟩,?_,by show G.length - (i + 1) < G.length - i;omega⟩
   repeat' ((conv => whnf);(first | apply And.intro | intro _))
   all_goals first | rfl | trivial | exact ah rfl | exact aS ‹_› rfl | exact aT ‹_› rfl | ((repeat' first | rfl | constructor);done)
  rw [show G.any (fun h => h.1 == (t,m).1 && (h.2 == (t,m).2 && true)) = true from hf.trans (wg hi1 (d:=(0,false)) (by rw [<- es];exact hb))]
  repeat' ((conv => whnf);first | apply And.intro | (intro h9;try (have h8 : (_ : Bool) = _:=h9;clear h8;revert h9;subst_vars;intro h9;exact aq h9 (by assumption))))
  all_goals try (conv => whnf)
  all_goals try first | (apply Tk.mk <;> kernel_rfl) | exact ⟨ah rfl⟩ | exact ⟨rfl⟩ | exact ⟨trivial⟩
  all_goals subst_vars
  all_goals try first | rfl | contradiction | (apply Ob.mk;first | (simp only [ag,ak,aa.ae];omega) | ((try simp only [aa.ae]);(try dsimp only);omega))
  all_goals first
   | exact ⟨show 0 + Int.toNat (i : Int) < G.length by omega⟩
 have p0 : decide ((i : Int) < (G.length : Int)) = false:=decide_eq_false (by omega)
 rw [show G.any (fun h => h.1 == (t,m).1 && (h.2 == (t,m).2 && true)) = false from hf.trans (we (by omega))]
 repeat' ((conv => whnf);first | apply And.intro | (intro h9;try (have h8 : (_ : Bool) = _:=h9;clear h8;revert h9;subst_vars;intro h9;exact aq h9 (by assumption))))
 all_goals try (conv => whnf)
 all_goals try first | (apply Tk.mk <;> kernel_rfl) | exact ⟨ah rfl⟩ | exact ⟨rfl⟩ | exact ⟨trivial⟩
 all_goals subst_vars
 all_goals try first | rfl | contradiction | (apply Ob.mk;first | (simp only [ag,ak,aa.ae];omega) | ((try simp only [aa.ae]);(try dsimp only);omega)))
end Go.Proofs.YthejmgnkenokpaaDoor
end
section
namespace Go.Proofs.YthejmgnkenokpaaDoor
open Go Go.Sy Go.bK
variable {Γ : bn}
def U6 (D : Int -> List Int -> List aa) (F : Int -> List Int -> Tm) : au:=.fn fun args rg => match args with
 | [.a (.v (.int .i64 n0)),.a x0] => (match ca 3 kI rg x0 with | some (q0,L0) => some (q0 ++ (D n0 L0),F n0 L0) | _ => none)
 | _ => none
theorem T9 {f : FuncId} {b : Body} {E : Env} {d : Nat} (hP : aL Tryd.prog Γ E) (hb : bQ Tryd.prog f b) {D : Int -> List Int -> List aa} {F : Int -> List Int -> Tm} (hp : ∀ (n0 : Int) (L0 : List Int),(F n0 L0).plain = true)
  (H : ∀ (n0 : Int) (L0 : List Int),bW (D n0 L0) -> cQ E d b [.a (vI n0),.a (.sl 0 [] 0 L0.length)] [.arr 3 kI L0 false false] (fun x _ => iL x (F n0 L0))) : au.Ok Tryd.prog Γ f (U6 D F):=au.er (d:=d) hP hb (by
 intro args rg q t hF hq
 split at hF
 next n0 x0 =>
  split at hF
  next q0 L0 hx0 =>
   obtain ⟨rfl,rfl⟩:=Prod.mk.inj (Option.some.inj hF);clear hF
   rw [aH] at hq
   obtain ⟨dm,hD⟩:=hq
   obtain ⟨e0,Vn⟩:=bP (by simp [kI]) hx0 dm
   obtain ⟨p0,r0⟩:=Vn [e0] 0 1 rfl (by omega)
   refine ⟨hp _ _,[e0],[.a (vI n0),.a (.sl 0 [] 0 L0.length)],[.arr 3 kI L0 false false],⟨⟨rfl,p0,trivial⟩,fun r g hg => ?_⟩,H _ _ hD⟩
   match r,hg with
   | 0,hg => obtain rfl:=Option.some.inj hg;exact r0
  next => cases hF
 next => cases hF)
def SH (h : Int) : Bool:=!aQ h (-1099511627776) 1099511627776
def SD (n : Int) (l : List Int) : Bool:=((l.length : Int) == n * n) && !l.any SH
theorem Uc {n : Int} {l : List Int} (h : l.any SH = true) : SD n l = false:=by unfold SD;rw [h];simp
theorem TR {n : Int} {l : List Int} (h : l.any SH = false) : SD n l = ((l.length : Int) == n * n):=by unfold SD;rw [h];simp
theorem UU {n : Int} {l : List Int} (h : ((l.length : Int) == n * n) = false) : SD n l = false:=by unfold SD;rw [h];rfl
def S4 : au:=U6 (fun n l => [(aa.of (1 <= n /\ n <= 6)),(aa.of (l.length <= 1000000))]) (fun n l => bl (SD n l))
noncomputable def U9 : List (Nat × au):=[(67,gK)]
theorem UF : aR Tryd.prog Γ U9:=(aR.nil.cons (aj Tryd.func67 rfl rfl).fn fw)
noncomputable def U2 : List (Nat × Body):=[(65,bo Tryd.f65),(90,bo Tryd.f90),(103,bo Tryd.f103)]
theorem Up : bq Tryd.prog U2:=(((bq.nil.cons (cg Tryd.func103 rfl rfl)).cons (cg Tryd.func90 rfl rfl)).cons (cg Tryd.func65 rfl rfl))
attribute [local irreducible] aQ
theorem TH : au.Ok Tryd.prog Γ 79 S4:=T9 (d:=4) (aP UF Up false 0) (aj Tryd.func79 rfl rfl) (fun _ _ => rfl) (by
 intro n l ⟨hn,hl,_⟩
 simp only [aa.ae] at hn hl
 have j4 : 1 <= n * n /\ n * n <= 36:=sJ hn
 have m1 : decide ((-1 : Int) >= 0) = false:=rfl
 obtain h0 | h0 : ((l.length : Int) == n * n) = false \/ ((l.length : Int) == n * n) = true:=by cases ((l.length : Int) == n * n) <;> simp
 ·rw [UU h0]
  repeat' ((conv => whnf);first | apply And.intro | (intro h9;try (have h8 : (_ : Bool) = _:=h9;clear h8;revert h9;subst_vars;intro h9;exact aq h9 (by assumption))))
  all_goals try (conv => whnf)
  all_goals try first | (apply Tk.mk <;> kernel_rfl) | exact ⟨ah rfl⟩ | exact ⟨rfl⟩ | exact ⟨trivial⟩
  all_goals subst_vars
  all_goals try first | rfl | contradiction | (apply Ob.mk;first | (simp only [ag,ak,aa.ae];omega) | ((try simp only [aa.ae]);(try dsimp only);omega))
 repeat' ((conv => whnf);first | apply And.intro | (intro h9;try (have h8 : (_ : Bool) = _:=h9;clear h8;revert h9;subst_vars;intro h9;exact aq h9 (by assumption))))
 all_goals try (conv => whnf)
 all_goals try first | (apply Tk.mk <;> kernel_rfl) | exact ⟨ah rfl⟩ | exact ⟨rfl⟩ | exact ⟨trivial⟩
 all_goals subst_vars
 all_goals try first | rfl | contradiction | (apply Ob.mk;first | (simp only [ag,ak,aa.ae];omega) | ((try simp only [aa.ae]);(try dsimp only);omega))
 refine ⟨Nat,fun i => i <= l.length /\ l.any SH = (l.drop i).any SH,fun i => ⟨aI 19 [0,1,7,8] [.a (.sl 0 [] 0 l.length),.a (.fn 103 []),.a (vI l.length),.a (vI i)],[aI 9 [] [],aI 16 [11] [.a .tt]],[.arr 3 kI l false false]⟩,fun i => l.length - i,0,[],⟨Nat.zero_le _,rfl⟩,?_,?_⟩
 ·repeat' ((conv => whnf);(first | apply And.intro | intro _))
  all_goals first | rfl | trivial | exact ah rfl | exact aS ‹_› rfl | exact aT ‹_› rfl | ((repeat' first | rfl | constructor);done)
 rintro i ⟨hi,hf⟩
 have m2 : decide ((i : Int) >= 0) = true:=decide_eq_true (by omega)
 by_cases hi1 : i < l.length
 ·have p0 : decide ((i : Int) < (l.length : Int)) = true:=decide_eq_true (by omega)
  have es:=dP l i
  obtain hb | hb : SH (av l i) = false \/ SH (av l i) = true:=by cases SH (av l i) <;> simp
  ·have jH:=hf.trans (zx hi1 (d:=0) (by show SH (gi l i) = false;rw [<- es];exact hb))
   have e1 : (!aQ (av l i) (-1099511627776) 1099511627776) = false:=hb
   repeat' ((conv => whnf);first | apply And.intro | (intro h9;try (have h8 : (_ : Bool) = _:=h9;clear h8;revert h9;subst_vars;intro h9;exact aq h9 (by assumption))))
   all_goals try (conv => whnf)
   all_goals try first | (apply Tk.mk <;> kernel_rfl) | exact ⟨ah rfl⟩ | exact ⟨rfl⟩ | exact ⟨trivial⟩
   all_goals subst_vars
   all_goals try first | rfl | contradiction | (apply Ob.mk;first | (simp only [ag,ak,aa.ae];omega) | ((try simp only [aa.ae]);(try dsimp only);omega))
   all_goals try first
    | exact ⟨show 0 + Int.toNat (i : Int) < l.length by omega⟩
   refine ⟨i + 1,[],⟨hi1,jH⟩,?_,by show l.length - (i + 1) < l.length - i;omega⟩
   repeat' ((conv => whnf);(first | apply And.intro | intro _))
   all_goals first | rfl | trivial | exact ah rfl | exact aS ‹_› rfl | exact aT ‹_› rfl | ((repeat' first | rfl | constructor);done)
  have e1 : (!aQ (av l i) (-1099511627776) 1099511627776) = true:=hb
  rw [Uc (hf.trans (wg hi1 (d:=0) (by show SH (gi l i) = true;rw [<- es];exact hb)))]
  repeat' ((conv => whnf);first | apply And.intro | (intro h9;try (have h8 : (_ : Bool) = _:=h9;clear h8;revert h9;subst_vars;intro h9;exact aq h9 (by assumption))))
  all_goals try (conv => whnf)
  all_goals try first | (apply Tk.mk <;> kernel_rfl) | exact ⟨ah rfl⟩ | exact ⟨rfl⟩ | exact ⟨trivial⟩
  all_goals subst_vars
  all_goals try first | rfl | contradiction | (apply Ob.mk;first | (simp only [ag,ak,aa.ae];omega) | ((try simp only [aa.ae]);(try dsimp only);omega))
  all_goals first
   | exact ⟨show 0 + Int.toNat (i : Int) < l.length by omega⟩
 have p0 : decide ((i : Int) < (l.length : Int)) = false:=decide_eq_false (by omega)
 rw [TR (hf.trans (we (by omega))),h0]
 repeat' ((conv => whnf);first | apply And.intro | (intro h9;try (have h8 : (_ : Bool) = _:=h9;clear h8;revert h9;subst_vars;intro h9;exact aq h9 (by assumption))))
 all_goals try (conv => whnf)
 all_goals try first | (apply Tk.mk <;> kernel_rfl) | exact ⟨ah rfl⟩ | exact ⟨rfl⟩ | exact ⟨trivial⟩
 all_goals subst_vars
 all_goals try first | rfl | contradiction | (apply Ob.mk;first | (simp only [ag,ak,aa.ae];omega) | ((try simp only [aa.ae]);(try dsimp only);omega)))
end Go.Proofs.YthejmgnkenokpaaDoor
end
section
namespace Go.Proofs.YthejmgnkenokpaaDoor
open Go Go.Sy Go.bK
variable {Γ : bn}
def S0 (D : Int -> List Int -> List Int -> Int -> List aa) (R : Int -> List Int -> List Int -> Int -> cM) : au:=.new fun args rg K => match args with
 | [.a (.v (.int .i64 n0)),.a x0,.a x1,.a (.v (.int .i64 n1))] => (match ca 3 kI rg x0,ca 3 kI rg x1 with | some (q0,L0),some (q1,L1) => bk false (q0 ++ (q1 ++ (D n0 L0 L1 n1))) (K (R n0 L0 L1 n1)) | _,_ => False)
 | _ => False
theorem S5 {f : FuncId} {b : Body} {E : Env} {d : Nat} (hP : aL Tryd.prog Γ E) (hb : bQ Tryd.prog f b) {D : Int -> List Int -> List Int -> Int -> List aa} {R : Int -> List Int -> List Int -> Int -> cM}
  (H : ∀ (n0 : Int) (L0 : List Int) (L1 : List Int) (n1 : Int) (K : cM -> Prop),bW (D n0 L0 L1 n1) -> K (R n0 L0 L1 n1) -> cQ E d b [.a (vI n0),.a (.sl 0 [] 0 L0.length),.a (.sl 1 [] 0 L1.length),.a (vI n1)] [.arr 3 kI L0 false false,.arr 3 kI L1 false false] (bu K)) : au.Ok Tryd.prog Γ f (S0 D R):=au.fM (d:=d) hP hb (by
 intro args rg K hF
 split at hF
 next n0 x0 x1 n1 =>
  split at hF
  next q0 L0 q1 L1 hx0 cO =>
   rw [aV,aH,aH] at hF
   obtain ⟨⟨dm,gk,hD⟩,hK⟩:=hF
   obtain ⟨e0,Vn⟩:=bP (by simp [kI]) hx0 dm
   obtain ⟨e1,iO⟩:=bP (by simp [kI]) cO gk
   obtain ⟨p0,r0⟩:=Vn [e0,e1] 0 2 rfl (by omega)
   obtain ⟨p1,r1⟩:=iO [e0,e1] 1 2 rfl (by omega)
   refine ⟨[e0,e1],[.a (vI n0),.a (.sl 0 [] 0 L0.length),.a (.sl 1 [] 0 L1.length),.a (vI n1)],[.arr 3 kI L0 false false,.arr 3 kI L1 false false],⟨⟨rfl,p0,p1,rfl,trivial⟩,fun r g hg => ?_⟩,bu K,H _ _ _ _ K hD hK,fun x st h => h⟩
   match r,hg with
   | 0,hg => obtain rfl:=Option.some.inj hg;exact r0
   | 1,hg => obtain rfl:=Option.some.inj hg;exact r1
  next => exact hF.elim
 next => exact hF.elim)
def SN (n : Int) (A B : List Int) (t x : Int) : Int:=av A x + av B (aX n t x)
def ur (n : Int) (A B : List Int) (t : Int) (x : Nat) : List Int:=(List.range x).map fun y => SN n A B t (y : Nat)
theorem S1 {n : Int} {A B : List Int} {t : Int} {x : Nat} : (ur n A B t x).length = x:=by simp [ur]
theorem Uw {n : Int} {A B : List Int} {t : Int} {x : Nat} : ur n A B t (x + 1) = ur n A B t x ++ [SN n A B t (x : Nat)]:=by simp [ur,List.range_succ]
def T6 : au:=S0 (fun n A B t => [(aa.of (1 <= n /\ n <= 6)),(aa.of ((A.length : Int) = n * n)),(aa.of ((B.length : Int) = n * n)),(aa.of (0 <= t /\ t <= 7)),(aa.of (A.any SH = false)),(aa.of (B.any SH = false))]) (fun n A B t => ⟨[.arr 3 kI (ur n A B t (n * n).toNat) true true],.a (.sl 0 [] 0 (n * n).toNat)⟩)
theorem SX {l : List Int} (h : l.any SH = false) (i : Nat) : -1099511627776 <= gi l i /\ gi l i <= 1099511627776:=by
 by_cases hi : i < l.length
 ·have h1:=List.any_eq_false.1 h (gi l i) (by rw [show gi l i = l[i] by simp [gi,hi]];exact List.getElem_mem hi)
  unfold SH at h1
  have h2 : aQ (gi l i) (-1099511627776) 1099511627776 = true:=by simpa using h1
  exact bA.1 h2
 ·rw [show gi l i = 0 by simp [gi];rw [List.getElem?_eq_none (by omega)];rfl];omega
noncomputable def U1 : List (Nat × au):=[(70,ke)]
theorem Un : aR Tryd.prog Γ U1:=(aR.nil.cons (aj Tryd.func70 rfl rfl).fn iK)
noncomputable def UR : List (Nat × Body):=[(69,bo Tryd.f69),(93,bo Tryd.f93)]
theorem T0 : bq Tryd.prog UR:=((bq.nil.cons (cg Tryd.func93 rfl rfl)).cons (cg Tryd.func69 rfl rfl))
attribute [local irreducible] aQ aX SH
theorem T7 : au.Ok Tryd.prog Γ 80 T6:=S5 (d:=4) (aP Un T0 false 0) (aj Tryd.func80 rfl rfl) (by
 intro n A B t K ⟨hn,hA,hB,ht,ha,hb,_⟩ hK
 simp only [aa.ae] at hn hA hB ht ha hb
 have j4 : 1 <= n * n /\ n * n <= 36:=sJ hn
 repeat' ((conv => whnf);first | apply And.intro | (intro h9;try (have h8 : (_ : Bool) = _:=h9;clear h8;revert h9;subst_vars;intro h9;exact aq h9 (by assumption))))
 all_goals try (conv => whnf)
 all_goals try first | (apply Tk.mk <;> kernel_rfl) | exact ⟨ah rfl⟩ | exact ⟨rfl⟩ | exact ⟨trivial⟩
 all_goals subst_vars
 all_goals try first | rfl | contradiction | (apply Ob.mk;first | (simp only [ag,ak,aa.ae];omega) | ((try simp only [aa.ae]);(try dsimp only);omega))
 all_goals try first
  | exact True.intro
 rename_i l fn T
 rename Nat => dd
 refine ⟨Nat,fun x => x <= (n * n).toNat,fun x => ⟨aI 15 [0,1,6,7] [.a (.yl 8),.a (.p 7 [] 0 0),.a (vI (n * n)),.a (vI x)],[aI 30 [4,5,6,7,9] [.a (.p 2 [] 0 0),.a (.p 3 [] 0 0),.a (.p 4 [] 0 0),.a (.p 5 [] 0 0),.a (.p 6 [] 0 0)]],[.arr 3 kI A false false,.arr 3 kI B false false,.box true [vI n],.box true [.sl 0 [] 0 A.length],.box true [.sl 1 [] 0 B.length],.box true [vI t],.box true [.sl 9 [] 0 x],.box true [vI n],.lp l (aI 30 [4,5,6,7,9] [.a (.p 2 [] 0 0),.a (.p 3 [] 0 0),.a (.p 4 [] 0 0),.a (.p 5 [] 0 0),.a (.p 6 [] 0 0)]) (ta Tryd.f80 0 fn T dd) .ready none,.arr 3 kI (ur n A B t x) true true]⟩,fun x => (n * n).toNat - x,0,[0,1,2,3,4,5,6,7,8,1000],Nat.zero_le _,?_,?_⟩
 ·repeat' ((conv => whnf);(first | apply And.intro | intro _))
  all_goals first | rfl | trivial | exact ah rfl | exact aS ‹_› rfl | exact aT ‹_› rfl | ((repeat' first | rfl | constructor);done)
 rintro x hx
 by_cases cO : x < (n * n).toNat
 ·have p0 : decide ((x : Int) < n * n) = true:=decide_eq_true (by omega)
  have cq : 0 <= (x : Int) /\ (x : Int) < n * n:=by omega
  have Kr:=rP (n:=n) (t:=t) (x:=x) hn ht cq
  have ga : av A x = gi A x:=dP A x
  have gb : av B (aX n t x) = gi B (aX n t x).toNat:=by unfold av gi;rw [Nat.zero_add];rfl
  have b1:=SX ha x
  have b2:=SX hb (aX n t x).toNat
  have dZ:=S1 (n:=n) (A:=A) (B:=B) (t:=t) (x:=x)
  repeat' ((conv => whnf);first | apply And.intro | (intro h9;try (have h8 : (_ : Bool) = _:=h9;clear h8;revert h9;subst_vars;intro h9;exact aq h9 (by assumption))))
  all_goals try (conv => whnf)
  all_goals try first | (apply Tk.mk <;> kernel_rfl) | exact ⟨ah rfl⟩ | exact ⟨rfl⟩ | exact ⟨trivial⟩
  all_goals subst_vars
  all_goals try first | rfl | contradiction | (apply Ob.mk;first | (simp only [ag,ak,aa.ae];omega) | ((try simp only [aa.ae]);(try dsimp only);omega))
  all_goals try first
   | exact ⟨show 0 + Int.toNat (x : Int) < A.length by omega⟩
   | exact ⟨show 0 + Int.toNat (aX n t x) < B.length by omega⟩
   | exact ⟨show 0 + x = (ur n A B t x).length by omega⟩
   | exact ⟨show (ag .i64 (av A x + av B (aX n t x))).p by rw [ga,gb];simp only [ag,ak,aa.ae];omega⟩
   | exact ⟨show (x + 1) * 1 <= 1099511627776 by omega⟩
  refine ⟨x + 1,[0,1,2,3,4,5,6,7,8,9],cO,?_,by show (n * n).toNat - (x + 1) < (n * n).toNat - x;omega⟩
  repeat' ((conv => whnf);(first | apply And.intro | intro _))
  all_goals first | rfl | trivial | exact ah rfl | exact aS ‹_› rfl | exact aT ‹_› rfl | ((repeat' first | rfl | constructor);done) | exact ⟨rfl,rfl,Uw.symm⟩
 have p0 : decide ((x : Int) < n * n) = false:=decide_eq_false (by omega)
 obtain rfl : x = (n * n).toNat:=by omega
 repeat' ((conv => whnf);first | apply And.intro | (intro h9;try (have h8 : (_ : Bool) = _:=h9;clear h8;revert h9;subst_vars;intro h9;exact aq h9 (by assumption))))
 all_goals try (conv => whnf)
 all_goals try first | (apply Tk.mk <;> kernel_rfl) | exact ⟨ah rfl⟩ | exact ⟨rfl⟩ | exact ⟨trivial⟩
 all_goals subst_vars
 all_goals try first | rfl | contradiction | (apply Ob.mk;first | (simp only [ag,ak,aa.ae];omega) | ((try simp only [aa.ae]);(try dsimp only);omega))
 refine bu.base ⟨_,[9],hK,⟨rfl,rfl,by simp,trivial⟩,rfl,?_⟩
 repeat' ((conv => whnf);(first | apply And.intro | intro _))
 all_goals first | rfl | trivial)
end Go.Proofs.YthejmgnkenokpaaDoor
end
section
namespace Go.Proofs.YthejmgnkenokpaaDoor
open Go Go.Sy Go.bK
variable {Γ : bn}
def U5 (D : List Int -> List aa) (F : List Int -> Tm) : au:=.fn fun args rg => match args with
 | [.a x0] => (match ca 3 kI rg x0 with | some (q0,L0) => some (q0 ++ (D L0),F L0) | _ => none)
 | _ => none
theorem UT {f : FuncId} {b : Body} {E : Env} {d : Nat} (hP : aL Tryd.prog Γ E) (hb : bQ Tryd.prog f b) {D : List Int -> List aa} {F : List Int -> Tm} (hp : ∀ (L0 : List Int),(F L0).plain = true)
  (H : ∀ (L0 : List Int),bW (D L0) -> cQ E d b [.a (.sl 0 [] 0 L0.length)] [.arr 3 kI L0 false false] (fun x _ => iL x (F L0))) : au.Ok Tryd.prog Γ f (U5 D F):=au.er (d:=d) hP hb (by
 intro args rg q t hF hq
 split at hF
 next x0 =>
  split at hF
  next q0 L0 hx0 =>
   obtain ⟨rfl,rfl⟩:=Prod.mk.inj (Option.some.inj hF);clear hF
   rw [aH] at hq
   obtain ⟨dm,hD⟩:=hq
   obtain ⟨e0,Vn⟩:=bP (by simp [kI]) hx0 dm
   obtain ⟨p0,r0⟩:=Vn [e0] 0 1 rfl (by omega)
   refine ⟨hp _,[e0],[.a (.sl 0 [] 0 L0.length)],[.arr 3 kI L0 false false],⟨⟨p0,trivial⟩,fun r g hg => ?_⟩,H _ hD⟩
   match r,hg with
   | 0,hg => obtain rfl:=Option.some.inj hg;exact r0
  next => cases hF
 next => cases hF)
def SO (l : List Int) : Nat -> Int
 | 0 => av l 0
 | k + 1 => if av l (k + 1 : Nat) > SO l k then av l (k + 1 : Nat) else SO l k
def T4 : au:=U5 (fun l => [(aa.of (1 <= l.length /\ l.length <= 1000000))]) (fun l => .a (vI (SO l (l.length - 1))))
theorem T5 : au.Ok Tryd.prog Γ 81 T4:=UT (d:=0) (aP aR.nil bq.nil false 0) (aj Tryd.func81 rfl rfl) (fun _ => rfl) (by
 intro l ⟨hl,_⟩
 simp only [aa.ae] at hl
 have z1 : decide ((l.length : Int) < 1) = false:=decide_eq_false (by omega)
 repeat' ((conv => whnf);first | apply And.intro | (intro h9;try (have h8 : (_ : Bool) = _:=h9;clear h8;revert h9;subst_vars;intro h9;exact aq h9 (by assumption))))
 all_goals try (conv => whnf)
 all_goals try first | (apply Tk.mk <;> kernel_rfl) | exact ⟨ah rfl⟩ | exact ⟨rfl⟩ | exact ⟨trivial⟩
 all_goals subst_vars
 all_goals try first | rfl | contradiction | (apply Ob.mk;first | (simp only [ag,ak,aa.ae];omega) | ((try simp only [aa.ae]);(try dsimp only);omega))
 all_goals try first
  | exact ⟨show 0 + Int.toNat (0 : Int) < l.length by omega⟩
 refine ⟨Nat,fun i => 1 <= i /\ i <= l.length,fun i => ⟨aI 25 [0,3,4] [.a (.sl 0 [] 0 l.length),.a (vI (SO l (i - 1))),.a (vI i)],[],[.arr 3 kI l false false]⟩,fun i => l.length - i,1,[],⟨Nat.le_refl _,hl.1⟩,?_,?_⟩
 ·repeat' ((conv => whnf);(first | apply And.intro | intro _))
  all_goals first | rfl | trivial | exact ah rfl | exact aS ‹_› rfl | exact aT ‹_› rfl | ((repeat' first | rfl | constructor);done)
 rintro i ⟨hi0,hi⟩
 by_cases hi1 : i < l.length
 ·have p0 : decide ((i : Int) < (l.length : Int)) = true:=decide_eq_true (by omega)
  have hs : SO l (i + 1 - 1) = if av l (i : Nat) > SO l (i - 1) then av l (i : Nat) else SO l (i - 1):=by
   obtain ⟨j,rfl⟩ : ∃ j,i = j + 1:=⟨i - 1,by omega⟩
   rw [Nat.add_sub_cancel,Nat.add_sub_cancel,SO]
  repeat' ((conv => whnf);first | apply And.intro | (intro h9;try (have h8 : (_ : Bool) = _:=h9;clear h8;revert h9;subst_vars;intro h9;exact aq h9 (by assumption))))
  all_goals try (conv => whnf)
  all_goals try first | (apply Tk.mk <;> kernel_rfl) | exact ⟨ah rfl⟩ | exact ⟨rfl⟩ | exact ⟨trivial⟩
  all_goals subst_vars
  all_goals try first | rfl | contradiction | (apply Ob.mk;first | (simp only [ag,ak,aa.ae];omega) | ((try simp only [aa.ae]);(try dsimp only);omega))
  all_goals try first
   | exact ⟨show 0 + Int.toNat (i : Int) < l.length by omega⟩
  refine ⟨i + 1,[],⟨Nat.le_add_left ..,hi1⟩,?_,by show l.length - (i + 1) < l.length - i;omega⟩
  repeat' ((conv => whnf);(first | apply And.intro | intro _))
  all_goals first | rfl | trivial | exact ah rfl | exact aS ‹_› rfl | exact aT ‹_› rfl | ((repeat' first | rfl | constructor);done) | exact hs.symm
 have p0 : decide ((i : Int) < (l.length : Int)) = false:=decide_eq_false (by omega)
 obtain rfl : i = l.length:=by omega
 repeat' ((conv => whnf);first | apply And.intro | (intro h9;try (have h8 : (_ : Bool) = _:=h9;clear h8;revert h9;subst_vars;intro h9;exact aq h9 (by assumption))))
 all_goals try (conv => whnf)
 all_goals try first | (apply Tk.mk <;> kernel_rfl) | exact ⟨ah rfl⟩ | exact ⟨rfl⟩ | exact ⟨trivial⟩
 all_goals subst_vars
 all_goals try first | rfl | contradiction | (apply Ob.mk;first | (simp only [ag,ak,aa.ae];omega) | ((try simp only [aa.ae]);(try dsimp only);omega)))
theorem Tn {n : Int} {l : List Int} (h : SD n l = true) : (l.length : Int) = n * n /\ l.any SH = false:=by
 unfold SD at h
 simp only [Bool.and_eq_true,Bool.not_eq_true',beq_iff_eq] at h
 exact h
attribute [local irreducible] aQ SD ur SO
end Go.Proofs.YthejmgnkenokpaaDoor
end
