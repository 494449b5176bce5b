/-
  Texts of the claims on chapter 3: Yk13. No condition: lemmas and contracts.
-/
import Derived.Test.YthejmgnkenokpaaDoorYk12
import Derived.Test.YthejmgnkenokpaaDoorYk11
set_option linter.all false
set_option maxRecDepth 100000
set_option maxHeartbeats 4000000
section
namespace Go.Proofs.YthejmgnkenokpaaDoor
open Go Go.Sy Go.bK
variable {Γ : bn}
def aa3 (D : Int -> Int -> List Wk -> Int -> List aa) (R : Int -> Int -> List Wk -> Int -> cM) : au:=.new fun args rg K => match args with
 | [.agg [.v (.int .i64 n0),.v (.int .i64 n1),x0],.a (.v (.int .i64 n2))] => (match ca 60 kW rg x0 with | some (q0,L0) => bk false (q0 ++ (D n0 n1 L0 n2)) (K (R n0 n1 L0 n2)) | _ => False)
 | _ => False
theorem aaU {f : FuncId} {b : Body} {E : Env} {d : Nat} (hP : aL Tryd.prog Γ E) (hb : bQ Tryd.prog f b) {D : Int -> Int -> List Wk -> Int -> List aa} {R : Int -> Int -> List Wk -> Int -> cM}
  (H : ∀ (n0 : Int) (n1 : Int) (L0 : List Wk) (n2 : Int) (K : cM -> Prop),bW (D n0 n1 L0 n2) -> K (R n0 n1 L0 n2) -> cQ E d b [.agg [vI n0,vI n1,.sl 0 [] 0 L0.length],.a (vI n2)] [.arr 60 kW L0 false false] (bu K)) : au.Ok Tryd.prog Γ f (aa3 D R):=au.fM (d:=d) hP hb (by
 intro args rg K hF
 split at hF
 next n0 n1 x0 n2 =>
  split at hF
  next q0 L0 hx0 =>
   rw [aV,aH] at hF
   obtain ⟨⟨dm,hD⟩,hK⟩:=hF
   obtain ⟨e0,Vn⟩:=bP (by simp [kW]) hx0 dm
   obtain ⟨p0,r0⟩:=Vn [e0] 0 1 rfl (by omega)
   refine ⟨[e0],[.agg [vI n0,vI n1,.sl 0 [] 0 L0.length],.a (vI n2)],[.arr 60 kW L0 false false],⟨⟨⟨rfl,rfl,p0,trivial⟩,rfl,trivial⟩,fun r g hg => ?_⟩,bu K,H _ _ _ _ K hD hK,fun x st h => h⟩
   match r,hg with
   | 0,hg => obtain rfl:=Option.some.inj hg;exact r0
  next => exact hF.elim
 next => exact hF.elim)
def o5 : au:=aa3 (fun n P L p => [(aa.of (dY P L = true)),(aa.of (P <= 6)),(aa.of (L.length <= 800000)),(aa.of (0 <= p /\ p <= P - 1)),(aa.of (1 <= n /\ n <= 6))]) (fun n P L p => ⟨[.arr 60 kW (yN n P L p) true true],.a (.sl 0 [] 0 (yN n P L p).length)⟩)
noncomputable def xw : List (Nat × au):=[(23,ej)]
theorem Ky : aR Tryd.prog Γ xw:=(aR.nil.cons (aj Tryd.func23 rfl rfl).fn kv)
def aaY (id : Nat) : Option OT:=match Nat.beq id 13 with | true => some (.take 1 (.alt 0 (.alt 2 (.alt 3 (.alt 4 (.alt 5 (.alt 6 (.take 7 (.alt 8 .fin .fin)) .fin) .fin) .fin) (.alt 4 (.alt 3 (.alt 5 (.alt 6 (.take 7 (.alt 8 .fin .fin)) .fin) .fin) (.alt 5 (.alt 3 (.alt 6 (.take 7 (.alt 8 .fin .fin)) .fin) .fin) .fin)) .fin)) (.alt 4 (.alt 2 (.alt 3 (.alt 5 (.alt 6 (.take 7 (.alt 8 .fin .fin)) .fin) .fin) (.alt 5 (.alt 3 (.alt 6 (.take 7 (.alt 8 .fin .fin)) .fin) .fin) .fin)) (.alt 5 (.alt 2 (.alt 3 (.alt 6 (.take 7 (.alt 8 .fin .fin)) .fin) .fin) .fin) .fin)) .fin)) (.alt 2 (.alt 0 (.alt 3 (.alt 4 (.alt 5 (.alt 6 (.take 7 (.alt 8 .fin .fin)) .fin) .fin) .fin) (.alt 4 (.alt 3 (.alt 5 (.alt 6 (.take 7 (.alt 8 .fin .fin)) .fin) .fin) (.alt 5 (.alt 3 (.alt 6 (.take 7 (.alt 8 .fin .fin)) .fin) .fin) .fin)) .fin)) (.alt 4 (.alt 0 (.alt 3 (.alt 5 (.alt 6 (.take 7 (.alt 8 .fin .fin)) .fin) .fin) (.alt 5 (.alt 3 (.alt 6 (.take 7 (.alt 8 .fin .fin)) .fin) .fin) .fin)) (.alt 5 (.alt 0 (.alt 3 (.alt 6 (.take 7 (.alt 8 .fin .fin)) .fin) .fin) .fin) .fin)) .fin)) (.alt 4 (.alt 0 (.alt 2 (.alt 3 (.alt 5 (.alt 6 (.take 7 (.alt 8 .fin .fin)) .fin) .fin) (.alt 5 (.alt 3 (.alt 6 (.take 7 (.alt 8 .fin .fin)) .fin) .fin) .fin)) (.alt 5 (.alt 2 (.alt 3 (.alt 6 (.take 7 (.alt 8 .fin .fin)) .fin) .fin) .fin) .fin)) (.alt 2 (.alt 0 (.alt 3 (.alt 5 (.alt 6 (.take 7 (.alt 8 .fin .fin)) .fin) .fin) (.alt 5 (.alt 3 (.alt 6 (.take 7 (.alt 8 .fin .fin)) .fin) .fin) .fin)) (.alt 5 (.alt 0 (.alt 3 (.alt 6 (.take 7 (.alt 8 .fin .fin)) .fin) .fin) .fin) .fin)) (.alt 5 (.alt 0 (.alt 2 (.alt 3 (.alt 6 (.take 7 (.alt 8 .fin .fin)) .fin) .fin) .fin) (.alt 2 (.alt 0 (.alt 3 (.alt 6 (.take 7 (.alt 8 .fin .fin)) .fin) .fin) .fin) .fin)) .fin))) .fin)))) | false => none
noncomputable def aaK : Env:={ jV.env xw [] false 0 with tree:=aaY }
noncomputable def aaS : Env:={ aaK with cut:=fun t => Nat.beq t 2013 }
theorem w8 : aL Tryd.prog Γ aaS:=((aP Ky bq.nil false 0).vU _).wy _
theorem aaE {L : List Wk} {w : Wk} : List.drop 0 (List.take L.length (List.drop 0 L)) ++ List.take 1 (List.drop 0 [w]) = L ++ [w]:=by simp
attribute [local irreducible] TD TL Vs bf lP eW af
theorem u9 : au.Ok Tryd.prog Γ 41 o5:=aaU (d:=0) w8 (aj Tryd.func41 rfl rfl) (by
 intro n P L p K ⟨hw,hP,hl,hp,hn,_⟩ hK
 simp only [aa.ae] at hw hP hl hp hn
 have lS:=cW.1 hw
 repeat' ((conv => whnf);first | apply And.intro | (intro h9;try (have h8 : (_ : Bool) = _:=h9;clear h8;revert h9;subst_vars;intro h9;exact aq h9 (by assumption))))
 all_goals try (conv => whnf)
 all_goals try first | (apply Tk.mk <;> kernel_rfl) | exact ⟨ah rfl⟩ | exact ⟨rfl⟩ | exact ⟨trivial⟩
 all_goals subst_vars
 all_goals try first | rfl | contradiction | (apply Ob.mk;first | (simp only [ag,ak,aa.ae];omega) | ((try simp only [aa.ae]);(try dsimp only);omega))
 refine ⟨Nat,fun i => i <= P.toNat,fun i => ⟨aI 51 [1,2,5,6] [.a (vI p),.a (.p 1 [] 0 0),.a (.sl 2 [] 0 (TD n P L p i).length),.a (vI i)],[],[.arr 60 kW L false false,.box true [vI n,vI P,.sl 0 [] 0 L.length],.arr 60 kW (TD n P L p i) true true]⟩,fun i => P.toNat - i,0,[0,1,1000],Nat.zero_le _,?_,?_⟩
 ·have a0 : TD n P L p 0 = []:=by unfold TD;rfl
  repeat' ((conv => whnf);(first | apply And.intro | intro _))
  all_goals first | rfl | trivial | exact ah rfl | exact aS ‹_› rfl | exact aT ‹_› rfl | ((repeat' first | rfl | constructor);done) | exact a0 | (rw [a0];rfl)
 rintro i hi
 by_cases hi1 : i < P.toNat
 ·have p0 : decide ((i : Int) < P) = true:=decide_eq_true (by omega)
  repeat' ((conv => whnf);first | apply And.intro | (intro h9;try (have h8 : (_ : Bool) = _:=h9;clear h8;revert h9;subst_vars;intro h9;exact aq h9 (by assumption))))
  all_goals try (conv => whnf)
  all_goals try first | (apply Tk.mk <;> kernel_rfl) | exact ⟨ah rfl⟩ | exact ⟨rfl⟩ | exact ⟨trivial⟩
  all_goals subst_vars
  all_goals try first | rfl | contradiction | (apply Ob.mk;first | (simp only [ag,ak,aa.ae];omega) | ((try simp only [aa.ae]);(try dsimp only);omega))
  refine ⟨Nat,fun j => j <= P.toNat - 1 - i,fun j => ⟨aI 51 [1,2,5,6,7] [.a (vI p),.a (.p 1 [] 0 0),.a (.sl 2 [] 0 (TD n P L p i ++ TL n L p i j).length),.a (vI i),.a (vI ((i : Nat) + 1 + (j : Nat)))],[],[.arr 60 kW L false false,.box true [vI n,vI P,.sl 0 [] 0 L.length],.arr 60 kW (TD n P L p i ++ TL n L p i j) true true]⟩,fun j => P.toNat - 1 - i - j,0,[],Nat.zero_le _,?_,?_⟩
  ·have a0 : TD n P L p i ++ TL n L p i 0 = TD n P L p i:=by unfold TL;rw [List.append_nil]
   have a1:=congrArg List.length a0
   repeat' ((conv => whnf);(first | apply And.intro | intro _))
   all_goals first | rfl | trivial | exact ah rfl | exact aS ‹_› rfl | exact aT ‹_› rfl | ((repeat' first | rfl | constructor);done) | exact a0.symm | exact a1.symm | exact ⟨rfl,rfl,a0.symm⟩ | omega
  rintro j hj
  by_cases Ho : j < P.toNat - 1 - i
  ·have p1 : decide ((i : Int) + 1 + (j : Int) < P) = true:=decide_eq_true (by omega)
   repeat' ((conv => whnf);first | apply And.intro | (intro h9;try (have h8 : (_ : Bool) = _:=h9;clear h8;revert h9;subst_vars;intro h9;exact aq h9 (by assumption))))
   all_goals try (conv => whnf)
   all_goals try first | (apply Tk.mk <;> kernel_rfl) | exact ⟨ah rfl⟩ | exact ⟨rfl⟩ | exact ⟨trivial⟩
   all_goals subst_vars
   all_goals try first | rfl | contradiction | (apply Ob.mk;first | (simp only [ag,ak,aa.ae];omega) | ((try simp only [aa.ae]);(try dsimp only);omega))
   refine ⟨Nat,fun t => t <= 8,fun t => ⟨aI 51 [1,2,5,6,7,8] [.a (vI p),.a (.p 1 [] 0 0),.a (.sl 2 [] 0 (TD n P L p i ++ TL n L p i j ++ Vs n L p i ((i : Nat) + 1 + (j : Nat)) t).length),.a (vI i),.a (vI ((i : Nat) + 1 + (j : Nat))),.a (vI t)],[],[.arr 60 kW L false false,.box true [vI n,vI P,.sl 0 [] 0 L.length],.arr 60 kW (TD n P L p i ++ TL n L p i j ++ Vs n L p i ((i : Nat) + 1 + (j : Nat)) t) true true]⟩,fun t => 8 - t,0,[],Nat.zero_le _,?_,?_⟩
   ·have a0 : TD n P L p i ++ TL n L p i j ++ Vs n L p i ((i : Nat) + 1 + (j : Nat)) 0 = TD n P L p i ++ TL n L p i j:=by unfold Vs;rw [List.append_nil]
    have a1:=congrArg List.length a0
    repeat' ((conv => whnf);(first | apply And.intro | intro _))
    all_goals first | rfl | trivial | exact ah rfl | exact aS ‹_› rfl | exact aT ‹_› rfl | ((repeat' first | rfl | constructor);done) | exact a0.symm | exact a1.symm | exact ⟨rfl,rfl,a0.symm⟩
   rintro t ht
   by_cases ht1 : t < 8
   ·have p2 : decide ((t : Int) < 8) = true:=decide_eq_true (by omega)
    have hwk : eJ P ((i : Int),(i : Int) + 1 + (j : Int),(t : Int)) = true:=by
     simp only [eJ,Bool.and_eq_true,bA,bne_iff_ne,ne_eq];omega
    have VX : dY P (L ++ [((i : Int),(i : Int) + 1 + (j : Int),(t : Int))]) = true:=cW.2 (fun w h => by
     rcases List.mem_append.1 h with h | h
     ·exact lS w h
     ·rw [List.mem_singleton] at h;rw [h];exact hwk)
    have hal:=V6 n P L p i
    have Hg:=V7 n L p i j
    have RK:=V9 n L p i ((i : Nat) + 1 + (j : Nat)) t
    have hac : (TD n P L p i ++ TL n L p i j ++ Vs n L p i ((i : Nat) + 1 + (j : Nat)) t).length <= 1000:=by
     rw [List.length_append,List.length_append]
     have : 8 * P.toNat * i <= 8 * 6 * 6:=Nat.mul_le_mul (by omega) (by omega)
     omega
    have Zb : eW n (af (L ++ [((i : Int),(i : Int) + 1 + (j : Int),(t : Int))]) p) = lP n (af (L ++ [((i : Int),(i : Int) + 1 + (j : Int),(t : Int))]) p):=by
     have hg:=nK (cW.1 VX) hP hp
     rw [n4 hg hn,Ax hg hn]
    repeat' ((conv => whnf);first | apply And.intro | (intro h9;try (have h8 : (_ : Bool) = _:=h9;clear h8;revert h9;subst_vars;intro h9;exact aq h9 (by assumption))))
    all_goals try (conv => whnf)
    all_goals try first | (apply Tk.mk <;> kernel_rfl) | exact ⟨ah rfl⟩ | exact ⟨rfl⟩ | exact ⟨trivial⟩
    all_goals subst_vars
    all_goals try first | rfl | contradiction | (apply Ob.mk;first | (simp only [ag,ak,aa.ae];omega) | ((try simp only [aa.ae]);(try dsimp only);omega))
    refine ⟨Unit,fun _ => True,fun _ => ⟨aI 51 [1,2,5,6,7,8,9,10] [.a (vI p),.a (.p 1 [] 0 0),.a (.sl 2 [] 0 (TD n P L p i ++ TL n L p i j ++ Vs n L p i ((i : Nat) + 1 + (j : Nat)) t).length),.a (vI i),.a (vI ((i : Nat) + 1 + (j : Nat))),.a (vI t),.a (.p 3 [] 0 0),.a (.p 4 [] 0 0)],[],[.arr 60 kW L false false,.box true [vI n,vI P,.sl 0 [] 0 L.length],.arr 60 kW (TD n P L p i ++ TL n L p i j ++ Vs n L p i ((i : Nat) + 1 + (j : Nat)) t) true true,.box true [vI i,vI ((i : Nat) + 1 + (j : Nat)),vI t],.box true [vI n,vI P,.sl 5 [] 0 (L.length + 1)],.arr 60 kW (L ++ [((i : Int),(i : Int) + 1 + (j : Int),(t : Int))]) true true]⟩,?_,?_⟩
    ·repeat' ((conv => whnf);first | apply And.intro | (intro h9;try (have h8 : (_ : Bool) = _:=h9;clear h8;revert h9;subst_vars;intro h9;exact aq h9 (by assumption))))
     all_goals try (conv => whnf)
     all_goals try first | (apply Tk.mk <;> kernel_rfl) | exact ⟨ah rfl⟩ | exact ⟨rfl⟩ | exact ⟨trivial⟩
     all_goals subst_vars
     all_goals try first | rfl | contradiction | (apply Ob.mk;first | (simp only [ag,ak,aa.ae];omega) | ((try simp only [aa.ae]);(try dsimp only);omega))
     all_goals try first
      | exact True.intro
      | exact ⟨show L.length * 3 <= 1099511627776 by omega⟩
      | exact ⟨show (L.length + 1) * 3 <= 1099511627776 by omega⟩
      | exact ⟨show 0 + L.length = (List.take L.length (List.drop 0 L)).length by simp⟩
      | exact ⟨show 0 + L.length <= L.length by omega⟩
     all_goals first
      | (refine ⟨(),[0,1,2,3,4,5],trivial,?_⟩
         repeat' ((conv => whnf);(first | apply And.intro | intro _))
         all_goals first | rfl | trivial | exact ah rfl | exact aS ‹_› rfl | exact aT ‹_› rfl | ((repeat' first | rfl | constructor);done) | exact ⟨rfl,rfl,aaE⟩
         done)
      | (refine ⟨(),[0,1,2,3,4,6],trivial,?_⟩
         repeat' ((conv => whnf);(first | apply And.intro | intro _))
         all_goals first | rfl | trivial | exact ah rfl | exact aS ‹_› rfl | exact aT ‹_› rfl | ((repeat' first | rfl | constructor);done) | exact ⟨rfl,rfl,aaE⟩
         done)
    rintro ⟨⟩ -
    obtain hb0 | hb0 : (eW n (af (L ++ [((i : Int),(i : Int) + 1 + (j : Int),(t : Int))]) p) == 0) = false \/ (eW n (af (L ++ [((i : Int),(i : Int) + 1 + (j : Int),(t : Int))]) p) == 0) = true:=by cases (eW n (af (L ++ [((i : Int),(i : Int) + 1 + (j : Int),(t : Int))]) p) == 0) <;> simp
    ·have hb:=(congrArg (fun v : Int => v == 0) Zb).symm.trans hb0
     have hx:=Xk (n:=n) (L:=L) (p:=p) (a:=(i : Int)) (b:=(i : Nat) + 1 + (j : Nat)) (t:=t) hb
     have a0 : (TD n P L p i ++ TL n L p i j ++ Vs n L p i ((i : Nat) + 1 + (j : Nat)) t) = TD n P L p i ++ TL n L p i j ++ Vs n L p i ((i : Nat) + 1 + (j : Nat)) (t + 1):=by rw [hx]
     have a1:=congrArg List.length a0
     repeat' ((conv => whnf);first | apply And.intro | (intro h9;try (have h8 : (_ : Bool) = _:=h9;clear h8;revert h9;subst_vars;intro h9;exact aq h9 (by assumption))))
     all_goals try (conv => whnf)
     all_goals try first | (apply Tk.mk <;> kernel_rfl) | exact ⟨ah rfl⟩ | exact ⟨rfl⟩ | exact ⟨trivial⟩
     all_goals subst_vars
     all_goals try first | rfl | contradiction | (apply Ob.mk;first | (simp only [ag,ak,aa.ae];omega) | ((try simp only [aa.ae]);(try dsimp only);omega))
     all_goals try first
      | exact ⟨show L.length + 1 = (L ++ [((i : Int),(i : Int) + 1 + (j : Int),(t : Int))]).length by simp⟩
      | exact ⟨VX⟩
      | exact ⟨show (L ++ [((i : Int),(i : Int) + 1 + (j : Int),(t : Int))]).length <= 1000000 by rw [List.length_append,List.length_singleton];omega⟩
     refine ⟨t + 1,[0,1,2],ht1,?_,by show 8 - (t + 1) < 8 - t;omega⟩
     repeat' ((conv => whnf);(first | apply And.intro | intro _))
     all_goals first | rfl | trivial | exact ah rfl | exact aS ‹_› rfl | exact aT ‹_› rfl | ((repeat' first | rfl | constructor);done) | exact a1 | exact ⟨rfl,rfl,a0⟩
    have hb:=(congrArg (fun v : Int => v == 0) Zb).symm.trans hb0
    have hx:=WT (n:=n) (L:=L) (p:=p) (a:=(i : Int)) (b:=(i : Nat) + 1 + (j : Nat)) (t:=t) hb
    have a0 : (TD n P L p i ++ TL n L p i j ++ Vs n L p i ((i : Nat) + 1 + (j : Nat)) t) ++ [((i : Int),(i : Int) + 1 + (j : Int),(t : Int))] = TD n P L p i ++ TL n L p i j ++ Vs n L p i ((i : Nat) + 1 + (j : Nat)) (t + 1):=by rw [hx,<- List.append_assoc]
    have a1:=congrArg List.length a0
    rw [List.length_append,List.length_singleton] at a1
    repeat' ((conv => whnf);first | apply And.intro | (intro h9;try (have h8 : (_ : Bool) = _:=h9;clear h8;revert h9;subst_vars;intro h9;exact aq h9 (by assumption))))
    all_goals try (conv => whnf)
    all_goals try first | (apply Tk.mk <;> kernel_rfl) | exact ⟨ah rfl⟩ | exact ⟨rfl⟩ | exact ⟨trivial⟩
    all_goals subst_vars
    all_goals try first | rfl | contradiction | (apply Ob.mk;first | (simp only [ag,ak,aa.ae];omega) | ((try simp only [aa.ae]);(try dsimp only);omega))
    all_goals try first
     | exact ⟨show L.length + 1 = (L ++ [((i : Int),(i : Int) + 1 + (j : Int),(t : Int))]).length by simp⟩
     | exact ⟨VX⟩
     | exact ⟨show (L ++ [((i : Int),(i : Int) + 1 + (j : Int),(t : Int))]).length <= 1000000 by rw [List.length_append,List.length_singleton];omega⟩
     | exact ⟨Nat.zero_add _⟩
     | exact ⟨show ((TD n P L p i ++ TL n L p i j ++ Vs n L p i ((i : Nat) + 1 + (j : Nat)) t).length + 1) * 3 <= 1099511627776 by omega⟩
    refine ⟨t + 1,[0,1,2],ht1,?_,by show 8 - (t + 1) < 8 - t;omega⟩
    repeat' ((conv => whnf);(first | apply And.intro | intro _))
    all_goals first | rfl | trivial | exact ah rfl | exact aS ‹_› rfl | exact aT ‹_› rfl | ((repeat' first | rfl | constructor);done) | exact a1 | exact ⟨rfl,rfl,a0⟩
   have p2 : decide ((t : Int) < 8) = false:=decide_eq_false (by omega)
   obtain rfl : t = 8:=by omega
   have a0 : TD n P L p i ++ TL n L p i j ++ Vs n L p i ((i : Nat) + 1 + (j : Nat)) 8 = TD n P L p i ++ TL n L p i (j + 1):=by
    conv => rhs;unfold TL
    rw [List.append_assoc]
   have a1:=congrArg List.length a0
   repeat' ((conv => whnf);first | apply And.intro | (intro h9;try (have h8 : (_ : Bool) = _:=h9;clear h8;revert h9;subst_vars;intro h9;exact aq h9 (by assumption))))
   all_goals try (conv => whnf)
   all_goals try first | (apply Tk.mk <;> kernel_rfl) | exact ⟨ah rfl⟩ | exact ⟨rfl⟩ | exact ⟨trivial⟩
   all_goals subst_vars
   all_goals try first | rfl | contradiction | (apply Ob.mk;first | (simp only [ag,ak,aa.ae];omega) | ((try simp only [aa.ae]);(try dsimp only);omega))
   refine ⟨j + 1,[],Ho,?_,by show P.toNat - 1 - i - (j + 1) < P.toNat - 1 - i - j;omega⟩
   repeat' ((conv => whnf);(first | apply And.intro | intro _))
   all_goals first | rfl | trivial | exact ah rfl | exact aS ‹_› rfl | exact aT ‹_› rfl | ((repeat' first | rfl | constructor);done) | exact a1 | exact ⟨rfl,rfl,a0⟩ | omega
  have p1 : decide ((i : Int) + 1 + (j : Int) < P) = false:=decide_eq_false (by omega)
  have a0 : TD n P L p i ++ TL n L p i j = TD n P L p (i + 1):=by
   conv => rhs;unfold TD
   rw [show P.toNat - 1 - i = j by omega]
  have a1:=congrArg List.length a0
  repeat' ((conv => whnf);first | apply And.intro | (intro h9;try (have h8 : (_ : Bool) = _:=h9;clear h8;revert h9;subst_vars;intro h9;exact aq h9 (by assumption))))
  all_goals try (conv => whnf)
  all_goals try first | (apply Tk.mk <;> kernel_rfl) | exact ⟨ah rfl⟩ | exact ⟨rfl⟩ | exact ⟨trivial⟩
  all_goals subst_vars
  all_goals try first | rfl | contradiction | (apply Ob.mk;first | (simp only [ag,ak,aa.ae];omega) | ((try simp only [aa.ae]);(try dsimp only);omega))
  refine ⟨i + 1,[],hi1,?_,by show P.toNat - (i + 1) < P.toNat - i;omega⟩
  repeat' ((conv => whnf);(first | apply And.intro | intro _))
  all_goals first | rfl | trivial | exact ah rfl | exact aS ‹_› rfl | exact aT ‹_› rfl | ((repeat' first | rfl | constructor);done) | exact a1 | exact ⟨rfl,rfl,a0⟩ | omega
 have p0 : decide ((i : Int) < P) = false:=decide_eq_false (by omega)
 obtain rfl : i = P.toNat:=by omega
 repeat' ((conv => whnf);first | apply And.intro | (intro h9;try (have h8 : (_ : Bool) = _:=h9;clear h8;revert h9;subst_vars;intro h9;exact aq h9 (by assumption))))
 all_goals try (conv => whnf)
 all_goals try first | (apply Tk.mk <;> kernel_rfl) | exact ⟨ah rfl⟩ | exact ⟨rfl⟩ | exact ⟨trivial⟩
 all_goals subst_vars
 all_goals try first | rfl | contradiction | (apply Ob.mk;first | (simp only [ag,ak,aa.ae];omega) | ((try simp only [aa.ae]);(try dsimp only);omega))
 refine bu.base ⟨_,[2],hK,⟨rfl,rfl,by simp,trivial⟩,rfl,?_⟩
 repeat' ((conv => whnf);(first | apply And.intro | intro _))
 all_goals first | rfl | trivial)
end Go.Proofs.YthejmgnkenokpaaDoor
end
section
namespace Go.Proofs.YthejmgnkenokpaaDoor
open Go Go.Sy Go.bK
variable {Γ : bn}
def vf : au:=xL (fun _ _ _ _ => []) (fun _ _ _ _ => bl true)
theorem abn (w : Wk) : (!(w.1 == w.1 && (w.2.1 == w.2.1 && (w.2.2 == w.2.2 && true)))) = false:=by simp
noncomputable def abv : List (Nat × au):=[(15,Df),(40,Xl),(20,uD),(41,o5),(16,tC)]
theorem abc : aR Tryd.prog Γ abv:=(((((aR.nil.cons (aj Tryd.func16 rfl rfl).fn sW).cons (aj Tryd.func41 rfl rfl).fn u9).cons (aj Tryd.func20 rfl rfl).fn yH).cons (aj Tryd.func40 rfl rfl).fn Xx).cons (aj Tryd.func15 rfl rfl).fn EJ)
attribute [local irreducible] yN bf
theorem o4 : au.Ok Tryd.prog Γ 9 vf:=mG (d:=0) (aP abc bq.nil false 0) (aj Tryd.func9 rfl rfl) (fun _ _ _ _ => rfl) (by
 intro n P L p _
 obtain h0 | h0 : decide ((L.length : Int) <= 20) = false \/ decide ((L.length : Int) <= 20) = true:=by cases decide ((L.length : Int) <= 20) <;> simp
 ·have n0 : (!decide ((L.length : Int) <= 20)) = true:=by rw [h0];rfl
  repeat' ((conv => whnf);first | apply And.intro | (intro h9;try (have h8 : (_ : Bool) = _:=h9;clear h8;revert h9;subst_vars;intro h9;exact aq h9 (by assumption))))
  all_goals try (conv => whnf)
  all_goals try first | (apply Tk.mk <;> kernel_rfl) | exact ⟨ah rfl⟩ | exact ⟨rfl⟩ | exact ⟨trivial⟩
  all_goals subst_vars
  all_goals try first | rfl | contradiction | (apply Ob.mk;first | (simp only [ag,ak,aa.ae];omega) | ((try simp only [aa.ae]);(try dsimp only);omega))
 have n0 : (!decide ((L.length : Int) <= 20)) = false:=by rw [h0];rfl
 have ZX:=of_decide_eq_true h0
 have s0 : (bf n P L p == bf n P L p) = true:=beq_self_eq_true _
 obtain q1 | q1 : (bf n P L p == 0) = false \/ (bf n P L p == 0) = true:=by cases bf n P L p == 0 <;> simp
 ·have q2 : (bf n P L p != 0) = true:=by unfold bne;rw [q1];rfl
  obtain h4 | h4 : decide (P > 4) = false \/ decide (P > 4) = true:=by cases decide (P > 4) <;> simp
  ·repeat' ((conv => whnf);first | apply And.intro | (intro h9;try (have h8 : (_ : Bool) = _:=h9;clear h8;revert h9;subst_vars;intro h9;exact aq h9 (by assumption))))
   all_goals try (conv => whnf)
   all_goals try first | (apply Tk.mk <;> kernel_rfl) | exact ⟨ah rfl⟩ | exact ⟨rfl⟩ | exact ⟨trivial⟩
   all_goals subst_vars
   all_goals try first | rfl | contradiction | (apply Ob.mk;first | (simp only [ag,ak,aa.ae];omega) | ((try simp only [aa.ae]);(try dsimp only);omega))
   all_goals first
    | exact ⟨show L.length <= 1000000 by omega⟩
    | exact ⟨show L.length <= 800000 by omega⟩
  obtain h5 | h5 : decide (P <= 6) = true \/ decide (P <= 6) = false:=by cases decide (P <= 6) <;> simp
  ·repeat' ((conv => whnf);first | apply And.intro | (intro h9;try (have h8 : (_ : Bool) = _:=h9;clear h8;revert h9;subst_vars;intro h9;exact aq h9 (by assumption))))
   all_goals try (conv => whnf)
   all_goals try first | (apply Tk.mk <;> kernel_rfl) | exact ⟨ah rfl⟩ | exact ⟨rfl⟩ | exact ⟨trivial⟩
   all_goals subst_vars
   all_goals try first | rfl | contradiction | (apply Ob.mk;first | (simp only [ag,ak,aa.ae];omega) | ((try simp only [aa.ae]);(try dsimp only);omega))
  repeat' ((conv => whnf);first | apply And.intro | (intro h9;try (have h8 : (_ : Bool) = _:=h9;clear h8;revert h9;subst_vars;intro h9;exact aq h9 (by assumption))))
  all_goals try (conv => whnf)
  all_goals try first | (apply Tk.mk <;> kernel_rfl) | exact ⟨ah rfl⟩ | exact ⟨rfl⟩ | exact ⟨trivial⟩
  all_goals subst_vars
  all_goals try first | rfl | contradiction | (apply Ob.mk;first | (simp only [ag,ak,aa.ae];omega) | ((try simp only [aa.ae]);(try dsimp only);omega))
  all_goals first
   | exact ⟨show L.length <= 1000000 by omega⟩
   | exact ⟨show L.length <= 800000 by omega⟩
 have q2 : (bf n P L p != 0) = false:=by unfold bne;rw [q1];rfl
 obtain ⟨hw,hP,hp,hn⟩:=gg (eq_of_beq q1)
 obtain h4 | h4 : decide (P > 4) = true \/ decide (P > 4) = false:=by cases decide (P > 4) <;> simp
 ·have h5 : decide (P <= 6) = true:=decide_eq_true hP
  repeat' ((conv => whnf);first | apply And.intro | (intro h9;try (have h8 : (_ : Bool) = _:=h9;clear h8;revert h9;subst_vars;intro h9;exact aq h9 (by assumption))))
  all_goals try (conv => whnf)
  all_goals try first | (apply Tk.mk <;> kernel_rfl) | exact ⟨ah rfl⟩ | exact ⟨rfl⟩ | exact ⟨trivial⟩
  all_goals subst_vars
  all_goals try first | rfl | contradiction | (apply Ob.mk;first | (simp only [ag,ak,aa.ae];omega) | ((try simp only [aa.ae]);(try dsimp only);omega))
 have e1 : (((yN n P L p).length : Int) != ((yN n P L p).length : Int)) = false:=bne_self_eq_false _
 repeat' ((conv => whnf);first | apply And.intro | (intro h9;try (have h8 : (_ : Bool) = _:=h9;clear h8;revert h9;subst_vars;intro h9;exact aq h9 (by assumption))))
 all_goals try (conv => whnf)
 all_goals try first | (apply Tk.mk <;> kernel_rfl) | exact ⟨ah rfl⟩ | exact ⟨rfl⟩ | exact ⟨trivial⟩
 all_goals subst_vars
 all_goals try first | rfl | contradiction | (apply Ob.mk;first | (simp only [ag,ak,aa.ae];omega) | ((try simp only [aa.ae]);(try dsimp only);omega))
 all_goals try first
  | exact ⟨hw⟩
  | exact ⟨show L.length <= 1000000 by omega⟩
  | exact ⟨show L.length <= 800000 by omega⟩
 refine ⟨Nat,fun i => i <= (yN n P L p).length,fun i => ⟨aI 74 [5,8,9] [.a (.sl 2 [] 0 (yN n P L p).length),.a (.sl 3 [] 0 (yN n P L p).length),.a (vI i)],[],[.arr 60 kW L false false,.box true [vI n,vI P,.sl 0 [] 0 L.length],.arr 60 kW (yN n P L p) true true,.arr 60 kW (yN n P L p) true true]⟩,fun i => (yN n P L p).length - i,0,[],Nat.zero_le _,?_,?_⟩
 ·repeat' ((conv => whnf);(first | apply And.intro | intro _))
  all_goals first | rfl | trivial | exact ah rfl | exact aS ‹_› rfl | exact aT ‹_› rfl | ((repeat' first | rfl | constructor);done)
 rintro i hi
 by_cases hi1 : i < (yN n P L p).length
 ·have p0 : decide ((i : Int) < ((yN n P L p).length : Int)) = true:=decide_eq_true (by omega)
  have e2:=abn (cn (yN n P L p) i)
  have hlen:=Yd n P L p
  have ZR : (yN n P L p).length <= 8 * 6 * 6:=Nat.le_trans hlen (Nat.mul_le_mul (Nat.mul_le_mul (Nat.le_refl _) (by omega)) (by omega))
  repeat' ((conv => whnf);first | apply And.intro | (intro h9;try (have h8 : (_ : Bool) = _:=h9;clear h8;revert h9;subst_vars;intro h9;exact aq h9 (by assumption))))
  all_goals try (conv => whnf)
  all_goals try first | (apply Tk.mk <;> kernel_rfl) | exact ⟨ah rfl⟩ | exact ⟨rfl⟩ | exact ⟨trivial⟩
  all_goals subst_vars
  all_goals try first | rfl | contradiction | (apply Ob.mk;first | (simp only [ag,ak,aa.ae];omega) | ((try simp only [aa.ae]);(try dsimp only);omega))
  all_goals try first
   | exact ⟨show 0 + Int.toNat (i : Int) < (yN n P L p).length by omega⟩
  refine ⟨i + 1,[],hi1,?_,by show (yN n P L p).length - (i + 1) < (yN n P L p).length - i;omega⟩
  repeat' ((conv => whnf);(first | apply And.intro | intro _))
  all_goals first | rfl | trivial | exact ah rfl | exact aS ‹_› rfl | exact aT ‹_› rfl | ((repeat' first | rfl | constructor);done)
 have p0 : decide ((i : Int) < ((yN n P L p).length : Int)) = false:=decide_eq_false (by omega)
 repeat' ((conv => whnf);first | apply And.intro | (intro h9;try (have h8 : (_ : Bool) = _:=h9;clear h8;revert h9;subst_vars;intro h9;exact aq h9 (by assumption))))
 all_goals try (conv => whnf)
 all_goals try first | (apply Tk.mk <;> kernel_rfl) | exact ⟨ah rfl⟩ | exact ⟨rfl⟩ | exact ⟨trivial⟩
 all_goals subst_vars
 all_goals try first | rfl | contradiction | (apply Ob.mk;first | (simp only [ag,ak,aa.ae];omega) | ((try simp only [aa.ae]);(try dsimp only);omega)))
end Go.Proofs.YthejmgnkenokpaaDoor
end
