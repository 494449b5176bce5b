/-
  Texts of the claims on chapter 3: Yk14. No condition: lemmas and contracts.
-/
import Derived.Test.YthejmgnkenokpaaDoorYk12
import Derived.Test.YthejmgnkenokpaaDoorYk10
import Derived.Test.YthejmgnkenokpaaDoorYk9
set_option linter.all false
set_option maxRecDepth 100000
set_option maxHeartbeats 4000000
section
namespace Go.Proofs.YthejmgnkenokpaaDoor
open Go Go.Sy Go.bK
variable {Γ : bn}
def Yq (D : Int -> Int -> List Wk -> List (List Int) -> Int -> List aa) (F : Int -> Int -> List Wk -> List (List Int) -> Int -> Tm) : au:=.fn fun args rg => match args with
 | [.agg [.v (.int .i64 n0),.v (.int .i64 n1),x0],.a x1,.a (.v (.int .i64 n2))] => (match ca 60 kW rg x0,ca 27 kT rg x1 with | some (q0,L0),some (q1,L1) => some (q0 ++ (q1 ++ (D n0 n1 L0 L1 n2)),F n0 n1 L0 L1 n2) | _,_ => none)
 | _ => none
theorem X9 {f : FuncId} {b : Body} {E : Env} {d : Nat} (hP : aL Tryd.prog Γ E) (hb : bQ Tryd.prog f b) {D : Int -> Int -> List Wk -> List (List Int) -> Int -> List aa} {F : Int -> Int -> List Wk -> List (List Int) -> Int -> Tm} (hp : ∀ (n0 : Int) (n1 : Int) (L0 : List Wk) (L1 : List (List Int)) (n2 : Int),(F n0 n1 L0 L1 n2).plain = true)
  (H : ∀ (n0 : Int) (n1 : Int) (L0 : List Wk) (L1 : List (List Int)) (n2 : Int),bW (D n0 n1 L0 L1 n2) -> cQ E d b [.agg [vI n0,vI n1,.sl 0 [] 0 L0.length],.a (.sl 1 [] 0 L1.length),.a (vI n2)] [.arr 60 kW L0 false false,.arr 27 kT L1 false false] (fun x _ => iL x (F n0 n1 L0 L1 n2))) : au.Ok Tryd.prog Γ f (Yq D F):=au.er (d:=d) hP hb (by
 intro args rg q t hF hq
 split at hF
 next n0 n1 x0 x1 n2 =>
  split at hF
  next q0 L0 q1 L1 hx0 cO =>
   obtain ⟨rfl,rfl⟩:=Prod.mk.inj (Option.some.inj hF);clear hF
   rw [aH,aH] at hq
   obtain ⟨dm,gk,hD⟩:=hq
   obtain ⟨e0,Vn⟩:=bP (by simp [kW]) hx0 dm
   obtain ⟨e1,iO⟩:=bP (by simp [kT]) cO gk
   obtain ⟨p0,r0⟩:=Vn [e0,e1] 0 2 rfl (by omega)
   obtain ⟨p1,r1⟩:=iO [e0,e1] 1 2 rfl (by omega)
   refine ⟨hp _ _ _ _ _,[e0,e1],[.agg [vI n0,vI n1,.sl 0 [] 0 L0.length],.a (.sl 1 [] 0 L1.length),.a (vI n2)],[.arr 60 kW L0 false false,.arr 27 kT L1 false false],⟨⟨⟨rfl,rfl,p0,trivial⟩,p1,rfl,trivial⟩,fun r g hg => ?_⟩,H _ _ _ _ _ hD⟩
   match r,hg with
   | 0,hg => obtain rfl:=Option.some.inj hg;exact r0
   | 1,hg => obtain rfl:=Option.some.inj hg;exact r1
  next => cases hF
 next => cases hF)
def vp (P c : Int) : Int:=IntKind.wrap .i64 (Int.tmod (IntKind.wrap .u64 c) (IntKind.wrap .u64 P))
theorem XX {P : Int} (hP : 1 <= P /\ P <= 6) : IntKind.wrap .u64 P = P:=Je (k:=.u64) (show ak .u64 P by unfold ak;omega)
theorem Zi {P c : Int} (hP : 1 <= P /\ P <= 6) : 0 <= vp P c /\ vp P c <= P - 1:=by
 have h0 : 0 <= IntKind.wrap .u64 c:=by simp [IntKind.wrap,IntKind.signed,IntKind.bits];omega
 unfold vp
 rw [XX hP,Int.tmod_eq_emod_of_nonneg h0]
 have h1:=Int.emod_nonneg (IntKind.wrap .u64 c) (show P ≠ 0 by omega)
 have h2:=Int.emod_lt_of_pos (IntKind.wrap .u64 c) (show 0 < P by omega)
 rw [Je (k:=.i64) (show ak .i64 _ by unfold ak;omega)];omega
def VR (n : Int) (X : List (List Int)) (L : List Wk) : Nat -> Bool
 | 0 => true
 | i + 1 => match VR n X L i with | true => Vv n X (cn L i) | false => false
theorem XC {n : Int} {X : List (List Int)} {L : List Wk} : ∀ i,i <= L.length -> (VR n X L i = true <-> ∀ j,j < i -> Vv n X (wk L j) = true)
 | 0,_ => ⟨fun _ j h => absurd h (Nat.not_lt_zero _),fun _ => rfl⟩
 | i + 1,hi => by
   have ih:=XC (n:=n) (X:=X) (L:=L) i (by omega)
   rw [VR,Wj]
   cases hb : VR n X L i <;> dsimp only
   ·rw [hb] at ih
    refine ⟨fun h => (by cases h),fun h => ?_⟩
    exact absurd (ih.2 (fun j hj => h j (by omega))) (by simp)
   ·rw [hb] at ih
    have ih:=ih.1 rfl
    refine ⟨fun h j hj => ?_,fun h => h i (by omega)⟩
    rcases Nat.lt_or_ge j i with h1 | h1
    ·exact ih j h1
    ·obtain rfl : j = i:=by omega
     exact h
theorem WA (n : Int) (X : List (List Int)) (L : List Wk) (i : Nat) : VR n X L (i + 1) = match VR n X L i with | true => Vv n X (cn L i) | false => false:=rfl
theorem Yz {n : Int} {X : List (List Int)} {L : List Wk} : VR n X L L.length = L.all (Vv n X):=by
 rw [Bool.eq_iff_iff,XC _ (Nat.le_refl _),List.all_eq_true]
 constructor
 ·intro h w hw
  obtain ⟨j,hj,e⟩:=List.mem_iff_getElem.1 hw
  have:=h j hj
  rwa [show wk L j = w by simp [wk,hj,e]] at this
 ·intro h j hj
  exact h _ (Cf hj)
theorem XA {f : Nat -> Int} {M : Int} : ∀ k : Nat,(∀ i,i < k -> -M <= f i /\ f i <= M) -> -((k : Int) * M) <= Vt f k /\ Vt f k <= (k : Int) * M
 | 0,_ => by simp [Vt]
 | k + 1,h => by
   have ih:=XA k (fun i hi => h i (by omega))
   have h1:=h k (by omega)
   have e : ((k + 1 : Nat) : Int) * M = (k : Int) * M + M:=by rw [Int.natCast_add,Int.add_mul];simp
   rw [Vt,e];omega
theorem Yk (f : Nat -> Int) (k : Nat) : Vt f k + f k = Vt f (k + 1):=rfl
def WC : au:=Yq (fun _ _ _ _ _ => []) (fun _ _ _ _ _ => bl true)
noncomputable def Zo : List (Nat × au):=[(15,Df),(48,Wn),(51,WB),(52,Yo),(17,yc),(19,F9),(42,DL),(16,tC)]
theorem YW : aR Tryd.prog Γ Zo:=((((((((aR.nil.cons (aj Tryd.func16 rfl rfl).fn sW).cons (aj Tryd.func42 rfl rfl).fn Fc).cons (aj Tryd.func19 rfl rfl).fn Ga).cons (aj Tryd.func17 rfl rfl).fn AX).cons (aj Tryd.func52 rfl rfl).fn X2).cons (aj Tryd.func51 rfl rfl).fn Wt).cons (aj Tryd.func48 rfl rfl).fn Wh).cons (aj Tryd.func15 rfl rfl).fn EJ)
noncomputable def Zy : Env:={ jV.env Zo [] false 0 with cv:=true }
theorem _root_.Go.Sy.aL.Zk {E : Env} (h : aL Tryd.prog Γ E) : aL Tryd.prog Γ { E with cv:=true }:=⟨h.mixed,h.fn,h.inl,{ h.env with }⟩
theorem YC : aL Tryd.prog Γ Zy:=(aP YW bq.nil false 0).Zk
attribute [local irreducible] Vv W2 Vw bD bf o6 VC Vu VH af Vt VR gp aJ aU
theorem Wf : au.Ok Tryd.prog Γ 14 WC:=X9 (d:=0) YC (aj Tryd.func14 rfl rfl) (fun _ _ _ _ _ => rfl) (by
 intro n P L X c _
 obtain h0 | h0 : decide ((L.length : Int) <= 20) = false \/ decide ((L.length : Int) <= 20) = true:=by cases decide ((L.length : Int) <= 20) <;> simp
 ·have n0 : (!decide ((L.length : Int) <= 20)) = true:=by rw [h0];rfl
  repeat' ((conv => whnf);first | apply And.intro | (intro h9;try (have h8 : (_ : Bool) = _:=h9;clear h8;revert h9;subst_vars;intro h9;exact aq h9 (by assumption))))
  all_goals try (conv => whnf)
  all_goals try first | (apply Tk.mk <;> kernel_rfl) | exact ⟨ah rfl⟩ | exact ⟨rfl⟩ | exact ⟨trivial⟩
  all_goals subst_vars
  all_goals try first | rfl | contradiction | (apply Ob.mk;first | (simp only [ag,ak,aa.ae];omega) | ((try simp only [aa.ae]);(try dsimp only);omega))
 have n0 : (!decide ((L.length : Int) <= 20)) = false:=by rw [h0];rfl
 have hl:=of_decide_eq_true h0
 obtain h9 | h9 : VC X 8 40 = false \/ VC X 8 40 = true:=by cases VC X 8 40 <;> simp
 ·have n9 : (!VC X 8 40) = true:=by rw [h9];rfl
  repeat' ((conv => whnf);first | apply And.intro | (intro h9;try (have h8 : (_ : Bool) = _:=h9;clear h8;revert h9;subst_vars;intro h9;exact aq h9 (by assumption))))
  all_goals try (conv => whnf)
  all_goals try first | (apply Tk.mk <;> kernel_rfl) | exact ⟨ah rfl⟩ | exact ⟨rfl⟩ | exact ⟨trivial⟩
  all_goals subst_vars
  all_goals try first | rfl | contradiction | (apply Ob.mk;first | (simp only [ag,ak,aa.ae];omega) | ((try simp only [aa.ae]);(try dsimp only);omega))
 have n9 : (!VC X 8 40) = false:=by rw [h9];rfl
 obtain ⟨x8,ZQ⟩:=XP h9
 have VL : ∀ w ∈ X,w.length <= 1000000:=fun w hw => by have:=ZQ w hw;omega
 obtain h1 | h1 : (bD n P L == 0) = false \/ (bD n P L == 0) = true:=by cases bD n P L == 0 <;> simp
 ·have y1 : ((Vu n P L X).2 != 0) = true:=by unfold Vu;rw [h1];unfold bne;dsimp only;rw [h1];rfl
  repeat' ((conv => whnf);first | apply And.intro | (intro h9;try (have h8 : (_ : Bool) = _:=h9;clear h8;revert h9;subst_vars;intro h9;exact aq h9 (by assumption))))
  all_goals try (conv => whnf)
  all_goals try first | (apply Tk.mk <;> kernel_rfl) | exact ⟨ah rfl⟩ | exact ⟨rfl⟩ | exact ⟨trivial⟩
  all_goals subst_vars
  all_goals try first | rfl | contradiction | (apply Ob.mk;first | (simp only [ag,ak,aa.ae];omega) | ((try simp only [aa.ae]);(try dsimp only);omega))
  all_goals first
   | exact ⟨VL⟩
   | exact ⟨show L.length <= 1000000 by omega⟩
   | exact ⟨show X.length <= 1000000 by omega⟩
 have hs:=oe.1 (eq_of_beq h1)
 obtain h2 | h2 : Vw n P X = false \/ Vw n P X = true:=by cases Vw n P X <;> simp
 ·have y1 : ((Vu n P L X).2 != 0) = true:=by unfold Vu;rw [h1,h2];rfl
  repeat' ((conv => whnf);first | apply And.intro | (intro h9;try (have h8 : (_ : Bool) = _:=h9;clear h8;revert h9;subst_vars;intro h9;exact aq h9 (by assumption))))
  all_goals try (conv => whnf)
  all_goals try first | (apply Tk.mk <;> kernel_rfl) | exact ⟨ah rfl⟩ | exact ⟨rfl⟩ | exact ⟨trivial⟩
  all_goals subst_vars
  all_goals try first | rfl | contradiction | (apply Ob.mk;first | (simp only [ag,ak,aa.ae];omega) | ((try simp only [aa.ae]);(try dsimp only);omega))
  all_goals first
   | exact ⟨VL⟩
   | exact ⟨show L.length <= 1000000 by omega⟩
   | exact ⟨show X.length <= 1000000 by omega⟩
 have y1 : ((Vu n P L X).2 != 0) = false:=by unfold Vu;rw [h1,h2];rfl
 have y2 : (Vu n P L X).1 = L.all (Vv n X):=by unfold Vu;rw [h1,h2]
 obtain ⟨x0,x2⟩:=WZ h2
 have x1 : (X.length : Int) <= P /\ P <= (X.length : Int):=by omega
 clear x0
 have hk:=Zi (c:=c) hs.p
 have hn:=hs.n
 have j4 : 1 <= n * n /\ n * n <= 36:=sJ hn
 repeat' ((conv => whnf);first | apply And.intro | (intro h9;try (have h8 : (_ : Bool) = _:=h9;clear h8;revert h9;subst_vars;intro h9;exact aq h9 (by assumption))))
 all_goals try (conv => whnf)
 all_goals try first | (apply Tk.mk <;> kernel_rfl) | exact ⟨ah rfl⟩ | exact ⟨rfl⟩ | exact ⟨trivial⟩
 all_goals subst_vars
 all_goals try first | rfl | contradiction | (apply Ob.mk;first | (simp only [ag,ak,aa.ae];omega) | ((try simp only [aa.ae]);(try dsimp only);omega))
 all_goals try first
  | exact ⟨VL⟩
  | exact ⟨show L.length <= 1000000 by omega⟩
  | exact ⟨show X.length <= 1000000 by omega⟩
 refine ⟨Nat,fun i => i <= L.length,fun i => ⟨aI 230 [1,2,3,7,9,10] [.a (.sl 1 [] 0 X.length),.a (vI c),.a (.p 2 [] 0 0),.a (.v (.bool (Vu n P L X).1)),.a (.v (.bool (VR n X L i))),.a (vI i)],[],[.arr 60 kW L false false,.arr 27 kT X false false,.box true [vI n,vI P,.sl 0 [] 0 L.length]]⟩,fun i => L.length - i,0,[],Nat.zero_le _,?_,?_⟩
 ·repeat' ((conv => whnf);(first | apply And.intro | intro _))
  all_goals first | rfl | trivial | exact ah rfl | exact aS ‹_› rfl | exact aT ‹_› rfl | ((repeat' first | rfl | constructor);done) | (unfold VR;rfl)
 rintro i hi
 by_cases hi1 : i < L.length
 ·have p0 : decide ((i : Int) < (L.length : Int)) = true:=decide_eq_true (by omega)
  have ei : aQ (i : Int) 0 ((L.length : Int) - 1) = true:=bA.2 (by omega)
  have es : ((VH n P L i X).2 == 0) = Vv n X (cn L i):=by
   unfold VH;rw [h1,ei,h2,Bool.and_self];dsimp only
   cases Vv n X (cn L i) <;> rfl
  have lg : VR n X L i = true -> ((VH n P L i X).2 == 0) = VR n X L (i + 1):=fun h => by rw [es,WA,h]
  have Zv : VR n X L i = false -> false = VR n X L (i + 1):=fun h => by rw [WA,h]
  clear es
  repeat' ((conv => whnf);first | apply And.intro | (intro h9;try (have h8 : (_ : Bool) = _:=h9;clear h8;revert h9;subst_vars;intro h9;exact aq h9 (by assumption))))
  all_goals try (conv => whnf)
  all_goals try first | (apply Tk.mk <;> kernel_rfl) | exact ⟨ah rfl⟩ | exact ⟨rfl⟩ | exact ⟨trivial⟩
  all_goals subst_vars
  all_goals try first | rfl | contradiction | (apply Ob.mk;first | (simp only [ag,ak,aa.ae];omega) | ((try simp only [aa.ae]);(try dsimp only);omega))
  all_goals try first
   | exact ⟨VL⟩
   | exact ⟨show L.length <= 1000000 by omega⟩
   | exact ⟨show X.length <= 1000000 by omega⟩
  all_goals
   refine ⟨i + 1,[],hi1,?_,by show L.length - (i + 1) < L.length - i;omega⟩
   repeat' ((conv => whnf);(first | apply And.intro | intro _))
   all_goals first | rfl | trivial | exact ah rfl | exact aS ‹_› rfl | exact aT ‹_› rfl | ((repeat' first | rfl | constructor);done) | exact lg (by assumption) | exact Zv (by assumption) | exact (Zv (by assumption)).symm
 have p0 : decide ((i : Int) < (L.length : Int)) = false:=decide_eq_false (by omega)
 obtain rfl : i = L.length:=by omega
 have ya : (!(VR n X L L.length == (Vu n P L X).1)) = false:=by rw [y2,Yz];simp
 obtain h3 | h3 : (Vu n P L X).1 = false \/ (Vu n P L X).1 = true:=by cases (Vu n P L X).1 <;> simp
 ·have n3 : (!(Vu n P L X).1) = true:=by rw [h3];rfl
  repeat' ((conv => whnf);first | apply And.intro | (intro h9;try (have h8 : (_ : Bool) = _:=h9;clear h8;revert h9;subst_vars;intro h9;exact aq h9 (by assumption))))
  all_goals try (conv => whnf)
  all_goals try first | (apply Tk.mk <;> kernel_rfl) | exact ⟨ah rfl⟩ | exact ⟨rfl⟩ | exact ⟨trivial⟩
  all_goals subst_vars
  all_goals try first | rfl | contradiction | (apply Ob.mk;first | (simp only [ag,ak,aa.ae];omega) | ((try simp only [aa.ae]);(try dsimp only);omega))
 have n3 : (!(Vu n P L X).1) = false:=by rw [h3];rfl
 have hT : V0 n (hX X) L:=(Xb hn).1 (y2.symm.trans h3)
 have q0 : bf n P L (vp P c) = 0:=Tj (eq_of_beq h1) hk
 have q1 : (bf n P L (vp P c) == 0) = true:=by rw [q0];rfl
 have q2 : (bf n P L (vp P c) != 0) = false:=by rw [q0];rfl
 have q3 : ((((n * n).toNat : Nat) : Int) != n * n) = false:=by rw [Int.toNat_of_nonneg (by omega)];exact bne_self_eq_false _
 have q4 : ((((n * n).toNat : Nat) : Int) != (((n * n).toNat : Nat) : Int)) = false:=bne_self_eq_false _
 have hw : cx P L:=fun w h => hs.w w h
 have hG:=nK hw hs.p.2 hk
 have dZ:=fj L (vp P c)
 have rr : SD n (bh X (vp P c)) = true:=x2 _ (by unfold bh;rw [Nat.zero_add];exact AA (W:=X) (by omega))
 obtain ⟨r1,r2⟩:=Tn rr
 have hfl:=Te (eq_of_beq h1) hk
 clear y2 h3
 have VJ : IntKind.wrap .u64 P ≠ 0:=by rw [XX hs.p];have:=hs.p;omega
 have VF : (aJ n (af L (vp P c))).length = (n * n).toNat:=by unfold aJ;exact c7
 have VG : (aU n (af L (vp P c))).length = (n * n).toNat:=by unfold aU;exact c7
 have hq : (hX X (vp P c) : Int -> Int) = gi (bh X (vp P c)):=rfl
 have hbd : ∀ k : Nat,-1099511627776 <= hX X (vp P c) (k : Nat) /\ hX X (vp P c) (k : Nat) <= 1099511627776:=fun k => SX r2 k
 repeat' ((conv => whnf);first | apply And.intro | (intro h9;try (have h8 : (_ : Bool) = _:=h9;clear h8;revert h9;subst_vars;intro h9;exact aq h9 (by assumption))))
 all_goals try (conv => whnf)
 all_goals try first | (apply Tk.mk <;> kernel_rfl) | exact ⟨ah rfl⟩ | exact ⟨rfl⟩ | exact ⟨trivial⟩
 all_goals subst_vars
 all_goals try first | rfl | contradiction | (apply Ob.mk;first | (simp only [ag,ak,aa.ae];omega) | ((try simp only [aa.ae]);(try dsimp only);omega))
 all_goals try first
  | exact ⟨show L.length <= 1000000 by omega⟩
 refine ⟨Nat,fun x => x <= (n * n).toNat,fun x => ⟨aI 230 [1,13,14,15,17,19,21,22,23] [.a (.sl 1 [] 0 X.length),.a (vI (vp P c)),.a (.sl 3 [] 0 (n * n).toNat),.a (.sl 4 [] 0 (n * n).toNat),.a (.v (.bool (o6 n P L (vp P c)))),.a (.sl 5 [] 0 (af L (vp P c)).length),.a (vI ((n * n).toNat : Nat)),.a (vI (Vt (fun k => hX X (vp P c) (k : Nat)) x)),.a (vI x)],[],[.arr 60 kW L false false,.arr 27 kT X false false,.box true [vI n,vI P,.sl 0 [] 0 L.length],.arr 3 kI (aJ n (af L (vp P c))) true true,.arr 3 kI (aU n (af L (vp P c))) true true,.arr 64 kG (af L (vp P c)) true true]⟩,fun x => (n * n).toNat - x,0,[],Nat.zero_le _,?_,?_⟩
 ·repeat' ((conv => whnf);(first | apply And.intro | intro _))
  all_goals first | rfl | trivial | exact ah rfl | exact aS ‹_› rfl | exact aT ‹_› rfl | ((repeat' first | rfl | constructor);done) | (unfold Vt;rfl)
 rintro x hx
 by_cases cO : x < (n * n).toNat
 ·have p0 : decide ((x : Int) < (((n * n).toNat : Nat) : Int)) = true:=decide_eq_true (by omega)
  have ZL:=Yk (fun k => hX X (vp P c) (k : Nat)) x
  have Kj:=XA (f:=fun k => hX X (vp P c) (k : Nat)) x (fun i _ => hbd i)
  have Y8:=hbd x
  have Nr : (x : Int) * 1099511627776 <= 36 * 1099511627776:=Int.mul_le_mul_of_nonneg_right (by omega) (by omega)
  have Vz : (ag .i64 (Vt (fun k => hX X (vp P c) (k : Nat)) x + KC X (vp P c) x)).p:=by
   rw [VT];show ak .i64 (Vt (fun k => hX X (vp P c) (k : Nat)) x + hX X (vp P c) x)
   (try dsimp only at Kj)
   unfold ak;omega
  have ZB : Vt (fun k => hX X (vp P c) (k : Nat)) x + KC X (vp P c) x = Vt (fun k => hX X (vp P c) (k : Nat)) (x + 1):=by rw [VT];exact ZL
  repeat' ((conv => whnf);first | apply And.intro | (intro h9;try (have h8 : (_ : Bool) = _:=h9;clear h8;revert h9;subst_vars;intro h9;exact aq h9 (by assumption))))
  all_goals try (conv => whnf)
  all_goals try first | (apply Tk.mk <;> kernel_rfl) | exact ⟨ah rfl⟩ | exact ⟨rfl⟩ | exact ⟨trivial⟩
  all_goals subst_vars
  all_goals try first | rfl | contradiction | (apply Ob.mk;first | (simp only [ag,ak,aa.ae];omega) | ((try simp only [aa.ae]);(try dsimp only);omega))
  all_goals try first
   | exact ⟨show 0 + Int.toNat (vp P c) < X.length by omega⟩
   | exact ⟨show 0 <= (x : Int) /\ (x : Int) < ((bh X (vp P c)).length : Int) by omega⟩
   | exact ⟨show 0 + Int.toNat (x : Int) < (bh X (vp P c)).length by omega⟩
  refine ⟨x + 1,[],cO,?_,by show (n * n).toNat - (x + 1) < (n * n).toNat - x;omega⟩
  repeat' ((conv => whnf);(first | apply And.intro | intro _))
  all_goals first | rfl | trivial | exact ah rfl | exact aS ‹_› rfl | exact aT ‹_› rfl | ((repeat' first | rfl | constructor);done) | exact ZB
 have p0 : decide ((x : Int) < (((n * n).toNat : Nat) : Int)) = false:=decide_eq_false (by omega)
 obtain rfl : x = (n * n).toNat:=by omega
 repeat' ((conv => whnf);first | apply And.intro | (intro h9;try (have h8 : (_ : Bool) = _:=h9;clear h8;revert h9;subst_vars;intro h9;exact aq h9 (by assumption))))
 all_goals try (conv => whnf)
 all_goals try first | (apply Tk.mk <;> kernel_rfl) | exact ⟨ah rfl⟩ | exact ⟨rfl⟩ | exact ⟨trivial⟩
 all_goals subst_vars
 all_goals try first | rfl | contradiction | (apply Ob.mk;first | (simp only [ag,ak,aa.ae];omega) | ((try simp only [aa.ae]);(try dsimp only);omega))
 refine ⟨Nat,fun i => i <= (af L (vp P c)).length,fun i => ⟨aI 230 [1,13,14,15,17,19,21,22,24,25] [.a (.sl 1 [] 0 X.length),.a (vI (vp P c)),.a (.sl 3 [] 0 (n * n).toNat),.a (.sl 4 [] 0 (n * n).toNat),.a (.v (.bool (o6 n P L (vp P c)))),.a (.sl 5 [] 0 (af L (vp P c)).length),.a (vI ((n * n).toNat : Nat)),.a (vI (Vt (fun k => hX X (vp P c) (k : Nat)) (n * n).toNat)),.a (.v (.bool (gp (af L (vp P c)) i))),.a (vI i)],[],[.arr 60 kW L false false,.arr 27 kT X false false,.box true [vI n,vI P,.sl 0 [] 0 L.length],.arr 3 kI (aJ n (af L (vp P c))) true true,.arr 3 kI (aU n (af L (vp P c))) true true,.arr 64 kG (af L (vp P c)) true true]⟩,fun i => (af L (vp P c)).length - i,0,[],Nat.zero_le _,?_,?_⟩
 ·repeat' ((conv => whnf);(first | apply And.intro | intro _))
  all_goals first | rfl | trivial | exact ah rfl | exact aS ‹_› rfl | exact aT ‹_› rfl | ((repeat' first | rfl | constructor);done) | (unfold gp;rfl)
 clear p0
 rintro i hi
 by_cases hi1 : i < (af L (vp P c)).length
 ·have p0 : decide ((i : Int) < ((af L (vp P c)).length : Int)) = true:=decide_eq_true (by omega)
  have es:=rL (af L (vp P c)) i
  have Zw : gp (af L (vp P c)) i = true -> true = gp (af L (vp P c)) (i + 1):=fun h => by rw [Bg,h];rfl
  have ZK : gp (af L (vp P c)) i = false -> (bI (af L (vp P c)) i).2 = gp (af L (vp P c)) (i + 1):=fun h => by rw [Bg,h,<- es];rfl
  repeat' ((conv => whnf);first | apply And.intro | (intro h9;try (have h8 : (_ : Bool) = _:=h9;clear h8;revert h9;subst_vars;intro h9;exact aq h9 (by assumption))))
  all_goals try (conv => whnf)
  all_goals try first | (apply Tk.mk <;> kernel_rfl) | exact ⟨ah rfl⟩ | exact ⟨rfl⟩ | exact ⟨trivial⟩
  all_goals subst_vars
  all_goals try first | rfl | contradiction | (apply Ob.mk;first | (simp only [ag,ak,aa.ae];omega) | ((try simp only [aa.ae]);(try dsimp only);omega))
  all_goals try first
   | exact ⟨show 0 + Int.toNat (i : Int) < (af L (vp P c)).length by omega⟩
  all_goals
   refine ⟨i + 1,[],hi1,?_,by show (af L (vp P c)).length - (i + 1) < (af L (vp P c)).length - i;omega⟩
   repeat' ((conv => whnf);(first | apply And.intro | intro _))
   all_goals first | rfl | trivial | exact ah rfl | exact aS ‹_› rfl | exact aT ‹_› rfl | ((repeat' first | rfl | constructor);done) | exact Zw (by assumption) | exact ZK (by assumption) | exact (Zw (by assumption)).symm
 have p0 : decide ((i : Int) < ((af L (vp P c)).length : Int)) = false:=decide_eq_false (by omega)
 obtain rfl : i = (af L (vp P c)).length:=by omega
 repeat' ((conv => whnf);first | apply And.intro | (intro h9;try (have h8 : (_ : Bool) = _:=h9;clear h8;revert h9;subst_vars;intro h9;exact aq h9 (by assumption))))
 all_goals try (conv => whnf)
 all_goals try first | (apply Tk.mk <;> kernel_rfl) | exact ⟨ah rfl⟩ | exact ⟨rfl⟩ | exact ⟨trivial⟩
 all_goals subst_vars
 all_goals try first | rfl | contradiction | (apply Ob.mk;first | (simp only [ag,ak,aa.ae];omega) | ((try simp only [aa.ae]);(try dsimp only);omega))
 clear p0
 refine ⟨Nat,fun x => x <= (n * n).toNat,fun x => ⟨aI 230 [1,13,14,15,17,21,22,24,26] [.a (.sl 1 [] 0 X.length),.a (vI (vp P c)),.a (.sl 3 [] 0 (n * n).toNat),.a (.sl 4 [] 0 (n * n).toNat),.a (.v (.bool (o6 n P L (vp P c)))),.a (vI ((n * n).toNat : Nat)),.a (vI (Vt (fun k => hX X (vp P c) (k : Nat)) (n * n).toNat)),.a (.v (.bool (gp (af L (vp P c)) (af L (vp P c)).length))),.a (vI x)],[],[.arr 60 kW L false false,.arr 27 kT X false false,.box true [vI n,vI P,.sl 0 [] 0 L.length],.arr 3 kI (aJ n (af L (vp P c))) true true,.arr 3 kI (aU n (af L (vp P c))) true true,.arr 64 kG (af L (vp P c)) true true]⟩,fun x => (n * n).toNat - x,0,[],Nat.zero_le _,?_,?_⟩
 ·repeat' ((conv => whnf);(first | apply And.intro | intro _))
  all_goals first | rfl | trivial | exact ah rfl | exact aS ‹_› rfl | exact aT ‹_› rfl | ((repeat' first | rfl | constructor);done)
 rintro x hx
 by_cases cO : x < (n * n).toNat
 ·have p0 : decide ((x : Int) < (((n * n).toNat : Nat) : Int)) = true:=decide_eq_true (by omega)
  have gR : aM n (x : Int):=(ic hn).2 ⟨x,cO,rfl⟩
  have Np:=mS hG hn gR
  have eE : av (aJ n (af L (vp P c))) x = aK n (af L (vp P c)) x:=(dP _ x).trans (G2 hn gR)
  have eW : av (aU n (af L (vp P c))) x = fO n (af L (vp P c)) x:=(dP _ x).trans (G4 hG hn gR)
  have cN : (((n * n).toNat : Nat) : Int) = n * n:=Int.toNat_of_nonneg (by omega)
  have co : (((n * n).toNat : Nat) : Int) * KC X (vp P c) x - Vt (fun k => hX X (vp P c) (k : Nat)) (n * n).toNat = Vy n (hX X) (vp P c) x:=by rw [cN,VT];rfl
  have cf : (((n * n).toNat : Nat) : Int) * KC X (vp P c) (av (aJ n (af L (vp P c))) x) - Vt (fun k => hX X (vp P c) (k : Nat)) (n * n).toNat = Vy n (hX X) (vp P c) (aK n (af L (vp P c)) x):=by
   rw [cN,eE,VT];rfl
  have hH:=hbd x
  obtain ⟨k0,Nn,ZE⟩:=(ic hn).1 Np
  have Y7 : -1099511627776 <= hX X (vp P c) (aK n (af L (vp P c)) x) /\ hX X (vp P c) (aK n (af L (vp P c)) x) <= 1099511627776:=by rw [ZE];exact hbd k0
  have Zu:=XA (f:=fun k => hX X (vp P c) (k : Nat)) (n * n).toNat (fun i _ => hbd i)
  have Nr : (((n * n).toNat : Nat) : Int) * 1099511627776 <= 36 * 1099511627776:=Int.mul_le_mul_of_nonneg_right (by omega) (by omega)
  have ZI : -((((n * n).toNat : Nat) : Int) * 1099511627776) <= (((n * n).toNat : Nat) : Int) * hX X (vp P c) x /\ (((n * n).toNat : Nat) : Int) * hX X (vp P c) x <= (((n * n).toNat : Nat) : Int) * 1099511627776:=by
   rw [<- Int.mul_neg]
   exact ⟨Int.mul_le_mul_of_nonneg_left hH.1 (by omega),Int.mul_le_mul_of_nonneg_left hH.2 (by omega)⟩
  have ZJ : -((((n * n).toNat : Nat) : Int) * 1099511627776) <= (((n * n).toNat : Nat) : Int) * hX X (vp P c) (aK n (af L (vp P c)) x) /\ (((n * n).toNat : Nat) : Int) * hX X (vp P c) (aK n (af L (vp P c)) x) <= (((n * n).toNat : Nat) : Int) * 1099511627776:=by
   rw [<- Int.mul_neg]
   exact ⟨Int.mul_le_mul_of_nonneg_left Y7.1 (by omega),Int.mul_le_mul_of_nonneg_left Y7.2 (by omega)⟩
  (try dsimp only at Zu)
  have g1 : KC X (vp P c) x = hX X (vp P c) x:=VT X (vp P c) x
  have g2 : KC X (vp P c) (av (aJ n (af L (vp P c))) x) = hX X (vp P c) (aK n (af L (vp P c)) x):=by rw [eE];exact VT X (vp P c) _
  have o1 : (ag .i64 ((((n * n).toNat : Nat) : Int) * KC X (vp P c) x)).p:=by rw [g1];show ak .i64 _;unfold ak;omega
  have o2 : (ag .i64 ((((n * n).toNat : Nat) : Int) * KC X (vp P c) x - Vt (fun k => hX X (vp P c) (k : Nat)) (n * n).toNat)).p:=by rw [g1];show ak .i64 _;unfold ak;omega
  have o3 : (ag .i64 ((((n * n).toNat : Nat) : Int) * KC X (vp P c) (av (aJ n (af L (vp P c))) x))).p:=by rw [g2];show ak .i64 _;unfold ak;omega
  have o4 : (ag .i64 ((((n * n).toNat : Nat) : Int) * KC X (vp P c) (av (aJ n (af L (vp P c))) x) - Vt (fun k => hX X (vp P c) (k : Nat)) (n * n).toNat)).p:=by rw [g2];show ak .i64 _;unfold ak;omega
  have o5 : (ag .i64 (av (aU n (af L (vp P c))) x * ((((n * n).toNat : Nat) : Int) * KC X (vp P c) (av (aJ n (af L (vp P c))) x) - Vt (fun k => hX X (vp P c) (k : Nat)) (n * n).toNat))).p:=by
   rw [g2,eW];show ak .i64 _
   rcases JQ n (af L (vp P c)) x with h | h | h <;> rw [h] <;> unfold ak <;> omega
  have VK : 0 <= av (aJ n (af L (vp P c))) x /\ av (aJ n (af L (vp P c))) x < ((bh X (vp P c)).length : Int):=by rw [eE];have:=Np;unfold aM at this;omega
  have Vi : (x : Int) < ((bh X (vp P c)).length : Int):=by omega
  have main:=X4 hn hw hs.p.2 hT hk gR
  have v0 : ((((n * n).toNat : Nat) : Int) * KC X (vp P c) x - Vt (fun k => hX X (vp P c) (k : Nat)) (n * n).toNat != av (aU n (af L (vp P c))) x * ((((n * n).toNat : Nat) : Int) * KC X (vp P c) (av (aJ n (af L (vp P c))) x) - Vt (fun k => hX X (vp P c) (k : Nat)) (n * n).toNat)) = false:=by rw [co,cf,eW,main];exact bne_self_eq_false _
  have vz : av (aU n (af L (vp P c))) x = 0 -> ((((n * n).toNat : Nat) : Int) * KC X (vp P c) x - Vt (fun k => hX X (vp P c) (k : Nat)) (n * n).toNat != 0) = false:=fun h => by rw [eW] at h;rw [co,main,h,Int.zero_mul];rfl
  have vf : o6 n P L (vp P c) = true -> ((((n * n).toNat : Nat) : Int) * KC X (vp P c) x - Vt (fun k => hX X (vp P c) (k : Nat)) (n * n).toNat != 0) = false:=fun h => by
   rw [hfl,beq_iff_eq] at h
   rw [co,XF hn hw hs.p.2 hT hk h gR];rfl
  have vm : gp (af L (vp P c)) (af L (vp P c)).length = false -> (av (aU n (af L (vp P c))) x != 1) = false:=fun h => by
   rw [wP] at h
   rw [eW,Wd hG hn h gR];rfl
  clear co cf main ZI ZJ Nr Zu g1 g2 eE eW hH Y7 cN
  obtain w0 | w0 : (av (aU n (af L (vp P c))) x == 0) = true \/ (av (aU n (af L (vp P c))) x == 0) = false:=by cases (av (aU n (af L (vp P c))) x == 0) <;> simp
  ·have w1 : (av (aU n (af L (vp P c))) x != 0) = false:=by unfold bne;rw [w0];rfl
   have w2:=vz (eq_of_beq w0)
   obtain f0 | f0 : o6 n P L (vp P c) = true \/ o6 n P L (vp P c) = false:=by cases o6 n P L (vp P c) <;> simp
   ·have w3:=vf f0
    obtain f1 | f1 : gp (af L (vp P c)) (af L (vp P c)).length = true \/ gp (af L (vp P c)) (af L (vp P c)).length = false:=by cases gp (af L (vp P c)) (af L (vp P c)).length <;> simp
    ·have f2 : (!gp (af L (vp P c)) (af L (vp P c)).length) = false:=by rw [f1];rfl
     clear vz vf vm
     repeat' ((conv => whnf);first | apply And.intro | (intro h9;try (have h8 : (_ : Bool) = _:=h9;clear h8;revert h9;subst_vars;intro h9;exact aq h9 (by assumption))))
     all_goals try (conv => whnf)
     all_goals try first | (apply Tk.mk <;> kernel_rfl) | exact ⟨ah rfl⟩ | exact ⟨rfl⟩ | exact ⟨trivial⟩
     all_goals subst_vars
     all_goals try first | rfl | contradiction | (apply Ob.mk;first | (simp only [ag,ak,aa.ae];omega) | ((try simp only [aa.ae]);(try dsimp only);omega))
     all_goals try first
      | exact ⟨VK⟩
      | exact ⟨show 0 + Int.toNat (av (aJ n (af L (vp P c))) x) < (bh X (vp P c)).length by omega⟩
      | exact ⟨show 0 + Int.toNat (vp P c) < X.length by omega⟩
      | exact ⟨show 0 <= (x : Int) /\ (x : Int) < ((bh X (vp P c)).length : Int) by omega⟩
      | exact ⟨show 0 + Int.toNat (x : Int) < (bh X (vp P c)).length by omega⟩
      | exact ⟨show 0 + Int.toNat (x : Int) < (aJ n (af L (vp P c))).length by rw [VF];omega⟩
      | exact ⟨show 0 + Int.toNat (x : Int) < (aU n (af L (vp P c))).length by rw [VG];omega⟩
     refine ⟨x + 1,[],cO,?_,by show (n * n).toNat - (x + 1) < (n * n).toNat - x;omega⟩
     repeat' ((conv => whnf);(first | apply And.intro | intro _))
     all_goals first | rfl | trivial | exact ah rfl | exact aS ‹_› rfl | exact aT ‹_› rfl | ((repeat' first | rfl | constructor);done)
    have f2 : (!gp (af L (vp P c)) (af L (vp P c)).length) = true:=by rw [f1];rfl
    have f3:=vm f1
    clear vz vf vm
    repeat' ((conv => whnf);first | apply And.intro | (intro h9;try (have h8 : (_ : Bool) = _:=h9;clear h8;revert h9;subst_vars;intro h9;exact aq h9 (by assumption))))
    all_goals try (conv => whnf)
    all_goals try first | (apply Tk.mk <;> kernel_rfl) | exact ⟨ah rfl⟩ | exact ⟨rfl⟩ | exact ⟨trivial⟩
    all_goals subst_vars
    all_goals try first | rfl | contradiction | (apply Ob.mk;first | (simp only [ag,ak,aa.ae];omega) | ((try simp only [aa.ae]);(try dsimp only);omega))
    all_goals try first
     | exact ⟨VK⟩
     | exact ⟨show 0 + Int.toNat (av (aJ n (af L (vp P c))) x) < (bh X (vp P c)).length by omega⟩
     | exact ⟨show 0 + Int.toNat (vp P c) < X.length by omega⟩
     | exact ⟨show 0 <= (x : Int) /\ (x : Int) < ((bh X (vp P c)).length : Int) by omega⟩
     | exact ⟨show 0 + Int.toNat (x : Int) < (bh X (vp P c)).length by omega⟩
     | exact ⟨show 0 + Int.toNat (x : Int) < (aJ n (af L (vp P c))).length by rw [VF];omega⟩
     | exact ⟨show 0 + Int.toNat (x : Int) < (aU n (af L (vp P c))).length by rw [VG];omega⟩
    refine ⟨x + 1,[],cO,?_,by show (n * n).toNat - (x + 1) < (n * n).toNat - x;omega⟩
    repeat' ((conv => whnf);(first | apply And.intro | intro _))
    all_goals first | rfl | trivial | exact ah rfl | exact aS ‹_› rfl | exact aT ‹_› rfl | ((repeat' first | rfl | constructor);done)
   obtain f1 | f1 : gp (af L (vp P c)) (af L (vp P c)).length = true \/ gp (af L (vp P c)) (af L (vp P c)).length = false:=by cases gp (af L (vp P c)) (af L (vp P c)).length <;> simp
   ·have f2 : (!gp (af L (vp P c)) (af L (vp P c)).length) = false:=by rw [f1];rfl
    clear vz vf vm
    repeat' ((conv => whnf);first | apply And.intro | (intro h9;try (have h8 : (_ : Bool) = _:=h9;clear h8;revert h9;subst_vars;intro h9;exact aq h9 (by assumption))))
    all_goals try (conv => whnf)
    all_goals try first | (apply Tk.mk <;> kernel_rfl) | exact ⟨ah rfl⟩ | exact ⟨rfl⟩ | exact ⟨trivial⟩
    all_goals subst_vars
    all_goals try first | rfl | contradiction | (apply Ob.mk;first | (simp only [ag,ak,aa.ae];omega) | ((try simp only [aa.ae]);(try dsimp only);omega))
    all_goals try first
     | exact ⟨VK⟩
     | exact ⟨show 0 + Int.toNat (av (aJ n (af L (vp P c))) x) < (bh X (vp P c)).length by omega⟩
     | exact ⟨show 0 + Int.toNat (vp P c) < X.length by omega⟩
     | exact ⟨show 0 <= (x : Int) /\ (x : Int) < ((bh X (vp P c)).length : Int) by omega⟩
     | exact ⟨show 0 + Int.toNat (x : Int) < (bh X (vp P c)).length by omega⟩
     | exact ⟨show 0 + Int.toNat (x : Int) < (aJ n (af L (vp P c))).length by rw [VF];omega⟩
     | exact ⟨show 0 + Int.toNat (x : Int) < (aU n (af L (vp P c))).length by rw [VG];omega⟩
    refine ⟨x + 1,[],cO,?_,by show (n * n).toNat - (x + 1) < (n * n).toNat - x;omega⟩
    repeat' ((conv => whnf);(first | apply And.intro | intro _))
    all_goals first | rfl | trivial | exact ah rfl | exact aS ‹_› rfl | exact aT ‹_› rfl | ((repeat' first | rfl | constructor);done)
   have f2 : (!gp (af L (vp P c)) (af L (vp P c)).length) = true:=by rw [f1];rfl
   have f3:=vm f1
   clear vz vf vm
   repeat' ((conv => whnf);first | apply And.intro | (intro h9;try (have h8 : (_ : Bool) = _:=h9;clear h8;revert h9;subst_vars;intro h9;exact aq h9 (by assumption))))
   all_goals try (conv => whnf)
   all_goals try first | (apply Tk.mk <;> kernel_rfl) | exact ⟨ah rfl⟩ | exact ⟨rfl⟩ | exact ⟨trivial⟩
   all_goals subst_vars
   all_goals try first | rfl | contradiction | (apply Ob.mk;first | (simp only [ag,ak,aa.ae];omega) | ((try simp only [aa.ae]);(try dsimp only);omega))
   all_goals try first
    | exact ⟨VK⟩
    | exact ⟨show 0 + Int.toNat (av (aJ n (af L (vp P c))) x) < (bh X (vp P c)).length by omega⟩
    | exact ⟨show 0 + Int.toNat (vp P c) < X.length by omega⟩
    | exact ⟨show 0 <= (x : Int) /\ (x : Int) < ((bh X (vp P c)).length : Int) by omega⟩
    | exact ⟨show 0 + Int.toNat (x : Int) < (bh X (vp P c)).length by omega⟩
    | exact ⟨show 0 + Int.toNat (x : Int) < (aJ n (af L (vp P c))).length by rw [VF];omega⟩
    | exact ⟨show 0 + Int.toNat (x : Int) < (aU n (af L (vp P c))).length by rw [VG];omega⟩
   refine ⟨x + 1,[],cO,?_,by show (n * n).toNat - (x + 1) < (n * n).toNat - x;omega⟩
   repeat' ((conv => whnf);(first | apply And.intro | intro _))
   all_goals first | rfl | trivial | exact ah rfl | exact aS ‹_› rfl | exact aT ‹_› rfl | ((repeat' first | rfl | constructor);done)
  have w1 : (av (aU n (af L (vp P c))) x != 0) = true:=by unfold bne;rw [w0];rfl
  obtain f0 | f0 : o6 n P L (vp P c) = true \/ o6 n P L (vp P c) = false:=by cases o6 n P L (vp P c) <;> simp
  ·have w3:=vf f0
   obtain f1 | f1 : gp (af L (vp P c)) (af L (vp P c)).length = true \/ gp (af L (vp P c)) (af L (vp P c)).length = false:=by cases gp (af L (vp P c)) (af L (vp P c)).length <;> simp
   ·have f2 : (!gp (af L (vp P c)) (af L (vp P c)).length) = false:=by rw [f1];rfl
    clear vz vf vm
    repeat' ((conv => whnf);first | apply And.intro | (intro h9;try (have h8 : (_ : Bool) = _:=h9;clear h8;revert h9;subst_vars;intro h9;exact aq h9 (by assumption))))
    all_goals try (conv => whnf)
    all_goals try first | (apply Tk.mk <;> kernel_rfl) | exact ⟨ah rfl⟩ | exact ⟨rfl⟩ | exact ⟨trivial⟩
    all_goals subst_vars
    all_goals try first | rfl | contradiction | (apply Ob.mk;first | (simp only [ag,ak,aa.ae];omega) | ((try simp only [aa.ae]);(try dsimp only);omega))
    all_goals try first
     | exact ⟨VK⟩
     | exact ⟨show 0 + Int.toNat (av (aJ n (af L (vp P c))) x) < (bh X (vp P c)).length by omega⟩
     | exact ⟨show 0 + Int.toNat (vp P c) < X.length by omega⟩
     | exact ⟨show 0 <= (x : Int) /\ (x : Int) < ((bh X (vp P c)).length : Int) by omega⟩
     | exact ⟨show 0 + Int.toNat (x : Int) < (bh X (vp P c)).length by omega⟩
     | exact ⟨show 0 + Int.toNat (x : Int) < (aJ n (af L (vp P c))).length by rw [VF];omega⟩
     | exact ⟨show 0 + Int.toNat (x : Int) < (aU n (af L (vp P c))).length by rw [VG];omega⟩
    refine ⟨x + 1,[],cO,?_,by show (n * n).toNat - (x + 1) < (n * n).toNat - x;omega⟩
    repeat' ((conv => whnf);(first | apply And.intro | intro _))
    all_goals first | rfl | trivial | exact ah rfl | exact aS ‹_› rfl | exact aT ‹_› rfl | ((repeat' first | rfl | constructor);done)
   have f2 : (!gp (af L (vp P c)) (af L (vp P c)).length) = true:=by rw [f1];rfl
   have f3:=vm f1
   clear vz vf vm
   repeat' ((conv => whnf);first | apply And.intro | (intro h9;try (have h8 : (_ : Bool) = _:=h9;clear h8;revert h9;subst_vars;intro h9;exact aq h9 (by assumption))))
   all_goals try (conv => whnf)
   all_goals try first | (apply Tk.mk <;> kernel_rfl) | exact ⟨ah rfl⟩ | exact ⟨rfl⟩ | exact ⟨trivial⟩
   all_goals subst_vars
   all_goals try first | rfl | contradiction | (apply Ob.mk;first | (simp only [ag,ak,aa.ae];omega) | ((try simp only [aa.ae]);(try dsimp only);omega))
   all_goals try first
    | exact ⟨VK⟩
    | exact ⟨show 0 + Int.toNat (av (aJ n (af L (vp P c))) x) < (bh X (vp P c)).length by omega⟩
    | exact ⟨show 0 + Int.toNat (vp P c) < X.length by omega⟩
    | exact ⟨show 0 <= (x : Int) /\ (x : Int) < ((bh X (vp P c)).length : Int) by omega⟩
    | exact ⟨show 0 + Int.toNat (x : Int) < (bh X (vp P c)).length by omega⟩
    | exact ⟨show 0 + Int.toNat (x : Int) < (aJ n (af L (vp P c))).length by rw [VF];omega⟩
    | exact ⟨show 0 + Int.toNat (x : Int) < (aU n (af L (vp P c))).length by rw [VG];omega⟩
   refine ⟨x + 1,[],cO,?_,by show (n * n).toNat - (x + 1) < (n * n).toNat - x;omega⟩
   repeat' ((conv => whnf);(first | apply And.intro | intro _))
   all_goals first | rfl | trivial | exact ah rfl | exact aS ‹_› rfl | exact aT ‹_› rfl | ((repeat' first | rfl | constructor);done)
  obtain f1 | f1 : gp (af L (vp P c)) (af L (vp P c)).length = true \/ gp (af L (vp P c)) (af L (vp P c)).length = false:=by cases gp (af L (vp P c)) (af L (vp P c)).length <;> simp
  ·have f2 : (!gp (af L (vp P c)) (af L (vp P c)).length) = false:=by rw [f1];rfl
   clear vz vf vm
   repeat' ((conv => whnf);first | apply And.intro | (intro h9;try (have h8 : (_ : Bool) = _:=h9;clear h8;revert h9;subst_vars;intro h9;exact aq h9 (by assumption))))
   all_goals try (conv => whnf)
   all_goals try first | (apply Tk.mk <;> kernel_rfl) | exact ⟨ah rfl⟩ | exact ⟨rfl⟩ | exact ⟨trivial⟩
   all_goals subst_vars
   all_goals try first | rfl | contradiction | (apply Ob.mk;first | (simp only [ag,ak,aa.ae];omega) | ((try simp only [aa.ae]);(try dsimp only);omega))
   all_goals try first
    | exact ⟨VK⟩
    | exact ⟨show 0 + Int.toNat (av (aJ n (af L (vp P c))) x) < (bh X (vp P c)).length by omega⟩
    | exact ⟨show 0 + Int.toNat (vp P c) < X.length by omega⟩
    | exact ⟨show 0 <= (x : Int) /\ (x : Int) < ((bh X (vp P c)).length : Int) by omega⟩
    | exact ⟨show 0 + Int.toNat (x : Int) < (bh X (vp P c)).length by omega⟩
    | exact ⟨show 0 + Int.toNat (x : Int) < (aJ n (af L (vp P c))).length by rw [VF];omega⟩
    | exact ⟨show 0 + Int.toNat (x : Int) < (aU n (af L (vp P c))).length by rw [VG];omega⟩
   refine ⟨x + 1,[],cO,?_,by show (n * n).toNat - (x + 1) < (n * n).toNat - x;omega⟩
   repeat' ((conv => whnf);(first | apply And.intro | intro _))
   all_goals first | rfl | trivial | exact ah rfl | exact aS ‹_› rfl | exact aT ‹_› rfl | ((repeat' first | rfl | constructor);done)
  have f2 : (!gp (af L (vp P c)) (af L (vp P c)).length) = true:=by rw [f1];rfl
  have f3:=vm f1
  clear vz vf vm
  repeat' ((conv => whnf);first | apply And.intro | (intro h9;try (have h8 : (_ : Bool) = _:=h9;clear h8;revert h9;subst_vars;intro h9;exact aq h9 (by assumption))))
  all_goals try (conv => whnf)
  all_goals try first | (apply Tk.mk <;> kernel_rfl) | exact ⟨ah rfl⟩ | exact ⟨rfl⟩ | exact ⟨trivial⟩
  all_goals subst_vars
  all_goals try first | rfl | contradiction | (apply Ob.mk;first | (simp only [ag,ak,aa.ae];omega) | ((try simp only [aa.ae]);(try dsimp only);omega))
  all_goals try first
   | exact ⟨VK⟩
   | exact ⟨show 0 + Int.toNat (av (aJ n (af L (vp P c))) x) < (bh X (vp P c)).length by omega⟩
   | exact ⟨show 0 + Int.toNat (vp P c) < X.length by omega⟩
   | exact ⟨show 0 <= (x : Int) /\ (x : Int) < ((bh X (vp P c)).length : Int) by omega⟩
   | exact ⟨show 0 + Int.toNat (x : Int) < (bh X (vp P c)).length by omega⟩
   | exact ⟨show 0 + Int.toNat (x : Int) < (aJ n (af L (vp P c))).length by rw [VF];omega⟩
   | exact ⟨show 0 + Int.toNat (x : Int) < (aU n (af L (vp P c))).length by rw [VG];omega⟩
  refine ⟨x + 1,[],cO,?_,by show (n * n).toNat - (x + 1) < (n * n).toNat - x;omega⟩
  repeat' ((conv => whnf);(first | apply And.intro | intro _))
  all_goals first | rfl | trivial | exact ah rfl | exact aS ‹_› rfl | exact aT ‹_› rfl | ((repeat' first | rfl | constructor);done)
 have p0 : decide ((x : Int) < (((n * n).toNat : Nat) : Int)) = false:=decide_eq_false (by omega)
 repeat' ((conv => whnf);first | apply And.intro | (intro h9;try (have h8 : (_ : Bool) = _:=h9;clear h8;revert h9;subst_vars;intro h9;exact aq h9 (by assumption))))
 all_goals try (conv => whnf)
 all_goals try first | (apply Tk.mk <;> kernel_rfl) | exact ⟨ah rfl⟩ | exact ⟨rfl⟩ | exact ⟨trivial⟩
 all_goals subst_vars
 all_goals try first | rfl | contradiction | (apply Ob.mk;first | (simp only [ag,ak,aa.ae];omega) | ((try simp only [aa.ae]);(try dsimp only);omega)))
end Go.Proofs.YthejmgnkenokpaaDoor
end
