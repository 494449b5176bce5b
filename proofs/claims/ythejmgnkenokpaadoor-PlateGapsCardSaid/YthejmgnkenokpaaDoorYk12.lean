/-
  Texts of the claims on chapter 3: Yk12. No condition: lemmas and contracts.
-/
import Derived.Test.YthejmgnkenokpaaDoorYk1
import Derived.Test.YthejmgnkenokpaaDoorYk2
import Derived.Test.YthejmgnkenokpaaDoorPl1
import Derived.Test.YthejmgnkenokpaaDoorYk3
import Derived.Test.YthejmgnkenokpaaDoorYk8
set_option linter.all false
set_option maxRecDepth 100000
set_option maxHeartbeats 4000000
section
namespace Go.Proofs.YthejmgnkenokpaaDoor
open Go Go.Sy Go.bK
variable {Γ : bn}
def U6 (D : Int -> List Int -> List aa) (F : Int -> List Int -> Tm) : au:=.fn fun args rg => match args with
 | [.a (.v (.int .i64 n0)),.a x0] => (match ca 3 kI rg x0 with | some (q0,L0) => some (q0 ++ (D n0 L0),F n0 L0) | _ => none)
 | _ => none
theorem T9 {f : FuncId} {b : Body} {E : Env} {d : Nat} (hP : aL Tryd.prog Γ E) (hb : bQ Tryd.prog f b) {D : Int -> List Int -> List aa} {F : Int -> List Int -> Tm} (hp : ∀ (n0 : Int) (L0 : List Int),(F n0 L0).plain = true)
  (H : ∀ (n0 : Int) (L0 : List Int),bW (D n0 L0) -> cQ E d b [.a (vI n0),.a (.sl 0 [] 0 L0.length)] [.arr 3 kI L0 false false] (fun x _ => iL x (F n0 L0))) : au.Ok Tryd.prog Γ f (U6 D F):=au.er (d:=d) hP hb (by
 intro args rg q t hF hq
 split at hF
 next n0 x0 =>
  split at hF
  next q0 L0 hx0 =>
   obtain ⟨rfl,rfl⟩:=Prod.mk.inj (Option.some.inj hF);clear hF
   rw [aH] at hq
   obtain ⟨dm,hD⟩:=hq
   obtain ⟨e0,Vn⟩:=bP (by simp [kI]) hx0 dm
   obtain ⟨p0,r0⟩:=Vn [e0] 0 1 rfl (by omega)
   refine ⟨hp _ _,[e0],[.a (vI n0),.a (.sl 0 [] 0 L0.length)],[.arr 3 kI L0 false false],⟨⟨rfl,p0,trivial⟩,fun r g hg => ?_⟩,H _ _ hD⟩
   match r,hg with
   | 0,hg => obtain rfl:=Option.some.inj hg;exact r0
  next => cases hF
 next => cases hF)
def SH (h : Int) : Bool:=!aQ h (-1099511627776) 1099511627776
def SD (n : Int) (l : List Int) : Bool:=((l.length : Int) == n * n) && !l.any SH
theorem Uc {n : Int} {l : List Int} (h : l.any SH = true) : SD n l = false:=by unfold SD;rw [h];simp
theorem TR {n : Int} {l : List Int} (h : l.any SH = false) : SD n l = ((l.length : Int) == n * n):=by unfold SD;rw [h];simp
theorem UU {n : Int} {l : List Int} (h : ((l.length : Int) == n * n) = false) : SD n l = false:=by unfold SD;rw [h];rfl
def S4 : au:=U6 (fun n l => [(aa.of (1 <= n /\ n <= 6)),(aa.of (l.length <= 1000000))]) (fun n l => bl (SD n l))
def Tz : au:=S4
noncomputable def U9 : List (Nat × au):=[(67,gK)]
theorem UF : aR Tryd.prog Γ U9:=(aR.nil.cons (aj Tryd.func67 rfl rfl).fn fw)
noncomputable def U2 : List (Nat × Body):=[(65,bo Tryd.f65),(90,bo Tryd.f90),(103,bo Tryd.f103)]
theorem Up : bq Tryd.prog U2:=(((bq.nil.cons (cg Tryd.func103 rfl rfl)).cons (cg Tryd.func90 rfl rfl)).cons (cg Tryd.func65 rfl rfl))
noncomputable def U8 : List (Nat × au):=[(27,mg)]
theorem UE : aR Tryd.prog Γ U8:=(aR.nil.cons (aj Tryd.func27 rfl rfl).fn jx)
attribute [local irreducible] aQ
theorem TH : au.Ok Tryd.prog Γ 79 S4:=T9 (d:=4) (aP UF Up false 0) (aj Tryd.func79 rfl rfl) (fun _ _ => rfl) (by
 intro n l ⟨hn,hl,_⟩
 simp only [aa.ae] at hn hl
 have j4 : 1 <= n * n /\ n * n <= 36:=sJ hn
 have m1 : decide ((-1 : Int) >= 0) = false:=rfl
 obtain h0 | h0 : ((l.length : Int) == n * n) = false \/ ((l.length : Int) == n * n) = true:=by cases ((l.length : Int) == n * n) <;> simp
 ·rw [UU h0]
  repeat' ((conv => whnf);first | apply And.intro | (intro h9;try (have h8 : (_ : Bool) = _:=h9;clear h8;revert h9;subst_vars;intro h9;exact aq h9 (by assumption))))
  all_goals try (conv => whnf)
  all_goals try first | (apply Tk.mk <;> kernel_rfl) | exact ⟨ah rfl⟩ | exact ⟨rfl⟩ | exact ⟨trivial⟩
  all_goals subst_vars
  all_goals try first | rfl | contradiction | (apply Ob.mk;first | (simp only [ag,ak,aa.ae];omega) | ((try simp only [aa.ae]);(try dsimp only);omega))
  all_goals first
   | trivial
   | exact ⟨show 0 <= (i : Int) /\ (i : Int) < (l.length : Int) by omega⟩
   | exact ⟨show 0 + Int.toNat (i : Int) < l.length by omega⟩
   | exact ⟨show 1 <= n * n /\ n * n <= 36 from j4⟩
   | (apply Ob.mk;show (ag .i64 _).p;simp only [ag,ak,aa.ae];omega)
 repeat' ((conv => whnf);first | apply And.intro | (intro h9;try (have h8 : (_ : Bool) = _:=h9;clear h8;revert h9;subst_vars;intro h9;exact aq h9 (by assumption))))
 all_goals try (conv => whnf)
 all_goals try first | (apply Tk.mk <;> kernel_rfl) | exact ⟨ah rfl⟩ | exact ⟨rfl⟩ | exact ⟨trivial⟩
 all_goals subst_vars
 all_goals try first | rfl | contradiction | (apply Ob.mk;first | (simp only [ag,ak,aa.ae];omega) | ((try simp only [aa.ae]);(try dsimp only);omega))
 all_goals try first
  | trivial
  | exact ⟨show 0 <= (i : Int) /\ (i : Int) < (l.length : Int) by omega⟩
  | exact ⟨show 0 + Int.toNat (i : Int) < l.length by omega⟩
  | exact ⟨show 1 <= n * n /\ n * n <= 36 from j4⟩
  | (apply Ob.mk;show (ag .i64 _).p;simp only [ag,ak,aa.ae];omega)
 refine ⟨Nat,fun i => i <= l.length /\ l.any SH = (l.drop i).any SH,fun i => ⟨aI 19 [0,1,7,8] [.a (.sl 0 [] 0 l.length),.a (.fn 103 []),.a (vI l.length),.a (vI i)],[aI 9 [] [],aI 16 [11] [.a .tt]],[.arr 3 kI l false false]⟩,fun i => l.length - i,0,[],⟨Nat.zero_le _,rfl⟩,?_,?_⟩
 ·repeat' ((conv => whnf);(first | apply And.intro | intro _))
  all_goals first | rfl | trivial | exact ah rfl | exact aS ‹_› rfl | exact aT ‹_› rfl | ((repeat' first | rfl | constructor);done)
 rintro i ⟨hi,hf⟩
 have m2 : decide ((i : Int) >= 0) = true:=decide_eq_true (by omega)
 by_cases hi1 : i < l.length
 ·have p0 : decide ((i : Int) < (l.length : Int)) = true:=decide_eq_true (by omega)
  have es:=dP l i
  obtain hb | hb : SH (av l i) = false \/ SH (av l i) = true:=by cases SH (av l i) <;> simp
  ·have jH:=hf.trans (zx hi1 (d:=0) (by show SH (gi l i) = false;rw [<- es];exact hb))
   have e1 : (!aQ (av l i) (-1099511627776) 1099511627776) = false:=hb
   repeat' ((conv => whnf);first | apply And.intro | (intro h9;try (have h8 : (_ : Bool) = _:=h9;clear h8;revert h9;subst_vars;intro h9;exact aq h9 (by assumption))))
   all_goals try (conv => whnf)
   all_goals try first | (apply Tk.mk <;> kernel_rfl) | exact ⟨ah rfl⟩ | exact ⟨rfl⟩ | exact ⟨trivial⟩
   all_goals subst_vars
   all_goals try first | rfl | contradiction | (apply Ob.mk;first | (simp only [ag,ak,aa.ae];omega) | ((try simp only [aa.ae]);(try dsimp only);omega))
   all_goals try first
    | exact ⟨show 0 <= (i : Int) /\ (i : Int) < (l.length : Int) by omega⟩
    | exact ⟨show 0 + Int.toNat (i : Int) < l.length by omega⟩
    | exact ⟨show 1 <= n * n /\ n * n <= 36 from j4⟩
    | (apply Ob.mk;show (ag .i64 _).p;simp only [ag,ak,aa.ae];omega)
   refine ⟨i + 1,[],⟨hi1,jH⟩,?_,by show l.length - (i + 1) < l.length - i;omega⟩
   repeat' ((conv => whnf);(first | apply And.intro | intro _))
   all_goals first | rfl | trivial | exact ah rfl | exact aS ‹_› rfl | exact aT ‹_› rfl | ((repeat' first | rfl | constructor);done)
  have e1 : (!aQ (av l i) (-1099511627776) 1099511627776) = true:=hb
  rw [Uc (hf.trans (wg hi1 (d:=0) (by show SH (gi l i) = true;rw [<- es];exact hb)))]
  repeat' ((conv => whnf);first | apply And.intro | (intro h9;try (have h8 : (_ : Bool) = _:=h9;clear h8;revert h9;subst_vars;intro h9;exact aq h9 (by assumption))))
  all_goals try (conv => whnf)
  all_goals try first | (apply Tk.mk <;> kernel_rfl) | exact ⟨ah rfl⟩ | exact ⟨rfl⟩ | exact ⟨trivial⟩
  all_goals subst_vars
  all_goals try first | rfl | contradiction | (apply Ob.mk;first | (simp only [ag,ak,aa.ae];omega) | ((try simp only [aa.ae]);(try dsimp only);omega))
  all_goals first
   | trivial
   | exact ⟨show 0 <= (i : Int) /\ (i : Int) < (l.length : Int) by omega⟩
   | exact ⟨show 0 + Int.toNat (i : Int) < l.length by omega⟩
   | exact ⟨show 1 <= n * n /\ n * n <= 36 from j4⟩
   | (apply Ob.mk;show (ag .i64 _).p;simp only [ag,ak,aa.ae];omega)
 have p0 : decide ((i : Int) < (l.length : Int)) = false:=decide_eq_false (by omega)
 rw [TR (hf.trans (we (by omega))),h0]
 repeat' ((conv => whnf);first | apply And.intro | (intro h9;try (have h8 : (_ : Bool) = _:=h9;clear h8;revert h9;subst_vars;intro h9;exact aq h9 (by assumption))))
 all_goals try (conv => whnf)
 all_goals try first | (apply Tk.mk <;> kernel_rfl) | exact ⟨ah rfl⟩ | exact ⟨rfl⟩ | exact ⟨trivial⟩
 all_goals subst_vars
 all_goals try first | rfl | contradiction | (apply Ob.mk;first | (simp only [ag,ak,aa.ae];omega) | ((try simp only [aa.ae]);(try dsimp only);omega))
 all_goals first
  | trivial
  | exact ⟨show 0 <= (i : Int) /\ (i : Int) < (l.length : Int) by omega⟩
  | exact ⟨show 0 + Int.toNat (i : Int) < l.length by omega⟩
  | exact ⟨show 1 <= n * n /\ n * n <= 36 from j4⟩
  | (apply Ob.mk;show (ag .i64 _).p;simp only [ag,ak,aa.ae];omega))
theorem TF : au.Ok Tryd.prog Γ 46 Tz:=T9 (d:=0) (aP UE bq.nil false 0) (aj Tryd.func46 rfl rfl) (fun _ _ => rfl) (by
 intro n l ⟨hn,hl,_⟩
 simp only [aa.ae] at hn hl
 have j4 : 1 <= n * n /\ n * n <= 36:=sJ hn
 repeat' ((conv => whnf);first | apply And.intro | (intro h9;try (have h8 : (_ : Bool) = _:=h9;clear h8;revert h9;subst_vars;intro h9;exact aq h9 (by assumption))))
 all_goals try (conv => whnf)
 all_goals try first | (apply Tk.mk <;> kernel_rfl) | exact ⟨ah rfl⟩ | exact ⟨rfl⟩ | exact ⟨trivial⟩
 all_goals subst_vars
 all_goals try first | rfl | contradiction | (apply Ob.mk;first | (simp only [ag,ak,aa.ae];omega) | ((try simp only [aa.ae]);(try dsimp only);omega))
 all_goals try first
  | exact ⟨show 0 <= (i : Int) /\ (i : Int) < (l.length : Int) by omega⟩
  | exact ⟨show 0 + Int.toNat (i : Int) < l.length by omega⟩
  | exact ⟨show 1 <= n * n /\ n * n <= 36 from j4⟩
  | (apply Ob.mk;show (ag .i64 _).p;simp only [ag,ak,aa.ae];omega)
 refine ⟨Nat,fun i => i <= l.length /\ l.any SH = (l.drop i).any SH,fun i => ⟨aI 24 [0,1,5] [.a (vI n),.a (.sl 0 [] 0 l.length),.a (vI i)],[],[.arr 3 kI l false false]⟩,fun i => l.length - i,0,[],⟨Nat.zero_le _,rfl⟩,?_,?_⟩
 ·repeat' ((conv => whnf);(first | apply And.intro | intro _))
  all_goals first | rfl | trivial | exact ah rfl | exact aS ‹_› rfl | exact aT ‹_› rfl | ((repeat' first | rfl | constructor);done)
 rintro i ⟨hi,hf⟩
 by_cases hi1 : i < l.length
 ·have p0 : decide ((i : Int) < (l.length : Int)) = true:=decide_eq_true (by omega)
  have es:=dP l i
  obtain hb | hb : SH (av l i) = false \/ SH (av l i) = true:=by cases SH (av l i) <;> simp
  ·have jH:=hf.trans (zx hi1 (d:=0) (by show SH (gi l i) = false;rw [<- es];exact hb))
   have e1 : (!aQ (av l i) (-1099511627776) 1099511627776) = false:=hb
   repeat' ((conv => whnf);first | apply And.intro | (intro h9;try (have h8 : (_ : Bool) = _:=h9;clear h8;revert h9;subst_vars;intro h9;exact aq h9 (by assumption))))
   all_goals try (conv => whnf)
   all_goals try first | (apply Tk.mk <;> kernel_rfl) | exact ⟨ah rfl⟩ | exact ⟨rfl⟩ | exact ⟨trivial⟩
   all_goals subst_vars
   all_goals try first | rfl | contradiction | (apply Ob.mk;first | (simp only [ag,ak,aa.ae];omega) | ((try simp only [aa.ae]);(try dsimp only);omega))
   all_goals try first
    | exact ⟨show 0 <= (i : Int) /\ (i : Int) < (l.length : Int) by omega⟩
    | exact ⟨show 0 + Int.toNat (i : Int) < l.length by omega⟩
    | exact ⟨show 1 <= n * n /\ n * n <= 36 from j4⟩
    | (apply Ob.mk;show (ag .i64 _).p;simp only [ag,ak,aa.ae];omega)
   refine ⟨i + 1,[],⟨hi1,jH⟩,?_,by show l.length - (i + 1) < l.length - i;omega⟩
   repeat' ((conv => whnf);(first | apply And.intro | intro _))
   all_goals first | rfl | trivial | exact ah rfl | exact aS ‹_› rfl | exact aT ‹_› rfl | ((repeat' first | rfl | constructor);done)
  have e1 : (!aQ (av l i) (-1099511627776) 1099511627776) = true:=hb
  rw [Uc (hf.trans (wg hi1 (d:=0) (by show SH (gi l i) = true;rw [<- es];exact hb)))]
  repeat' ((conv => whnf);first | apply And.intro | (intro h9;try (have h8 : (_ : Bool) = _:=h9;clear h8;revert h9;subst_vars;intro h9;exact aq h9 (by assumption))))
  all_goals try (conv => whnf)
  all_goals try first | (apply Tk.mk <;> kernel_rfl) | exact ⟨ah rfl⟩ | exact ⟨rfl⟩ | exact ⟨trivial⟩
  all_goals subst_vars
  all_goals try first | rfl | contradiction | (apply Ob.mk;first | (simp only [ag,ak,aa.ae];omega) | ((try simp only [aa.ae]);(try dsimp only);omega))
  all_goals first
   | trivial
   | exact ⟨show 0 <= (i : Int) /\ (i : Int) < (l.length : Int) by omega⟩
   | exact ⟨show 0 + Int.toNat (i : Int) < l.length by omega⟩
   | exact ⟨show 1 <= n * n /\ n * n <= 36 from j4⟩
   | (apply Ob.mk;show (ag .i64 _).p;simp only [ag,ak,aa.ae];omega)
 have p0 : decide ((i : Int) < (l.length : Int)) = false:=decide_eq_false (by omega)
 rw [TR (hf.trans (we (by omega)))]
 repeat' ((conv => whnf);first | apply And.intro | (intro h9;try (have h8 : (_ : Bool) = _:=h9;clear h8;revert h9;subst_vars;intro h9;exact aq h9 (by assumption))))
 all_goals try (conv => whnf)
 all_goals try first | (apply Tk.mk <;> kernel_rfl) | exact ⟨ah rfl⟩ | exact ⟨rfl⟩ | exact ⟨trivial⟩
 all_goals subst_vars
 all_goals try first | rfl | contradiction | (apply Ob.mk;first | (simp only [ag,ak,aa.ae];omega) | ((try simp only [aa.ae]);(try dsimp only);omega))
 all_goals first
  | trivial
  | exact ⟨show 0 <= (i : Int) /\ (i : Int) < (l.length : Int) by omega⟩
  | exact ⟨show 0 + Int.toNat (i : Int) < l.length by omega⟩
  | exact ⟨show 1 <= n * n /\ n * n <= 36 from j4⟩
  | (apply Ob.mk;show (ag .i64 _).p;simp only [ag,ak,aa.ae];omega))
end Go.Proofs.YthejmgnkenokpaaDoor
end
section
namespace Go.Proofs.YthejmgnkenokpaaDoor
open Go Go.Sy Go.bK
variable {Γ : bn}
def S0 (D : Int -> List Int -> List Int -> Int -> List aa) (R : Int -> List Int -> List Int -> Int -> cM) : au:=.new fun args rg K => match args with
 | [.a (.v (.int .i64 n0)),.a x0,.a x1,.a (.v (.int .i64 n1))] => (match ca 3 kI rg x0,ca 3 kI rg x1 with | some (q0,L0),some (q1,L1) => bk false (q0 ++ (q1 ++ (D n0 L0 L1 n1))) (K (R n0 L0 L1 n1)) | _,_ => False)
 | _ => False
theorem S5 {f : FuncId} {b : Body} {E : Env} {d : Nat} (hP : aL Tryd.prog Γ E) (hb : bQ Tryd.prog f b) {D : Int -> List Int -> List Int -> Int -> List aa} {R : Int -> List Int -> List Int -> Int -> cM}
  (H : ∀ (n0 : Int) (L0 : List Int) (L1 : List Int) (n1 : Int) (K : cM -> Prop),bW (D n0 L0 L1 n1) -> K (R n0 L0 L1 n1) -> cQ E d b [.a (vI n0),.a (.sl 0 [] 0 L0.length),.a (.sl 1 [] 0 L1.length),.a (vI n1)] [.arr 3 kI L0 false false,.arr 3 kI L1 false false] (bu K)) : au.Ok Tryd.prog Γ f (S0 D R):=au.fM (d:=d) hP hb (by
 intro args rg K hF
 split at hF
 next n0 x0 x1 n1 =>
  split at hF
  next q0 L0 q1 L1 hx0 cO =>
   rw [aV,aH,aH] at hF
   obtain ⟨⟨dm,gk,hD⟩,hK⟩:=hF
   obtain ⟨e0,Vn⟩:=bP (by simp [kI]) hx0 dm
   obtain ⟨e1,iO⟩:=bP (by simp [kI]) cO gk
   obtain ⟨p0,r0⟩:=Vn [e0,e1] 0 2 rfl (by omega)
   obtain ⟨p1,r1⟩:=iO [e0,e1] 1 2 rfl (by omega)
   refine ⟨[e0,e1],[.a (vI n0),.a (.sl 0 [] 0 L0.length),.a (.sl 1 [] 0 L1.length),.a (vI n1)],[.arr 3 kI L0 false false,.arr 3 kI L1 false false],⟨⟨rfl,p0,p1,rfl,trivial⟩,fun r g hg => ?_⟩,bu K,H _ _ _ _ K hD hK,fun x st h => h⟩
   match r,hg with
   | 0,hg => obtain rfl:=Option.some.inj hg;exact r0
   | 1,hg => obtain rfl:=Option.some.inj hg;exact r1
  next => exact hF.elim
 next => exact hF.elim)
def SN (n : Int) (A B : List Int) (t x : Int) : Int:=av A x + av B (aX n t x)
def ur (n : Int) (A B : List Int) (t : Int) (x : Nat) : List Int:=(List.range x).map fun y => SN n A B t (y : Nat)
theorem S1 {n : Int} {A B : List Int} {t : Int} {x : Nat} : (ur n A B t x).length = x:=by simp [ur]
theorem Uw {n : Int} {A B : List Int} {t : Int} {x : Nat} : ur n A B t (x + 1) = ur n A B t x ++ [SN n A B t (x : Nat)]:=by simp [ur,List.range_succ]
def T6 : au:=S0 (fun n A B t => [(aa.of (1 <= n /\ n <= 6)),(aa.of ((A.length : Int) = n * n)),(aa.of ((B.length : Int) = n * n)),(aa.of (0 <= t /\ t <= 7)),(aa.of (A.any SH = false)),(aa.of (B.any SH = false))]) (fun n A B t => ⟨[.arr 3 kI (ur n A B t (n * n).toNat) true true],.a (.sl 0 [] 0 (n * n).toNat)⟩)
theorem SX {l : List Int} (h : l.any SH = false) (i : Nat) : -1099511627776 <= gi l i /\ gi l i <= 1099511627776:=by
 by_cases hi : i < l.length
 ·have h1:=List.any_eq_false.1 h (gi l i) (by rw [show gi l i = l[i] by simp [gi,hi]];exact List.getElem_mem hi)
  unfold SH at h1
  have h2 : aQ (gi l i) (-1099511627776) 1099511627776 = true:=by simpa using h1
  exact bA.1 h2
 ·rw [show gi l i = 0 by simp [gi];rw [List.getElem?_eq_none (by omega)];rfl];omega
noncomputable def U1 : List (Nat × au):=[(70,ke)]
theorem Un : aR Tryd.prog Γ U1:=(aR.nil.cons (aj Tryd.func70 rfl rfl).fn iK)
noncomputable def UR : List (Nat × Body):=[(69,bo Tryd.f69),(93,bo Tryd.f93)]
theorem T0 : bq Tryd.prog UR:=((bq.nil.cons (cg Tryd.func93 rfl rfl)).cons (cg Tryd.func69 rfl rfl))
attribute [local irreducible] aQ aX SH
theorem T7 : au.Ok Tryd.prog Γ 80 T6:=S5 (d:=4) (aP Un T0 false 0) (aj Tryd.func80 rfl rfl) (by
 intro n A B t K ⟨hn,hA,hB,ht,ha,hb,_⟩ hK
 simp only [aa.ae] at hn hA hB ht ha hb
 have j4 : 1 <= n * n /\ n * n <= 36:=sJ hn
 repeat' ((conv => whnf);first | apply And.intro | (intro h9;try (have h8 : (_ : Bool) = _:=h9;clear h8;revert h9;subst_vars;intro h9;exact aq h9 (by assumption))))
 all_goals try (conv => whnf)
 all_goals try first | (apply Tk.mk <;> kernel_rfl) | exact ⟨ah rfl⟩ | exact ⟨rfl⟩ | exact ⟨trivial⟩
 all_goals subst_vars
 all_goals try first | rfl | contradiction | (apply Ob.mk;first | (simp only [ag,ak,aa.ae];omega) | ((try simp only [aa.ae]);(try dsimp only);omega))
 all_goals try first
  | exact True.intro
  | exact ⟨show 0 <= (x : Int) /\ (x : Int) < (A.length : Int) by omega⟩
  | exact ⟨show 0 + Int.toNat (x : Int) < A.length by omega⟩
  | exact ⟨show 0 <= aX n t x /\ aX n t x < (B.length : Int) by omega⟩
  | exact ⟨show 0 + Int.toNat (aX n t x) < B.length by omega⟩
  | exact ⟨show 0 <= (x : Int) /\ (x : Int) < n * n from cq⟩
  | exact ⟨Nat.zero_add _⟩
  | exact ⟨show 0 + x = (ur n A B t x).length by omega⟩
  | exact ⟨show (ag .i64 (av A x + av B (aX n t x))).p by rw [ga,gb];simp only [ag,ak,aa.ae];omega⟩
  | exact ⟨show ((ur n A B t x).length + 1) * 1 <= 1099511627776 by omega⟩
  | exact ⟨show (x + 1) * 1 <= 1099511627776 by omega⟩
  | exact ⟨show 1 <= n * n /\ n * n <= 36 from j4⟩
  | (apply Ob.mk;show (ag .i64 _).p;simp only [ag,ak,aa.ae];omega)
 rename_i l fn T
 rename Nat => dd
 refine ⟨Nat,fun x => x <= (n * n).toNat,fun x => ⟨aI 15 [0,1,6,7] [.a (.yl 8),.a (.p 7 [] 0 0),.a (vI (n * n)),.a (vI x)],[aI 30 [4,5,6,7,9] [.a (.p 2 [] 0 0),.a (.p 3 [] 0 0),.a (.p 4 [] 0 0),.a (.p 5 [] 0 0),.a (.p 6 [] 0 0)]],[.arr 3 kI A false false,.arr 3 kI B false false,.box true [vI n],.box true [.sl 0 [] 0 A.length],.box true [.sl 1 [] 0 B.length],.box true [vI t],.box true [.sl 9 [] 0 x],.box true [vI n],.lp l (aI 30 [4,5,6,7,9] [.a (.p 2 [] 0 0),.a (.p 3 [] 0 0),.a (.p 4 [] 0 0),.a (.p 5 [] 0 0),.a (.p 6 [] 0 0)]) (ta Tryd.f80 0 fn T dd) .ready none,.arr 3 kI (ur n A B t x) true true]⟩,fun x => (n * n).toNat - x,0,[0,1,2,3,4,5,6,7,8,1000],Nat.zero_le _,?_,?_⟩
 ·repeat' ((conv => whnf);(first | apply And.intro | intro _))
  all_goals first | rfl | trivial | exact ah rfl | exact aS ‹_› rfl | exact aT ‹_› rfl | ((repeat' first | rfl | constructor);done)
 rintro x hx
 by_cases cO : x < (n * n).toNat
 ·have p0 : decide ((x : Int) < n * n) = true:=decide_eq_true (by omega)
  have cq : 0 <= (x : Int) /\ (x : Int) < n * n:=by omega
  have Kr:=rP (n:=n) (t:=t) (x:=x) hn ht cq
  have ga : av A x = gi A x:=dP A x
  have gb : av B (aX n t x) = gi B (aX n t x).toNat:=by unfold av gi;rw [Nat.zero_add];rfl
  have b1:=SX ha x
  have b2:=SX hb (aX n t x).toNat
  have dZ:=S1 (n:=n) (A:=A) (B:=B) (t:=t) (x:=x)
  repeat' ((conv => whnf);first | apply And.intro | (intro h9;try (have h8 : (_ : Bool) = _:=h9;clear h8;revert h9;subst_vars;intro h9;exact aq h9 (by assumption))))
  all_goals try (conv => whnf)
  all_goals try first | (apply Tk.mk <;> kernel_rfl) | exact ⟨ah rfl⟩ | exact ⟨rfl⟩ | exact ⟨trivial⟩
  all_goals subst_vars
  all_goals try first | rfl | contradiction | (apply Ob.mk;first | (simp only [ag,ak,aa.ae];omega) | ((try simp only [aa.ae]);(try dsimp only);omega))
  all_goals try first
   | exact True.intro
   | exact ⟨show 0 <= (x : Int) /\ (x : Int) < (A.length : Int) by omega⟩
   | exact ⟨show 0 + Int.toNat (x : Int) < A.length by omega⟩
   | exact ⟨show 0 <= aX n t x /\ aX n t x < (B.length : Int) by omega⟩
   | exact ⟨show 0 + Int.toNat (aX n t x) < B.length by omega⟩
   | exact ⟨show 0 <= (x : Int) /\ (x : Int) < n * n from cq⟩
   | exact ⟨Nat.zero_add _⟩
   | exact ⟨show 0 + x = (ur n A B t x).length by omega⟩
   | exact ⟨show (ag .i64 (av A x + av B (aX n t x))).p by rw [ga,gb];simp only [ag,ak,aa.ae];omega⟩
   | exact ⟨show ((ur n A B t x).length + 1) * 1 <= 1099511627776 by omega⟩
   | exact ⟨show (x + 1) * 1 <= 1099511627776 by omega⟩
   | exact ⟨show 1 <= n * n /\ n * n <= 36 from j4⟩
   | (apply Ob.mk;show (ag .i64 _).p;simp only [ag,ak,aa.ae];omega)
  refine ⟨x + 1,[0,1,2,3,4,5,6,7,8,9],cO,?_,by show (n * n).toNat - (x + 1) < (n * n).toNat - x;omega⟩
  repeat' ((conv => whnf);(first | apply And.intro | intro _))
  all_goals first | rfl | trivial | exact ah rfl | exact aS ‹_› rfl | exact aT ‹_› rfl | ((repeat' first | rfl | constructor);done) | exact ⟨rfl,rfl,Uw.symm⟩
 have p0 : decide ((x : Int) < n * n) = false:=decide_eq_false (by omega)
 obtain rfl : x = (n * n).toNat:=by omega
 repeat' ((conv => whnf);first | apply And.intro | (intro h9;try (have h8 : (_ : Bool) = _:=h9;clear h8;revert h9;subst_vars;intro h9;exact aq h9 (by assumption))))
 all_goals try (conv => whnf)
 all_goals try first | (apply Tk.mk <;> kernel_rfl) | exact ⟨ah rfl⟩ | exact ⟨rfl⟩ | exact ⟨trivial⟩
 all_goals subst_vars
 all_goals try first | rfl | contradiction | (apply Ob.mk;first | (simp only [ag,ak,aa.ae];omega) | ((try simp only [aa.ae]);(try dsimp only);omega))
 all_goals try first
  | exact True.intro
  | exact ⟨show 0 <= (x : Int) /\ (x : Int) < (A.length : Int) by omega⟩
  | exact ⟨show 0 + Int.toNat (x : Int) < A.length by omega⟩
  | exact ⟨show 0 <= aX n t x /\ aX n t x < (B.length : Int) by omega⟩
  | exact ⟨show 0 + Int.toNat (aX n t x) < B.length by omega⟩
  | exact ⟨show 0 <= (x : Int) /\ (x : Int) < n * n from cq⟩
  | exact ⟨Nat.zero_add _⟩
  | exact ⟨show 0 + x = (ur n A B t x).length by omega⟩
  | exact ⟨show (ag .i64 (av A x + av B (aX n t x))).p by rw [ga,gb];simp only [ag,ak,aa.ae];omega⟩
  | exact ⟨show ((ur n A B t x).length + 1) * 1 <= 1099511627776 by omega⟩
  | exact ⟨show (x + 1) * 1 <= 1099511627776 by omega⟩
  | exact ⟨show 1 <= n * n /\ n * n <= 36 from j4⟩
  | (apply Ob.mk;show (ag .i64 _).p;simp only [ag,ak,aa.ae];omega)
 refine bu.base ⟨_,[9],hK,⟨rfl,rfl,by simp,trivial⟩,rfl,?_⟩
 repeat' ((conv => whnf);(first | apply And.intro | intro _))
 all_goals first | rfl | trivial)
end Go.Proofs.YthejmgnkenokpaaDoor
end
section
namespace Go.Proofs.YthejmgnkenokpaaDoor
open Go Go.Sy Go.bK
variable {Γ : bn}
def U5 (D : List Int -> List aa) (F : List Int -> Tm) : au:=.fn fun args rg => match args with
 | [.a x0] => (match ca 3 kI rg x0 with | some (q0,L0) => some (q0 ++ (D L0),F L0) | _ => none)
 | _ => none
theorem UT {f : FuncId} {b : Body} {E : Env} {d : Nat} (hP : aL Tryd.prog Γ E) (hb : bQ Tryd.prog f b) {D : List Int -> List aa} {F : List Int -> Tm} (hp : ∀ (L0 : List Int),(F L0).plain = true)
  (H : ∀ (L0 : List Int),bW (D L0) -> cQ E d b [.a (.sl 0 [] 0 L0.length)] [.arr 3 kI L0 false false] (fun x _ => iL x (F L0))) : au.Ok Tryd.prog Γ f (U5 D F):=au.er (d:=d) hP hb (by
 intro args rg q t hF hq
 split at hF
 next x0 =>
  split at hF
  next q0 L0 hx0 =>
   obtain ⟨rfl,rfl⟩:=Prod.mk.inj (Option.some.inj hF);clear hF
   rw [aH] at hq
   obtain ⟨dm,hD⟩:=hq
   obtain ⟨e0,Vn⟩:=bP (by simp [kI]) hx0 dm
   obtain ⟨p0,r0⟩:=Vn [e0] 0 1 rfl (by omega)
   refine ⟨hp _,[e0],[.a (.sl 0 [] 0 L0.length)],[.arr 3 kI L0 false false],⟨⟨p0,trivial⟩,fun r g hg => ?_⟩,H _ hD⟩
   match r,hg with
   | 0,hg => obtain rfl:=Option.some.inj hg;exact r0
  next => cases hF
 next => cases hF)
def SO (l : List Int) : Nat -> Int
 | 0 => av l 0
 | k + 1 => if av l (k + 1 : Nat) > SO l k then av l (k + 1 : Nat) else SO l k
def T4 : au:=U5 (fun l => [(aa.of (1 <= l.length /\ l.length <= 1000000))]) (fun l => .a (vI (SO l (l.length - 1))))
theorem T5 : au.Ok Tryd.prog Γ 81 T4:=UT (d:=0) (aP aR.nil bq.nil false 0) (aj Tryd.func81 rfl rfl) (fun _ => rfl) (by
 intro l ⟨hl,_⟩
 simp only [aa.ae] at hl
 have z1 : decide ((l.length : Int) < 1) = false:=decide_eq_false (by omega)
 repeat' ((conv => whnf);first | apply And.intro | (intro h9;try (have h8 : (_ : Bool) = _:=h9;clear h8;revert h9;subst_vars;intro h9;exact aq h9 (by assumption))))
 all_goals try (conv => whnf)
 all_goals try first | (apply Tk.mk <;> kernel_rfl) | exact ⟨ah rfl⟩ | exact ⟨rfl⟩ | exact ⟨trivial⟩
 all_goals subst_vars
 all_goals try first | rfl | contradiction | (apply Ob.mk;first | (simp only [ag,ak,aa.ae];omega) | ((try simp only [aa.ae]);(try dsimp only);omega))
 all_goals try first
  | (refine bu.base ⟨_,[],hK,trivial,rfl,?_⟩;(repeat' ((conv => whnf);(first | apply And.intro | intro _)));all_goals first | rfl | trivial)
  | exact ⟨hn⟩
  | exact ⟨ht⟩
  | exact ⟨la⟩
  | exact ⟨lb⟩
  | exact ⟨ha⟩
  | exact ⟨hb⟩
  | exact ⟨hA⟩
  | exact ⟨hB⟩
  | exact ⟨show 1 <= (ur n A B t (n * n).toNat).length /\ (ur n A B t (n * n).toNat).length <= 1000000 by omega⟩
  | exact ⟨dZ.symm⟩
  | exact ⟨show 0 <= (i : Int) /\ (i : Int) < (((n * n).toNat : Nat) : Int) by omega⟩
  | exact ⟨show 0 + Int.toNat (i : Int) < (SC (SB n A B t) (ur n A B t (n * n).toNat) i).length by omega⟩
  | exact ⟨show (ag .i64 (SB n A B t - av (SC (SB n A B t) (ur n A B t (n * n).toNat) i) i)).p by rw [Tc];simp only [ag,ak,aa.ae];omega⟩
  | exact ⟨show 0 + (n * n).toNat = (SC (SB n A B t) (ur n A B t (n * n).toNat) (n * n).toNat).length by omega⟩
  | exact ⟨show 0 <= (i : Int) /\ (i : Int) < (l.length : Int) by omega⟩
  | exact ⟨show 0 + Int.toNat (i : Int) < l.length by omega⟩
  | exact ⟨show 0 + Int.toNat (0 : Int) < l.length by omega⟩
  | exact ⟨show 0 <= (0 : Int) /\ (0 : Int) < (l.length : Int) by omega⟩
  | (apply Ob.mk;show (ag .i64 _).p;simp only [ag,ak,aa.ae];omega)
 refine ⟨Nat,fun i => 1 <= i /\ i <= l.length,fun i => ⟨aI 25 [0,3,4] [.a (.sl 0 [] 0 l.length),.a (vI (SO l (i - 1))),.a (vI i)],[],[.arr 3 kI l false false]⟩,fun i => l.length - i,1,[],⟨Nat.le_refl _,hl.1⟩,?_,?_⟩
 ·repeat' ((conv => whnf);(first | apply And.intro | intro _))
  all_goals first | rfl | trivial | exact ah rfl | exact aS ‹_› rfl | exact aT ‹_› rfl | ((repeat' first | rfl | constructor);done)
 rintro i ⟨hi0,hi⟩
 by_cases hi1 : i < l.length
 ·have p0 : decide ((i : Int) < (l.length : Int)) = true:=decide_eq_true (by omega)
  have hs : SO l (i + 1 - 1) = if av l (i : Nat) > SO l (i - 1) then av l (i : Nat) else SO l (i - 1):=by
   obtain ⟨j,rfl⟩ : ∃ j,i = j + 1:=⟨i - 1,by omega⟩
   rw [Nat.add_sub_cancel,Nat.add_sub_cancel,SO]
  repeat' ((conv => whnf);first | apply And.intro | (intro h9;try (have h8 : (_ : Bool) = _:=h9;clear h8;revert h9;subst_vars;intro h9;exact aq h9 (by assumption))))
  all_goals try (conv => whnf)
  all_goals try first | (apply Tk.mk <;> kernel_rfl) | exact ⟨ah rfl⟩ | exact ⟨rfl⟩ | exact ⟨trivial⟩
  all_goals subst_vars
  all_goals try first | rfl | contradiction | (apply Ob.mk;first | (simp only [ag,ak,aa.ae];omega) | ((try simp only [aa.ae]);(try dsimp only);omega))
  all_goals try first
   | (refine bu.base ⟨_,[],hK,trivial,rfl,?_⟩;(repeat' ((conv => whnf);(first | apply And.intro | intro _)));all_goals first | rfl | trivial)
   | exact ⟨hn⟩
   | exact ⟨ht⟩
   | exact ⟨la⟩
   | exact ⟨lb⟩
   | exact ⟨ha⟩
   | exact ⟨hb⟩
   | exact ⟨hA⟩
   | exact ⟨hB⟩
   | exact ⟨show 1 <= (ur n A B t (n * n).toNat).length /\ (ur n A B t (n * n).toNat).length <= 1000000 by omega⟩
   | exact ⟨dZ.symm⟩
   | exact ⟨show 0 <= (i : Int) /\ (i : Int) < (((n * n).toNat : Nat) : Int) by omega⟩
   | exact ⟨show 0 + Int.toNat (i : Int) < (SC (SB n A B t) (ur n A B t (n * n).toNat) i).length by omega⟩
   | exact ⟨show (ag .i64 (SB n A B t - av (SC (SB n A B t) (ur n A B t (n * n).toNat) i) i)).p by rw [Tc];simp only [ag,ak,aa.ae];omega⟩
   | exact ⟨show 0 + (n * n).toNat = (SC (SB n A B t) (ur n A B t (n * n).toNat) (n * n).toNat).length by omega⟩
   | exact ⟨show 0 <= (i : Int) /\ (i : Int) < (l.length : Int) by omega⟩
   | exact ⟨show 0 + Int.toNat (i : Int) < l.length by omega⟩
   | exact ⟨show 0 + Int.toNat (0 : Int) < l.length by omega⟩
   | exact ⟨show 0 <= (0 : Int) /\ (0 : Int) < (l.length : Int) by omega⟩
   | (apply Ob.mk;show (ag .i64 _).p;simp only [ag,ak,aa.ae];omega)
  refine ⟨i + 1,[],⟨Nat.le_add_left ..,hi1⟩,?_,by show l.length - (i + 1) < l.length - i;omega⟩
  repeat' ((conv => whnf);(first | apply And.intro | intro _))
  all_goals first | rfl | trivial | exact ah rfl | exact aS ‹_› rfl | exact aT ‹_› rfl | ((repeat' first | rfl | constructor);done) | exact hs.symm
 have p0 : decide ((i : Int) < (l.length : Int)) = false:=decide_eq_false (by omega)
 obtain rfl : i = l.length:=by omega
 repeat' ((conv => whnf);first | apply And.intro | (intro h9;try (have h8 : (_ : Bool) = _:=h9;clear h8;revert h9;subst_vars;intro h9;exact aq h9 (by assumption))))
 all_goals try (conv => whnf)
 all_goals try first | (apply Tk.mk <;> kernel_rfl) | exact ⟨ah rfl⟩ | exact ⟨rfl⟩ | exact ⟨trivial⟩
 all_goals subst_vars
 all_goals try first | rfl | contradiction | (apply Ob.mk;first | (simp only [ag,ak,aa.ae];omega) | ((try simp only [aa.ae]);(try dsimp only);omega))
 all_goals first
  | trivial
  | (refine bu.base ⟨_,[],hK,trivial,rfl,?_⟩;(repeat' ((conv => whnf);(first | apply And.intro | intro _)));all_goals first | rfl | trivial)
  | exact ⟨hn⟩
  | exact ⟨ht⟩
  | exact ⟨la⟩
  | exact ⟨lb⟩
  | exact ⟨ha⟩
  | exact ⟨hb⟩
  | exact ⟨hA⟩
  | exact ⟨hB⟩
  | exact ⟨show 1 <= (ur n A B t (n * n).toNat).length /\ (ur n A B t (n * n).toNat).length <= 1000000 by omega⟩
  | exact ⟨dZ.symm⟩
  | exact ⟨show 0 <= (i : Int) /\ (i : Int) < (((n * n).toNat : Nat) : Int) by omega⟩
  | exact ⟨show 0 + Int.toNat (i : Int) < (SC (SB n A B t) (ur n A B t (n * n).toNat) i).length by omega⟩
  | exact ⟨show (ag .i64 (SB n A B t - av (SC (SB n A B t) (ur n A B t (n * n).toNat) i) i)).p by rw [Tc];simp only [ag,ak,aa.ae];omega⟩
  | exact ⟨show 0 + (n * n).toNat = (SC (SB n A B t) (ur n A B t (n * n).toNat) (n * n).toNat).length by omega⟩
  | exact ⟨show 0 <= (i : Int) /\ (i : Int) < (l.length : Int) by omega⟩
  | exact ⟨show 0 + Int.toNat (i : Int) < l.length by omega⟩
  | exact ⟨show 0 + Int.toNat (0 : Int) < l.length by omega⟩
  | exact ⟨show 0 <= (0 : Int) /\ (0 : Int) < (l.length : Int) by omega⟩
  | (apply Ob.mk;show (ag .i64 _).p;simp only [ag,ak,aa.ae];omega))
theorem UB {l : List Int} {M : Int} (h : ∀ j : Nat,-M <= gi l j /\ gi l j <= M) : ∀ k,-M <= SO l k /\ SO l k <= M
 | 0 => by rw [SO];have e : av l 0 = gi l (0 : Nat):=dP l 0;rw [e];exact h 0
 | k + 1 => by
   rw [SO]
   split
   ·rw [dP];exact h _
   ·exact UB h k
def SC (m : Int) (S : List Int) : Nat -> List Int
 | 0 => S
 | i + 1 => (SC m S i).set i (m - av (SC m S i) (i : Nat))
theorem SW {m : Int} {S : List Int} : ∀ i,(SC m S i).length = S.length
 | 0 => rfl
 | i + 1 => by rw [SC,List.length_set,SW i]
theorem TJ {m : Int} {S : List Int} : ∀ (i j : Nat),i <= j -> gi (SC m S i) j = gi S j
 | 0,j,_ => rfl
 | i + 1,j,h => by
   refine Eq.trans ?_ (TJ (m:=m) (S:=S) i j (by omega))
   rw [SC]
   have h1 : i ≠ j:=by omega
   simp [gi,List.getElem?_set_ne h1]
theorem UD {n : Int} {A B : List Int} {t : Int} (ha : A.any SH = false) (hb : B.any SH = false) (x j : Nat) : -2199023255552 <= gi (ur n A B t x) j /\ gi (ur n A B t x) j <= 2199023255552:=by
 by_cases h : j < x
 ·have e : gi (ur n A B t x) j = SN n A B t (j : Nat):=by simp [gi,ur,h]
  have e1 : SN n A B t (j : Nat) = gi A j + gi B (aX n t j).toNat:=by
   unfold SN;rw [dP];congr 1;unfold av gi;rw [Nat.zero_add];rfl
  have:=SX ha j;have:=SX hb (aX n t j).toNat
  rw [e,e1];omega
 ·have e : gi (ur n A B t x) j = 0:=by simp [gi,ur,h]
  rw [e];omega
theorem Tn {n : Int} {l : List Int} (h : SD n l = true) : (l.length : Int) = n * n /\ l.any SH = false:=by
 unfold SD at h
 simp only [Bool.and_eq_true,Bool.not_eq_true',beq_iff_eq] at h
 exact h
def SK (n : Int) (A B : List Int) (t : Int) : Bool:=aQ n 1 6 && (SD n A && (SD n B && aQ t 0 7))
def SB (n : Int) (A B : List Int) (t : Int) : Int:=SO (ur n A B t (n * n).toNat) ((n * n).toNat - 1)
def SM (n : Int) (A B : List Int) (t : Int) : List Int:=SC (SB n A B t) (ur n A B t (n * n).toNat) (n * n).toNat
def SU (n : Int) (A B : List Int) (t : Int) : cM:=match SK n A B t with
 | true => ⟨[.arr 3 kI (SM n A B t) true true],.bF [.a (.sl 0 [] 0 (n * n).toNat),.a (vI 0)]⟩
 | false => ⟨[],.bF [.a (.v (.slice none 0 0)),.a (vI 1)]⟩
def US : au:=S0 (fun n A B t => [(aa.of (A.length <= 1000000)),(aa.of (B.length <= 1000000))]) SU
noncomputable def U0 : List (Nat × au):=[(67,gK),(79,S4),(71,mC),(80,T6),(81,T4)]
theorem Um : aR Tryd.prog Γ U0:=(((((aR.nil.cons (aj Tryd.func81 rfl rfl).fn T5).cons (aj Tryd.func80 rfl rfl).fn T7).cons (aj Tryd.func71 rfl rfl).fn kE).cons (aj Tryd.func79 rfl rfl).fn TH).cons (aj Tryd.func67 rfl rfl).fn fw)
attribute [local irreducible] aQ SD ur SO
theorem T1 : au.Ok Tryd.prog Γ 45 US:=S5 (d:=0) (aP Um bq.nil false 0) (aj Tryd.func45 rfl rfl) (by
 intro n A B t K ⟨hA,hB,_⟩ hK
 simp only [aa.ae] at hA hB
 obtain h1 | h1 : aQ n 1 6 = false \/ aQ n 1 6 = true:=by cases aQ n 1 6 <;> simp
 ·have e1 : (!aQ n 1 6) = true:=by rw [h1];rfl
  rw [show SU n A B t = ⟨[],.bF [.a (.v (.slice none 0 0)),.a (vI 1)]⟩ by unfold SU SK;rw [h1];rfl] at hK
  repeat' ((conv => whnf);first | apply And.intro | (intro h9;try (have h8 : (_ : Bool) = _:=h9;clear h8;revert h9;subst_vars;intro h9;exact aq h9 (by assumption))))
  all_goals try (conv => whnf)
  all_goals try first | (apply Tk.mk <;> kernel_rfl) | exact ⟨ah rfl⟩ | exact ⟨rfl⟩ | exact ⟨trivial⟩
  all_goals subst_vars
  all_goals try first | rfl | contradiction | (apply Ob.mk;first | (simp only [ag,ak,aa.ae];omega) | ((try simp only [aa.ae]);(try dsimp only);omega))
  all_goals first
   | trivial
   | (refine bu.base ⟨_,[],hK,trivial,rfl,?_⟩;(repeat' ((conv => whnf);(first | apply And.intro | intro _)));all_goals first | rfl | trivial)
   | exact ⟨hn⟩
   | exact ⟨ht⟩
   | exact ⟨la⟩
   | exact ⟨lb⟩
   | exact ⟨ha⟩
   | exact ⟨hb⟩
   | exact ⟨hA⟩
   | exact ⟨hB⟩
   | exact ⟨show 1 <= (ur n A B t (n * n).toNat).length /\ (ur n A B t (n * n).toNat).length <= 1000000 by omega⟩
   | exact ⟨dZ.symm⟩
   | exact ⟨show 0 <= (i : Int) /\ (i : Int) < (((n * n).toNat : Nat) : Int) by omega⟩
   | exact ⟨show 0 + Int.toNat (i : Int) < (SC (SB n A B t) (ur n A B t (n * n).toNat) i).length by omega⟩
   | exact ⟨show (ag .i64 (SB n A B t - av (SC (SB n A B t) (ur n A B t (n * n).toNat) i) i)).p by rw [Tc];simp only [ag,ak,aa.ae];omega⟩
   | exact ⟨show 0 + (n * n).toNat = (SC (SB n A B t) (ur n A B t (n * n).toNat) (n * n).toNat).length by omega⟩
   | exact ⟨show 0 <= (i : Int) /\ (i : Int) < (l.length : Int) by omega⟩
   | exact ⟨show 0 + Int.toNat (i : Int) < l.length by omega⟩
   | exact ⟨show 0 + Int.toNat (0 : Int) < l.length by omega⟩
   | exact ⟨show 0 <= (0 : Int) /\ (0 : Int) < (l.length : Int) by omega⟩
   | (apply Ob.mk;show (ag .i64 _).p;simp only [ag,ak,aa.ae];omega)
 have e1 : (!aQ n 1 6) = false:=by rw [h1];rfl
 have hn:=bA.1 h1
 obtain h2 | h2 : SD n A = false \/ SD n A = true:=by cases SD n A <;> simp
 ·have e2 : (!SD n A) = true:=by rw [h2];rfl
  rw [show SU n A B t = ⟨[],.bF [.a (.v (.slice none 0 0)),.a (vI 1)]⟩ by unfold SU SK;rw [h1,h2];rfl] at hK
  repeat' ((conv => whnf);first | apply And.intro | (intro h9;try (have h8 : (_ : Bool) = _:=h9;clear h8;revert h9;subst_vars;intro h9;exact aq h9 (by assumption))))
  all_goals try (conv => whnf)
  all_goals try first | (apply Tk.mk <;> kernel_rfl) | exact ⟨ah rfl⟩ | exact ⟨rfl⟩ | exact ⟨trivial⟩
  all_goals subst_vars
  all_goals try first | rfl | contradiction | (apply Ob.mk;first | (simp only [ag,ak,aa.ae];omega) | ((try simp only [aa.ae]);(try dsimp only);omega))
  all_goals first
   | trivial
   | (refine bu.base ⟨_,[],hK,trivial,rfl,?_⟩;(repeat' ((conv => whnf);(first | apply And.intro | intro _)));all_goals first | rfl | trivial)
   | exact ⟨hn⟩
   | exact ⟨ht⟩
   | exact ⟨la⟩
   | exact ⟨lb⟩
   | exact ⟨ha⟩
   | exact ⟨hb⟩
   | exact ⟨hA⟩
   | exact ⟨hB⟩
   | exact ⟨show 1 <= (ur n A B t (n * n).toNat).length /\ (ur n A B t (n * n).toNat).length <= 1000000 by omega⟩
   | exact ⟨dZ.symm⟩
   | exact ⟨show 0 <= (i : Int) /\ (i : Int) < (((n * n).toNat : Nat) : Int) by omega⟩
   | exact ⟨show 0 + Int.toNat (i : Int) < (SC (SB n A B t) (ur n A B t (n * n).toNat) i).length by omega⟩
   | exact ⟨show (ag .i64 (SB n A B t - av (SC (SB n A B t) (ur n A B t (n * n).toNat) i) i)).p by rw [Tc];simp only [ag,ak,aa.ae];omega⟩
   | exact ⟨show 0 + (n * n).toNat = (SC (SB n A B t) (ur n A B t (n * n).toNat) (n * n).toNat).length by omega⟩
   | exact ⟨show 0 <= (i : Int) /\ (i : Int) < (l.length : Int) by omega⟩
   | exact ⟨show 0 + Int.toNat (i : Int) < l.length by omega⟩
   | exact ⟨show 0 + Int.toNat (0 : Int) < l.length by omega⟩
   | exact ⟨show 0 <= (0 : Int) /\ (0 : Int) < (l.length : Int) by omega⟩
   | (apply Ob.mk;show (ag .i64 _).p;simp only [ag,ak,aa.ae];omega)
 have e2 : (!SD n A) = false:=by rw [h2];rfl
 obtain h3 | h3 : SD n B = false \/ SD n B = true:=by cases SD n B <;> simp
 ·have e3 : (!SD n B) = true:=by rw [h3];rfl
  rw [show SU n A B t = ⟨[],.bF [.a (.v (.slice none 0 0)),.a (vI 1)]⟩ by unfold SU SK;rw [h1,h2,h3];rfl] at hK
  repeat' ((conv => whnf);first | apply And.intro | (intro h9;try (have h8 : (_ : Bool) = _:=h9;clear h8;revert h9;subst_vars;intro h9;exact aq h9 (by assumption))))
  all_goals try (conv => whnf)
  all_goals try first | (apply Tk.mk <;> kernel_rfl) | exact ⟨ah rfl⟩ | exact ⟨rfl⟩ | exact ⟨trivial⟩
  all_goals subst_vars
  all_goals try first | rfl | contradiction | (apply Ob.mk;first | (simp only [ag,ak,aa.ae];omega) | ((try simp only [aa.ae]);(try dsimp only);omega))
  all_goals first
   | trivial
   | (refine bu.base ⟨_,[],hK,trivial,rfl,?_⟩;(repeat' ((conv => whnf);(first | apply And.intro | intro _)));all_goals first | rfl | trivial)
   | exact ⟨hn⟩
   | exact ⟨ht⟩
   | exact ⟨la⟩
   | exact ⟨lb⟩
   | exact ⟨ha⟩
   | exact ⟨hb⟩
   | exact ⟨hA⟩
   | exact ⟨hB⟩
   | exact ⟨show 1 <= (ur n A B t (n * n).toNat).length /\ (ur n A B t (n * n).toNat).length <= 1000000 by omega⟩
   | exact ⟨dZ.symm⟩
   | exact ⟨show 0 <= (i : Int) /\ (i : Int) < (((n * n).toNat : Nat) : Int) by omega⟩
   | exact ⟨show 0 + Int.toNat (i : Int) < (SC (SB n A B t) (ur n A B t (n * n).toNat) i).length by omega⟩
   | exact ⟨show (ag .i64 (SB n A B t - av (SC (SB n A B t) (ur n A B t (n * n).toNat) i) i)).p by rw [Tc];simp only [ag,ak,aa.ae];omega⟩
   | exact ⟨show 0 + (n * n).toNat = (SC (SB n A B t) (ur n A B t (n * n).toNat) (n * n).toNat).length by omega⟩
   | exact ⟨show 0 <= (i : Int) /\ (i : Int) < (l.length : Int) by omega⟩
   | exact ⟨show 0 + Int.toNat (i : Int) < l.length by omega⟩
   | exact ⟨show 0 + Int.toNat (0 : Int) < l.length by omega⟩
   | exact ⟨show 0 <= (0 : Int) /\ (0 : Int) < (l.length : Int) by omega⟩
   | (apply Ob.mk;show (ag .i64 _).p;simp only [ag,ak,aa.ae];omega)
 have e3 : (!SD n B) = false:=by rw [h3];rfl
 obtain h4 | h4 : aQ t 0 7 = false \/ aQ t 0 7 = true:=by cases aQ t 0 7 <;> simp
 ·have e4 : (!aQ t 0 7) = true:=by rw [h4];rfl
  rw [show SU n A B t = ⟨[],.bF [.a (.v (.slice none 0 0)),.a (vI 1)]⟩ by unfold SU SK;rw [h1,h2,h3,h4];rfl] at hK
  repeat' ((conv => whnf);first | apply And.intro | (intro h9;try (have h8 : (_ : Bool) = _:=h9;clear h8;revert h9;subst_vars;intro h9;exact aq h9 (by assumption))))
  all_goals try (conv => whnf)
  all_goals try first | (apply Tk.mk <;> kernel_rfl) | exact ⟨ah rfl⟩ | exact ⟨rfl⟩ | exact ⟨trivial⟩
  all_goals subst_vars
  all_goals try first | rfl | contradiction | (apply Ob.mk;first | (simp only [ag,ak,aa.ae];omega) | ((try simp only [aa.ae]);(try dsimp only);omega))
  all_goals first
   | trivial
   | (refine bu.base ⟨_,[],hK,trivial,rfl,?_⟩;(repeat' ((conv => whnf);(first | apply And.intro | intro _)));all_goals first | rfl | trivial)
   | exact ⟨hn⟩
   | exact ⟨ht⟩
   | exact ⟨la⟩
   | exact ⟨lb⟩
   | exact ⟨ha⟩
   | exact ⟨hb⟩
   | exact ⟨hA⟩
   | exact ⟨hB⟩
   | exact ⟨show 1 <= (ur n A B t (n * n).toNat).length /\ (ur n A B t (n * n).toNat).length <= 1000000 by omega⟩
   | exact ⟨dZ.symm⟩
   | exact ⟨show 0 <= (i : Int) /\ (i : Int) < (((n * n).toNat : Nat) : Int) by omega⟩
   | exact ⟨show 0 + Int.toNat (i : Int) < (SC (SB n A B t) (ur n A B t (n * n).toNat) i).length by omega⟩
   | exact ⟨show (ag .i64 (SB n A B t - av (SC (SB n A B t) (ur n A B t (n * n).toNat) i) i)).p by rw [Tc];simp only [ag,ak,aa.ae];omega⟩
   | exact ⟨show 0 + (n * n).toNat = (SC (SB n A B t) (ur n A B t (n * n).toNat) (n * n).toNat).length by omega⟩
   | exact ⟨show 0 <= (i : Int) /\ (i : Int) < (l.length : Int) by omega⟩
   | exact ⟨show 0 + Int.toNat (i : Int) < l.length by omega⟩
   | exact ⟨show 0 + Int.toNat (0 : Int) < l.length by omega⟩
   | exact ⟨show 0 <= (0 : Int) /\ (0 : Int) < (l.length : Int) by omega⟩
   | (apply Ob.mk;show (ag .i64 _).p;simp only [ag,ak,aa.ae];omega)
 have e4 : (!aQ t 0 7) = false:=by rw [h4];rfl
 have ht:=bA.1 h4
 rw [show SU n A B t = ⟨[.arr 3 kI (SM n A B t) true true],.bF [.a (.sl 0 [] 0 (n * n).toNat),.a (vI 0)]⟩ by unfold SU SK;rw [h1,h2,h3,h4];rfl] at hK
 obtain ⟨la,ha⟩:=Tn h2
 obtain ⟨lb,hb⟩:=Tn h3
 have j4 : 1 <= n * n /\ n * n <= 36:=sJ hn
 have dZ : (ur n A B t (n * n).toNat).length = (n * n).toNat:=S1
 have Vk : -2199023255552 <= SB n A B t /\ SB n A B t <= 2199023255552:=UB (fun j => UD ha hb _ j) _
 have z5 : ((ur n A B t (n * n).toNat).length : Int) = ((n * n).toNat : Nat):=by rw [dZ]
 repeat' ((conv => whnf);first | apply And.intro | (intro h9;try (have h8 : (_ : Bool) = _:=h9;clear h8;revert h9;subst_vars;intro h9;exact aq h9 (by assumption))))
 all_goals try (conv => whnf)
 all_goals try first | (apply Tk.mk <;> kernel_rfl) | exact ⟨ah rfl⟩ | exact ⟨rfl⟩ | exact ⟨trivial⟩
 all_goals subst_vars
 all_goals try first | rfl | contradiction | (apply Ob.mk;first | (simp only [ag,ak,aa.ae];omega) | ((try simp only [aa.ae]);(try dsimp only);omega))
 all_goals try first
  | (refine bu.base ⟨_,[],hK,trivial,rfl,?_⟩;(repeat' ((conv => whnf);(first | apply And.intro | intro _)));all_goals first | rfl | trivial)
  | exact ⟨hn⟩
  | exact ⟨ht⟩
  | exact ⟨la⟩
  | exact ⟨lb⟩
  | exact ⟨ha⟩
  | exact ⟨hb⟩
  | exact ⟨hA⟩
  | exact ⟨hB⟩
  | exact ⟨show 1 <= (ur n A B t (n * n).toNat).length /\ (ur n A B t (n * n).toNat).length <= 1000000 by omega⟩
  | exact ⟨dZ.symm⟩
  | exact ⟨show 0 <= (i : Int) /\ (i : Int) < (((n * n).toNat : Nat) : Int) by omega⟩
  | exact ⟨show 0 + Int.toNat (i : Int) < (SC (SB n A B t) (ur n A B t (n * n).toNat) i).length by omega⟩
  | exact ⟨show (ag .i64 (SB n A B t - av (SC (SB n A B t) (ur n A B t (n * n).toNat) i) i)).p by rw [Tc];simp only [ag,ak,aa.ae];omega⟩
  | exact ⟨show 0 + (n * n).toNat = (SC (SB n A B t) (ur n A B t (n * n).toNat) (n * n).toNat).length by omega⟩
  | exact ⟨show 0 <= (i : Int) /\ (i : Int) < (l.length : Int) by omega⟩
  | exact ⟨show 0 + Int.toNat (i : Int) < l.length by omega⟩
  | exact ⟨show 0 + Int.toNat (0 : Int) < l.length by omega⟩
  | exact ⟨show 0 <= (0 : Int) /\ (0 : Int) < (l.length : Int) by omega⟩
  | (apply Ob.mk;show (ag .i64 _).p;simp only [ag,ak,aa.ae];omega)
 refine ⟨Nat,fun i => i <= (n * n).toNat,fun i => ⟨aI 56 [10,11,41,42] [.a (.sl 2 [] 0 (n * n).toNat),.a (vI (SB n A B t)),.a (vI ((n * n).toNat : Nat)),.a (vI i)],[],[.arr 3 kI A false false,.arr 3 kI B false false,.arr 3 kI (SC (SB n A B t) (ur n A B t (n * n).toNat) i) true true]⟩,fun i => (n * n).toNat - i,0,[],Nat.zero_le _,?_,?_⟩
 ·have Ns : SO (ur n A B t (n * n).toNat) ((ur n A B t (n * n).toNat).length - 1) = SB n A B t:=by unfold SB;rw [dZ]
  repeat' ((conv => whnf);(first | apply And.intro | intro _))
  all_goals first | rfl | trivial | exact ah rfl | exact aS ‹_› rfl | exact aT ‹_› rfl | ((repeat' first | rfl | constructor);done) | exact Ns
 rintro i hi
 by_cases hi1 : i < (n * n).toNat
 ·have p0 : decide ((i : Int) < (((n * n).toNat : Nat) : Int)) = true:=decide_eq_true (by omega)
  have nv:=SW (m:=SB n A B t) (S:=ur n A B t (n * n).toNat) i
  have Tc : av (SC (SB n A B t) (ur n A B t (n * n).toNat) i) i = gi (ur n A B t (n * n).toNat) i:=(dP _ i).trans (TJ i i (Nat.le_refl _))
  have Vj:=UD ha hb (t:=t) (n:=n) (n * n).toNat i
  have hst : (SC (SB n A B t) (ur n A B t (n * n).toNat) i).set (0 + Int.toNat (i : Int)) (SB n A B t - av (SC (SB n A B t) (ur n A B t (n * n).toNat) i) i) = SC (SB n A B t) (ur n A B t (n * n).toNat) (i + 1):=by rw [Nat.zero_add,Int.toNat_natCast,SC]
  repeat' ((conv => whnf);first | apply And.intro | (intro h9;try (have h8 : (_ : Bool) = _:=h9;clear h8;revert h9;subst_vars;intro h9;exact aq h9 (by assumption))))
  all_goals try (conv => whnf)
  all_goals try first | (apply Tk.mk <;> kernel_rfl) | exact ⟨ah rfl⟩ | exact ⟨rfl⟩ | exact ⟨trivial⟩
  all_goals subst_vars
  all_goals try first | rfl | contradiction | (apply Ob.mk;first | (simp only [ag,ak,aa.ae];omega) | ((try simp only [aa.ae]);(try dsimp only);omega))
  all_goals try first
   | (refine bu.base ⟨_,[],hK,trivial,rfl,?_⟩;(repeat' ((conv => whnf);(first | apply And.intro | intro _)));all_goals first | rfl | trivial)
   | exact ⟨hn⟩
   | exact ⟨ht⟩
   | exact ⟨la⟩
   | exact ⟨lb⟩
   | exact ⟨ha⟩
   | exact ⟨hb⟩
   | exact ⟨hA⟩
   | exact ⟨hB⟩
   | exact ⟨show 1 <= (ur n A B t (n * n).toNat).length /\ (ur n A B t (n * n).toNat).length <= 1000000 by omega⟩
   | exact ⟨dZ.symm⟩
   | exact ⟨show 0 <= (i : Int) /\ (i : Int) < (((n * n).toNat : Nat) : Int) by omega⟩
   | exact ⟨show 0 + Int.toNat (i : Int) < (SC (SB n A B t) (ur n A B t (n * n).toNat) i).length by omega⟩
   | exact ⟨show (ag .i64 (SB n A B t - av (SC (SB n A B t) (ur n A B t (n * n).toNat) i) i)).p by rw [Tc];simp only [ag,ak,aa.ae];omega⟩
   | exact ⟨show 0 + (n * n).toNat = (SC (SB n A B t) (ur n A B t (n * n).toNat) (n * n).toNat).length by omega⟩
   | exact ⟨show 0 <= (i : Int) /\ (i : Int) < (l.length : Int) by omega⟩
   | exact ⟨show 0 + Int.toNat (i : Int) < l.length by omega⟩
   | exact ⟨show 0 + Int.toNat (0 : Int) < l.length by omega⟩
   | exact ⟨show 0 <= (0 : Int) /\ (0 : Int) < (l.length : Int) by omega⟩
   | (apply Ob.mk;show (ag .i64 _).p;simp only [ag,ak,aa.ae];omega)
  refine ⟨i + 1,[],hi1,?_,by show (n * n).toNat - (i + 1) < (n * n).toNat - i;omega⟩
  repeat' ((conv => whnf);(first | apply And.intro | intro _))
  all_goals first | rfl | trivial | exact ah rfl | exact aS ‹_› rfl | exact aT ‹_› rfl | ((repeat' first | rfl | constructor);done) | exact ⟨rfl,rfl,hst⟩
 have p0 : decide ((i : Int) < (((n * n).toNat : Nat) : Int)) = false:=decide_eq_false (by omega)
 obtain rfl : i = (n * n).toNat:=by omega
 have nv:=SW (m:=SB n A B t) (S:=ur n A B t (n * n).toNat) (n * n).toNat
 repeat' ((conv => whnf);first | apply And.intro | (intro h9;try (have h8 : (_ : Bool) = _:=h9;clear h8;revert h9;subst_vars;intro h9;exact aq h9 (by assumption))))
 all_goals try (conv => whnf)
 all_goals try first | (apply Tk.mk <;> kernel_rfl) | exact ⟨ah rfl⟩ | exact ⟨rfl⟩ | exact ⟨trivial⟩
 all_goals subst_vars
 all_goals try first | rfl | contradiction | (apply Ob.mk;first | (simp only [ag,ak,aa.ae];omega) | ((try simp only [aa.ae]);(try dsimp only);omega))
 all_goals try first
  | (refine bu.base ⟨_,[],hK,trivial,rfl,?_⟩;(repeat' ((conv => whnf);(first | apply And.intro | intro _)));all_goals first | rfl | trivial)
  | exact ⟨hn⟩
  | exact ⟨ht⟩
  | exact ⟨la⟩
  | exact ⟨lb⟩
  | exact ⟨ha⟩
  | exact ⟨hb⟩
  | exact ⟨hA⟩
  | exact ⟨hB⟩
  | exact ⟨show 1 <= (ur n A B t (n * n).toNat).length /\ (ur n A B t (n * n).toNat).length <= 1000000 by omega⟩
  | exact ⟨dZ.symm⟩
  | exact ⟨show 0 <= (i : Int) /\ (i : Int) < (((n * n).toNat : Nat) : Int) by omega⟩
  | exact ⟨show 0 + Int.toNat (i : Int) < (SC (SB n A B t) (ur n A B t (n * n).toNat) i).length by omega⟩
  | exact ⟨show (ag .i64 (SB n A B t - av (SC (SB n A B t) (ur n A B t (n * n).toNat) i) i)).p by rw [Tc];simp only [ag,ak,aa.ae];omega⟩
  | exact ⟨show 0 + (n * n).toNat = (SC (SB n A B t) (ur n A B t (n * n).toNat) (n * n).toNat).length by omega⟩
  | exact ⟨show 0 <= (i : Int) /\ (i : Int) < (l.length : Int) by omega⟩
  | exact ⟨show 0 + Int.toNat (i : Int) < l.length by omega⟩
  | exact ⟨show 0 + Int.toNat (0 : Int) < l.length by omega⟩
  | exact ⟨show 0 <= (0 : Int) /\ (0 : Int) < (l.length : Int) by omega⟩
  | (apply Ob.mk;show (ag .i64 _).p;simp only [ag,ak,aa.ae];omega)
 refine bu.base ⟨_,[2],hK,⟨rfl,rfl,by simp,trivial⟩,rfl,?_⟩
 repeat' ((conv => whnf);(first | apply And.intro | intro _))
 all_goals first | rfl | trivial)
end Go.Proofs.YthejmgnkenokpaaDoor
end
section
namespace Go.Proofs.YthejmgnkenokpaaDoor
open Go Go.Sy Go.bK
variable {Γ : bn}
def SF (n : Int) (A B : List Int) (t : Int) : Nat -> Int
 | 0 => SN n A B t 0
 | x + 1 => if SN n A B t (x : Nat) > SF n A B t x then SN n A B t (x : Nat) else SF n A B t x
def UZ (n : Int) (A B : List Int) (t m x : Int) : Int:=m - av A x - av B (aX n t x)
def SP (n : Int) (A B : List Int) (t m : Int) (x : Nat) : List Int:=(List.range x).map fun y => UZ n A B t m (y : Nat)
theorem Tw {n : Int} {A B : List Int} {t m : Int} {x : Nat} : (SP n A B t m x).length = x:=by simp [SP]
theorem Uv {n : Int} {A B : List Int} {t m : Int} {x : Nat} : SP n A B t m (x + 1) = SP n A B t m x ++ [UZ n A B t m (x : Nat)]:=by simp [SP,List.range_succ]
theorem UC (n : Int) (A B : List Int) (t : Int) (j : Nat) : SN n A B t (j : Nat) = gi A j + gi B (aX n t j).toNat:=by
 unfold SN;rw [dP];congr 1;unfold av gi;rw [Nat.zero_add];rfl
theorem TE {n : Int} {A B : List Int} {t : Int} (ha : A.any SH = false) (hb : B.any SH = false) (j : Nat) : -2199023255552 <= SN n A B t (j : Nat) /\ SN n A B t (j : Nat) <= 2199023255552:=by
 have:=SX ha j;have:=SX hb (aX n t j).toNat
 rw [UC];omega
theorem Uh {n : Int} {A B : List Int} {t : Int} (ha : A.any SH = false) (hb : B.any SH = false) : ∀ x,-2199023255552 <= SF n A B t x /\ SF n A B t x <= 2199023255552
 | 0 => by rw [SF];exact TE ha hb 0
 | x + 1 => by
   rw [SF]
   split
   ·exact TE ha hb x
   ·exact Uh ha hb x
def SG (n : Int) (A B : List Int) (t : Int) : List Int:=SP n A B t (SF n A B t (n * n).toNat) (n * n).toNat
def TA : au:=S0 (fun n A B t => [(aa.of (1 <= n /\ n <= 6)),(aa.of ((A.length : Int) = n * n)),(aa.of ((B.length : Int) = n * n)),(aa.of (0 <= t /\ t <= 7)),(aa.of (A.any SH = false)),(aa.of (B.any SH = false))]) (fun n A B t => ⟨[.arr 3 kI (SG n A B t) true true],.a (.sl 0 [] 0 (n * n).toNat)⟩)
noncomputable def UQ : List (Nat × au):=[(61,nQ)]
theorem TZ : aR Tryd.prog Γ UQ:=(aR.nil.cons (aj Tryd.func61 rfl rfl).fn n9)
attribute [local irreducible] aQ aX SH
theorem TI : au.Ok Tryd.prog Γ 47 TA:=S5 (d:=0) (aP TZ bq.nil false 0) (aj Tryd.func47 rfl rfl) (by
 intro n A B t K ⟨hn,hA,hB,ht,ha,hb,_⟩ hK
 simp only [aa.ae] at hn hA hB ht ha hb
 have j4 : 1 <= n * n /\ n * n <= 36:=sJ hn
 have ht0:=rP (n:=n) (t:=t) (x:=0) hn ht (by omega)
 have g0 : SN n A B t 0 = gi A 0 + gi B (aX n t 0).toNat:=UC n A B t 0
 have h0 : -2199023255552 <= SN n A B t 0 /\ SN n A B t 0 <= 2199023255552:=TE ha hb 0
 have g1 : av A 0 + av B (aX n t 0) = SN n A B t 0:=rfl
 repeat' ((conv => whnf);first | apply And.intro | (intro h9;try (have h8 : (_ : Bool) = _:=h9;clear h8;revert h9;subst_vars;intro h9;exact aq h9 (by assumption))))
 all_goals try (conv => whnf)
 all_goals try first | (apply Tk.mk <;> kernel_rfl) | exact ⟨ah rfl⟩ | exact ⟨rfl⟩ | exact ⟨trivial⟩
 all_goals subst_vars
 all_goals try first | rfl | contradiction | (apply Ob.mk;first | (simp only [ag,ak,aa.ae];omega) | ((try simp only [aa.ae]);(try dsimp only);omega))
 all_goals try first
  | exact ⟨hn⟩
  | exact ⟨ht⟩
  | exact ⟨show 0 <= (0 : Int) /\ (0 : Int) < n * n by omega⟩
  | exact ⟨show 0 <= (0 : Int) /\ (0 : Int) < (A.length : Int) by omega⟩
  | exact ⟨show 0 + Int.toNat 0 < A.length by omega⟩
  | exact ⟨show 0 <= aX n t 0 /\ aX n t 0 < (B.length : Int) by omega⟩
  | exact ⟨show 0 + Int.toNat (aX n t 0) < B.length by omega⟩
  | exact ⟨show (ag .i64 (av A 0 + av B (aX n t 0))).p by rw [g1];simp only [ag,ak,aa.ae];omega⟩
  | exact ⟨show (ag .i64 (av A x + av B (aX n t x))).p by rw [g2];simp only [ag,ak,aa.ae];omega⟩
  | exact ⟨show 0 <= (x : Int) /\ (x : Int) < (A.length : Int) by omega⟩
  | exact ⟨show 0 + Int.toNat (x : Int) < A.length by omega⟩
  | exact ⟨show 0 <= aX n t x /\ aX n t x < (B.length : Int) by omega⟩
  | exact ⟨show 0 + Int.toNat (aX n t x) < B.length by omega⟩
  | exact ⟨cq⟩
  | exact ⟨show (ag .i64 (SF n A B t (n * n).toNat - av A x)).p by rw [ga];simp only [ag,ak,aa.ae];omega⟩
  | exact ⟨show (ag .i64 (SF n A B t (n * n).toNat - av A x - av B (aX n t x))).p by rw [ga,gb];simp only [ag,ak,aa.ae];omega⟩
  | exact ⟨Nat.zero_add _⟩
  | exact ⟨show 0 + x = (SP n A B t (SF n A B t (n * n).toNat) x).length by omega⟩
  | exact ⟨show ((SP n A B t (SF n A B t (n * n).toNat) x).length + 1) * 1 <= 1099511627776 by omega⟩
  | exact ⟨show (x + 1) * 1 <= 1099511627776 by omega⟩
  | (apply Ob.mk;show (ag .i64 _).p;simp only [ag,ak,aa.ae];omega)
 refine ⟨Nat,fun x => x <= (n * n).toNat,fun x => ⟨aI 69 [0,1,2,3,9,10] [.a (vI n),.a (.sl 0 [] 0 A.length),.a (.sl 1 [] 0 B.length),.a (vI t),.a (vI (SF n A B t x)),.a (vI x)],[],[.arr 3 kI A false false,.arr 3 kI B false false]⟩,fun x => (n * n).toNat - x,0,[],Nat.zero_le _,?_,?_⟩
 ·repeat' ((conv => whnf);(first | apply And.intro | intro _))
  all_goals first | rfl | trivial | exact ah rfl | exact aS ‹_› rfl | exact aT ‹_› rfl | ((repeat' first | rfl | constructor);done)
 rintro x hx
 by_cases cO : x < (n * n).toNat
 ·have p0 : decide ((x : Int) < n * n) = true:=decide_eq_true (by omega)
  have cq : 0 <= (x : Int) /\ (x : Int) < n * n:=by omega
  have Kr:=rP (n:=n) (t:=t) (x:=x) hn ht cq
  have hr:=TE (n:=n) (t:=t) ha hb x
  have g2 : av A x + av B (aX n t x) = SN n A B t x:=rfl
  repeat' ((conv => whnf);first | apply And.intro | (intro h9;try (have h8 : (_ : Bool) = _:=h9;clear h8;revert h9;subst_vars;intro h9;exact aq h9 (by assumption))))
  all_goals try (conv => whnf)
  all_goals try first | (apply Tk.mk <;> kernel_rfl) | exact ⟨ah rfl⟩ | exact ⟨rfl⟩ | exact ⟨trivial⟩
  all_goals subst_vars
  all_goals try first | rfl | contradiction | (apply Ob.mk;first | (simp only [ag,ak,aa.ae];omega) | ((try simp only [aa.ae]);(try dsimp only);omega))
  all_goals try first
   | exact ⟨hn⟩
   | exact ⟨ht⟩
   | exact ⟨show 0 <= (0 : Int) /\ (0 : Int) < n * n by omega⟩
   | exact ⟨show 0 <= (0 : Int) /\ (0 : Int) < (A.length : Int) by omega⟩
   | exact ⟨show 0 + Int.toNat 0 < A.length by omega⟩
   | exact ⟨show 0 <= aX n t 0 /\ aX n t 0 < (B.length : Int) by omega⟩
   | exact ⟨show 0 + Int.toNat (aX n t 0) < B.length by omega⟩
   | exact ⟨show (ag .i64 (av A 0 + av B (aX n t 0))).p by rw [g1];simp only [ag,ak,aa.ae];omega⟩
   | exact ⟨show (ag .i64 (av A x + av B (aX n t x))).p by rw [g2];simp only [ag,ak,aa.ae];omega⟩
   | exact ⟨show 0 <= (x : Int) /\ (x : Int) < (A.length : Int) by omega⟩
   | exact ⟨show 0 + Int.toNat (x : Int) < A.length by omega⟩
   | exact ⟨show 0 <= aX n t x /\ aX n t x < (B.length : Int) by omega⟩
   | exact ⟨show 0 + Int.toNat (aX n t x) < B.length by omega⟩
   | exact ⟨cq⟩
   | exact ⟨show (ag .i64 (SF n A B t (n * n).toNat - av A x)).p by rw [ga];simp only [ag,ak,aa.ae];omega⟩
   | exact ⟨show (ag .i64 (SF n A B t (n * n).toNat - av A x - av B (aX n t x))).p by rw [ga,gb];simp only [ag,ak,aa.ae];omega⟩
   | exact ⟨Nat.zero_add _⟩
   | exact ⟨show 0 + x = (SP n A B t (SF n A B t (n * n).toNat) x).length by omega⟩
   | exact ⟨show ((SP n A B t (SF n A B t (n * n).toNat) x).length + 1) * 1 <= 1099511627776 by omega⟩
   | exact ⟨show (x + 1) * 1 <= 1099511627776 by omega⟩
   | (apply Ob.mk;show (ag .i64 _).p;simp only [ag,ak,aa.ae];omega)
  refine ⟨x + 1,[],cO,?_,by show (n * n).toNat - (x + 1) < (n * n).toNat - x;omega⟩
  repeat' ((conv => whnf);(first | apply And.intro | intro _))
  all_goals first | rfl | trivial | exact ah rfl | exact aS ‹_› rfl | exact aT ‹_› rfl | ((repeat' first | rfl | constructor);done)
 have p0 : decide ((x : Int) < n * n) = false:=decide_eq_false (by omega)
 obtain rfl : x = (n * n).toNat:=by omega
 repeat' ((conv => whnf);first | apply And.intro | (intro h9;try (have h8 : (_ : Bool) = _:=h9;clear h8;revert h9;subst_vars;intro h9;exact aq h9 (by assumption))))
 all_goals try (conv => whnf)
 all_goals try first | (apply Tk.mk <;> kernel_rfl) | exact ⟨ah rfl⟩ | exact ⟨rfl⟩ | exact ⟨trivial⟩
 all_goals subst_vars
 all_goals try first | rfl | contradiction | (apply Ob.mk;first | (simp only [ag,ak,aa.ae];omega) | ((try simp only [aa.ae]);(try dsimp only);omega))
 all_goals try first
  | exact ⟨hn⟩
  | exact ⟨ht⟩
  | exact ⟨show 0 <= (0 : Int) /\ (0 : Int) < n * n by omega⟩
  | exact ⟨show 0 <= (0 : Int) /\ (0 : Int) < (A.length : Int) by omega⟩
  | exact ⟨show 0 + Int.toNat 0 < A.length by omega⟩
  | exact ⟨show 0 <= aX n t 0 /\ aX n t 0 < (B.length : Int) by omega⟩
  | exact ⟨show 0 + Int.toNat (aX n t 0) < B.length by omega⟩
  | exact ⟨show (ag .i64 (av A 0 + av B (aX n t 0))).p by rw [g1];simp only [ag,ak,aa.ae];omega⟩
  | exact ⟨show (ag .i64 (av A x + av B (aX n t x))).p by rw [g2];simp only [ag,ak,aa.ae];omega⟩
  | exact ⟨show 0 <= (x : Int) /\ (x : Int) < (A.length : Int) by omega⟩
  | exact ⟨show 0 + Int.toNat (x : Int) < A.length by omega⟩
  | exact ⟨show 0 <= aX n t x /\ aX n t x < (B.length : Int) by omega⟩
  | exact ⟨show 0 + Int.toNat (aX n t x) < B.length by omega⟩
  | exact ⟨cq⟩
  | exact ⟨show (ag .i64 (SF n A B t (n * n).toNat - av A x)).p by rw [ga];simp only [ag,ak,aa.ae];omega⟩
  | exact ⟨show (ag .i64 (SF n A B t (n * n).toNat - av A x - av B (aX n t x))).p by rw [ga,gb];simp only [ag,ak,aa.ae];omega⟩
  | exact ⟨Nat.zero_add _⟩
  | exact ⟨show 0 + x = (SP n A B t (SF n A B t (n * n).toNat) x).length by omega⟩
  | exact ⟨show ((SP n A B t (SF n A B t (n * n).toNat) x).length + 1) * 1 <= 1099511627776 by omega⟩
  | exact ⟨show (x + 1) * 1 <= 1099511627776 by omega⟩
  | (apply Ob.mk;show (ag .i64 _).p;simp only [ag,ak,aa.ae];omega)
 refine ⟨Nat,fun x => x <= (n * n).toNat,fun x => ⟨aI 69 [0,1,2,3,9,11,12] [.a (vI n),.a (.sl 0 [] 0 A.length),.a (.sl 1 [] 0 B.length),.a (vI t),.a (vI (SF n A B t (n * n).toNat)),.a (.sl 2 [] 0 x),.a (vI x)],[],[.arr 3 kI A false false,.arr 3 kI B false false,.arr 3 kI (SP n A B t (SF n A B t (n * n).toNat) x) true true]⟩,fun x => (n * n).toNat - x,0,[0,1,1000],Nat.zero_le _,?_,?_⟩
 ·repeat' ((conv => whnf);(first | apply And.intro | intro _))
  all_goals first | rfl | trivial | exact ah rfl | exact aS ‹_› rfl | exact aT ‹_› rfl | ((repeat' first | rfl | constructor);done)
 rintro x hx
 have jl:=Tw (n:=n) (A:=A) (B:=B) (t:=t) (m:=SF n A B t (n * n).toNat) (x:=x)
 by_cases cO : x < (n * n).toNat
 ·have p0 : decide ((x : Int) < n * n) = true:=decide_eq_true (by omega)
  have cq : 0 <= (x : Int) /\ (x : Int) < n * n:=by omega
  have Kr:=rP (n:=n) (t:=t) (x:=x) hn ht cq
  have hm:=Uh (n:=n) (t:=t) ha hb (n * n).toNat
  have q1:=SX ha x
  have q2:=SX hb (aX n t x).toNat
  have ga : av A x = gi A x:=dP A x
  have gb : av B (aX n t x) = gi B (aX n t x).toNat:=by unfold av gi;rw [Nat.zero_add];rfl
  repeat' ((conv => whnf);first | apply And.intro | (intro h9;try (have h8 : (_ : Bool) = _:=h9;clear h8;revert h9;subst_vars;intro h9;exact aq h9 (by assumption))))
  all_goals try (conv => whnf)
  all_goals try first | (apply Tk.mk <;> kernel_rfl) | exact ⟨ah rfl⟩ | exact ⟨rfl⟩ | exact ⟨trivial⟩
  all_goals subst_vars
  all_goals try first | rfl | contradiction | (apply Ob.mk;first | (simp only [ag,ak,aa.ae];omega) | ((try simp only [aa.ae]);(try dsimp only);omega))
  all_goals try first
   | exact ⟨hn⟩
   | exact ⟨ht⟩
   | exact ⟨show 0 <= (0 : Int) /\ (0 : Int) < n * n by omega⟩
   | exact ⟨show 0 <= (0 : Int) /\ (0 : Int) < (A.length : Int) by omega⟩
   | exact ⟨show 0 + Int.toNat 0 < A.length by omega⟩
   | exact ⟨show 0 <= aX n t 0 /\ aX n t 0 < (B.length : Int) by omega⟩
   | exact ⟨show 0 + Int.toNat (aX n t 0) < B.length by omega⟩
   | exact ⟨show (ag .i64 (av A 0 + av B (aX n t 0))).p by rw [g1];simp only [ag,ak,aa.ae];omega⟩
   | exact ⟨show (ag .i64 (av A x + av B (aX n t x))).p by rw [g2];simp only [ag,ak,aa.ae];omega⟩
   | exact ⟨show 0 <= (x : Int) /\ (x : Int) < (A.length : Int) by omega⟩
   | exact ⟨show 0 + Int.toNat (x : Int) < A.length by omega⟩
   | exact ⟨show 0 <= aX n t x /\ aX n t x < (B.length : Int) by omega⟩
   | exact ⟨show 0 + Int.toNat (aX n t x) < B.length by omega⟩
   | exact ⟨cq⟩
   | exact ⟨show (ag .i64 (SF n A B t (n * n).toNat - av A x)).p by rw [ga];simp only [ag,ak,aa.ae];omega⟩
   | exact ⟨show (ag .i64 (SF n A B t (n * n).toNat - av A x - av B (aX n t x))).p by rw [ga,gb];simp only [ag,ak,aa.ae];omega⟩
   | exact ⟨Nat.zero_add _⟩
   | exact ⟨show 0 + x = (SP n A B t (SF n A B t (n * n).toNat) x).length by omega⟩
   | exact ⟨show ((SP n A B t (SF n A B t (n * n).toNat) x).length + 1) * 1 <= 1099511627776 by omega⟩
   | exact ⟨show (x + 1) * 1 <= 1099511627776 by omega⟩
   | (apply Ob.mk;show (ag .i64 _).p;simp only [ag,ak,aa.ae];omega)
  refine ⟨x + 1,[0,1,2],cO,?_,by show (n * n).toNat - (x + 1) < (n * n).toNat - x;omega⟩
  repeat' ((conv => whnf);(first | apply And.intro | intro _))
  all_goals first | rfl | trivial | exact ah rfl | exact aS ‹_› rfl | exact aT ‹_› rfl | ((repeat' first | rfl | constructor);done) | exact ⟨rfl,rfl,Uv.symm⟩
 have p0 : decide ((x : Int) < n * n) = false:=decide_eq_false (by omega)
 obtain rfl : x = (n * n).toNat:=by omega
 repeat' ((conv => whnf);first | apply And.intro | (intro h9;try (have h8 : (_ : Bool) = _:=h9;clear h8;revert h9;subst_vars;intro h9;exact aq h9 (by assumption))))
 all_goals try (conv => whnf)
 all_goals try first | (apply Tk.mk <;> kernel_rfl) | exact ⟨ah rfl⟩ | exact ⟨rfl⟩ | exact ⟨trivial⟩
 all_goals subst_vars
 all_goals try first | rfl | contradiction | (apply Ob.mk;first | (simp only [ag,ak,aa.ae];omega) | ((try simp only [aa.ae]);(try dsimp only);omega))
 all_goals try first
  | exact ⟨hn⟩
  | exact ⟨ht⟩
  | exact ⟨show 0 <= (0 : Int) /\ (0 : Int) < n * n by omega⟩
  | exact ⟨show 0 <= (0 : Int) /\ (0 : Int) < (A.length : Int) by omega⟩
  | exact ⟨show 0 + Int.toNat 0 < A.length by omega⟩
  | exact ⟨show 0 <= aX n t 0 /\ aX n t 0 < (B.length : Int) by omega⟩
  | exact ⟨show 0 + Int.toNat (aX n t 0) < B.length by omega⟩
  | exact ⟨show (ag .i64 (av A 0 + av B (aX n t 0))).p by rw [g1];simp only [ag,ak,aa.ae];omega⟩
  | exact ⟨show (ag .i64 (av A x + av B (aX n t x))).p by rw [g2];simp only [ag,ak,aa.ae];omega⟩
  | exact ⟨show 0 <= (x : Int) /\ (x : Int) < (A.length : Int) by omega⟩
  | exact ⟨show 0 + Int.toNat (x : Int) < A.length by omega⟩
  | exact ⟨show 0 <= aX n t x /\ aX n t x < (B.length : Int) by omega⟩
  | exact ⟨show 0 + Int.toNat (aX n t x) < B.length by omega⟩
  | exact ⟨cq⟩
  | exact ⟨show (ag .i64 (SF n A B t (n * n).toNat - av A x)).p by rw [ga];simp only [ag,ak,aa.ae];omega⟩
  | exact ⟨show (ag .i64 (SF n A B t (n * n).toNat - av A x - av B (aX n t x))).p by rw [ga,gb];simp only [ag,ak,aa.ae];omega⟩
  | exact ⟨Nat.zero_add _⟩
  | exact ⟨show 0 + x = (SP n A B t (SF n A B t (n * n).toNat) x).length by omega⟩
  | exact ⟨show ((SP n A B t (SF n A B t (n * n).toNat) x).length + 1) * 1 <= 1099511627776 by omega⟩
  | exact ⟨show (x + 1) * 1 <= 1099511627776 by omega⟩
  | (apply Ob.mk;show (ag .i64 _).p;simp only [ag,ak,aa.ae];omega)
 refine bu.base ⟨_,[2],hK,⟨rfl,rfl,by simp,trivial⟩,rfl,?_⟩
 repeat' ((conv => whnf);(first | apply And.intro | intro _))
 all_goals first | rfl | trivial)
end Go.Proofs.YthejmgnkenokpaaDoor
end
section
namespace Go.Proofs.YthejmgnkenokpaaDoor
open Go Go.Sy Go.bK
variable {Γ : bn}
def Uz (D : Int -> List Int -> List Int -> Int -> List aa) (F : Int -> List Int -> List Int -> Int -> Tm) : au:=.fn fun args rg => match args with
 | [.a (.v (.int .i64 n0)),.a x0,.a x1,.a (.v (.int .i64 n1))] => (match ca 3 kI rg x0,ca 3 kI rg x1 with | some (q0,L0),some (q1,L1) => some (q0 ++ (q1 ++ (D n0 L0 L1 n1)),F n0 L0 L1 n1) | _,_ => none)
 | _ => none
theorem Us {f : FuncId} {b : Body} {E : Env} {d : Nat} (hP : aL Tryd.prog Γ E) (hb : bQ Tryd.prog f b) {D : Int -> List Int -> List Int -> Int -> List aa} {F : Int -> List Int -> List Int -> Int -> Tm} (hp : ∀ (n0 : Int) (L0 : List Int) (L1 : List Int) (n1 : Int),(F n0 L0 L1 n1).plain = true)
  (H : ∀ (n0 : Int) (L0 : List Int) (L1 : List Int) (n1 : Int),bW (D n0 L0 L1 n1) -> cQ E d b [.a (vI n0),.a (.sl 0 [] 0 L0.length),.a (.sl 1 [] 0 L1.length),.a (vI n1)] [.arr 3 kI L0 false false,.arr 3 kI L1 false false] (fun x _ => iL x (F n0 L0 L1 n1))) : au.Ok Tryd.prog Γ f (Uz D F):=au.er (d:=d) hP hb (by
 intro args rg q t hF hq
 split at hF
 next n0 x0 x1 n1 =>
  split at hF
  next q0 L0 q1 L1 hx0 cO =>
   obtain ⟨rfl,rfl⟩:=Prod.mk.inj (Option.some.inj hF);clear hF
   rw [aH,aH] at hq
   obtain ⟨dm,gk,hD⟩:=hq
   obtain ⟨e0,Vn⟩:=bP (by simp [kI]) hx0 dm
   obtain ⟨e1,iO⟩:=bP (by simp [kI]) cO gk
   obtain ⟨p0,r0⟩:=Vn [e0,e1] 0 2 rfl (by omega)
   obtain ⟨p1,r1⟩:=iO [e0,e1] 1 2 rfl (by omega)
   refine ⟨hp _ _ _ _,[e0,e1],[.a (vI n0),.a (.sl 0 [] 0 L0.length),.a (.sl 1 [] 0 L1.length),.a (vI n1)],[.arr 3 kI L0 false false,.arr 3 kI L1 false false],⟨⟨rfl,p0,p1,rfl,trivial⟩,fun r g hg => ?_⟩,H _ _ _ _ hD⟩
   match r,hg with
   | 0,hg => obtain rfl:=Option.some.inj hg;exact r0
   | 1,hg => obtain rfl:=Option.some.inj hg;exact r1
  next => cases hF
 next => cases hF)
def Tv (D : Int -> List Int -> List Int -> Int -> List aa) (Rk : Int -> List Int -> List Int -> Int -> (cM -> Prop) -> Prop) : au:=.new fun args rg K => match args with
 | [.a (.v (.int .i64 n0)),.a x0,.a x1,.a (.v (.int .i64 n1))] => (match ca 3 kI rg x0,ca 3 kI rg x1 with | some (q0,L0),some (q1,L1) => bk false (q0 ++ (q1 ++ (D n0 L0 L1 n1))) (Rk n0 L0 L1 n1 K) | _,_ => False)
 | _ => False
theorem TX {f : FuncId} {D : Int -> List Int -> List Int -> Int -> List aa} {R : Int -> List Int -> List Int -> Int -> cM} {Rk : Int -> List Int -> List Int -> Int -> (cM -> Prop) -> Prop} (h : au.Ok Tryd.prog Γ f (S0 D R)) (hk : ∀ (n0 : Int) (L0 : List Int) (L1 : List Int) (n1 : Int) K,Rk n0 L0 L1 n1 K -> K (R n0 L0 L1 n1)) : au.Ok Tryd.prog Γ f (Tv D Rk):=by
 intro args rg K hC
 refine h args rg K ?_
 (try unfold Tv at hC)
 (try unfold S0)
 (try dsimp only at hC ⊢)
 split at hC
 next n0 x0 x1 n1 =>
  split at hC
  next q0 L0 q1 L1 hx0 cO =>
   (try dsimp only)
   (try simp only [hx0,cO])
   rw [aV] at hC ⊢
   exact ⟨hC.1,hk _ _ _ _ K hC.2⟩
  next => exact hC.elim
 next => exact hC.elim
theorem TM {n : Int} {A B : List Int} {t : Int} {N j : Nat} (h : j < N) : gi (ur n A B t N) j = SN n A B t (j : Nat):=by simp [gi,ur,h]
theorem TT {n : Int} {A B : List Int} {t : Int} {N : Nat} : ∀ k,k < N -> SF n A B t (k + 1) = SO (ur n A B t N) k
 | 0,h => by
   have e : av (ur n A B t N) 0 = gi (ur n A B t N) (0 : Nat):=dP _ 0
   rw [SF,SF,SO,e,TM (N:=N) (j:=0) h]
   simp
 | k + 1,h => by
   rw [SF,SO,TT (N:=N) k (by omega),dP,TM (N:=N) (j:=k + 1) h]
theorem TK {m : Int} {S : List Int} : ∀ i,i <= S.length -> ∀ j,j < i -> gi (SC m S i) j = m - gi S j
 | 0,_,j,h => by omega
 | i + 1,hi,j,h => by
   rw [SC]
   by_cases hj : j = i
   ·subst hj
    rw [dP,TJ j j (Nat.le_refl _)]
    have : j < (SC m S j).length:=by rw [SW];omega
    simp [gi,this]
   ·have h1:=TK (m:=m) (S:=S) i (by omega) j (by omega)
    rw [<- h1]
    have h2 : i ≠ j:=fun h => hj h.symm
    simp [gi,List.getElem?_set_ne h2]
theorem Uu {n : Int} {A B : List Int} {t : Int} (hn : 1 <= n * n) : SM n A B t = SG n A B t:=by
 obtain ⟨k,hk⟩ : ∃ k,(n * n).toNat = k + 1:=⟨(n * n).toNat - 1,by omega⟩
 have hm : SF n A B t (n * n).toNat = SB n A B t:=by
  unfold SB;rw [hk,TT (N:=k + 1) k (by omega),Nat.add_sub_cancel]
 unfold SM SG
 rw [hm]
 have hl : (SC (SB n A B t) (ur n A B t (n * n).toNat) (n * n).toNat).length = (n * n).toNat:=by rw [SW,S1]
 refine List.ext_getElem (by rw [hl,Tw]) fun j h1 h2 => ?_
 have hj : j < (n * n).toNat:=by omega
 have e1 : (SC (SB n A B t) (ur n A B t (n * n).toNat) (n * n).toNat)[j] = gi (SC (SB n A B t) (ur n A B t (n * n).toNat) (n * n).toNat) j:=by simp [gi,h1]
 rw [e1,TK _ (by rw [S1];exact Nat.le_refl _) j hj,TM hj]
 simp only [SP,List.getElem_map,List.getElem_range,UZ,SN]
 omega
def Ue : au:=Tv (fun n A B t => [(aa.of (A.length <= 1000000)),(aa.of (B.length <= 1000000))]) (fun n A B t K => (SK n A B t = true -> K ⟨[.arr 3 kI (SM n A B t) true true],.bF [.a (.sl 0 [] 0 (n * n).toNat),.a (vI 0)]⟩) /\ (SK n A B t = false -> K ⟨[],.bF [.a (.v (.slice none 0 0)),.a (vI 1)]⟩))
theorem Ug : au.Ok Tryd.prog Γ 45 Ue:=TX T1 (by
 intro n A B t K ⟨h1,h2⟩
 unfold SU
 cases hb : SK n A B t
 ·exact h2 hb
 ·exact h1 hb)
def TP : au:=Uz (fun _ _ _ _ => []) (fun _ _ _ _ => bl true)
noncomputable def Vd : List (Nat × au):=[(45,Ue),(27,mg),(46,Tz),(47,TA),(24,uA),(16,tC)]
theorem UO : aR Tryd.prog Γ Vd:=((((((aR.nil.cons (aj Tryd.func16 rfl rfl).fn sW).cons (aj Tryd.func24 rfl rfl).fn yG).cons (aj Tryd.func47 rfl rfl).fn TI).cons (aj Tryd.func46 rfl rfl).fn TF).cons (aj Tryd.func27 rfl rfl).fn jx).cons (aj Tryd.func45 rfl rfl).fn Ug)
attribute [local irreducible] aQ SD SM SG SK
theorem Tt : au.Ok Tryd.prog Γ 12 TP:=Us (d:=0) (aP UO bq.nil false 0) (aj Tryd.func12 rfl rfl) (fun _ _ _ _ => rfl) (by
 intro n A B t _
 obtain z1 | z1 : decide ((A.length : Int) > 40) = true \/ decide ((A.length : Int) > 40) = false:=by cases decide ((A.length : Int) > 40) <;> simp
 ·repeat' ((conv => whnf);first | apply And.intro | (intro h9;try (have h8 : (_ : Bool) = _:=h9;clear h8;revert h9;subst_vars;intro h9;exact aq h9 (by assumption))))
  all_goals try (conv => whnf)
  all_goals try first | (apply Tk.mk <;> kernel_rfl) | exact ⟨ah rfl⟩ | exact ⟨rfl⟩ | exact ⟨trivial⟩
  all_goals subst_vars
  all_goals try first | rfl | contradiction | (apply Ob.mk;first | (simp only [ag,ak,aa.ae];omega) | ((try simp only [aa.ae]);(try dsimp only);omega))
  all_goals first
   | trivial
   | exact ⟨hn⟩
   | exact ⟨ht⟩
   | exact ⟨a1⟩
   | exact ⟨a2⟩
   | exact ⟨b1⟩
   | exact ⟨b2⟩
   | exact ⟨l1.symm⟩
   | exact ⟨l2.symm⟩
   | exact ⟨show (SM n A B t).length <= 1000000 by omega⟩
   | exact ⟨show (SG n A B t).length <= 1000000 by omega⟩
   | exact ⟨show A.length <= 1000000 by omega⟩
   | exact ⟨show B.length <= 1000000 by omega⟩
   | (apply Ob.mk;show (ag .i64 _).p;simp only [ag,ak,aa.ae];omega)
 have hA:=of_decide_eq_false z1
 obtain z2 | z2 : decide ((B.length : Int) > 40) = true \/ decide ((B.length : Int) > 40) = false:=by cases decide ((B.length : Int) > 40) <;> simp
 ·repeat' ((conv => whnf);first | apply And.intro | (intro h9;try (have h8 : (_ : Bool) = _:=h9;clear h8;revert h9;subst_vars;intro h9;exact aq h9 (by assumption))))
  all_goals try (conv => whnf)
  all_goals try first | (apply Tk.mk <;> kernel_rfl) | exact ⟨ah rfl⟩ | exact ⟨rfl⟩ | exact ⟨trivial⟩
  all_goals subst_vars
  all_goals try first | rfl | contradiction | (apply Ob.mk;first | (simp only [ag,ak,aa.ae];omega) | ((try simp only [aa.ae]);(try dsimp only);omega))
  all_goals first
   | trivial
   | exact ⟨hn⟩
   | exact ⟨ht⟩
   | exact ⟨a1⟩
   | exact ⟨a2⟩
   | exact ⟨b1⟩
   | exact ⟨b2⟩
   | exact ⟨l1.symm⟩
   | exact ⟨l2.symm⟩
   | exact ⟨show (SM n A B t).length <= 1000000 by omega⟩
   | exact ⟨show (SG n A B t).length <= 1000000 by omega⟩
   | exact ⟨show A.length <= 1000000 by omega⟩
   | exact ⟨show B.length <= 1000000 by omega⟩
   | (apply Ob.mk;show (ag .i64 _).p;simp only [ag,ak,aa.ae];omega)
 have hB:=of_decide_eq_false z2
 obtain h1 | h1 : aQ n 1 6 = false \/ aQ n 1 6 = true:=by cases aQ n 1 6 <;> simp
 ·have g : SK n A B t = false:=by unfold SK;rw [h1];rfl
  have n1 : (!aQ n 1 6) = true:=by rw [h1];rfl
  repeat' ((conv => whnf);first | apply And.intro | (intro h9;try (have h8 : (_ : Bool) = _:=h9;clear h8;revert h9;subst_vars;intro h9;exact aq h9 (by assumption))))
  all_goals try (conv => whnf)
  all_goals try first | (apply Tk.mk <;> kernel_rfl) | exact ⟨ah rfl⟩ | exact ⟨rfl⟩ | exact ⟨trivial⟩
  all_goals subst_vars
  all_goals try first | rfl | contradiction | (apply Ob.mk;first | (simp only [ag,ak,aa.ae];omega) | ((try simp only [aa.ae]);(try dsimp only);omega))
  all_goals first
   | trivial
   | exact ⟨hn⟩
   | exact ⟨ht⟩
   | exact ⟨a1⟩
   | exact ⟨a2⟩
   | exact ⟨b1⟩
   | exact ⟨b2⟩
   | exact ⟨l1.symm⟩
   | exact ⟨l2.symm⟩
   | exact ⟨show (SM n A B t).length <= 1000000 by omega⟩
   | exact ⟨show (SG n A B t).length <= 1000000 by omega⟩
   | exact ⟨show A.length <= 1000000 by omega⟩
   | exact ⟨show B.length <= 1000000 by omega⟩
   | (apply Ob.mk;show (ag .i64 _).p;simp only [ag,ak,aa.ae];omega)
 have n1 : (!aQ n 1 6) = false:=by rw [h1];rfl
 have hn:=bA.1 h1
 obtain h2 | h2 : SD n A = false \/ SD n A = true:=by cases SD n A <;> simp
 ·have g : SK n A B t = false:=by unfold SK;rw [h1,h2];rfl
  have n2 : (!SD n A) = true:=by rw [h2];rfl
  repeat' ((conv => whnf);first | apply And.intro | (intro h9;try (have h8 : (_ : Bool) = _:=h9;clear h8;revert h9;subst_vars;intro h9;exact aq h9 (by assumption))))
  all_goals try (conv => whnf)
  all_goals try first | (apply Tk.mk <;> kernel_rfl) | exact ⟨ah rfl⟩ | exact ⟨rfl⟩ | exact ⟨trivial⟩
  all_goals subst_vars
  all_goals try first | rfl | contradiction | (apply Ob.mk;first | (simp only [ag,ak,aa.ae];omega) | ((try simp only [aa.ae]);(try dsimp only);omega))
  all_goals first
   | trivial
   | exact ⟨hn⟩
   | exact ⟨ht⟩
   | exact ⟨a1⟩
   | exact ⟨a2⟩
   | exact ⟨b1⟩
   | exact ⟨b2⟩
   | exact ⟨l1.symm⟩
   | exact ⟨l2.symm⟩
   | exact ⟨show (SM n A B t).length <= 1000000 by omega⟩
   | exact ⟨show (SG n A B t).length <= 1000000 by omega⟩
   | exact ⟨show A.length <= 1000000 by omega⟩
   | exact ⟨show B.length <= 1000000 by omega⟩
   | (apply Ob.mk;show (ag .i64 _).p;simp only [ag,ak,aa.ae];omega)
 have n2 : (!SD n A) = false:=by rw [h2];rfl
 obtain h3 | h3 : SD n B = false \/ SD n B = true:=by cases SD n B <;> simp
 ·have g : SK n A B t = false:=by unfold SK;rw [h1,h2,h3];rfl
  have n3 : (!SD n B) = true:=by rw [h3];rfl
  repeat' ((conv => whnf);first | apply And.intro | (intro h9;try (have h8 : (_ : Bool) = _:=h9;clear h8;revert h9;subst_vars;intro h9;exact aq h9 (by assumption))))
  all_goals try (conv => whnf)
  all_goals try first | (apply Tk.mk <;> kernel_rfl) | exact ⟨ah rfl⟩ | exact ⟨rfl⟩ | exact ⟨trivial⟩
  all_goals subst_vars
  all_goals try first | rfl | contradiction | (apply Ob.mk;first | (simp only [ag,ak,aa.ae];omega) | ((try simp only [aa.ae]);(try dsimp only);omega))
  all_goals first
   | trivial
   | exact ⟨hn⟩
   | exact ⟨ht⟩
   | exact ⟨a1⟩
   | exact ⟨a2⟩
   | exact ⟨b1⟩
   | exact ⟨b2⟩
   | exact ⟨l1.symm⟩
   | exact ⟨l2.symm⟩
   | exact ⟨show (SM n A B t).length <= 1000000 by omega⟩
   | exact ⟨show (SG n A B t).length <= 1000000 by omega⟩
   | exact ⟨show A.length <= 1000000 by omega⟩
   | exact ⟨show B.length <= 1000000 by omega⟩
   | (apply Ob.mk;show (ag .i64 _).p;simp only [ag,ak,aa.ae];omega)
 have n3 : (!SD n B) = false:=by rw [h3];rfl
 obtain h4 | h4 : aQ t 0 7 = false \/ aQ t 0 7 = true:=by cases aQ t 0 7 <;> simp
 ·have g : SK n A B t = false:=by unfold SK;rw [h1,h2,h3,h4];rfl
  have n4 : (!aQ t 0 7) = true:=by rw [h4];rfl
  repeat' ((conv => whnf);first | apply And.intro | (intro h9;try (have h8 : (_ : Bool) = _:=h9;clear h8;revert h9;subst_vars;intro h9;exact aq h9 (by assumption))))
  all_goals try (conv => whnf)
  all_goals try first | (apply Tk.mk <;> kernel_rfl) | exact ⟨ah rfl⟩ | exact ⟨rfl⟩ | exact ⟨trivial⟩
  all_goals subst_vars
  all_goals try first | rfl | contradiction | (apply Ob.mk;first | (simp only [ag,ak,aa.ae];omega) | ((try simp only [aa.ae]);(try dsimp only);omega))
  all_goals first
   | trivial
   | exact ⟨hn⟩
   | exact ⟨ht⟩
   | exact ⟨a1⟩
   | exact ⟨a2⟩
   | exact ⟨b1⟩
   | exact ⟨b2⟩
   | exact ⟨l1.symm⟩
   | exact ⟨l2.symm⟩
   | exact ⟨show (SM n A B t).length <= 1000000 by omega⟩
   | exact ⟨show (SG n A B t).length <= 1000000 by omega⟩
   | exact ⟨show A.length <= 1000000 by omega⟩
   | exact ⟨show B.length <= 1000000 by omega⟩
   | (apply Ob.mk;show (ag .i64 _).p;simp only [ag,ak,aa.ae];omega)
 have n4 : (!aQ t 0 7) = false:=by rw [h4];rfl
 have g : SK n A B t = true:=by unfold SK;rw [h1,h2,h3,h4];rfl
 have ht:=bA.1 h4
 obtain ⟨a1,a2⟩:=Tn h2
 obtain ⟨b1,b2⟩:=Tn h3
 have j4 : 1 <= n * n /\ n * n <= 36:=sJ hn
 have s1 : (SM n A B t == SG n A B t) = true:=by rw [Uu j4.1];exact beq_self_eq_true _
 have l1 : (SM n A B t).length = (n * n).toNat:=by unfold SM;rw [SW,S1]
 have l2 : (SG n A B t).length = (n * n).toNat:=by unfold SG;rw [Tw]
 repeat' ((conv => whnf);first | apply And.intro | (intro h9;try (have h8 : (_ : Bool) = _:=h9;clear h8;revert h9;subst_vars;intro h9;exact aq h9 (by assumption))))
 all_goals try (conv => whnf)
 all_goals try first | (apply Tk.mk <;> kernel_rfl) | exact ⟨ah rfl⟩ | exact ⟨rfl⟩ | exact ⟨trivial⟩
 all_goals subst_vars
 all_goals try first | rfl | contradiction | (apply Ob.mk;first | (simp only [ag,ak,aa.ae];omega) | ((try simp only [aa.ae]);(try dsimp only);omega))
 all_goals first
  | trivial
  | exact ⟨hn⟩
  | exact ⟨ht⟩
  | exact ⟨a1⟩
  | exact ⟨a2⟩
  | exact ⟨b1⟩
  | exact ⟨b2⟩
  | exact ⟨l1.symm⟩
  | exact ⟨l2.symm⟩
  | exact ⟨show (SM n A B t).length <= 1000000 by omega⟩
  | exact ⟨show (SG n A B t).length <= 1000000 by omega⟩
  | exact ⟨show A.length <= 1000000 by omega⟩
  | exact ⟨show B.length <= 1000000 by omega⟩
  | (apply Ob.mk;show (ag .i64 _).p;simp only [ag,ak,aa.ae];omega))
end Go.Proofs.YthejmgnkenokpaaDoor
end
