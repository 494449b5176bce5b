/-
  Texts of the claims on chapter 3: Yk10. No condition: lemmas and contracts.
-/
import Derived.Test.YthejmgnkenokpaaDoorYk4
import Derived.Test.YthejmgnkenokpaaDoorYk9
import Derived.Test.YthejmgnkenokpaaDoorYk3
import Derived.Test.YthejmgnkenokpaaDoorYk6
import Derived.Test.YthejmgnkenokpaaDoorYk7
set_option linter.all false
set_option maxRecDepth 100000
set_option maxHeartbeats 4000000
section
namespace Go.Proofs.YthejmgnkenokpaaDoor
open Go Go.Sy Go.bK
variable {Γ : bn}
def dU (n P : Int) (L : List Wk) (p : Int) (w : List Int) : Int × Sg × Int:=match bf n P L p == 0 with
 | false => (0,(0,false),bf n P L p)
 | true => match dc L w == 0 with
   | false => (0,(0,false),dc L w)
   | true => match (bj L (p,0,false) w).2 with
     | false => (0,(0,false),8)
     | true => ((bj L (p,0,false) w).1.1,(bj L (p,0,false) w).1.2,0)
theorem o8 {n P : Int} {L : List Wk} {p : Int} {w : List Int} (h : (bf n P L p == 0) = false) : dU n P L p w = (0,(0,false),bf n P L p):=by unfold dU;rw [h]
theorem aab {n P : Int} {L : List Wk} {p : Int} {w : List Int} (h : (bf n P L p == 0) = true) (h1 : (dc L w == 0) = false) : dU n P L p w = (0,(0,false),dc L w):=by unfold dU;rw [h,h1]
theorem sd {n P : Int} {L : List Wk} {p : Int} {w : List Int} (h : (bf n P L p == 0) = true) (h1 : (dc L w == 0) = true) (h2 : (bj L (p,0,false) w).2 = false) : dU n P L p w = (0,(0,false),8):=by unfold dU;rw [h,h1,h2]
theorem se {n P : Int} {L : List Wk} {p : Int} {w : List Int} (h : (bf n P L p == 0) = true) (h1 : (dc L w == 0) = true) (h2 : (bj L (p,0,false) w).2 = true) : dU n P L p w = ((bj L (p,0,false) w).1.1,(bj L (p,0,false) w).1.2,0):=by unfold dU;rw [h,h1,h2]
theorem pK (L : List Wk) (w : List Int) : cK L [w] = dc L w:=by
 unfold cK dc
 simp only [List.any_cons,List.any_nil,Bool.or_false]
 cases fW w <;> cases bN L w <;> rfl
theorem vt {L : List Wk} {w : List Int} (h : (dc L w == 0) = true) : bN L w = true:=by
 have h:=eq_of_beq h
 unfold dc at h
 cases h1 : fW w <;> rw [h1] at h <;> cases h2 : bN L w <;> rw [h2] at h <;> first | rfl | cases h
def zH : au:=EV (fun _ _ L _ w => [(aa.of (L.length <= 1000000)),(aa.of (w.length <= 1000000))]) (fun n P L p w => .bF [.a (vI (dU n P L p w).1),.agg (ai.lV kG (dU n P L p w).2.1),.a (vI (dU n P L p w).2.2)])
def Df : au:=fS (fun _ _ L => [(aa.of (True))]) (fun _ _ L => bl (decide ((L.length : Int) <= 20)))
noncomputable def Qh : List (Nat × au):=[(56,jf),(76,wv),(77,oT)]
theorem KR : aR Tryd.prog Γ Qh:=(((aR.nil.cons (aj Tryd.func77 rfl rfl).fn sR).cons (aj Tryd.func76 rfl rfl).fn uF).cons (aj Tryd.func56 rfl rfl).fn fQ)
theorem EJ : au.Ok Tryd.prog Γ 15 Df:=za (d:=0) (aP aR.nil bq.nil false 0) (aj Tryd.func15 rfl rfl) (fun _ _ _ => rfl) (by
 intro n P L _
 repeat' ((conv => whnf);first | apply And.intro | (intro h9;try (have h8 : (_ : Bool) = _:=h9;clear h8;revert h9;subst_vars;intro h9;exact aq h9 (by assumption))))
 all_goals try (conv => whnf)
 all_goals try first | (apply Tk.mk <;> kernel_rfl) | exact ⟨ah rfl⟩ | exact ⟨rfl⟩ | exact ⟨trivial⟩
 all_goals subst_vars
 all_goals try first | rfl | contradiction | (apply Ob.mk;first | (simp only [ag,ak,aa.ae];omega) | ((try simp only [aa.ae]);(try dsimp only);omega)))
attribute [local irreducible] bf dc cK bj
theorem CB : au.Ok Tryd.prog Γ 37 zH:=sb (d:=0) (aP KR bq.nil false 0) (aj Tryd.func37 rfl rfl) (fun _ _ _ _ _ => rfl) (by
 intro n P L p w ⟨hl,hw,_⟩
 simp only [aa.ae] at hl hw
 have xZ : (w.drop 0).take w.length = w:=by simp
 obtain h1 | h1 : (bf n P L p == 0) = false \/ (bf n P L p == 0) = true:=by cases bf n P L p == 0 <;> simp
 ·have z1 : (bf n P L p != 0) = true:=by unfold bne;rw [h1];rfl
  rw [o8 h1]
  repeat' ((conv => whnf);first | apply And.intro | (intro h9;try (have h8 : (_ : Bool) = _:=h9;clear h8;revert h9;subst_vars;intro h9;exact aq h9 (by assumption))))
  all_goals try (conv => whnf)
  all_goals try first | (apply Tk.mk <;> kernel_rfl) | exact ⟨ah rfl⟩ | exact ⟨rfl⟩ | exact ⟨trivial⟩
  all_goals subst_vars
  all_goals try first | rfl | contradiction | (apply Ob.mk;first | (simp only [ag,ak,aa.ae];omega) | ((try simp only [aa.ae]);(try dsimp only);omega))
  all_goals first
   | trivial
   | exact ⟨hl⟩
 have z1 : (bf n P L p != 0) = false:=by unfold bne;rw [h1];rfl
 have k1:=(gg (eq_of_beq h1)).1
 obtain h2 | h2 : (dc L w == 0) = false \/ (dc L w == 0) = true:=by cases dc L w == 0 <;> simp
 ·have z2 : (cK L [(w.drop 0).take w.length] != 0) = true:=by rw [xZ,pK];unfold bne;rw [h2];rfl
  have z4 : cK L [(w.drop 0).take w.length] = dc L w:=by rw [xZ,pK]
  rw [aab h1 h2]
  repeat' ((conv => whnf);first | apply And.intro | (intro h9;try (have h8 : (_ : Bool) = _:=h9;clear h8;revert h9;subst_vars;intro h9;exact aq h9 (by assumption))))
  all_goals try (conv => whnf)
  all_goals try first | (apply Tk.mk <;> kernel_rfl) | exact ⟨ah rfl⟩ | exact ⟨rfl⟩ | exact ⟨trivial⟩
  all_goals subst_vars
  all_goals try first | rfl | contradiction | (apply Ob.mk;first | (simp only [ag,ak,aa.ae];omega) | ((try simp only [aa.ae]);(try dsimp only);omega))
  all_goals first
   | trivial
   | exact ⟨show 0 + w.length <= w.length by omega⟩
   | exact ⟨show ∀ v ∈ [(w.drop 0).take w.length],v.length <= 1000000 from fun v hv => by rw [List.mem_singleton.1 hv,xZ];exact hw⟩
   | exact ⟨hl⟩
 have z2 : (cK L [(w.drop 0).take w.length] != 0) = false:=by rw [xZ,pK];unfold bne;rw [h2];rfl
 have k2:=vt h2
 obtain h3 | h3 : (bj L (p,0,false) w).2 = false \/ (bj L (p,0,false) w).2 = true:=by cases (bj L (p,0,false) w).2 <;> simp
 ·have z3 : (!(bj L (p,0,false) w).2) = true:=by rw [h3];rfl
  rw [sd h1 h2 h3]
  repeat' ((conv => whnf);first | apply And.intro | (intro h9;try (have h8 : (_ : Bool) = _:=h9;clear h8;revert h9;subst_vars;intro h9;exact aq h9 (by assumption))))
  all_goals try (conv => whnf)
  all_goals try first | (apply Tk.mk <;> kernel_rfl) | exact ⟨ah rfl⟩ | exact ⟨rfl⟩ | exact ⟨trivial⟩
  all_goals subst_vars
  all_goals try first | rfl | contradiction | (apply Ob.mk;first | (simp only [ag,ak,aa.ae];omega) | ((try simp only [aa.ae]);(try dsimp only);omega))
  all_goals first
   | trivial
   | exact ⟨show 0 + w.length <= w.length by omega⟩
   | exact ⟨show ∀ v ∈ [(w.drop 0).take w.length],v.length <= 1000000 from fun v hv => by rw [List.mem_singleton.1 hv,xZ];exact hw⟩
   | exact ⟨k1⟩
   | exact ⟨k2⟩
   | exact ⟨hl⟩
   | exact ⟨hw⟩
 have z3 : (!(bj L (p,0,false) w).2) = false:=by rw [h3];rfl
 rw [se h1 h2 h3]
 repeat' ((conv => whnf);first | apply And.intro | (intro h9;try (have h8 : (_ : Bool) = _:=h9;clear h8;revert h9;subst_vars;intro h9;exact aq h9 (by assumption))))
 all_goals try (conv => whnf)
 all_goals try first | (apply Tk.mk <;> kernel_rfl) | exact ⟨ah rfl⟩ | exact ⟨rfl⟩ | exact ⟨trivial⟩
 all_goals subst_vars
 all_goals try first | rfl | contradiction | (apply Ob.mk;first | (simp only [ag,ak,aa.ae];omega) | ((try simp only [aa.ae]);(try dsimp only);omega))
 all_goals first
  | trivial
  | exact ⟨show 0 + w.length <= w.length by omega⟩
  | exact ⟨show ∀ v ∈ [(w.drop 0).take w.length],v.length <= 1000000 from fun v hv => by rw [List.mem_singleton.1 hv,xZ];exact hw⟩
  | exact ⟨k1⟩
  | exact ⟨k2⟩
  | exact ⟨hl⟩
  | exact ⟨hw⟩)
end Go.Proofs.YthejmgnkenokpaaDoor
end
section
namespace Go.Proofs.YthejmgnkenokpaaDoor
open Go Go.Sy Go.bK
variable {Γ : bn}
def Yr (D : Int -> Int -> List Wk -> Int -> Wk -> List aa) (F : Int -> Int -> List Wk -> Int -> Wk -> Tm) : au:=.fn fun args rg => match args with
 | [.agg [.v (.int .i64 n0),.v (.int .i64 n1),x0],.a (.v (.int .i64 n2)),.agg l0] => (match ca 60 kW rg x0,eu kW l0 with | some (q0,L0),some v0 => some (q0 ++ (D n0 n1 L0 n2 v0),F n0 n1 L0 n2 v0) | _,_ => none)
 | _ => none
theorem Ya {f : FuncId} {b : Body} {E : Env} {d : Nat} (hP : aL Tryd.prog Γ E) (hb : bQ Tryd.prog f b) {D : Int -> Int -> List Wk -> Int -> Wk -> List aa} {F : Int -> Int -> List Wk -> Int -> Wk -> Tm} (hp : ∀ (n0 : Int) (n1 : Int) (L0 : List Wk) (n2 : Int) (v0 : Wk),(F n0 n1 L0 n2 v0).plain = true)
  (H : ∀ (n0 : Int) (n1 : Int) (L0 : List Wk) (n2 : Int) (v0 : Wk),bW (D n0 n1 L0 n2 v0) -> cQ E d b [.agg [vI n0,vI n1,.sl 0 [] 0 L0.length],.a (vI n2),.agg (ai.lV kW v0)] [.arr 60 kW L0 false false] (fun x _ => iL x (F n0 n1 L0 n2 v0))) : au.Ok Tryd.prog Γ f (Yr D F):=au.er (d:=d) hP hb (by
 intro args rg q t hF hq
 split at hF
 next n0 n1 x0 n2 l0 =>
  split at hF
  next q0 L0 v0 hx0 hc0 =>
   obtain ⟨rfl,rfl⟩:=Prod.mk.inj (Option.some.inj hF);clear hF
   rw [aH] at hq
   obtain ⟨dm,hD⟩:=hq
   obtain ⟨e0,Vn⟩:=bP (by simp [kW]) hx0 dm
   obtain ⟨p0,r0⟩:=Vn [e0] 0 1 rfl (by omega)
   refine ⟨hp _ _ _ _ _,[e0],[.agg [vI n0,vI n1,.sl 0 [] 0 L0.length],.a (vI n2),.agg (ai.lV kW v0)],[.arr 60 kW L0 false false],⟨⟨⟨rfl,rfl,p0,trivial⟩,rfl,oC hc0,trivial⟩,fun r g hg => ?_⟩,H _ _ _ _ _ hD⟩
   match r,hg with
   | 0,hg => obtain rfl:=Option.some.inj hg;exact r0
  next => cases hF
 next => cases hF)
def WU (D : Int -> Int -> List Wk -> Int -> List aa) (Rk : Int -> Int -> List Wk -> Int -> (cM -> Prop) -> Prop) : au:=.new fun args rg K => match args with
 | [.agg [.v (.int .i64 n0),.v (.int .i64 n1),x0],.a (.v (.int .i64 n2))] => (match ca 60 kW rg x0 with | some (q0,L0) => bk false (q0 ++ (D n0 n1 L0 n2)) (Rk n0 n1 L0 n2 K) | _ => False)
 | _ => False
theorem XO {f : FuncId} {D : Int -> Int -> List Wk -> Int -> List aa} {R : Int -> Int -> List Wk -> Int -> cM} {Rk : Int -> Int -> List Wk -> Int -> (cM -> Prop) -> Prop} (h : au.Ok Tryd.prog Γ f (Wy D R)) (hk : ∀ (n0 : Int) (n1 : Int) (L0 : List Wk) (n2 : Int) K,Rk n0 n1 L0 n2 K -> K (R n0 n1 L0 n2)) : au.Ok Tryd.prog Γ f (WU D Rk):=by
 intro args rg K hC
 refine h args rg K ?_
 (try unfold WU at hC)
 (try unfold Wy)
 (try dsimp only at hC ⊢)
 split at hC
 next n0 n1 x0 n2 =>
  split at hC
  next q0 L0 hx0 =>
   (try dsimp only)
   (try simp only [hx0])
   rw [aV] at hC ⊢
   exact ⟨hC.1,hk _ _ _ _ K hC.2⟩
  next => exact hC.elim
 next => exact hC.elim
def Xl : au:=WU (fun _ _ L _ => [(aa.of (L.length <= 800000))]) (fun n P L p K => ((bf n P L p == 0) = true -> K ⟨[.arr 60 kW (yN n P L p) true true],.bF [.a (.sl 0 [] 0 (yN n P L p).length),.a (vI 0)]⟩) /\ ((bf n P L p == 0) = false -> K ⟨[],.bF [.a (.v (.slice none 0 0)),.a (vI (bf n P L p))]⟩))
theorem Xx : au.Ok Tryd.prog Γ 40 Xl:=XO Xw (by
 intro n P L p K ⟨h1,h2⟩
 unfold VW
 cases hb : bf n P L p == 0
 ·exact h2 hb
 ·exact h1 hb)
theorem Yd (n P : Int) (L : List Wk) (p : Int) : (yN n P L p).length <= 8 * P.toNat * P.toNat:=V6 n P L p P.toNat
def VA (l : List Wk) (w : Wk) : Nat -> Bool
 | 0 => false
 | i + 1 => match VA l w i with | true => true | false => ((cn l i).1 == w.1 && ((cn l i).2.1 == w.2.1 && ((cn l i).2.2 == w.2.2 && true)))
theorem VO (l : List Wk) (w : Wk) (i : Nat) : VA l w (i + 1) = match VA l w i with | true => true | false => ((cn l i).1 == w.1 && ((cn l i).2.1 == w.2.1 && ((cn l i).2.2 == w.2.2 && true))):=rfl
theorem Zj (x w : Wk) : (x.1 == w.1 && (x.2.1 == w.2.1 && (x.2.2 == w.2.2 && true))) = true <-> x = w:=by
 obtain ⟨a,b,c⟩:=x
 obtain ⟨d,e,f⟩:=w
 simp
theorem WO (l : List Wk) (w : Wk) : ∀ i,i <= l.length -> (VA l w i = true <-> ∃ j,j < i /\ wk l j = w)
 | 0,_ => ⟨fun h => (by cases h),fun ⟨j,h,_⟩ => absurd h (Nat.not_lt_zero j)⟩
 | i + 1,hi => by
   have ih:=WO l w i (by omega)
   rw [VO]
   cases hb : VA l w i <;> dsimp only
   ·rw [Zj,Wj]
    constructor
    ·intro h;exact ⟨i,by omega,h⟩
    ·rintro ⟨j,h1,h2⟩
     rcases Nat.lt_or_ge j i with h3 | h3
     ·have:=ih.2 ⟨j,h3,h2⟩;rw [hb] at this;cases this
     ·obtain rfl : j = i:=by omega
      exact h2
   ·obtain ⟨j,h1,h2⟩:=ih.1 hb
    exact ⟨fun _ => ⟨j,by omega,h2⟩,fun _ => rfl⟩
theorem Yb (l : List Wk) (w : Wk) : VA l w l.length = true <-> w ∈ l:=by
 rw [WO l w _ (Nat.le_refl _)]
 constructor
 ·rintro ⟨j,h,rfl⟩;exact Cf h
 ·intro h
  obtain ⟨j,hj,e⟩:=List.mem_iff_getElem.1 h
  exact ⟨j,hj,by simp [wk,hj,e]⟩
theorem XT (x g : Sg) : (x.1 == g.1 && (x.2 == g.2 && true)) = true <-> x = g:=by
 obtain ⟨a,b⟩:=x
 obtain ⟨c,d⟩:=g
 simp
theorem We {G : List Sg} {g : Sg} : G.any (fun h => h.1 == g.1 && (h.2 == g.2 && true)) = true <-> g ∈ G:=by
 rw [List.any_eq_true]
 constructor
 ·rintro ⟨x,hx,h⟩;exact (XT x g).1 h ▸ hx
 ·intro h;exact ⟨g,h,(XT g g).2 rfl⟩
theorem Xc {n P : Int} {L : List Wk} {p : Int} (h : bD n P L ≠ 0) : bf n P L p = bD n P L:=by unfold bf;rw [if_neg h]
def W6 : au:=Yr (fun _ _ _ _ _ => []) (fun _ _ _ _ _ => bl true)
noncomputable def ZD : List (Nat × au):=[(15,Df),(36,Hz),(42,DL),(43,V1),(18,ZZ),(19,F9),(40,Xl),(16,tC)]
theorem YY : aR Tryd.prog Γ ZD:=((((((((aR.nil.cons (aj Tryd.func16 rfl rfl).fn sW).cons (aj Tryd.func40 rfl rfl).fn Xx).cons (aj Tryd.func19 rfl rfl).fn Ga).cons (aj Tryd.func18 rfl rfl).fn zI).cons (aj Tryd.func43 rfl rfl).fn V2).cons (aj Tryd.func42 rfl rfl).fn Fc).cons (aj Tryd.func36 rfl rfl).fn HA).cons (aj Tryd.func15 rfl rfl).fn EJ)
attribute [local irreducible] bD bf o6 pb af yN VA
theorem Wm : au.Ok Tryd.prog Γ 10 W6:=Ya (d:=0) (aP YY bq.nil false 0) (aj Tryd.func10 rfl rfl) (fun _ _ _ _ _ => rfl) (by
 rintro n P L p ⟨a,b,t⟩ _
 obtain h0 | h0 : decide ((L.length : Int) <= 20) = false \/ decide ((L.length : Int) <= 20) = true:=by cases decide ((L.length : Int) <= 20) <;> simp
 ·have n0 : (!decide ((L.length : Int) <= 20)) = true:=by rw [h0];rfl
  repeat' ((conv => whnf);first | apply And.intro | (intro h9;try (have h8 : (_ : Bool) = _:=h9;clear h8;revert h9;subst_vars;intro h9;exact aq h9 (by assumption))))
  all_goals try (conv => whnf)
  all_goals try first | (apply Tk.mk <;> kernel_rfl) | exact ⟨ah rfl⟩ | exact ⟨rfl⟩ | exact ⟨trivial⟩
  all_goals subst_vars
  all_goals try first | rfl | contradiction | (apply Ob.mk;first | (simp only [ag,ak,aa.ae];omega) | ((try simp only [aa.ae]);(try dsimp only);omega))
 have n0 : (!decide ((L.length : Int) <= 20)) = false:=by rw [h0];rfl
 have hl:=of_decide_eq_true h0
 obtain h9 | h9 : decide (P > 4) = true \/ decide (P > 4) = false:=by cases decide (P > 4) <;> simp
 ·repeat' ((conv => whnf);first | apply And.intro | (intro h9;try (have h8 : (_ : Bool) = _:=h9;clear h8;revert h9;subst_vars;intro h9;exact aq h9 (by assumption))))
  all_goals try (conv => whnf)
  all_goals try first | (apply Tk.mk <;> kernel_rfl) | exact ⟨ah rfl⟩ | exact ⟨rfl⟩ | exact ⟨trivial⟩
  all_goals subst_vars
  all_goals try first | rfl | contradiction | (apply Ob.mk;first | (simp only [ag,ak,aa.ae];omega) | ((try simp only [aa.ae]);(try dsimp only);omega))
 have ZU:=of_decide_eq_false h9
 have j2 : (L ++ [(a,b,t)]).length <= 1000:=by rw [List.length_append,List.length_singleton];omega
 have z0 : (bf 0 0 [] p == 0) = false:=by rw [Xc (by decide +kernel)];decide +kernel
 obtain h1 | h1 : (bD n P L == 0) = false \/ (bD n P L == 0) = true:=by cases bD n P L == 0 <;> simp
 ·have c1 : bD n P L ≠ 0:=fun e => by rw [e] at h1;cases h1
  have y1 : (bD n P L != 0) = true:=by unfold bne;rw [h1];rfl
  have q1 : (bf n P L p == 0) = false:=by rw [Xc c1];exact h1
  repeat' ((conv => whnf);first | apply And.intro | (intro h9;try (have h8 : (_ : Bool) = _:=h9;clear h8;revert h9;subst_vars;intro h9;exact aq h9 (by assumption))))
  all_goals try (conv => whnf)
  all_goals try first | (apply Tk.mk <;> kernel_rfl) | exact ⟨ah rfl⟩ | exact ⟨rfl⟩ | exact ⟨trivial⟩
  all_goals subst_vars
  all_goals try first | rfl | contradiction | (apply Ob.mk;first | (simp only [ag,ak,aa.ae];omega) | ((try simp only [aa.ae]);(try dsimp only);omega))
  all_goals first
   | exact ⟨show L.length <= 1000000 by omega⟩
   | exact ⟨show L.length <= 900000 by omega⟩
 have c1:=eq_of_beq h1
 obtain h2 | h2 : (bD n P (L ++ [(a,b,t)]) == 0) = false \/ (bD n P (L ++ [(a,b,t)]) == 0) = true:=by cases bD n P (L ++ [(a,b,t)]) == 0 <;> simp
 ·have y1 : (bD n P (L ++ [(a,b,t)]) != 0) = true:=by unfold bne;rw [h2];rfl
  obtain q1 | q1 : (bf n P L p == 0) = false \/ (bf n P L p == 0) = true:=by cases bf n P L p == 0 <;> simp
  ·repeat' ((conv => whnf);first | apply And.intro | (intro h9;try (have h8 : (_ : Bool) = _:=h9;clear h8;revert h9;subst_vars;intro h9;exact aq h9 (by assumption))))
   all_goals try (conv => whnf)
   all_goals try first | (apply Tk.mk <;> kernel_rfl) | exact ⟨ah rfl⟩ | exact ⟨rfl⟩ | exact ⟨trivial⟩
   all_goals subst_vars
   all_goals try first | rfl | contradiction | (apply Ob.mk;first | (simp only [ag,ak,aa.ae];omega) | ((try simp only [aa.ae]);(try dsimp only);omega))
   all_goals first
    | exact ⟨show L.length <= 1000000 by omega⟩
    | exact ⟨show L.length <= 900000 by omega⟩
  repeat' ((conv => whnf);first | apply And.intro | (intro h9;try (have h8 : (_ : Bool) = _:=h9;clear h8;revert h9;subst_vars;intro h9;exact aq h9 (by assumption))))
  all_goals try (conv => whnf)
  all_goals try first | (apply Tk.mk <;> kernel_rfl) | exact ⟨ah rfl⟩ | exact ⟨rfl⟩ | exact ⟨trivial⟩
  all_goals subst_vars
  all_goals try first | rfl | contradiction | (apply Ob.mk;first | (simp only [ag,ak,aa.ae];omega) | ((try simp only [aa.ae]);(try dsimp only);omega))
  all_goals first
   | exact ⟨show L.length <= 1000000 by omega⟩
   | exact ⟨show L.length <= 900000 by omega⟩
 have c2:=eq_of_beq h2
 have hs:=oe.1 c1
 have pT:=oe.1 c2
 obtain h3 | h3 : aQ p 0 (P - 1) = false \/ aQ p 0 (P - 1) = true:=by cases aQ p 0 (P - 1) <;> simp
 ·have e1 : bf n P L p = 1:=by unfold bf;rw [if_pos c1,if_neg (by rw [h3];simp)]
  have e2 : bf n P (L ++ [(a,b,t)]) p = 1:=by unfold bf;rw [if_pos c2,if_neg (by rw [h3];simp)]
  have q1 : (bf n P L p == 0) = false:=by rw [e1];rfl
  have q2 : (bf n P (L ++ [(a,b,t)]) p == 0) = false:=by rw [e2];rfl
  have q3 : (bf n P L p != 0) = true:=by rw [e1];rfl
  clear e1 e2
  repeat' ((conv => whnf);first | apply And.intro | (intro h9;try (have h8 : (_ : Bool) = _:=h9;clear h8;revert h9;subst_vars;intro h9;exact aq h9 (by assumption))))
  all_goals try (conv => whnf)
  all_goals try first | (apply Tk.mk <;> kernel_rfl) | exact ⟨ah rfl⟩ | exact ⟨rfl⟩ | exact ⟨trivial⟩
  all_goals subst_vars
  all_goals try first | rfl | contradiction | (apply Ob.mk;first | (simp only [ag,ak,aa.ae];omega) | ((try simp only [aa.ae]);(try dsimp only);omega))
  all_goals first
   | exact ⟨show L.length <= 1000000 by omega⟩
   | exact ⟨show L.length <= 900000 by omega⟩
   | exact ⟨show (L ++ [(a,b,t)]).length <= 1000000 by omega⟩
   | exact ⟨show L.length + 1 = (L ++ [(a,b,t)]).length by simp⟩
 have hp:=bA.1 h3
 have e1 : bf n P L p = 0:=Tj c1 hp
 have e2 : bf n P (L ++ [(a,b,t)]) p = 0:=Tj c2 hp
 have q1 : (bf n P L p == 0) = true:=by rw [e1];rfl
 have q2 : (bf n P (L ++ [(a,b,t)]) p == 0) = true:=by rw [e2];rfl
 have q3 : (bf n P L p != 0) = false:=by rw [e1];rfl
 have q4 : (bf n P (L ++ [(a,b,t)]) p != 0) = false:=by rw [e2];rfl
 have hw : cx P L:=fun x h => hs.w x h
 have lS : cx P (L ++ [(a,b,t)]):=fun x h => pT.w x h
 have hG:=nK hw hs.p.2 hp
 have Y6:=nK lS hs.p.2 hp
 have hsub : ∀ g ∈ af L p,g ∈ af (L ++ [(a,b,t)]) p:=fun g hg => XU lS hs.p.2 hp hg
 have hfl:=TQ hG Y6 hs.n hsub
 have f1:=Te c1 hp
 have f2:=Te c2 hp
 have v1:=Ut c1 hp
 have v2:=Ut c2 hp
 have dZ:=fj L p
 have ZT:=fj (L ++ [(a,b,t)]) p
 have g1 : decide (pb n P (L ++ [(a,b,t)]) p > pb n P L p) = false:=by rw [v1,v2];exact decide_eq_false (by omega)
 have g2 : o6 n P L p = true -> (!o6 n P (L ++ [(a,b,t)]) p) = false:=fun h => by
  rw [f1,beq_iff_eq] at h
  have:=W8 Y6 hs.n
  rw [f2,show zb n (af (L ++ [(a,b,t)]) p) = 0 by omega];rfl
 have hlen:=Yd n P L p
 have ZR : (yN n P L p).length <= 8 * 4 * 4:=Nat.le_trans hlen (Nat.mul_le_mul (Nat.mul_le_mul (Nat.le_refl _) (by omega)) (by omega))
 clear e1 e2 f1 v1 v2 hfl
 have Y8 : (VA (yN n P L p) (a,b,t) (yN n P L p).length == o6 n P (L ++ [(a,b,t)]) p) = true \/ a > b:=by
  by_cases hab : a > b
  ·exact .inr hab
  ·left
   rw [beq_iff_eq,Bool.eq_iff_iff,Yb,Yc]
   have hwk:=rR (pT.w (a,b,t) (List.mem_append_right _ (List.mem_singleton.2 rfl)))
   dsimp only at hwk ⊢
   rw [f2]
   unfold VY
   rw [Ax Y6 hs.n]
   constructor
   ·exact fun h => h.2
   ·exact fun h => ⟨by omega,h⟩
 clear f2
 repeat' ((conv => whnf);first | apply And.intro | (intro h9;try (have h8 : (_ : Bool) = _:=h9;clear h8;revert h9;subst_vars;intro h9;exact aq h9 (by assumption))))
 all_goals try (conv => whnf)
 all_goals try first | (apply Tk.mk <;> kernel_rfl) | exact ⟨ah rfl⟩ | exact ⟨rfl⟩ | exact ⟨trivial⟩
 all_goals subst_vars
 all_goals try first | rfl | contradiction | (apply Ob.mk;first | (simp only [ag,ak,aa.ae];omega) | ((try simp only [aa.ae]);(try dsimp only);omega))
 all_goals try first
  | exact ⟨show L.length <= 1000000 by omega⟩
  | exact ⟨show L.length <= 900000 by omega⟩
  | exact ⟨show (L ++ [(a,b,t)]).length <= 1000000 by omega⟩
  | exact ⟨show L.length + 1 = (L ++ [(a,b,t)]).length by simp⟩
 refine ⟨Nat,fun i => i <= (af L p).length,fun i => ⟨aI 164 [1,3,5,7,9,11,12,13] [.a (vI p),.a (.p 1 [] 0 0),.a (.p 2 [] 0 0),.a (.p 4 [] 0 0),.a (.sl 5 [] 0 (af L p).length),.a (.sl 6 [] 0 (af (L ++ [(a,b,t)]) p).length),.a (vI 0),.a (vI i)],[],[.arr 60 kW L false false,.box true [vI n,vI P,.sl 0 [] 0 L.length],.box true [vI a,vI b,vI t],.arr 60 kW (L ++ [(a,b,t)]) true true,.box true [vI n,vI P,.sl 3 [] 0 (L.length + 1)],.arr 64 kG (af L p) true true,.arr 64 kG (af (L ++ [(a,b,t)]) p) true true]⟩,fun i => (af L p).length - i,0,[],Nat.zero_le _,?_,?_⟩
 ·repeat' ((conv => whnf);(first | apply And.intro | intro _))
  all_goals first | rfl | trivial | exact ah rfl | exact aS ‹_› rfl | exact aT ‹_› rfl | ((repeat' first | rfl | constructor);done)
 rintro i hi
 by_cases hi1 : i < (af L p).length
 ·have p0 : decide ((i : Int) < ((af L p).length : Int)) = true:=decide_eq_true (by omega)
  have es:=rL (af L p) i
  have hin : (af (L ++ [(a,b,t)]) p).any (fun h => h.1 == (bI (af L p) i).1 && (h.2 == (bI (af L p) i).2 && true)) = true:=We.2 (hsub _ (by rw [es];exact aaq hi1))
  have ZS : (!(af (L ++ [(a,b,t)]) p).any (fun h => h.1 == (bI (af L p) i).1 && (h.2 == (bI (af L p) i).2 && true))) = false:=by rw [hin];rfl
  repeat' ((conv => whnf);first | apply And.intro | (intro h9;try (have h8 : (_ : Bool) = _:=h9;clear h8;revert h9;subst_vars;intro h9;exact aq h9 (by assumption))))
  all_goals try (conv => whnf)
  all_goals try first | (apply Tk.mk <;> kernel_rfl) | exact ⟨ah rfl⟩ | exact ⟨rfl⟩ | exact ⟨trivial⟩
  all_goals subst_vars
  all_goals try first | rfl | contradiction | (apply Ob.mk;first | (simp only [ag,ak,aa.ae];omega) | ((try simp only [aa.ae]);(try dsimp only);omega))
  all_goals try first
   | exact ⟨show (af (L ++ [(a,b,t)]) p).length <= 1000000 by omega⟩
   | exact ⟨show 0 + Int.toNat (i : Int) < (af L p).length by omega⟩
  refine ⟨i + 1,[],hi1,?_,by show (af L p).length - (i + 1) < (af L p).length - i;omega⟩
  repeat' ((conv => whnf);(first | apply And.intro | intro _))
  all_goals first | rfl | trivial | exact ah rfl | exact aS ‹_› rfl | exact aT ‹_› rfl | ((repeat' first | rfl | constructor);done)
 have p0 : decide ((i : Int) < ((af L p).length : Int)) = false:=decide_eq_false (by omega)
 clear hsub
 obtain h6 | h6 : decide (a > b) = true \/ decide (a > b) = false:=by cases decide (a > b) <;> simp
 ·obtain h5 | h5 : o6 n P L p = true \/ o6 n P L p = false:=by cases o6 n P L p <;> simp
  ·have g3:=g2 h5
   repeat' ((conv => whnf);first | apply And.intro | (intro h9;try (have h8 : (_ : Bool) = _:=h9;clear h8;revert h9;subst_vars;intro h9;exact aq h9 (by assumption))))
   all_goals try (conv => whnf)
   all_goals try first | (apply Tk.mk <;> kernel_rfl) | exact ⟨ah rfl⟩ | exact ⟨rfl⟩ | exact ⟨trivial⟩
   all_goals subst_vars
   all_goals try first | rfl | contradiction | (apply Ob.mk;first | (simp only [ag,ak,aa.ae];omega) | ((try simp only [aa.ae]);(try dsimp only);omega))
   all_goals first
    | exact ⟨show L.length <= 1000000 by omega⟩
    | exact ⟨show L.length <= 800000 by omega⟩
    | exact ⟨show (L ++ [(a,b,t)]).length <= 1000000 by omega⟩
    | exact ⟨show L.length + 1 = (L ++ [(a,b,t)]).length by simp⟩
  repeat' ((conv => whnf);first | apply And.intro | (intro h9;try (have h8 : (_ : Bool) = _:=h9;clear h8;revert h9;subst_vars;intro h9;exact aq h9 (by assumption))))
  all_goals try (conv => whnf)
  all_goals try first | (apply Tk.mk <;> kernel_rfl) | exact ⟨ah rfl⟩ | exact ⟨rfl⟩ | exact ⟨trivial⟩
  all_goals subst_vars
  all_goals try first | rfl | contradiction | (apply Ob.mk;first | (simp only [ag,ak,aa.ae];omega) | ((try simp only [aa.ae]);(try dsimp only);omega))
  all_goals first
   | exact ⟨show L.length <= 1000000 by omega⟩
   | exact ⟨show L.length <= 800000 by omega⟩
   | exact ⟨show (L ++ [(a,b,t)]).length <= 1000000 by omega⟩
   | exact ⟨show L.length + 1 = (L ++ [(a,b,t)]).length by simp⟩
 have ZW:=Y8.resolve_right (of_decide_eq_false h6)
 clear Y8
 obtain h5 | h5 : o6 n P L p = true \/ o6 n P L p = false:=by cases o6 n P L p <;> simp
 ·have g3:=g2 h5
  repeat' ((conv => whnf);first | apply And.intro | (intro h9;try (have h8 : (_ : Bool) = _:=h9;clear h8;revert h9;subst_vars;intro h9;exact aq h9 (by assumption))))
  all_goals try (conv => whnf)
  all_goals try first | (apply Tk.mk <;> kernel_rfl) | exact ⟨ah rfl⟩ | exact ⟨rfl⟩ | exact ⟨trivial⟩
  all_goals subst_vars
  all_goals try first | rfl | contradiction | (apply Ob.mk;first | (simp only [ag,ak,aa.ae];omega) | ((try simp only [aa.ae]);(try dsimp only);omega))
  all_goals try first
   | exact ⟨show L.length <= 1000000 by omega⟩
   | exact ⟨show L.length <= 800000 by omega⟩
   | exact ⟨show (L ++ [(a,b,t)]).length <= 1000000 by omega⟩
   | exact ⟨show L.length + 1 = (L ++ [(a,b,t)]).length by simp⟩
  refine ⟨Nat,fun j => j <= (yN n P L p).length,fun j => ⟨aI 164 [5,20,22,24,25] [.a (.p 2 [] 0 0),.a (.v (.bool (o6 n P (L ++ [(a,b,t)]) p))),.a (.sl 7 [] 0 (yN n P L p).length),.a (.v (.bool (VA (yN n P L p) (a,b,t) j))),.a (vI j)],[],[.arr 60 kW L false false,.box true [vI n,vI P,.sl 0 [] 0 L.length],.box true [vI a,vI b,vI t],.arr 60 kW (L ++ [(a,b,t)]) true true,.box true [vI n,vI P,.sl 3 [] 0 (L.length + 1)],.arr 64 kG (af L p) true true,.arr 64 kG (af (L ++ [(a,b,t)]) p) true true,.arr 60 kW (yN n P L p) true true]⟩,fun j => (yN n P L p).length - j,0,[],Nat.zero_le _,?_,?_⟩
  ·repeat' ((conv => whnf);(first | apply And.intro | intro _))
   all_goals first | rfl | trivial | exact ah rfl | exact aS ‹_› rfl | exact aT ‹_› rfl | ((repeat' first | rfl | constructor);done) | (unfold VA;rfl)
  clear p0 hi
  rintro j hj
  by_cases Ho : j < (yN n P L p).length
  ·have p0 : decide ((j : Int) < ((yN n P L p).length : Int)) = true:=decide_eq_true (by omega)
   have RH : VA (yN n P L p) (a,b,t) j = true -> true = VA (yN n P L p) (a,b,t) (j + 1):=fun h => by rw [VO,h]
   have Zb : VA (yN n P L p) (a,b,t) j = false -> ((cn (yN n P L p) j).1 == a && ((cn (yN n P L p) j).2.1 == b && ((cn (yN n P L p) j).2.2 == t && true))) = VA (yN n P L p) (a,b,t) (j + 1):=fun h => by rw [VO,h]
   repeat' ((conv => whnf);first | apply And.intro | (intro h9;try (have h8 : (_ : Bool) = _:=h9;clear h8;revert h9;subst_vars;intro h9;exact aq h9 (by assumption))))
   all_goals try (conv => whnf)
   all_goals try first | (apply Tk.mk <;> kernel_rfl) | exact ⟨ah rfl⟩ | exact ⟨rfl⟩ | exact ⟨trivial⟩
   all_goals subst_vars
   all_goals try first | rfl | contradiction | (apply Ob.mk;first | (simp only [ag,ak,aa.ae];omega) | ((try simp only [aa.ae]);(try dsimp only);omega))
   all_goals try first
    | exact ⟨show 0 + Int.toNat (j : Int) < (yN n P L p).length by omega⟩
   all_goals
    refine ⟨j + 1,[],Ho,?_,by show (yN n P L p).length - (j + 1) < (yN n P L p).length - j;omega⟩
    repeat' ((conv => whnf);(first | apply And.intro | intro _))
    all_goals first | rfl | trivial | exact ah rfl | exact aS ‹_› rfl | exact aT ‹_› rfl | ((repeat' first | rfl | constructor);done) | exact RH (by assumption) | exact Zb (by assumption) | exact (RH (by assumption)).symm
  have p0 : decide ((j : Int) < ((yN n P L p).length : Int)) = false:=decide_eq_false (by omega)
  obtain rfl : j = (yN n P L p).length:=by omega
  repeat' ((conv => whnf);first | apply And.intro | (intro h9;try (have h8 : (_ : Bool) = _:=h9;clear h8;revert h9;subst_vars;intro h9;exact aq h9 (by assumption))))
  all_goals try (conv => whnf)
  all_goals try first | (apply Tk.mk <;> kernel_rfl) | exact ⟨ah rfl⟩ | exact ⟨rfl⟩ | exact ⟨trivial⟩
  all_goals subst_vars
  all_goals try first | rfl | contradiction | (apply Ob.mk;first | (simp only [ag,ak,aa.ae];omega) | ((try simp only [aa.ae]);(try dsimp only);omega))
  all_goals first
   | trivial
 repeat' ((conv => whnf);first | apply And.intro | (intro h9;try (have h8 : (_ : Bool) = _:=h9;clear h8;revert h9;subst_vars;intro h9;exact aq h9 (by assumption))))
 all_goals try (conv => whnf)
 all_goals try first | (apply Tk.mk <;> kernel_rfl) | exact ⟨ah rfl⟩ | exact ⟨rfl⟩ | exact ⟨trivial⟩
 all_goals subst_vars
 all_goals try first | rfl | contradiction | (apply Ob.mk;first | (simp only [ag,ak,aa.ae];omega) | ((try simp only [aa.ae]);(try dsimp only);omega))
 all_goals try first
  | exact ⟨show L.length <= 1000000 by omega⟩
  | exact ⟨show L.length <= 800000 by omega⟩
  | exact ⟨show (L ++ [(a,b,t)]).length <= 1000000 by omega⟩
  | exact ⟨show L.length + 1 = (L ++ [(a,b,t)]).length by simp⟩
 refine ⟨Nat,fun j => j <= (yN n P L p).length,fun j => ⟨aI 164 [5,20,22,24,25] [.a (.p 2 [] 0 0),.a (.v (.bool (o6 n P (L ++ [(a,b,t)]) p))),.a (.sl 7 [] 0 (yN n P L p).length),.a (.v (.bool (VA (yN n P L p) (a,b,t) j))),.a (vI j)],[],[.arr 60 kW L false false,.box true [vI n,vI P,.sl 0 [] 0 L.length],.box true [vI a,vI b,vI t],.arr 60 kW (L ++ [(a,b,t)]) true true,.box true [vI n,vI P,.sl 3 [] 0 (L.length + 1)],.arr 64 kG (af L p) true true,.arr 64 kG (af (L ++ [(a,b,t)]) p) true true,.arr 60 kW (yN n P L p) true true]⟩,fun j => (yN n P L p).length - j,0,[],Nat.zero_le _,?_,?_⟩
 ·repeat' ((conv => whnf);(first | apply And.intro | intro _))
  all_goals first | rfl | trivial | exact ah rfl | exact aS ‹_› rfl | exact aT ‹_› rfl | ((repeat' first | rfl | constructor);done) | (unfold VA;rfl)
 clear p0 hi
 rintro j hj
 by_cases Ho : j < (yN n P L p).length
 ·have p0 : decide ((j : Int) < ((yN n P L p).length : Int)) = true:=decide_eq_true (by omega)
  have RH : VA (yN n P L p) (a,b,t) j = true -> true = VA (yN n P L p) (a,b,t) (j + 1):=fun h => by rw [VO,h]
  have Zb : VA (yN n P L p) (a,b,t) j = false -> ((cn (yN n P L p) j).1 == a && ((cn (yN n P L p) j).2.1 == b && ((cn (yN n P L p) j).2.2 == t && true))) = VA (yN n P L p) (a,b,t) (j + 1):=fun h => by rw [VO,h]
  repeat' ((conv => whnf);first | apply And.intro | (intro h9;try (have h8 : (_ : Bool) = _:=h9;clear h8;revert h9;subst_vars;intro h9;exact aq h9 (by assumption))))
  all_goals try (conv => whnf)
  all_goals try first | (apply Tk.mk <;> kernel_rfl) | exact ⟨ah rfl⟩ | exact ⟨rfl⟩ | exact ⟨trivial⟩
  all_goals subst_vars
  all_goals try first | rfl | contradiction | (apply Ob.mk;first | (simp only [ag,ak,aa.ae];omega) | ((try simp only [aa.ae]);(try dsimp only);omega))
  all_goals try first
   | exact ⟨show 0 + Int.toNat (j : Int) < (yN n P L p).length by omega⟩
  all_goals
   refine ⟨j + 1,[],Ho,?_,by show (yN n P L p).length - (j + 1) < (yN n P L p).length - j;omega⟩
   repeat' ((conv => whnf);(first | apply And.intro | intro _))
   all_goals first | rfl | trivial | exact ah rfl | exact aS ‹_› rfl | exact aT ‹_› rfl | ((repeat' first | rfl | constructor);done) | exact RH (by assumption) | exact Zb (by assumption) | exact (RH (by assumption)).symm
 have p0 : decide ((j : Int) < ((yN n P L p).length : Int)) = false:=decide_eq_false (by omega)
 obtain rfl : j = (yN n P L p).length:=by omega
 repeat' ((conv => whnf);first | apply And.intro | (intro h9;try (have h8 : (_ : Bool) = _:=h9;clear h8;revert h9;subst_vars;intro h9;exact aq h9 (by assumption))))
 all_goals try (conv => whnf)
 all_goals try first | (apply Tk.mk <;> kernel_rfl) | exact ⟨ah rfl⟩ | exact ⟨rfl⟩ | exact ⟨trivial⟩
 all_goals subst_vars
 all_goals try first | rfl | contradiction | (apply Ob.mk;first | (simp only [ag,ak,aa.ae];omega) | ((try simp only [aa.ae]);(try dsimp only);omega))
 all_goals first
  | trivial)
end Go.Proofs.YthejmgnkenokpaaDoor
end
