/-
  Texts of the claims on chapter 3: Yk11. No condition: lemmas and contracts.
-/
import Derived.Test.YthejmgnkenokpaaDoorYk10
import Derived.Test.YthejmgnkenokpaaDoorYk9
import Derived.Test.YthejmgnkenokpaaDoorQ21
import Derived.Test.YthejmgnkenokpaaDoorYk8
set_option linter.all false
set_option maxRecDepth 100000
set_option maxHeartbeats 4000000
section
namespace Go.Proofs.YthejmgnkenokpaaDoor
open Go Go.Sy Go.bK
variable {Γ : bn}
def XJ (D : Int -> Int -> List Wk -> Int -> List Int -> List Int -> List aa) (F : Int -> Int -> List Wk -> Int -> List Int -> List Int -> Tm) : au:=.fn fun args rg => match args with
 | [.agg [.v (.int .i64 n0),.v (.int .i64 n1),x0],.a (.v (.int .i64 n2)),.a x1,.a x2] => (match ca 60 kW rg x0,ca 3 kI rg x1,ca 3 kI rg x2 with | some (q0,L0),some (q1,L1),some (q2,L2) => some (q0 ++ (q1 ++ (q2 ++ (D n0 n1 L0 n2 L1 L2))),F n0 n1 L0 n2 L1 L2) | _,_,_ => none)
 | _ => none
theorem XK {f : FuncId} {b : Body} {E : Env} {d : Nat} (hP : aL Tryd.prog Γ E) (hb : bQ Tryd.prog f b) {D : Int -> Int -> List Wk -> Int -> List Int -> List Int -> List aa} {F : Int -> Int -> List Wk -> Int -> List Int -> List Int -> Tm} (hp : ∀ (n0 : Int) (n1 : Int) (L0 : List Wk) (n2 : Int) (L1 : List Int) (L2 : List Int),(F n0 n1 L0 n2 L1 L2).plain = true)
  (H : ∀ (n0 : Int) (n1 : Int) (L0 : List Wk) (n2 : Int) (L1 : List Int) (L2 : List Int),bW (D n0 n1 L0 n2 L1 L2) -> cQ E d b [.agg [vI n0,vI n1,.sl 0 [] 0 L0.length],.a (vI n2),.a (.sl 1 [] 0 L1.length),.a (.sl 2 [] 0 L2.length)] [.arr 60 kW L0 false false,.arr 3 kI L1 false false,.arr 3 kI L2 false false] (fun x _ => iL x (F n0 n1 L0 n2 L1 L2))) : au.Ok Tryd.prog Γ f (XJ D F):=au.er (d:=d) hP hb (by
 intro args rg q t hF hq
 split at hF
 next n0 n1 x0 n2 x1 x2 =>
  split at hF
  next q0 L0 q1 L1 q2 L2 hx0 cO cq =>
   obtain ⟨rfl,rfl⟩:=Prod.mk.inj (Option.some.inj hF);clear hF
   rw [aH,aH,aH] at hq
   obtain ⟨dm,gk,AM,hD⟩:=hq
   obtain ⟨e0,Vn⟩:=bP (by simp [kW]) hx0 dm
   obtain ⟨e1,iO⟩:=bP (by simp [kI]) cO gk
   obtain ⟨e2,AH⟩:=bP (by simp [kI]) cq AM
   obtain ⟨p0,r0⟩:=Vn [e0,e1,e2] 0 3 rfl (by omega)
   obtain ⟨p1,r1⟩:=iO [e0,e1,e2] 1 3 rfl (by omega)
   obtain ⟨p2,r2⟩:=AH [e0,e1,e2] 2 3 rfl (by omega)
   refine ⟨hp _ _ _ _ _ _,[e0,e1,e2],[.agg [vI n0,vI n1,.sl 0 [] 0 L0.length],.a (vI n2),.a (.sl 1 [] 0 L1.length),.a (.sl 2 [] 0 L2.length)],[.arr 60 kW L0 false false,.arr 3 kI L1 false false,.arr 3 kI L2 false false],⟨⟨⟨rfl,rfl,p0,trivial⟩,rfl,p1,p2,trivial⟩,fun r g hg => ?_⟩,H _ _ _ _ _ _ hD⟩
   match r,hg with
   | 0,hg => obtain rfl:=Option.some.inj hg;exact r0
   | 1,hg => obtain rfl:=Option.some.inj hg;exact r1
   | 2,hg => obtain rfl:=Option.some.inj hg;exact r2
  next => cases hF
 next => cases hF)
theorem Xg {n P : Int} {L : List Wk} {p : Int} {w : List Int} (h0 : (bf n P L p == 0) = true) (h : (dU n P L p w).2.2 = 0) : fW w = false /\ bN L w = true /\ bj L (p,0,false) w = (((dU n P L p w).1,(dU n P L p w).2.1),true):=by
 obtain h1 | h1 : (dc L w == 0) = false \/ (dc L w == 0) = true:=by cases dc L w == 0 <;> simp
 ·rw [aab h0 h1] at h
  dsimp only at h;rw [h] at h1;cases h1
 ·obtain h2 | h2 : (bj L (p,0,false) w).2 = false \/ (bj L (p,0,false) w).2 = true:=by cases (bj L (p,0,false) w).2 <;> simp
  ·rw [sd h0 h1 h2] at h;cases h
  ·refine ⟨?_,vt h1,?_⟩
   ·have h3:=eq_of_beq h1
    unfold dc at h3
    cases hb : fW w
    ·rfl
    ·rw [hb] at h3;cases h3
   ·rw [se h0 h1 h2]
    exact Prod.ext rfl h2
theorem Xh {n P : Int} {L : List Wk} {p : Int} {w : List Int} {x : Sp} (h0 : (bf n P L p == 0) = true) (h1 : fW w = false) (h2 : bN L w = true) (h3 : bj L (p,0,false) w = (x,true)) : dU n P L p w = (x.1,x.2,0):=by
 rw [se h0 (by unfold dc;rw [h1,h2];rfl) (by rw [h3]),h3]
theorem Xd {n P : Int} {L : List Wk} {p : Int} (h : bf n P L p = 0) : bD n P L = 0:=by
 unfold bf at h
 by_cases h1 : bD n P L = 0
 ·exact h1
 ·exact absurd ((if_neg h1).symm.trans h) h1
theorem Xm {L : List Wk} {p : Int} {g : Sg} : ((ap L p).getD (br kX ((p,g.1,g.2) : Sp) (ap L p)) aG).2 = Vr L p g:=by
 unfold Vr;rw [<- A2 (p:=p) (g:=g)]
theorem Yh (k : Nat) : ((Int.tdiv (k : Int) 2,Int.tmod (k : Int) 2 == 1) : Sg) = fA k:=by
 unfold fA
 have h1 : Int.tdiv (k : Int) 2 = ((k / 2 : Nat) : Int):=(Int.ofNat_tdiv k 2).symm
 have h2 : Int.tmod (k : Int) 2 = ((k % 2 : Nat) : Int):=(Int.ofNat_tmod k 2).symm
 rw [h1,h2]
 refine Prod.ext rfl ?_
 show (((k % 2 : Nat) : Int) == 1) = (k % 2 == 1)
 rw [Bool.eq_iff_iff,beq_iff_eq,beq_iff_eq];omega
theorem VI {a b : Int} (h : a = b) : (a != b) = false:=by rw [h];exact bne_self_eq_false _
theorem Wp {a b : Bool} (h : a = b) : (!(a == b)) = false:=by rw [h];simp
theorem Xn {w : List Int} (h : w.length <= 96) : fW w = false:=decide_eq_false (by omega)
theorem W0 {P : Int} {L : List Wk} (hw : cx P L) (hP : P <= 6) {p q : Int} (hp : 0 <= p /\ p <= P - 1) (hq : 0 <= q /\ q <= P - 1) {h : Sg} (hh : qa L p q h) : (af L p).length <= (af L q).length:=by
 have hk:=rT hw hh
 have : ((af L p).map fun g => gm (gm (gv h) g) h).length <= (af L q).length:=S9 (ym (V4 _ _ _) (fun x hx y hy e => by
   have tx:=rT hw ((eo hw hP hp).1 hx)
   have ty:=rT hw ((eo hw hP hp).1 hy)
   have kv:=Ki hk
   have one : ∀ z : Sg,cT z.1 -> gm h (gm (gm (gm (gv h) z) h) (gv h)) = z:=fun z hz => by
    rw [SQ (UA kv hz) hk kv,(M7 hk).1,(G5 (UA kv hz)).1,<- SQ hk kv hz,(M7 hk).1,(G5 hz).2]
   rw [<- one x tx,<- one y ty,e])) (fun x hx => by
   obtain ⟨g,hg,rfl⟩:=List.mem_map.1 hx
   exact (eo hw hP hq).2 (yD hw (yD hw (Cg hw hh) ((eo hw hP hp).1 hg)) hh))
 rwa [List.length_map] at this
def WD : au:=XJ (fun _ _ _ _ _ _ => []) (fun _ _ _ _ _ _ => bl true)
noncomputable def Zp : List (Nat × au):=[(15,Df),(42,DL),(37,zH),(31,qm),(43,V1),(56,jf),(71,mC),(68,r5),(16,tC)]
theorem YZ : aR Tryd.prog Γ Zp:=(((((((((aR.nil.cons (aj Tryd.func16 rfl rfl).fn sW).cons (aj Tryd.func68 rfl rfl).fn oU).cons (aj Tryd.func71 rfl rfl).fn kE).cons (aj Tryd.func56 rfl rfl).fn fQ).cons (aj Tryd.func43 rfl rfl).fn V2).cons (aj Tryd.func31 rfl rfl).fn qn).cons (aj Tryd.func37 rfl rfl).fn CB).cons (aj Tryd.func42 rfl rfl).fn Fc).cons (aj Tryd.func15 rfl rfl).fn EJ)
noncomputable def Y0 : List (Nat × Body):=[(44,bo Tryd.f44)]
theorem YA : bq Tryd.prog Y0:=(bq.nil.cons (cg Tryd.func44 rfl rfl))
def ZC (id : Nat) : Option OT:=match Nat.beq id 9 with | true => some (.take 1 (.take 3 (.take 5 (.alt 0 (.alt 2 (.alt 4 (.alt 6 (.alt 7 (.take 8 (.take 9 (.take 10 (.take 11 (.alt 12 (.take 13 (.alt 14 (.take 15 .fin) .fin)) .fin))))) (.alt 12 (.alt 7 (.take 8 (.take 9 (.take 10 (.take 11 (.take 13 (.alt 14 (.take 15 .fin) .fin)))))) .fin) .fin)) (.alt 12 (.alt 6 (.alt 7 (.take 8 (.take 9 (.take 10 (.take 11 (.take 13 (.alt 14 (.take 15 .fin) .fin)))))) .fin) .fin) .fin)) (.alt 12 (.alt 4 (.alt 6 (.alt 7 (.take 8 (.take 9 (.take 10 (.take 11 (.take 13 (.alt 14 (.take 15 .fin) .fin)))))) .fin) .fin) .fin) .fin)) (.alt 12 (.alt 2 (.alt 4 (.alt 6 (.alt 7 (.take 8 (.take 9 (.take 10 (.take 11 (.take 13 (.alt 14 (.take 15 .fin) .fin)))))) .fin) .fin) .fin) .fin) .fin)) (.alt 2 (.alt 0 (.alt 4 (.alt 6 (.alt 7 (.take 8 (.take 9 (.take 10 (.take 11 (.alt 12 (.take 13 (.alt 14 (.take 15 .fin) .fin)) .fin))))) (.alt 12 (.alt 7 (.take 8 (.take 9 (.take 10 (.take 11 (.take 13 (.alt 14 (.take 15 .fin) .fin)))))) .fin) .fin)) (.alt 12 (.alt 6 (.alt 7 (.take 8 (.take 9 (.take 10 (.take 11 (.take 13 (.alt 14 (.take 15 .fin) .fin)))))) .fin) .fin) .fin)) (.alt 12 (.alt 4 (.alt 6 (.alt 7 (.take 8 (.take 9 (.take 10 (.take 11 (.take 13 (.alt 14 (.take 15 .fin) .fin)))))) .fin) .fin) .fin) .fin)) (.alt 4 (.alt 0 (.alt 6 (.alt 7 (.take 8 (.take 9 (.take 10 (.take 11 (.alt 12 (.take 13 (.alt 14 (.take 15 .fin) .fin)) .fin))))) (.alt 12 (.alt 7 (.take 8 (.take 9 (.take 10 (.take 11 (.take 13 (.alt 14 (.take 15 .fin) .fin)))))) .fin) .fin)) (.alt 12 (.alt 6 (.alt 7 (.take 8 (.take 9 (.take 10 (.take 11 (.take 13 (.alt 14 (.take 15 .fin) .fin)))))) .fin) .fin) .fin)) (.alt 6 (.alt 0 (.alt 7 (.take 8 (.take 9 (.take 10 (.take 11 (.alt 12 (.take 13 (.alt 14 (.take 15 .fin) .fin)) .fin))))) (.alt 12 (.alt 7 (.take 8 (.take 9 (.take 10 (.take 11 (.take 13 (.alt 14 (.take 15 .fin) .fin)))))) .fin) .fin)) (.alt 12 (.alt 0 (.alt 7 (.take 8 (.take 9 (.take 10 (.take 11 (.take 13 (.alt 14 (.take 15 .fin) .fin)))))) .fin) .fin) .fin)) (.alt 12 (.alt 0 (.alt 6 (.alt 7 (.take 8 (.take 9 (.take 10 (.take 11 (.take 13 (.alt 14 (.take 15 .fin) .fin)))))) .fin) .fin) (.alt 6 (.alt 0 (.alt 7 (.take 8 (.take 9 (.take 10 (.take 11 (.take 13 (.alt 14 (.take 15 .fin) .fin)))))) .fin) .fin) .fin)) .fin))) (.alt 12 (.alt 0 (.alt 4 (.alt 6 (.alt 7 (.take 8 (.take 9 (.take 10 (.take 11 (.take 13 (.alt 14 (.take 15 .fin) .fin)))))) .fin) .fin) .fin) (.alt 4 (.alt 0 (.alt 6 (.alt 7 (.take 8 (.take 9 (.take 10 (.take 11 (.take 13 (.alt 14 (.take 15 .fin) .fin)))))) .fin) .fin) (.alt 6 (.alt 0 (.alt 7 (.take 8 (.take 9 (.take 10 (.take 11 (.take 13 (.alt 14 (.take 15 .fin) .fin)))))) .fin) .fin) .fin)) .fin)) .fin))) (.alt 12 (.alt 0 (.alt 2 (.alt 4 (.alt 6 (.alt 7 (.take 8 (.take 9 (.take 10 (.take 11 (.take 13 (.alt 14 (.take 15 .fin) .fin)))))) .fin) .fin) .fin) .fin) (.alt 2 (.alt 0 (.alt 4 (.alt 6 (.alt 7 (.take 8 (.take 9 (.take 10 (.take 11 (.take 13 (.alt 14 (.take 15 .fin) .fin)))))) .fin) .fin) .fin) (.alt 4 (.alt 0 (.alt 6 (.alt 7 (.take 8 (.take 9 (.take 10 (.take 11 (.take 13 (.alt 14 (.take 15 .fin) .fin)))))) .fin) .fin) (.alt 6 (.alt 0 (.alt 7 (.take 8 (.take 9 (.take 10 (.take 11 (.take 13 (.alt 14 (.take 15 .fin) .fin)))))) .fin) .fin) .fin)) .fin)) .fin)) .fin)))))) | false => none
def ZA (id : Nat) : Option (Nat × OT):=match Nat.beq id 6 with | true => some (11,.take 0 (.take 1 (.take 3 (.take 4 (.take 5 (.alt 2 (.alt 6 (.take 7 (.take 8 (.take 9 (.take 10 .fin)))) .fin) .fin)))))) | false => none
noncomputable def Zm : Env:={ jV.env Zp Y0 false 0 with tree:=ZC }
noncomputable def Zn : Env:={ Zm with Kr:=ZA }
noncomputable def Zz : Env:={ Zn with cut:=fun t => match Nat.beq t 70 with | true => true | false => Nat.beq t 2009 }
theorem YD : aL Tryd.prog Γ Zz:=(((aP YZ YA false 0).vU _).NA _).wy _
attribute [local irreducible] bD bf af ap dU aY aQ
theorem Wg : au.Ok Tryd.prog Γ 11 WD:=XK (d:=2) YD (aj Tryd.func11 rfl rfl) (fun _ _ _ _ _ _ => rfl) (by
 intro n P L p A B _
 obtain h0 | h0 : decide ((L.length : Int) <= 20) = false \/ decide ((L.length : Int) <= 20) = true:=by cases decide ((L.length : Int) <= 20) <;> simp
 ·have n0 : (!decide ((L.length : Int) <= 20)) = true:=by rw [h0];rfl
  repeat' ((conv => whnf);first | apply And.intro | (intro h9;try (have h8 : (_ : Bool) = _:=h9;clear h8;revert h9;subst_vars;intro h9;exact aq h9 (by assumption))))
  all_goals try (conv => whnf)
  all_goals try first | (apply Tk.mk <;> kernel_rfl) | exact ⟨ah rfl⟩ | exact ⟨rfl⟩ | exact ⟨trivial⟩
  all_goals subst_vars
  all_goals try first | rfl | contradiction | (apply Ob.mk;first | (simp only [ag,ak,aa.ae];omega) | ((try simp only [aa.ae]);(try dsimp only);omega))
 have n0 : (!decide ((L.length : Int) <= 20)) = false:=by rw [h0];rfl
 have hl:=of_decide_eq_true h0
 obtain z1 | z1 : decide ((A.length : Int) > 40) = true \/ decide ((A.length : Int) > 40) = false:=by cases decide ((A.length : Int) > 40) <;> simp
 ·repeat' ((conv => whnf);first | apply And.intro | (intro h9;try (have h8 : (_ : Bool) = _:=h9;clear h8;revert h9;subst_vars;intro h9;exact aq h9 (by assumption))))
  all_goals try (conv => whnf)
  all_goals try first | (apply Tk.mk <;> kernel_rfl) | exact ⟨ah rfl⟩ | exact ⟨rfl⟩ | exact ⟨trivial⟩
  all_goals subst_vars
  all_goals try first | rfl | contradiction | (apply Ob.mk;first | (simp only [ag,ak,aa.ae];omega) | ((try simp only [aa.ae]);(try dsimp only);omega))
 have hA:=of_decide_eq_false z1
 obtain z2 | z2 : decide ((B.length : Int) > 40) = true \/ decide ((B.length : Int) > 40) = false:=by cases decide ((B.length : Int) > 40) <;> simp
 ·repeat' ((conv => whnf);first | apply And.intro | (intro h9;try (have h8 : (_ : Bool) = _:=h9;clear h8;revert h9;subst_vars;intro h9;exact aq h9 (by assumption))))
  all_goals try (conv => whnf)
  all_goals try first | (apply Tk.mk <;> kernel_rfl) | exact ⟨ah rfl⟩ | exact ⟨rfl⟩ | exact ⟨trivial⟩
  all_goals subst_vars
  all_goals try first | rfl | contradiction | (apply Ob.mk;first | (simp only [ag,ak,aa.ae];omega) | ((try simp only [aa.ae]);(try dsimp only);omega))
 have hB:=of_decide_eq_false z2
 obtain q1 | q1 : (bf n P L p == 0) = false \/ (bf n P L p == 0) = true:=by cases bf n P L p == 0 <;> simp
 ·have q2 : (bf n P L p != 0) = true:=by unfold bne;rw [q1];rfl
  repeat' ((conv => whnf);first | apply And.intro | (intro h9;try (have h8 : (_ : Bool) = _:=h9;clear h8;revert h9;subst_vars;intro h9;exact aq h9 (by assumption))))
  all_goals try (conv => whnf)
  all_goals try first | (apply Tk.mk <;> kernel_rfl) | exact ⟨ah rfl⟩ | exact ⟨rfl⟩ | exact ⟨trivial⟩
  all_goals subst_vars
  all_goals try first | rfl | contradiction | (apply Ob.mk;first | (simp only [ag,ak,aa.ae];omega) | ((try simp only [aa.ae]);(try dsimp only);omega))
  all_goals first
   | exact ⟨show L.length <= 1000000 by omega⟩
 have q2 : (bf n P L p != 0) = false:=by unfold bne;rw [q1];rfl
 obtain ⟨hw,hP,hp,hn⟩:=gg (eq_of_beq q1)
 have lS : cx P L:=fun w h => cW.1 hw w h
 have dZ:=fj L p
 repeat' ((conv => whnf);first | apply And.intro | (intro h9;try (have h8 : (_ : Bool) = _:=h9;clear h8;revert h9;subst_vars;intro h9;exact aq h9 (by assumption))))
 all_goals try (conv => whnf)
 all_goals try first | (apply Tk.mk <;> kernel_rfl) | exact ⟨ah rfl⟩ | exact ⟨rfl⟩ | exact ⟨trivial⟩
 all_goals subst_vars
 all_goals try first | rfl | contradiction | (apply Ob.mk;first | (simp only [ag,ak,aa.ae];omega) | ((try simp only [aa.ae]);(try dsimp only);omega))
 all_goals try first
  | exact ⟨show L.length <= 1000000 by omega⟩
  | exact ⟨show A.length <= 1000000 by omega⟩
 refine ⟨Unit,fun _ => True,fun _ => ⟨aI 254 [1,4,9] [.a (vI p),.a (.p 3 [] 0 0),.a (.sl 4 [] 0 (af L p).length)],[],[.arr 60 kW L false false,.arr 3 kI A false false,.arr 3 kI B false false,.box true [vI n,vI P,.sl 0 [] 0 L.length],.arr 64 kG (af L p) true true]⟩,?_,?_⟩
 ·obtain f1 | f1 : ((dU n P L p A).2.2 == 0) = false \/ ((dU n P L p A).2.2 == 0) = true:=by cases ((dU n P L p A).2.2 == 0) <;> simp
  ·repeat' ((conv => whnf);first | apply And.intro | (intro h9;try (have h8 : (_ : Bool) = _:=h9;clear h8;revert h9;subst_vars;intro h9;exact aq h9 (by assumption))))
   all_goals try (conv => whnf)
   all_goals try first | (apply Tk.mk <;> kernel_rfl) | exact ⟨ah rfl⟩ | exact ⟨rfl⟩ | exact ⟨trivial⟩
   all_goals subst_vars
   all_goals try first | rfl | contradiction | (apply Ob.mk;first | (simp only [ag,ak,aa.ae];omega) | ((try simp only [aa.ae]);(try dsimp only);omega))
   refine ⟨(),[],trivial,?_⟩
   repeat' ((conv => whnf);(first | apply And.intro | intro _))
   all_goals first | rfl | trivial | exact ah rfl | exact aS ‹_› rfl | exact aT ‹_› rfl | ((repeat' first | rfl | constructor);done)
  obtain ⟨a1,a2,a3⟩:=Xg q1 (eq_of_beq f1)
  have a4:=vR.1 a2
  have a5:=Dx lS ud a4 a3
  have a6 : aQ (dU n P L p A).2.1.1 0 7 = true:=bA.2 a5
  have Za : 0 <= (dU n P L p A).1 /\ (dU n P L p A).1 <= P - 1:=Ww lS (x:=(p,0,false)) hp a4 a3
  have q3 : (bf n P L (dU n P L p A).1 == 0) = true:=by
   rw [Tj (Xd (eq_of_beq q1)) Za];rfl
  have hwk : qa L p (dU n P L p A).1 (dU n P L p A).2.1:=⟨A,a4,a3⟩
  have ZY:=fj L (dU n P L p A).1
  have hle : (((af L (dU n P L p A).1).length : Int) != ((af L p).length : Int)) = false:=VI (by
   have:=W0 lS hP hp Za hwk
   have:=W0 lS hP Za hp (Cg lS hwk)
   omega)
  have m1 : (!aQ (dU n P L p A).2.1.1 0 7) = false:=by rw [a6];rfl
  have lab : (List.drop 0 (List.take A.length (List.drop 0 A)) ++ List.take B.length (List.drop 0 B)) = A ++ B:=by simp
  have VB : (List.take A.length (List.drop 0 A)).length = A.length:=by simp
  have Vx : (List.drop 0 (List.take A.length (List.drop 0 A)) ++ List.take B.length (List.drop 0 B)).length = A.length + B.length:=by rw [lab,List.length_append]
  have wq : (dU n P L p A).1 = p -> ¬ (br kX ((p,(dU n P L p A).2.1.1,(dU n P L p A).2.1.2) : Sp) (ap L p)) = (ap L p).length:=fun e => DN ((kD lS hP hp).2 (by rw [e] at hwk;exact hwk))
  have wl : (dU n P L p A).1 = p -> decide (((((ap L p).getD (br kX ((p,(dU n P L p A).2.1.1,(dU n P L p A).2.1.2) : Sp) (ap L p)) aG).2.length : Nat) : Int) > (A.length : Int)) = false:=fun e => by
   have:=W9 lS hP hp a4 (g:=(dU n P L p A).2.1) (by rw [a3,e])
   rw [Xm (g:=(dU n P L p A).2.1)]
   exact decide_eq_false (by omega)
  repeat' ((conv => whnf);first | apply And.intro | (intro h9;try (have h8 : (_ : Bool) = _:=h9;clear h8;revert h9;subst_vars;intro h9;exact aq h9 (by assumption))))
  all_goals try (conv => whnf)
  all_goals try first | (apply Tk.mk <;> kernel_rfl) | exact ⟨ah rfl⟩ | exact ⟨rfl⟩ | exact ⟨trivial⟩
  all_goals subst_vars
  all_goals try first | rfl | contradiction | (apply Ob.mk;first | (simp only [ag,ak,aa.ae];omega) | ((try simp only [aa.ae]);(try dsimp only);omega))
  all_goals try first
   | exact ⟨show L.length <= 1000000 by omega⟩
   | exact ⟨show B.length <= 1000000 by omega⟩
  refine ⟨Unit,fun _ => True,fun _ => ⟨aI 254 [1,2,4,9,11,12,14,15,16,17,18,19] [.a (vI p),.a (.sl 1 [] 0 A.length),.a (.p 3 [] 0 0),.a (.sl 4 [] 0 (af L p).length),.a (vI (dU n P L p A).1),.a (.p 5 [] 0 0),.a (vI (dU n P L (dU n P L p A).1 B).1),.a (.p 6 [] 0 0),.a (vI (dU n P L (dU n P L p A).1 B).2.2),.a (vI (dU n P L p (List.drop 0 (List.take A.length (List.drop 0 A)) ++ List.take B.length (List.drop 0 B))).1),.a (.p 7 [] 0 0),.a (vI (dU n P L p (List.drop 0 (List.take A.length (List.drop 0 A)) ++ List.take B.length (List.drop 0 B))).2.2)],[],[.arr 60 kW L false false,.arr 3 kI A false false,.arr 3 kI B false false,.box true [vI n,vI P,.sl 0 [] 0 L.length],.arr 64 kG (af L p) true true,.box true [vI (dU n P L p A).2.1.1,.v (.bool (dU n P L p A).2.1.2)],.box true [vI (dU n P L (dU n P L p A).1 B).2.1.1,.v (.bool (dU n P L (dU n P L p A).1 B).2.1.2)],.box true [vI (dU n P L p (List.drop 0 (List.take A.length (List.drop 0 A)) ++ List.take B.length (List.drop 0 B))).2.1.1,.v (.bool (dU n P L p (List.drop 0 (List.take A.length (List.drop 0 A)) ++ List.take B.length (List.drop 0 B))).2.1.2)]]⟩,?_,?_⟩
  ·repeat' ((conv => whnf);first | apply And.intro | (intro h9;try (have h8 : (_ : Bool) = _:=h9;clear h8;revert h9;subst_vars;intro h9;exact aq h9 (by assumption))))
   all_goals try (conv => whnf)
   all_goals try first | (apply Tk.mk <;> kernel_rfl) | exact ⟨ah rfl⟩ | exact ⟨rfl⟩ | exact ⟨trivial⟩
   all_goals subst_vars
   all_goals try first | rfl | contradiction | (apply Ob.mk;first | (simp only [ag,ak,aa.ae];omega) | ((try simp only [aa.ae]);(try dsimp only);omega))
   all_goals try first
    | exact True.intro
    | exact ⟨show L.length <= 1000000 by omega⟩
    | exact ⟨show 0 + A.length = (List.take A.length (List.drop 0 A)).length by omega⟩
    | exact ⟨Vx.symm⟩
    | exact ⟨show (List.drop 0 (List.take A.length (List.drop 0 A)) ++ List.take B.length (List.drop 0 B)).length <= 1000000 by omega⟩
    | exact ⟨show 0 + A.length <= A.length by omega⟩
    | exact ⟨show 0 + B.length <= B.length by omega⟩
    | exact ⟨show A.length * 1 <= 1099511627776 by omega⟩
    | exact ⟨show (A.length + B.length) * 1 <= 1099511627776 by omega⟩
   all_goals first
    | (refine ⟨(),[0,1,2,3,4,5,6,8],trivial,?_⟩
       repeat' ((conv => whnf);(first | apply And.intro | intro _))
       all_goals first | rfl | trivial | exact ah rfl | exact aS ‹_› rfl | exact aT ‹_› rfl | ((repeat' first | rfl | constructor);done)
       done)
    | (refine ⟨(),[0,1,2,3,4,5,6,7],trivial,?_⟩
       repeat' ((conv => whnf);(first | apply And.intro | intro _))
       all_goals first | rfl | trivial | exact ah rfl | exact aS ‹_› rfl | exact aT ‹_› rfl | ((repeat' first | rfl | constructor);done)
       done)
  rintro ⟨⟩ -
  obtain g1 | g1 : ((dU n P L (dU n P L p A).1 B).2.2 == 0) = false \/ ((dU n P L (dU n P L p A).1 B).2.2 == 0) = true:=by cases ((dU n P L (dU n P L p A).1 B).2.2 == 0) <;> simp
  ·obtain u1 | u1 : ((dU n P L p A).1 == p) = false \/ ((dU n P L p A).1 == p) = true:=by cases ((dU n P L p A).1 == p) <;> simp
   ·clear wq wl a3 lab hwk a5
    repeat' ((conv => whnf);first | apply And.intro | (intro h9;try (have h8 : (_ : Bool) = _:=h9;clear h8;revert h9;subst_vars;intro h9;exact aq h9 (by assumption))))
    all_goals try (conv => whnf)
    all_goals try first | (apply Tk.mk <;> kernel_rfl) | exact ⟨ah rfl⟩ | exact ⟨rfl⟩ | exact ⟨trivial⟩
    all_goals subst_vars
    all_goals try first | rfl | contradiction | (apply Ob.mk;first | (simp only [ag,ak,aa.ae];omega) | ((try simp only [aa.ae]);(try dsimp only);omega))
    all_goals try first
     | exact ⟨show L.length <= 1000000 by omega⟩
    refine ⟨(),[],trivial,?_⟩
    repeat' ((conv => whnf);(first | apply And.intro | intro _))
    all_goals first | rfl | trivial | exact ah rfl | exact aS ‹_› rfl | exact aT ‹_› rfl | ((repeat' first | rfl | constructor);done)
   have ZP:=wq (eq_of_beq u1)
   have ZO:=wl (eq_of_beq u1)
   clear wq wl a3 lab hwk a5
   repeat' ((conv => whnf);first | apply And.intro | (intro h9;try (have h8 : (_ : Bool) = _:=h9;clear h8;revert h9;subst_vars;intro h9;exact aq h9 (by assumption))))
   all_goals try (conv => whnf)
   all_goals try first | (apply Tk.mk <;> kernel_rfl) | exact ⟨ah rfl⟩ | exact ⟨rfl⟩ | exact ⟨trivial⟩
   all_goals subst_vars
   all_goals try first | rfl | contradiction | (apply Ob.mk;first | (simp only [ag,ak,aa.ae];omega) | ((try simp only [aa.ae]);(try dsimp only);omega))
   all_goals try first
    | exact True.intro
    | exact ⟨show L.length <= 1000000 by omega⟩
    | exact ⟨hw⟩
   refine ⟨(),[],trivial,?_⟩
   repeat' ((conv => whnf);(first | apply And.intro | intro _))
   all_goals first | rfl | trivial | exact ah rfl | exact aS ‹_› rfl | exact aT ‹_› rfl | ((repeat' first | rfl | constructor);done)
  obtain ⟨b1,b2,b3⟩:=Xg q3 (eq_of_beq g1)
  have b4:=vR.1 b2
  have b5:=Dx lS ud b4 b3
  have b6 : aQ (dU n P L (dU n P L p A).1 B).2.1.1 0 7 = true:=bA.2 b5
  have Zq : bj L (p,0,false) (List.drop 0 (List.take A.length (List.drop 0 A)) ++ List.take B.length (List.drop 0 B)) = (((dU n P L (dU n P L p A).1 B).1,gm (dU n P L p A).2.1 (dU n P L (dU n P L p A).1 B).2.1),true):=by
   rw [lab,uW a3]
   have:=qG lS (g:=(dU n P L p A).2.1) a5 (x:=((dU n P L p A).1,0,false)) ud b4 b3
   rw [(G5 a5).1] at this
   exact this
  have cv:=Xh q1 (Xn (by rw [Vx];omega)) (by rw [lab];exact vR.2 (fun s h => (List.mem_append.1 h).elim (a4 s) (b4 s))) Zq
  have c1 : ((dU n P L p (List.drop 0 (List.take A.length (List.drop 0 A)) ++ List.take B.length (List.drop 0 B))).2.2 != 0) = false:=VI (by rw [cv])
  have c2 : ((aY (dU n P L p A).2.1.1 (dU n P L (dU n P L p A).1 B).2.1.1).2 != 0) = false:=VI (by rw [di a6 b6])
  have c3 : ((dU n P L (dU n P L p A).1 B).1 != (dU n P L p (List.drop 0 (List.take A.length (List.drop 0 A)) ++ List.take B.length (List.drop 0 B))).1) = false:=VI (by rw [cv])
  have c4 : ((dU n P L p (List.drop 0 (List.take A.length (List.drop 0 A)) ++ List.take B.length (List.drop 0 B))).2.1.1 != (aY (dU n P L p A).2.1.1 (dU n P L (dU n P L p A).1 B).2.1.1).1) = false:=VI (by rw [cv,di a6 b6];rfl)
  have c5 : (!((dU n P L p (List.drop 0 (List.take A.length (List.drop 0 A)) ++ List.take B.length (List.drop 0 B))).2.1.2 == (!((dU n P L p A).2.1.2 == (dU n P L (dU n P L p A).1 B).2.1.2)))) = false:=Wp (by rw [cv];rfl)
  clear cv Zq b3 b5
  obtain u1 | u1 : ((dU n P L p A).1 == p) = false \/ ((dU n P L p A).1 == p) = true:=by cases ((dU n P L p A).1 == p) <;> simp
  ·clear wq wl a3 lab hwk a5
   repeat' ((conv => whnf);first | apply And.intro | (intro h9;try (have h8 : (_ : Bool) = _:=h9;clear h8;revert h9;subst_vars;intro h9;exact aq h9 (by assumption))))
   all_goals try (conv => whnf)
   all_goals try first | (apply Tk.mk <;> kernel_rfl) | exact ⟨ah rfl⟩ | exact ⟨rfl⟩ | exact ⟨trivial⟩
   all_goals subst_vars
   all_goals try first | rfl | contradiction | (apply Ob.mk;first | (simp only [ag,ak,aa.ae];omega) | ((try simp only [aa.ae]);(try dsimp only);omega))
   all_goals try first
    | exact ⟨show L.length <= 1000000 by omega⟩
   refine ⟨(),[],trivial,?_⟩
   repeat' ((conv => whnf);(first | apply And.intro | intro _))
   all_goals first | rfl | trivial | exact ah rfl | exact aS ‹_› rfl | exact aT ‹_› rfl | ((repeat' first | rfl | constructor);done)
  have ZP:=wq (eq_of_beq u1)
  have ZO:=wl (eq_of_beq u1)
  clear wq wl a3 lab hwk a5
  repeat' ((conv => whnf);first | apply And.intro | (intro h9;try (have h8 : (_ : Bool) = _:=h9;clear h8;revert h9;subst_vars;intro h9;exact aq h9 (by assumption))))
  all_goals try (conv => whnf)
  all_goals try first | (apply Tk.mk <;> kernel_rfl) | exact ⟨ah rfl⟩ | exact ⟨rfl⟩ | exact ⟨trivial⟩
  all_goals subst_vars
  all_goals try first | rfl | contradiction | (apply Ob.mk;first | (simp only [ag,ak,aa.ae];omega) | ((try simp only [aa.ae]);(try dsimp only);omega))
  all_goals try first
   | exact True.intro
   | exact ⟨show L.length <= 1000000 by omega⟩
   | exact ⟨hw⟩
  refine ⟨(),[],trivial,?_⟩
  repeat' ((conv => whnf);(first | apply And.intro | intro _))
  all_goals first | rfl | trivial | exact ah rfl | exact aS ‹_› rfl | exact aT ‹_› rfl | ((repeat' first | rfl | constructor);done)
 rintro ⟨⟩ -
 repeat' ((conv => whnf);first | apply And.intro | (intro h9;try (have h8 : (_ : Bool) = _:=h9;clear h8;revert h9;subst_vars;intro h9;exact aq h9 (by assumption))))
 all_goals try (conv => whnf)
 all_goals try first | (apply Tk.mk <;> kernel_rfl) | exact ⟨ah rfl⟩ | exact ⟨rfl⟩ | exact ⟨trivial⟩
 all_goals subst_vars
 all_goals try first | rfl | contradiction | (apply Ob.mk;first | (simp only [ag,ak,aa.ae];omega) | ((try simp only [aa.ae]);(try dsimp only);omega))
 refine ⟨Nat,fun k => k <= 16,fun k => ⟨aI 254 [1,4,9,26] [.a (vI p),.a (.p 3 [] 0 0),.a (.sl 4 [] 0 (af L p).length),.a (vI k)],[],[.arr 60 kW L false false,.arr 3 kI A false false,.arr 3 kI B false false,.box true [vI n,vI P,.sl 0 [] 0 L.length],.arr 64 kG (af L p) true true]⟩,fun k => 16 - k,0,[],Nat.zero_le _,?_,?_⟩
 ·repeat' ((conv => whnf);(first | apply And.intro | intro _))
  all_goals first | rfl | trivial | exact ah rfl | exact aS ‹_› rfl | exact aT ‹_› rfl | ((repeat' first | rfl | constructor);done)
 rintro k hk
 by_cases cB : k < 16
 ·have p0 : decide ((k : Int) < 16) = true:=decide_eq_true (by omega)
  have eg:=Yh k
  have hT : cT (Int.tdiv (k : Int) 2):=by have:=YL cB;rw [<- eg] at this;exact this
  have o1 : (ag .i64 (Int.tdiv (k : Int) 2)).p:=by show ak .i64 _;unfold cT at hT;unfold ak;omega
  have ZV : (!aQ (Int.tdiv (k : Int) 2) 0 7) = false:=by rw [Tp hT];rfl
  obtain b1 | b1 : (af L p).any (fun h => h.1 == Int.tdiv (k : Int) 2 && (h.2 == (Int.tmod (k : Int) 2 == 1) && true)) = false \/ (af L p).any (fun h => h.1 == Int.tdiv (k : Int) 2 && (h.2 == (Int.tmod (k : Int) 2 == 1) && true)) = true:=by cases (af L p).any (fun h => h.1 == Int.tdiv (k : Int) 2 && (h.2 == (Int.tmod (k : Int) 2 == 1) && true)) <;> simp
  ·have hno : ¬ ((Int.tdiv (k : Int) 2,Int.tmod (k : Int) 2 == 1) : Sg) ∈ (af L p):=fun h => by rw [We.2 h] at b1;cases b1
   have kx : ¬ br kX ((p,Int.tdiv (k : Int) 2,Int.tmod (k : Int) 2 == 1) : Sp) (ap L p) < (ap L p).length:=DO (by
    cases hb : dh (ap L p) (p,Int.tdiv (k : Int) 2,Int.tmod (k : Int) 2 == 1)
    ·rfl
    ·exact absurd ((eo lS hP hp).2 ((kD lS hP hp).1 hb)) hno)
   have nn : (!((af L p).any (fun h => h.1 == Int.tdiv (k : Int) 2 && (h.2 == (Int.tmod (k : Int) 2 == 1) && true)) == ((5 : Int) == 0))) = false:=by rw [b1];rfl
   clear eg hno
   repeat' ((conv => whnf);first | apply And.intro | (intro h9;try (have h8 : (_ : Bool) = _:=h9;clear h8;revert h9;subst_vars;intro h9;exact aq h9 (by assumption))))
   all_goals try (conv => whnf)
   all_goals try first | (apply Tk.mk <;> kernel_rfl) | exact ⟨ah rfl⟩ | exact ⟨rfl⟩ | exact ⟨trivial⟩
   all_goals subst_vars
   all_goals try first | rfl | contradiction | (apply Ob.mk;first | (simp only [ag,ak,aa.ae];omega) | ((try simp only [aa.ae]);(try dsimp only);omega))
   all_goals try first
    | exact True.intro
    | exact ⟨show L.length <= 1000000 by omega⟩
    | exact ⟨hw⟩
    | exact ⟨show (af L p).length <= 1000000 by omega⟩
   refine ⟨k + 1,[],cB,?_,by show 16 - (k + 1) < 16 - k;omega⟩
   repeat' ((conv => whnf);(first | apply And.intro | intro _))
   all_goals first | rfl | trivial | exact ah rfl | exact aS ‹_› rfl | exact aT ‹_› rfl | ((repeat' first | rfl | constructor);done)
  have iB:=We (g:=((Int.tdiv (k : Int) 2,Int.tmod (k : Int) 2 == 1) : Sg)).1 b1
  have kx : ¬ br kX ((p,Int.tdiv (k : Int) 2,Int.tmod (k : Int) 2 == 1) : Sp) (ap L p) = (ap L p).length:=DN ((kD lS hP hp).2 ((eo lS hP hp).1 iB))
  have VN : br kX ((p,Int.tdiv (k : Int) 2,Int.tmod (k : Int) 2 == 1) : Sp) (ap L p) < (ap L p).length:=A4 ((kD lS hP hp).2 ((eo lS hP hp).1 iB))
  have nn : (!((af L p).any (fun h => h.1 == Int.tdiv (k : Int) 2 && (h.2 == (Int.tmod (k : Int) 2 == 1) && true)) == ((0 : Int) == 0))) = false:=by rw [b1];rfl
  obtain ⟨w1,w2,w3⟩:=JP lS hP hp iB
  rw [<- Xm] at w1 w2 w3
  have w4 : ((ap L p).getD (br kX ((p,Int.tdiv (k : Int) 2,Int.tmod (k : Int) 2 == 1) : Sp) (ap L p)) aG).2.length <= 1000000:=Nat.le_trans w3 (by omega)
  have fv:=Xh q1 (Xn (Nat.le_trans w3 (by omega))) (vR.2 w2) w1
  have v1 : ((dU n P L p ((ap L p).getD (br kX ((p,Int.tdiv (k : Int) 2,Int.tmod (k : Int) 2 == 1) : Sp) (ap L p)) aG).2).2.2 != 0) = false:=VI (by rw [fv])
  have v2 : ((dU n P L p ((ap L p).getD (br kX ((p,Int.tdiv (k : Int) 2,Int.tmod (k : Int) 2 == 1) : Sp) (ap L p)) aG).2).1 != p) = false:=VI (by rw [fv])
  have v3 : (!((dU n P L p ((ap L p).getD (br kX ((p,Int.tdiv (k : Int) 2,Int.tmod (k : Int) 2 == 1) : Sp) (ap L p)) aG).2).2.1.1 == Int.tdiv (k : Int) 2 && ((dU n P L p ((ap L p).getD (br kX ((p,Int.tdiv (k : Int) 2,Int.tmod (k : Int) 2 == 1) : Sp) (ap L p)) aG).2).2.1.2 == (Int.tmod (k : Int) 2 == 1) && true))) = false:=by
   rw [fv];simp
  clear eg fv w1 w2 iB
  repeat' ((conv => whnf);first | apply And.intro | (intro h9;try (have h8 : (_ : Bool) = _:=h9;clear h8;revert h9;subst_vars;intro h9;exact aq h9 (by assumption))))
  all_goals try (conv => whnf)
  all_goals try first | (apply Tk.mk <;> kernel_rfl) | exact ⟨ah rfl⟩ | exact ⟨rfl⟩ | exact ⟨trivial⟩
  all_goals subst_vars
  all_goals try first | rfl | contradiction | (apply Ob.mk;first | (simp only [ag,ak,aa.ae];omega) | ((try simp only [aa.ae]);(try dsimp only);omega))
  all_goals try first
   | exact True.intro
   | exact ⟨show L.length <= 1000000 by omega⟩
   | exact ⟨w4⟩
   | exact ⟨hw⟩
   | exact ⟨show (af L p).length <= 1000000 by omega⟩
  refine ⟨k + 1,[],cB,?_,by show 16 - (k + 1) < 16 - k;omega⟩
  repeat' ((conv => whnf);(first | apply And.intro | intro _))
  all_goals first | rfl | trivial | exact ah rfl | exact aS ‹_› rfl | exact aT ‹_› rfl | ((repeat' first | rfl | constructor);done)
 have p0 : decide ((k : Int) < 16) = false:=decide_eq_false (by omega)
 repeat' ((conv => whnf);first | apply And.intro | (intro h9;try (have h8 : (_ : Bool) = _:=h9;clear h8;revert h9;subst_vars;intro h9;exact aq h9 (by assumption))))
 all_goals try (conv => whnf)
 all_goals try first | (apply Tk.mk <;> kernel_rfl) | exact ⟨ah rfl⟩ | exact ⟨rfl⟩ | exact ⟨trivial⟩
 all_goals subst_vars
 all_goals try first | rfl | contradiction | (apply Ob.mk;first | (simp only [ag,ak,aa.ae];omega) | ((try simp only [aa.ae]);(try dsimp only);omega))
 clear p0 hk cB
 refine ⟨Nat,fun i => i <= (af L p).length,fun i => ⟨aI 254 [9,34] [.a (.sl 4 [] 0 (af L p).length),.a (vI i)],[],[.arr 60 kW L false false,.arr 3 kI A false false,.arr 3 kI B false false,.box true [vI n,vI P,.sl 0 [] 0 L.length],.arr 64 kG (af L p) true true]⟩,fun i => (af L p).length - i,0,[],Nat.zero_le _,?_,?_⟩
 ·repeat' ((conv => whnf);(first | apply And.intro | intro _))
  all_goals first | rfl | trivial | exact ah rfl | exact aS ‹_› rfl | exact aT ‹_› rfl | ((repeat' first | rfl | constructor);done)
 rintro i hi
 by_cases hi1 : i < (af L p).length
 ·have p0 : decide ((i : Int) < ((af L p).length : Int)) = true:=decide_eq_true (by omega)
  repeat' ((conv => whnf);first | apply And.intro | (intro h9;try (have h8 : (_ : Bool) = _:=h9;clear h8;revert h9;subst_vars;intro h9;exact aq h9 (by assumption))))
  all_goals try (conv => whnf)
  all_goals try first | (apply Tk.mk <;> kernel_rfl) | exact ⟨ah rfl⟩ | exact ⟨rfl⟩ | exact ⟨trivial⟩
  all_goals subst_vars
  all_goals try first | rfl | contradiction | (apply Ob.mk;first | (simp only [ag,ak,aa.ae];omega) | ((try simp only [aa.ae]);(try dsimp only);omega))
  refine ⟨Nat,fun j => j <= (af L p).length,fun j => ⟨aI 254 [9,34,35] [.a (.sl 4 [] 0 (af L p).length),.a (vI i),.a (vI j)],[],[.arr 60 kW L false false,.arr 3 kI A false false,.arr 3 kI B false false,.box true [vI n,vI P,.sl 0 [] 0 L.length],.arr 64 kG (af L p) true true]⟩,fun j => (af L p).length - j,0,[],Nat.zero_le _,?_,?_⟩
  ·repeat' ((conv => whnf);(first | apply And.intro | intro _))
   all_goals first | rfl | trivial | exact ah rfl | exact aS ‹_› rfl | exact aT ‹_› rfl | ((repeat' first | rfl | constructor);done)
  rintro j hj
  by_cases Ho : j < (af L p).length
  ·have p1 : decide ((j : Int) < ((af L p).length : Int)) = true:=decide_eq_true (by omega)
   have ei:=rL (af L p) i
   have ej:=rL (af L p) j
   have hG:=nK lS hP hp
   have mi:=aaq hi1
   have mj:=aaq Ho
   have ti : aQ (bI (af L p) i).1 0 7 = true:=by rw [ei];exact Tp (hG.ok _ mi)
   have tj : aQ (bI (af L p) j).1 0 7 = true:=by rw [ej];exact Tp (hG.ok _ mj)
   have d1 : ((aY (bI (af L p) i).1 (bI (af L p) j).1).2 != 0) = false:=VI (by rw [di ti tj])
   have d2 : (af L p).any (fun h => h.1 == (aY (bI (af L p) i).1 (bI (af L p) j).1).1 && (h.2 == (!((bI (af L p) i).2 == (bI (af L p) j).2)) && true)) = true :=
    We (g:=((aY (bI (af L p) i).1 (bI (af L p) j).1).1,!((bI (af L p) i).2 == (bI (af L p) j).2))).2 (by
     rw [di ti tj,ei,ej];exact hG.mul _ mi _ mj)
   have d3 : (!(af L p).any (fun h => h.1 == (aY (bI (af L p) i).1 (bI (af L p) j).1).1 && (h.2 == (!((bI (af L p) i).2 == (bI (af L p) j).2)) && true))) = false:=by rw [d2];rfl
   clear ei ej mi mj
   repeat' ((conv => whnf);first | apply And.intro | (intro h9;try (have h8 : (_ : Bool) = _:=h9;clear h8;revert h9;subst_vars;intro h9;exact aq h9 (by assumption))))
   all_goals try (conv => whnf)
   all_goals try first | (apply Tk.mk <;> kernel_rfl) | exact ⟨ah rfl⟩ | exact ⟨rfl⟩ | exact ⟨trivial⟩
   all_goals subst_vars
   all_goals try first | rfl | contradiction | (apply Ob.mk;first | (simp only [ag,ak,aa.ae];omega) | ((try simp only [aa.ae]);(try dsimp only);omega))
   all_goals try first
    | exact ⟨show 0 + Int.toNat (i : Int) < (af L p).length by omega⟩
    | exact ⟨show 0 + Int.toNat (j : Int) < (af L p).length by omega⟩
    | exact ⟨show (af L p).length <= 1000000 by omega⟩
   refine ⟨j + 1,[],Ho,?_,by show (af L p).length - (j + 1) < (af L p).length - j;omega⟩
   repeat' ((conv => whnf);(first | apply And.intro | intro _))
   all_goals first | rfl | trivial | exact ah rfl | exact aS ‹_› rfl | exact aT ‹_› rfl | ((repeat' first | rfl | constructor);done)
  have p1 : decide ((j : Int) < ((af L p).length : Int)) = false:=decide_eq_false (by omega)
  repeat' ((conv => whnf);first | apply And.intro | (intro h9;try (have h8 : (_ : Bool) = _:=h9;clear h8;revert h9;subst_vars;intro h9;exact aq h9 (by assumption))))
  all_goals try (conv => whnf)
  all_goals try first | (apply Tk.mk <;> kernel_rfl) | exact ⟨ah rfl⟩ | exact ⟨rfl⟩ | exact ⟨trivial⟩
  all_goals subst_vars
  all_goals try first | rfl | contradiction | (apply Ob.mk;first | (simp only [ag,ak,aa.ae];omega) | ((try simp only [aa.ae]);(try dsimp only);omega))
  refine ⟨i + 1,[],hi1,?_,by show (af L p).length - (i + 1) < (af L p).length - i;omega⟩
  repeat' ((conv => whnf);(first | apply And.intro | intro _))
  all_goals first | rfl | trivial | exact ah rfl | exact aS ‹_› rfl | exact aT ‹_› rfl | ((repeat' first | rfl | constructor);done)
 have p0 : decide ((i : Int) < ((af L p).length : Int)) = false:=decide_eq_false (by omega)
 repeat' ((conv => whnf);first | apply And.intro | (intro h9;try (have h8 : (_ : Bool) = _:=h9;clear h8;revert h9;subst_vars;intro h9;exact aq h9 (by assumption))))
 all_goals try (conv => whnf)
 all_goals try first | (apply Tk.mk <;> kernel_rfl) | exact ⟨ah rfl⟩ | exact ⟨rfl⟩ | exact ⟨trivial⟩
 all_goals subst_vars
 all_goals try first | rfl | contradiction | (apply Ob.mk;first | (simp only [ag,ak,aa.ae];omega) | ((try simp only [aa.ae]);(try dsimp only);omega)))
end Go.Proofs.YthejmgnkenokpaaDoor
end
