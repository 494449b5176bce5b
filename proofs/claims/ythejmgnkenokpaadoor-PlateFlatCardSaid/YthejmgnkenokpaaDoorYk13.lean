/-
  Texts of the claims on chapter 3: Yk13. No condition: lemmas and contracts.
-/
import Derived.Test.YthejmgnkenokpaaDoorYk12
import Derived.Test.YthejmgnkenokpaaDoorYk11
import Derived.Test.YthejmgnkenokpaaDoorYk9
set_option linter.all false
set_option maxRecDepth 100000
set_option maxHeartbeats 4000000
section
namespace Go.Proofs.YthejmgnkenokpaaDoor
open Go Go.Sy Go.bK
variable {Γ : bn}
def XL (D : Int -> Int -> List Wk -> Int -> List Int -> List (List Int) -> List aa) (F : Int -> Int -> List Wk -> Int -> List Int -> List (List Int) -> Tm) : au:=.fn fun args rg => match args with
 | [.agg [.v (.int .i64 n0),.v (.int .i64 n1),x0],.a (.v (.int .i64 n2)),.a x1,.a x2] => (match ca 60 kW rg x0,ca 3 kI rg x1,ca 27 kT rg x2 with | some (q0,L0),some (q1,L1),some (q2,L2) => some (q0 ++ (q1 ++ (q2 ++ (D n0 n1 L0 n2 L1 L2))),F n0 n1 L0 n2 L1 L2) | _,_,_ => none)
 | _ => none
theorem XM {f : FuncId} {b : Body} {E : Env} {d : Nat} (hP : aL Tryd.prog Γ E) (hb : bQ Tryd.prog f b) {D : Int -> Int -> List Wk -> Int -> List Int -> List (List Int) -> List aa} {F : Int -> Int -> List Wk -> Int -> List Int -> List (List Int) -> Tm} (hp : ∀ (n0 : Int) (n1 : Int) (L0 : List Wk) (n2 : Int) (L1 : List Int) (L2 : List (List Int)),(F n0 n1 L0 n2 L1 L2).plain = true)
  (H : ∀ (n0 : Int) (n1 : Int) (L0 : List Wk) (n2 : Int) (L1 : List Int) (L2 : List (List Int)),bW (D n0 n1 L0 n2 L1 L2) -> cQ E d b [.agg [vI n0,vI n1,.sl 0 [] 0 L0.length],.a (vI n2),.a (.sl 1 [] 0 L1.length),.a (.sl 2 [] 0 L2.length)] [.arr 60 kW L0 false false,.arr 3 kI L1 false false,.arr 27 kT L2 false false] (fun x _ => iL x (F n0 n1 L0 n2 L1 L2))) : au.Ok Tryd.prog Γ f (XL D F):=au.er (d:=d) hP hb (by
 intro args rg q t hF hq
 split at hF
 next n0 n1 x0 n2 x1 x2 =>
  split at hF
  next q0 L0 q1 L1 q2 L2 hx0 cO cq =>
   obtain ⟨rfl,rfl⟩:=Prod.mk.inj (Option.some.inj hF);clear hF
   rw [aH,aH,aH] at hq
   obtain ⟨dm,gk,AM,hD⟩:=hq
   obtain ⟨e0,Vn⟩:=bP (by simp [kW]) hx0 dm
   obtain ⟨e1,iO⟩:=bP (by simp [kI]) cO gk
   obtain ⟨e2,AH⟩:=bP (by simp [kT]) cq AM
   obtain ⟨p0,r0⟩:=Vn [e0,e1,e2] 0 3 rfl (by omega)
   obtain ⟨p1,r1⟩:=iO [e0,e1,e2] 1 3 rfl (by omega)
   obtain ⟨p2,r2⟩:=AH [e0,e1,e2] 2 3 rfl (by omega)
   refine ⟨hp _ _ _ _ _ _,[e0,e1,e2],[.agg [vI n0,vI n1,.sl 0 [] 0 L0.length],.a (vI n2),.a (.sl 1 [] 0 L1.length),.a (.sl 2 [] 0 L2.length)],[.arr 60 kW L0 false false,.arr 3 kI L1 false false,.arr 27 kT L2 false false],⟨⟨⟨rfl,rfl,p0,trivial⟩,rfl,p1,p2,trivial⟩,fun r g hg => ?_⟩,H _ _ _ _ _ _ hD⟩
   match r,hg with
   | 0,hg => obtain rfl:=Option.some.inj hg;exact r0
   | 1,hg => obtain rfl:=Option.some.inj hg;exact r1
   | 2,hg => obtain rfl:=Option.some.inj hg;exact r2
  next => cases hF
 next => cases hF)
structure Ky (p : Prop) : Prop where
 h : p
theorem Pj {B G : Prop} (h : Ky B -> G) (b : B) : G:=h ⟨b⟩
theorem WL {A S : List Int} (x : Nat) : (eR A S (x + 1)).length = match uQ A S x with | true => (eR A S x).length + 1 | false => (eR A S x).length:=by
 rw [eR];cases uQ A S x <;> simp
def W5 : au:=XL (fun _ _ _ _ _ _ => []) (fun _ _ _ _ _ _ => bl true)
noncomputable def YX : List (Nat × au):=[(15,Df),(48,Wn),(19,F9),(18,ZZ),(50,ql),(17,yc),(25,DK),(51,WB),(16,tC),(56,jf),(59,qo),(68,r5),(58,mh),(82,xz),(83,tB)]
theorem Yx : aR Tryd.prog Γ YX:=(((((((((((((((aR.nil.cons (aj Tryd.func83 rfl rfl).fn sU).cons (aj Tryd.func82 rfl rfl).fn zQ).cons (aj Tryd.func58 rfl rfl).fn jy).cons (aj Tryd.func68 rfl rfl).fn oU).cons (aj Tryd.func59 rfl rfl).fn qp).cons (aj Tryd.func56 rfl rfl).fn fQ).cons (aj Tryd.func16 rfl rfl).fn sW).cons (aj Tryd.func51 rfl rfl).fn Wt).cons (aj Tryd.func25 rfl rfl).fn Fb).cons (aj Tryd.func17 rfl rfl).fn AX).cons (aj Tryd.func50 rfl rfl).fn ux).cons (aj Tryd.func18 rfl rfl).fn zI).cons (aj Tryd.func19 rfl rfl).fn Ga).cons (aj Tryd.func48 rfl rfl).fn Wh).cons (aj Tryd.func15 rfl rfl).fn EJ)
noncomputable def Yn : List (Nat × Body):=[(49,bo Tryd.f49)]
theorem X0 : bq Tryd.prog Yn:=(bq.nil.cons (cg Tryd.func49 rfl rfl))
noncomputable def Zl : Env:={ jV.env YX Yn false 0 with cut:=fun t => match Nat.beq t 110 with | true => true | false => Nat.beq t 144 }
theorem X5 : aL Tryd.prog Γ Zl:=(aP Yx X0 false 0).wy _
attribute [local irreducible] bf eH af ap lP cL jQ Vr eI hF aB pb o6 AP bD jZ aJ aU jO tU VC Vu VS yM eR
theorem Wl : au.Ok Tryd.prog Γ 13 W5:=XM (d:=3) X5 (aj Tryd.func13 rfl rfl) (fun _ _ _ _ _ _ => rfl) (by
 intro n P L p H W _
 obtain h0 | h0 : decide ((L.length : Int) <= 20) = false \/ decide ((L.length : Int) <= 20) = true:=by cases decide ((L.length : Int) <= 20) <;> simp
 ·have n0 : (!decide ((L.length : Int) <= 20)) = true:=by rw [h0];rfl
  repeat' ((conv => whnf);first | apply And.intro | (intro h9;try (have h8 : (_ : Bool) = _:=h9;clear h8;revert h9;subst_vars;intro h9;exact aq h9 (by assumption))))
  all_goals try (conv => whnf)
  all_goals try first | (apply Tk.mk <;> kernel_rfl) | exact ⟨ah rfl⟩ | exact ⟨rfl⟩ | exact ⟨trivial⟩
  all_goals subst_vars
  all_goals try first | rfl | contradiction | (apply Ob.mk;first | (simp only [ag,ak,aa.ae];omega) | ((try simp only [aa.ae]);(try dsimp only);omega))
 have n0 : (!decide ((L.length : Int) <= 20)) = false:=by rw [h0];rfl
 have ZX:=of_decide_eq_true h0
 have hl : L.length <= 1000000:=by omega
 obtain z1 | z1 : decide ((H.length : Int) > 40) = true \/ decide ((H.length : Int) > 40) = false:=by cases decide ((H.length : Int) > 40) <;> simp
 ·repeat' ((conv => whnf);first | apply And.intro | (intro h9;try (have h8 : (_ : Bool) = _:=h9;clear h8;revert h9;subst_vars;intro h9;exact aq h9 (by assumption))))
  all_goals try (conv => whnf)
  all_goals try first | (apply Tk.mk <;> kernel_rfl) | exact ⟨ah rfl⟩ | exact ⟨rfl⟩ | exact ⟨trivial⟩
  all_goals subst_vars
  all_goals try first | rfl | contradiction | (apply Ob.mk;first | (simp only [ag,ak,aa.ae];omega) | ((try simp only [aa.ae]);(try dsimp only);omega))
 have hH:=of_decide_eq_false z1
 obtain h9 | h9 : VC W 44 100 = false \/ VC W 44 100 = true:=by cases VC W 44 100 <;> simp
 ·have n9 : (!VC W 44 100) = true:=by rw [h9];rfl
  repeat' ((conv => whnf);first | apply And.intro | (intro h9;try (have h8 : (_ : Bool) = _:=h9;clear h8;revert h9;subst_vars;intro h9;exact aq h9 (by assumption))))
  all_goals try (conv => whnf)
  all_goals try first | (apply Tk.mk <;> kernel_rfl) | exact ⟨ah rfl⟩ | exact ⟨rfl⟩ | exact ⟨trivial⟩
  all_goals subst_vars
  all_goals try first | rfl | contradiction | (apply Ob.mk;first | (simp only [ag,ak,aa.ae];omega) | ((try simp only [aa.ae]);(try dsimp only);omega))
 have n9 : (!VC W 44 100) = false:=by rw [h9];rfl
 obtain ⟨w8,ZN⟩:=XP h9
 have VD : ∀ w ∈ W,w.length <= 1000000:=fun w hw => by have:=ZN w hw;omega
 have s0 : (bf n P L p == bf n P L p) = true:=beq_self_eq_true _
 obtain q1 | q1 : (bf n P L p == 0) = false \/ (bf n P L p == 0) = true:=by cases bf n P L p == 0 <;> simp
 ·have q2 : (bf n P L p != 0) = true:=by unfold bne;rw [q1];rfl
  repeat' ((conv => whnf);first | apply And.intro | (intro h9;try (have h8 : (_ : Bool) = _:=h9;clear h8;revert h9;subst_vars;intro h9;exact aq h9 (by assumption))))
  all_goals try (conv => whnf)
  all_goals try first | (apply Tk.mk <;> kernel_rfl) | exact ⟨ah rfl⟩ | exact ⟨rfl⟩ | exact ⟨trivial⟩
  all_goals subst_vars
  all_goals try first | rfl | contradiction | (apply Ob.mk;first | (simp only [ag,ak,aa.ae];omega) | ((try simp only [aa.ae]);(try dsimp only);omega))
  all_goals first
   | trivial
   | exact ⟨hl⟩
 have q2 : (bf n P L p != 0) = false:=by unfold bne;rw [q1];rfl
 obtain ⟨hw,hP,hp,hn⟩:=gg (eq_of_beq q1)
 have hc:=Xd (eq_of_beq q1)
 have hs:=oe.1 hc
 have lS : cx P L:=fun w h => hs.w w h
 have hG:=nK lS hP hp
 have hgo : ∀ g ∈ (af L p),0 <= g.1 /\ g.1 <= 7:=hG.ok
 have hfl:=Te hc hp
 have ZG:=Ut hc hp
 have Kl:=Ax hG hn
 apply Pj
 case h =>
  intro key
  have nf : (!(o6 n P L p == (pb n P L p == 0))) = false:=Wp (by rw [hfl,ZG])
  have hno : o6 n P L p = false -> (jZ n P L p W == 0) = false:=fun h => by
   cases hb : jZ n P L p W == 0
   ·rfl
   ·obtain ⟨_,e2,e3⟩:=Mt (eq_of_beq hb)
    have:=(xN hG hn).2 (K9 lS hP hp hn (fun w hw => (tv e2 w hw).1) e3)
    rw [hfl,this] at h;cases h
  obtain f0 | f0 : (lP n (af L p) != 0) = true \/ (lP n (af L p) != 0) = false:=by cases (lP n (af L p) != 0) <;> simp
  ·have f1 : o6 n P L p = false:=by rw [hfl,<- Kl];unfold bne at f0;rw [Bool.not_eq_true'] at f0;exact f0
   have f2:=hno f1
   have f3 : (!(o6 n P L p == ((5 : Int) == 0))) = false:=by rw [f1];rfl
   clear hno
   repeat' ((conv => whnf);first | apply And.intro | (intro h9;try (have h8 : (_ : Bool) = _:=h9;clear h8;revert h9;subst_vars;intro h9;exact aq h9 (by assumption))))
   all_goals try (conv => whnf)
   all_goals try first | (apply Tk.mk <;> kernel_rfl) | exact ⟨ah rfl⟩ | exact ⟨rfl⟩ | exact ⟨trivial⟩
   all_goals subst_vars
   all_goals try first | rfl | contradiction | (apply Ob.mk;first | (simp only [ag,ak,aa.ae];omega) | ((try simp only [aa.ae]);(try dsimp only);omega))
   all_goals try first
    | exact ⟨hl⟩
    | exact ⟨hw⟩
   refine ⟨Unit,fun _ => True,fun _ => ⟨aI 234 [1,2,4,9] [.a (vI p),.a (.sl 1 [] 0 H.length),.a (.p 3 [] 0 0),.a (.v (.bool (o6 n P L p)))],[],[.arr 60 kW L false false,.arr 3 kI H false false,.arr 27 kT W false false,.box true [vI n,vI P,.sl 0 [] 0 L.length]]⟩,?_,key.h⟩
   repeat' ((conv => whnf);first | apply And.intro | (intro h9;try (have h8 : (_ : Bool) = _:=h9;clear h8;revert h9;subst_vars;intro h9;exact aq h9 (by assumption))))
   all_goals try (conv => whnf)
   all_goals try first | (apply Tk.mk <;> kernel_rfl) | exact ⟨ah rfl⟩ | exact ⟨rfl⟩ | exact ⟨trivial⟩
   all_goals subst_vars
   all_goals try first | rfl | contradiction | (apply Ob.mk;first | (simp only [ag,ak,aa.ae];omega) | ((try simp only [aa.ae]);(try dsimp only);omega))
   all_goals try first
    | exact ⟨hl⟩
    | exact ⟨VD⟩
    | exact ⟨show W.length <= 1000000 by omega⟩
   refine ⟨(),[],trivial,?_⟩
   repeat' ((conv => whnf);(first | apply And.intro | intro _))
   all_goals first | rfl | trivial | exact ah rfl | exact aS ‹_› rfl | exact aT ‹_› rfl | ((repeat' first | rfl | constructor);done)
  have f1 : o6 n P L p = true:=by rw [hfl,<- Kl];unfold bne at f0;rw [Bool.not_eq_false'] at f0;exact f0
  have f2 : (!o6 n P L p) = false:=by rw [f1];rfl
  have f3 : (!(o6 n P L p == ((0 : Int) == 0))) = false:=by rw [f1];rfl
  have Kq : iE n (af L p):=(xN hG hn).1 (by rw [hfl] at f1;exact eq_of_beq f1)
  obtain ⟨v1,v2,v3⟩:=N6 lS hP hp Kq
  clear hno
  repeat' ((conv => whnf);first | apply And.intro | (intro h9;try (have h8 : (_ : Bool) = _:=h9;clear h8;revert h9;subst_vars;intro h9;exact aq h9 (by assumption))))
  all_goals try (conv => whnf)
  all_goals try first | (apply Tk.mk <;> kernel_rfl) | exact ⟨ah rfl⟩ | exact ⟨rfl⟩ | exact ⟨trivial⟩
  all_goals subst_vars
  all_goals try first | rfl | contradiction | (apply Ob.mk;first | (simp only [ag,ak,aa.ae];omega) | ((try simp only [aa.ae]);(try dsimp only);omega))
  all_goals try first
   | exact ⟨hl⟩
   | exact ⟨hw⟩
   | exact ⟨show -9223372036854775808 <= ((af L p).length : Int) - 1 /\ ((af L p).length : Int) - 1 <= 9223372036854775807 by have:=fj L p;omega⟩
  refine ⟨Nat × List Sg,fun s => s.1 <= s.2.length /\ s.2.length <= 16 /\ (∀ g ∈ s.2,g ∈ (af L p)) /\ jQ n s.1 s.2 = tU n (af L p),fun s => ⟨aI 67 [1,2,7,8,9] [.a (vI p),.a (.p 4 [] 0 0),.a (.mp 5),.a (.sl 6 [] 0 s.2.length),.a (vI ((s.1 : Int) - 1))],[aI 234 [1,2,3,4,9,10,11,12] [.a (vI p),.a (.sl 1 [] 0 H.length),.a (.sl 2 [] 0 W.length),.a (.p 3 [] 0 0),.a (.v (.bool (o6 n P L p))),.a (vI (bf n P L p)),.a (vI (pb n P L p)),.a (vI (bf n P L p))]],[.arr 60 kW L false false,.arr 3 kI H false false,.arr 27 kT W false false,.box true [vI n,vI P,.sl 0 [] 0 L.length],.box true [vI n,vI P,.sl 0 [] 0 (L).length],.bH 111 kX 3 kI (ap L p) true true,.arr 64 kG s.2 false false]⟩,fun s => s.1,((af L p).length,(af L p)),[0,1,2,3,4,5,6],⟨Nat.le_refl _,fj _ _,fun g hg => hg,LC _ _⟩,?_,?_⟩
  ·repeat' ((conv => whnf);(first | apply And.intro | intro _))
   all_goals first | rfl | trivial | exact ah rfl | exact aS ‹_› rfl | exact aT ‹_› rfl | ((repeat' first | rfl | constructor);done) | assumption
  rintro ⟨i,l⟩ ⟨hi,Np,hls,hr⟩
  dsimp only at hi Np hls hr
  cases i with
  | succ i =>
    have p0 : decide ((((i + 1 : Nat) : Int) - 1) >= 0) = true:=decide_eq_true (by omega)
    have hx:=NY l i
    have aaj : (tb l i).length = l.length - 1:=by rw [hx,List.length_append,List.length_take,List.length_drop];omega
    have hxs : ∀ g ∈ tb l i,g ∈ l:=fun g hg => by
     rw [hx] at hg
     rcases List.mem_append.1 hg with hg | hg
     ·exact List.mem_of_mem_take hg
     ·exact List.mem_of_mem_drop hg
    have hfl : (tb l i).length <= 1000000:=by omega
    have hfg : ∀ g ∈ tb l i,0 <= g.1 /\ g.1 <= 7:=fun g hg => hgo g (hls g (hxs g hg))
    rw [JC,<- hx] at hr
    cases hb : eH n (tb l i) <;> rw [hb] at hr <;> dsimp only at hr
    ·repeat' ((conv => whnf);first | apply And.intro | (intro h9;try (have h8 : (_ : Bool) = _:=h9;clear h8;revert h9;subst_vars;intro h9;exact aq h9 (by assumption))))
     all_goals try (conv => whnf)
     all_goals try first | (apply Tk.mk <;> kernel_rfl) | exact ⟨ah rfl⟩ | exact ⟨rfl⟩ | exact ⟨trivial⟩
     all_goals subst_vars
     all_goals try first | rfl | contradiction | (apply Ob.mk;first | (simp only [ag,ak,aa.ae];omega) | ((try simp only [aa.ae]);(try dsimp only);omega))
     all_goals try first
      | exact ⟨show 0 + 0 + ((((i + 1 : Nat) : Int) - 1).toNat - 0) <= l.length by omega⟩
      | exact ⟨show 0 + (((i + 1 : Nat) : Int) - 1 + 1).toNat + (l.length - (((i + 1 : Nat) : Int) - 1 + 1).toNat) <= l.length by omega⟩
      | exact ⟨hfl⟩
      | exact ⟨hfg⟩
     refine ⟨(i,l),[0,1,2,3,4,5,6],⟨by show i <= l.length;omega,Np,hls,hr⟩,?_,by show i < i + 1;omega⟩
     repeat' ((conv => whnf);(first | apply And.intro | intro _))
     all_goals first | rfl | trivial | exact ah rfl | exact aS ‹_› rfl | exact aT ‹_› rfl | ((repeat' first | rfl | constructor);done) | exact idx i
    repeat' ((conv => whnf);first | apply And.intro | (intro h9;try (have h8 : (_ : Bool) = _:=h9;clear h8;revert h9;subst_vars;intro h9;exact aq h9 (by assumption))))
    all_goals try (conv => whnf)
    all_goals try first | (apply Tk.mk <;> kernel_rfl) | exact ⟨ah rfl⟩ | exact ⟨rfl⟩ | exact ⟨trivial⟩
    all_goals subst_vars
    all_goals try first | rfl | contradiction | (apply Ob.mk;first | (simp only [ag,ak,aa.ae];omega) | ((try simp only [aa.ae]);(try dsimp only);omega))
    all_goals try first
     | exact ⟨show 0 + 0 + ((((i + 1 : Nat) : Int) - 1).toNat - 0) <= l.length by omega⟩
     | exact ⟨show 0 + (((i + 1 : Nat) : Int) - 1 + 1).toNat + (l.length - (((i + 1 : Nat) : Int) - 1 + 1).toNat) <= l.length by omega⟩
     | exact ⟨hfl⟩
     | exact ⟨hfg⟩
    refine ⟨(i,tb l i),[0,1,2,3,4,5,8],⟨by show i <= (tb l i).length;omega,by show (tb l i).length <= 16;omega,fun g hg => hls g (hxs g hg),hr⟩,?_,by show i < i + 1;omega⟩
    repeat' ((conv => whnf);(first | apply And.intro | intro _))
    all_goals first | rfl | trivial | exact ah rfl | exact aS ‹_› rfl | exact aT ‹_› rfl | ((repeat' first | rfl | constructor);done) | exact idx i
  | zero =>
  rw [JD] at hr
  have p0 : decide ((((0 : Nat) : Int) - 1) >= 0) = false:=rfl
  have hz : jO n L p = l.map (Vr L p):=by rw [LD,<- hr]
  clear hr
  repeat' ((conv => whnf);first | apply And.intro | (intro h9;try (have h8 : (_ : Bool) = _:=h9;clear h8;revert h9;subst_vars;intro h9;exact aq h9 (by assumption))))
  all_goals try (conv => whnf)
  all_goals try first | (apply Tk.mk <;> kernel_rfl) | exact ⟨ah rfl⟩ | exact ⟨rfl⟩ | exact ⟨trivial⟩
  all_goals subst_vars
  all_goals try first | rfl | contradiction | (apply Ob.mk;first | (simp only [ag,ak,aa.ae];omega) | ((try simp only [aa.ae]);(try dsimp only);omega))
  refine ⟨Nat,fun i => i <= l.length,fun i => ⟨aI 67 [1,7,11,51,52,53] [.a (vI p),.a (.mp 5),.a (.sl 7 [] 0 ((l.take i).map (Vr L p)).length),.a (.sl 6 [] 0 l.length),.a (vI l.length),.a (vI i)],[aI 234 [1,2,3,4,9,10,11,12] [.a (vI p),.a (.sl 1 [] 0 H.length),.a (.sl 2 [] 0 W.length),.a (.p 3 [] 0 0),.a (.v (.bool (o6 n P L p))),.a (vI (bf n P L p)),.a (vI (pb n P L p)),.a (vI (bf n P L p))]],[.arr 60 kW L false false,.arr 3 kI H false false,.arr 27 kT W false false,.box true [vI n,vI P,.sl 0 [] 0 L.length],.box true [vI n,vI P,.sl 0 [] 0 (L).length],.bH 111 kX 3 kI (ap L p) false false,.arr 64 kG l false false,.arr 27 kT ((l.take i).map (Vr L p)) true false]⟩,fun i => l.length - i,0,[0,1,2,3,4,5,6,1000],Nat.zero_le _,?_,?_⟩
  ·repeat' ((conv => whnf);(first | apply And.intro | intro _))
   all_goals first | rfl | trivial | exact ah rfl | exact aS ‹_› rfl | exact aT ‹_› rfl | ((repeat' first | rfl | constructor);done) | assumption
  clear hi
  rintro i hi
  by_cases hi1 : i < l.length
  ·have p1 : decide ((i : Int) < (l.length : Int)) = true:=decide_eq_true (by omega)
   have PP:=Jn (L:=L) (p:=p) hi1
   have hml:=congrArg List.length PP
   rw [List.length_append,List.length_singleton] at hml
   have es:=rL l i
   have qQ : bI l i ∈ (af L p):=by rw [es];exact hls _ (aaq hi1)
   have oy : br kX ((p,(bI l i).1,(bI l i).2) : Sp) (ap L p) < (ap L p).length:=A4 ((kD (cW.1 hw) hP hp).2 ((eo (cW.1 hw) hP hp).1 qQ))
   have PU : ((ap L p).getD (br kX ((p,(bI l i).1,(bI l i).2) : Sp) (ap L p)) aG).2 = Vr L p (sg l i):=by
    rw [<- es]
    unfold Vr
    rw [<- A2 (p:=p) (g:=bI l i)]
    rfl
   have hel : List.drop 0 ((l.take i).map (Vr L p)) ++ List.take 1 (List.drop 0 [List.take ((ap L p).getD (br kX ((p,(bI l i).1,(bI l i).2) : Sp) (ap L p)) aG).2.length (List.drop 0 ((ap L p).getD (br kX ((p,(bI l i).1,(bI l i).2) : Sp) (ap L p)) aG).2)]) = (l.take (i + 1)).map (Vr L p):=by
    rw [PU,PP,List.drop_zero,List.drop_zero,List.drop_zero,List.take_length];rfl
   have Kp : ((l.take i).map (Vr L p)).length <= 16:=by rw [List.length_map,List.length_take];omega
   clear PU
   repeat' ((conv => whnf);first | apply And.intro | (intro h9;try (have h8 : (_ : Bool) = _:=h9;clear h8;revert h9;subst_vars;intro h9;exact aq h9 (by assumption))))
   all_goals try (conv => whnf)
   all_goals try first | (apply Tk.mk <;> kernel_rfl) | exact ⟨ah rfl⟩ | exact ⟨rfl⟩ | exact ⟨trivial⟩
   all_goals subst_vars
   all_goals try first | rfl | contradiction | (apply Ob.mk;first | (simp only [ag,ak,aa.ae];omega) | ((try simp only [aa.ae]);(try dsimp only);omega))
   all_goals try first
    | exact ⟨oy⟩
    | exact ⟨Nat.zero_add _⟩
    | exact ⟨show (((l.take i).map (Vr L p)).length + 1) * 1 <= 1099511627776 by omega⟩
    | exact ⟨show 0 + Int.toNat (i : Int) < l.length by omega⟩
   refine ⟨i + 1,[0,1,2,3,4,5,6,7],hi1,?_,by show l.length - (i + 1) < l.length - i;omega⟩
   repeat' ((conv => whnf);(first | apply And.intro | intro _))
   all_goals first | rfl | trivial | exact ah rfl | exact aS ‹_› rfl | exact aT ‹_› rfl | ((repeat' first | rfl | constructor);done) | exact hml.symm | exact ⟨rfl,rfl,hel⟩
  have p1 : decide ((i : Int) < (l.length : Int)) = false:=decide_eq_false (by omega)
  obtain rfl : i = l.length:=by omega
  have pU : (l.take l.length).map (Vr L p) = jO n L p:=by rw [List.take_length];exact hz.symm
  clear hz hi1
  have c1 : (jZ n P L p ((l.take l.length).map (Vr L p)) != 0) = false:=by
   rw [pU,Mu q1 (by omega) (H7 fun w hw => ⟨(v3 w hw).1,by have:=(v3 w hw).2;omega⟩),v1];rfl
  have DA : ((l.take l.length).map (Vr L p)).length <= 1000000:=by rw [pU];omega
  have DB : ∀ w ∈ ((l.take l.length).map (Vr L p)),w.length <= 1000000:=by rw [pU];intro w hw;have:=(v3 w hw).2;omega
  clear v1 v2 v3 pU
  repeat' ((conv => whnf);first | apply And.intro | (intro h9;try (have h8 : (_ : Bool) = _:=h9;clear h8;revert h9;subst_vars;intro h9;exact aq h9 (by assumption))))
  all_goals try (conv => whnf)
  all_goals try first | (apply Tk.mk <;> kernel_rfl) | exact ⟨ah rfl⟩ | exact ⟨rfl⟩ | exact ⟨trivial⟩
  all_goals subst_vars
  all_goals try first | rfl | contradiction | (apply Ob.mk;first | (simp only [ag,ak,aa.ae];omega) | ((try simp only [aa.ae]);(try dsimp only);omega))
  refine ⟨Unit,fun _ => True,fun _ => ⟨aI 234 [1,2,4,9] [.a (vI p),.a (.sl 1 [] 0 H.length),.a (.p 3 [] 0 0),.a (.v (.bool (o6 n P L p)))],[],[.arr 60 kW L false false,.arr 3 kI H false false,.arr 27 kT W false false,.box true [vI n,vI P,.sl 0 [] 0 L.length]]⟩,?_,key.h⟩
  obtain c2 | c2 : (jZ n P L p W == 0) = false \/ (jZ n P L p W == 0) = true:=by cases (jZ n P L p W == 0) <;> simp
  ·repeat' ((conv => whnf);first | apply And.intro | (intro h9;try (have h8 : (_ : Bool) = _:=h9;clear h8;revert h9;subst_vars;intro h9;exact aq h9 (by assumption))))
   all_goals try (conv => whnf)
   all_goals try first | (apply Tk.mk <;> kernel_rfl) | exact ⟨ah rfl⟩ | exact ⟨rfl⟩ | exact ⟨trivial⟩
   all_goals subst_vars
   all_goals try first | rfl | contradiction | (apply Ob.mk;first | (simp only [ag,ak,aa.ae];omega) | ((try simp only [aa.ae]);(try dsimp only);omega))
   all_goals try first
    | exact ⟨DA⟩
    | exact ⟨DB⟩
    | exact ⟨hl⟩
    | exact ⟨VD⟩
    | exact ⟨show W.length <= 1000000 by omega⟩
   refine ⟨(),[],trivial,?_⟩
   repeat' ((conv => whnf);(first | apply And.intro | intro _))
   all_goals first | rfl | trivial | exact ah rfl | exact aS ‹_› rfl | exact aT ‹_› rfl | ((repeat' first | rfl | constructor);done)
  repeat' ((conv => whnf);first | apply And.intro | (intro h9;try (have h8 : (_ : Bool) = _:=h9;clear h8;revert h9;subst_vars;intro h9;exact aq h9 (by assumption))))
  all_goals try (conv => whnf)
  all_goals try first | (apply Tk.mk <;> kernel_rfl) | exact ⟨ah rfl⟩ | exact ⟨rfl⟩ | exact ⟨trivial⟩
  all_goals subst_vars
  all_goals try first | rfl | contradiction | (apply Ob.mk;first | (simp only [ag,ak,aa.ae];omega) | ((try simp only [aa.ae]);(try dsimp only);omega))
  all_goals try first
   | exact ⟨DA⟩
   | exact ⟨DB⟩
   | exact ⟨hl⟩
   | exact ⟨VD⟩
   | exact ⟨show W.length <= 1000000 by omega⟩
  refine ⟨(),[],trivial,?_⟩
  repeat' ((conv => whnf);(first | apply And.intro | intro _))
  all_goals first | rfl | trivial | exact ah rfl | exact aS ‹_› rfl | exact aT ‹_› rfl | ((repeat' first | rfl | constructor);done)
 case b =>
  rintro ⟨⟩ -
  have j4 : 1 <= n * n /\ n * n <= 36:=sJ hn
  have VF : (aJ n (af L p)).length = (n * n).toNat:=by unfold aJ;exact c7
  have VG : (aU n (af L p)).length = (n * n).toNat:=by unfold aU;exact c7
  repeat' ((conv => whnf);first | apply And.intro | (intro h9;try (have h8 : (_ : Bool) = _:=h9;clear h8;revert h9;subst_vars;intro h9;exact aq h9 (by assumption))))
  all_goals try (conv => whnf)
  all_goals try first | (apply Tk.mk <;> kernel_rfl) | exact ⟨ah rfl⟩ | exact ⟨rfl⟩ | exact ⟨trivial⟩
  all_goals subst_vars
  all_goals try first | rfl | contradiction | (apply Ob.mk;first | (simp only [ag,ak,aa.ae];omega) | ((try simp only [aa.ae]);(try dsimp only);omega))
  all_goals try first
   | exact ⟨hl⟩
  refine ⟨Nat,fun x => x <= (n * n).toNat,fun x => ⟨aI 234 [1,2,4,9,15,16,18,19] [.a (vI p),.a (.sl 1 [] 0 H.length),.a (.p 3 [] 0 0),.a (.v (.bool (o6 n P L p))),.a (.sl 4 [] 0 (n * n).toNat),.a (.sl 5 [] 0 (n * n).toNat),.a (vI (eR (aJ n (af L p)) (aU n (af L p)) x).length),.a (vI x)],[],[.arr 60 kW L false false,.arr 3 kI H false false,.arr 27 kT W false false,.box true [vI n,vI P,.sl 0 [] 0 L.length],.arr 3 kI (aJ n (af L p)) true true,.arr 3 kI (aU n (af L p)) true true]⟩,fun x => (n * n).toNat - x,0,[],Nat.zero_le _,?_,?_⟩
  ·repeat' ((conv => whnf);(first | apply And.intro | intro _))
   all_goals first | rfl | trivial | exact ah rfl | exact aS ‹_› rfl | exact aT ‹_› rfl | ((repeat' first | rfl | constructor);done) | (unfold eR;rfl)
  rintro x hx
  by_cases cO : x < (n * n).toNat
  ·have p0 : decide ((x : Int) < (((n * n).toNat : Nat) : Int)) = true:=decide_eq_true (by omega)
   have hel:=r9 (aJ n (af L p)) (aU n (af L p)) x
   have AI:=WL (A:=aJ n (af L p)) (S:=aU n (af L p)) x
   have ea:=dP (aJ n (af L p)) x
   have eb:=dP (aU n (af L p)) x
   obtain a1 | a1 : (av (aJ n (af L p)) x == (x : Int)) = false \/ (av (aJ n (af L p)) x == (x : Int)) = true:=by cases (av (aJ n (af L p)) x == (x : Int)) <;> simp
   ·have ev : (eR (aJ n (af L p)) (aU n (af L p)) x).length = (eR (aJ n (af L p)) (aU n (af L p)) (x + 1)).length:=by rw [AI];unfold uQ;rw [<- ea,a1];rfl
    have XI : (((eR (aJ n (af L p)) (aU n (af L p)) x).length : Nat) : Int) = (((eR (aJ n (af L p)) (aU n (af L p)) (x + 1)).length : Nat) : Int):=by rw [ev]
    repeat' ((conv => whnf);first | apply And.intro | (intro h9;try (have h8 : (_ : Bool) = _:=h9;clear h8;revert h9;subst_vars;intro h9;exact aq h9 (by assumption))))
    all_goals try (conv => whnf)
    all_goals try first | (apply Tk.mk <;> kernel_rfl) | exact ⟨ah rfl⟩ | exact ⟨rfl⟩ | exact ⟨trivial⟩
    all_goals subst_vars
    all_goals try first | rfl | contradiction | (apply Ob.mk;first | (simp only [ag,ak,aa.ae];omega) | ((try simp only [aa.ae]);(try dsimp only);omega))
    all_goals try first
     | exact ⟨show 0 + Int.toNat (x : Int) < (aJ n (af L p)).length by omega⟩
    refine ⟨x + 1,[],cO,?_,by show (n * n).toNat - (x + 1) < (n * n).toNat - x;omega⟩
    repeat' ((conv => whnf);(first | apply And.intro | intro _))
    all_goals first | rfl | trivial | exact ah rfl | exact aS ‹_› rfl | exact aT ‹_› rfl | ((repeat' first | rfl | constructor);done) | exact XI
   obtain b1 | b1 : (av (aU n (af L p)) x != 0) = false \/ (av (aU n (af L p)) x != 0) = true:=by cases (av (aU n (af L p)) x != 0) <;> simp
   ·have ev : (eR (aJ n (af L p)) (aU n (af L p)) x).length = (eR (aJ n (af L p)) (aU n (af L p)) (x + 1)).length:=by rw [AI];unfold uQ;rw [<- ea,<- eb,a1];unfold bne at b1;rw [b1];rfl
    have XI : (((eR (aJ n (af L p)) (aU n (af L p)) x).length : Nat) : Int) = (((eR (aJ n (af L p)) (aU n (af L p)) (x + 1)).length : Nat) : Int):=by rw [ev]
    repeat' ((conv => whnf);first | apply And.intro | (intro h9;try (have h8 : (_ : Bool) = _:=h9;clear h8;revert h9;subst_vars;intro h9;exact aq h9 (by assumption))))
    all_goals try (conv => whnf)
    all_goals try first | (apply Tk.mk <;> kernel_rfl) | exact ⟨ah rfl⟩ | exact ⟨rfl⟩ | exact ⟨trivial⟩
    all_goals subst_vars
    all_goals try first | rfl | contradiction | (apply Ob.mk;first | (simp only [ag,ak,aa.ae];omega) | ((try simp only [aa.ae]);(try dsimp only);omega))
    all_goals try first
     | exact ⟨show 0 + Int.toNat (x : Int) < (aJ n (af L p)).length by omega⟩
     | exact ⟨show 0 + Int.toNat (x : Int) < (aU n (af L p)).length by omega⟩
    refine ⟨x + 1,[],cO,?_,by show (n * n).toNat - (x + 1) < (n * n).toNat - x;omega⟩
    repeat' ((conv => whnf);(first | apply And.intro | intro _))
    all_goals first | rfl | trivial | exact ah rfl | exact aS ‹_› rfl | exact aT ‹_› rfl | ((repeat' first | rfl | constructor);done) | exact XI
   have ev : (eR (aJ n (af L p)) (aU n (af L p)) x).length + 1 = (eR (aJ n (af L p)) (aU n (af L p)) (x + 1)).length:=by rw [AI];unfold uQ;rw [<- ea,<- eb,a1];unfold bne at b1;rw [b1];rfl
   have XI : (((eR (aJ n (af L p)) (aU n (af L p)) x).length : Nat) : Int) + 1 = (((eR (aJ n (af L p)) (aU n (af L p)) (x + 1)).length : Nat) : Int):=by omega
   repeat' ((conv => whnf);first | apply And.intro | (intro h9;try (have h8 : (_ : Bool) = _:=h9;clear h8;revert h9;subst_vars;intro h9;exact aq h9 (by assumption))))
   all_goals try (conv => whnf)
   all_goals try first | (apply Tk.mk <;> kernel_rfl) | exact ⟨ah rfl⟩ | exact ⟨rfl⟩ | exact ⟨trivial⟩
   all_goals subst_vars
   all_goals try first | rfl | contradiction | (apply Ob.mk;first | (simp only [ag,ak,aa.ae];omega) | ((try simp only [aa.ae]);(try dsimp only);omega))
   all_goals try first
    | exact ⟨show 0 + Int.toNat (x : Int) < (aJ n (af L p)).length by omega⟩
    | exact ⟨show 0 + Int.toNat (x : Int) < (aU n (af L p)).length by omega⟩
   refine ⟨x + 1,[],cO,?_,by show (n * n).toNat - (x + 1) < (n * n).toNat - x;omega⟩
   repeat' ((conv => whnf);(first | apply And.intro | intro _))
   all_goals first | rfl | trivial | exact ah rfl | exact aS ‹_› rfl | exact aT ‹_› rfl | ((repeat' first | rfl | constructor);done) | exact XI
  have p0 : decide ((x : Int) < (((n * n).toNat : Nat) : Int)) = false:=decide_eq_false (by omega)
  obtain rfl : x = (n * n).toNat:=by omega
  clear hx cO
  have hE : (eR (aJ n (af L p)) (aU n (af L p)) (n * n).toNat).length = (aB n L p).length:=by unfold aB;rw [VF]
  have ZF:=r9 (aJ n (af L p)) (aU n (af L p)) (n * n).toNat
  repeat' ((conv => whnf);first | apply And.intro | (intro h9;try (have h8 : (_ : Bool) = _:=h9;clear h8;revert h9;subst_vars;intro h9;exact aq h9 (by assumption))))
  all_goals try (conv => whnf)
  all_goals try first | (apply Tk.mk <;> kernel_rfl) | exact ⟨ah rfl⟩ | exact ⟨rfl⟩ | exact ⟨trivial⟩
  all_goals subst_vars
  all_goals try first | rfl | contradiction | (apply Ob.mk;first | (simp only [ag,ak,aa.ae];omega) | ((try simp only [aa.ae]);(try dsimp only);omega))
  all_goals try first
   | exact ⟨show (((eR (aJ n (af L p)) (aU n (af L p)) (n * n).toNat).length : Nat) : Int) * ((1 : Nat) : Int) <= 16777216 by omega⟩
  refine ⟨Unit,fun _ => True,fun _ => ⟨aI 234 [1,2,4,9,15,16,20] [.a (vI p),.a (.sl 1 [] 0 H.length),.a (.p 3 [] 0 0),.a (.v (.bool (o6 n P L p))),.a (.sl 4 [] 0 (n * n).toNat),.a (.sl 5 [] 0 (n * n).toNat),.a (.sl 6 [] 0 (aB n L p).length)],[],[.arr 60 kW L false false,.arr 3 kI H false false,.arr 27 kT W false false,.box true [vI n,vI P,.sl 0 [] 0 L.length],.arr 3 kI (aJ n (af L p)) true true,.arr 3 kI (aU n (af L p)) true true,.arr 3 kI (yM (aB n L p).length) true true]⟩,?_,?_⟩
  ·obtain g1 | g1 : decide ((((eR (aJ n (af L p)) (aU n (af L p)) (n * n).toNat).length : Nat) : Int) > 0) = false \/ decide ((((eR (aJ n (af L p)) (aU n (af L p)) (n * n).toNat).length : Nat) : Int) > 0) = true:=by cases decide ((((eR (aJ n (af L p)) (aU n (af L p)) (n * n).toNat).length : Nat) : Int) > 0) <;> simp
   ·have g2:=of_decide_eq_false g1
    have e0 : List.replicate (Int.toNat (((eR (aJ n (af L p)) (aU n (af L p)) (n * n).toNat).length : Nat) : Int)) (0 : Int) = yM (aB n L p).length:=by
     rw [Int.toNat_natCast,hE,show (aB n L p).length = 0 by omega];unfold yM;rfl
    repeat' ((conv => whnf);first | apply And.intro | (intro h9;try (have h8 : (_ : Bool) = _:=h9;clear h8;revert h9;subst_vars;intro h9;exact aq h9 (by assumption))))
    all_goals try (conv => whnf)
    all_goals try first | (apply Tk.mk <;> kernel_rfl) | exact ⟨ah rfl⟩ | exact ⟨rfl⟩ | exact ⟨trivial⟩
    all_goals subst_vars
    all_goals try first | rfl | contradiction | (apply Ob.mk;first | (simp only [ag,ak,aa.ae];omega) | ((try simp only [aa.ae]);(try dsimp only);omega))
    refine ⟨(),[],trivial,?_⟩
    repeat' ((conv => whnf);(first | apply And.intro | intro _))
    all_goals first | rfl | trivial | exact ah rfl | exact aS ‹_› rfl | exact aT ‹_› rfl | ((repeat' first | rfl | constructor);done) | exact hE | exact ⟨rfl,rfl,e0⟩
   have g2:=of_decide_eq_true g1
   have e0 : (List.replicate (Int.toNat (((eR (aJ n (af L p)) (aU n (af L p)) (n * n).toNat).length : Nat) : Int)) (0 : Int)).set (0 + Int.toNat (0 : Int)) 1 = yM (aB n L p).length:=by
    rw [Int.toNat_natCast,hE];unfold yM;rfl
   repeat' ((conv => whnf);first | apply And.intro | (intro h9;try (have h8 : (_ : Bool) = _:=h9;clear h8;revert h9;subst_vars;intro h9;exact aq h9 (by assumption))))
   all_goals try (conv => whnf)
   all_goals try first | (apply Tk.mk <;> kernel_rfl) | exact ⟨ah rfl⟩ | exact ⟨rfl⟩ | exact ⟨trivial⟩
   all_goals subst_vars
   all_goals try first | rfl | contradiction | (apply Ob.mk;first | (simp only [ag,ak,aa.ae];omega) | ((try simp only [aa.ae]);(try dsimp only);omega))
   all_goals try first
    | exact ⟨show 0 + Int.toNat (0 : Int) < (List.replicate (Int.toNat (((eR (aJ n (af L p)) (aU n (af L p)) (n * n).toNat).length : Nat) : Int)) (0 : Int)).length by simp;omega⟩
   refine ⟨(),[],trivial,?_⟩
   repeat' ((conv => whnf);(first | apply And.intro | intro _))
   all_goals first | rfl | trivial | exact ah rfl | exact aS ‹_› rfl | exact aT ‹_› rfl | ((repeat' first | rfl | constructor);done) | exact hE | exact ⟨rfl,rfl,e0⟩
  clear p0 hE ZF
  rintro ⟨⟩ -
  have u1 : AP n L p (yM (aB n L p).length) = true:=by
   unfold AP;rw [WN,WM];simp
  have u2 : (aB n L p).length <= 36:=by
   rw [Wo hG hn]
   have:=S9 (TO (wH n (af L p) (n * n).toNat)) (m:=(List.range (n * n).toNat).map (fun k : Nat => (k : Int))) (fun v hv => by
    obtain ⟨k,hk,rfl⟩:=(ic hn).1 ((ot hn).1 hv).1
    exact List.mem_map.2 ⟨k,List.mem_range.2 hk,rfl⟩)
   rw [List.length_map,List.length_range] at this;omega
  have u3:=WN (k:=(aB n L p).length)
  have u4 : decide (p >= ((P.toNat : Nat) : Int)) = false:=decide_eq_false (by omega)
  have Zr : ∀ v,-1099511627776 <= hF (aB n L p) (yM (aB n L p).length) v /\ hF (aB n L p) (yM (aB n L p).length) v <= 1099511627776:=Yu (by omega) (XN (WM _))
  have Y4:=Xf (n:=n) (P:=P) (L:=L) (p:=p) hc hp Zr
  have rl : (bh (eI n P L p (hF (aB n L p) (yM (aB n L p).length))) p).length = (n * n).toNat:=by rw [WW (by omega)];simp
  have u5 : ((((bh (eI n P L p (hF (aB n L p) (yM (aB n L p).length))) p).length : Nat) : Int) != (((n * n).toNat : Nat) : Int)) = false:=VI (by rw [rl])
  have u6 : (eI n P L p (hF (aB n L p) (yM (aB n L p).length))).length = P.toNat:=Wc
  have u7 : ((Vu n P L (eI n P L p (hF (aB n L p) (yM (aB n L p).length)))).2 != 0) = false:=VI (by rw [Y4])
  have u8 : (!(Vu n P L (eI n P L p (hF (aB n L p) (yM (aB n L p).length)))).1) = false:=by rw [Y4];rfl
  have u9 : (!(VS (eI n P L p (hF (aB n L p) (yM (aB n L p).length))) p (n * n).toNat == o6 n P L p)) = false:=Wp (by rw [YI hc hp,hfl])
  have xw : ∀ w ∈ (eI n P L p (hF (aB n L p) (yM (aB n L p).length))),w.length <= 1000000:=fun w hw => by
   obtain ⟨q,_,rfl⟩:=List.mem_map.1 (show w ∈ (List.range P.toNat).map _ from (by unfold eI at hw;exact hw))
   rw [List.length_map,List.length_range];omega
  clear Zr Y4
  repeat' ((conv => whnf);first | apply And.intro | (intro h9;try (have h8 : (_ : Bool) = _:=h9;clear h8;revert h9;subst_vars;intro h9;exact aq h9 (by assumption))))
  all_goals try (conv => whnf)
  all_goals try first | (apply Tk.mk <;> kernel_rfl) | exact ⟨ah rfl⟩ | exact ⟨rfl⟩ | exact ⟨trivial⟩
  all_goals subst_vars
  all_goals try first | rfl | contradiction | (apply Ob.mk;first | (simp only [ag,ak,aa.ae];omega) | ((try simp only [aa.ae]);(try dsimp only);omega))
  all_goals try first
   | exact ⟨u3.symm⟩
   | exact ⟨show (yM (aB n L p).length).length <= 1000000 by omega⟩
   | exact ⟨u6.symm⟩
   | exact ⟨show (eI n P L p (hF (aB n L p) (yM (aB n L p).length))).length <= 1000000 by omega⟩
   | exact ⟨xw⟩
   | exact ⟨show 0 + Int.toNat p < (eI n P L p (hF (aB n L p) (yM (aB n L p).length))).length by omega⟩
   | exact ⟨hl⟩
  refine ⟨Nat,fun x => x <= (n * n).toNat,fun x => ⟨aI 234 [1,2,4,9,15,21,23,24,25,26] [.a (vI p),.a (.sl 1 [] 0 H.length),.a (.p 3 [] 0 0),.a (.v (.bool (o6 n P L p))),.a (.sl 4 [] 0 (n * n).toNat),.a (.sl 7 [] 0 P.toNat),.a (.v (.bool (Vu n P L (eI n P L p (hF (aB n L p) (yM (aB n L p).length)))).1)),.a (vI (Vu n P L (eI n P L p (hF (aB n L p) (yM (aB n L p).length)))).2),.a (.v (.bool (VS (eI n P L p (hF (aB n L p) (yM (aB n L p).length))) p x))),.a (vI x)],[],[.arr 60 kW L false false,.arr 3 kI H false false,.arr 27 kT W false false,.box true [vI n,vI P,.sl 0 [] 0 L.length],.arr 3 kI (aJ n (af L p)) true true,.arr 3 kI (aU n (af L p)) true true,.arr 3 kI (yM (aB n L p).length) true true,.arr 27 kT (eI n P L p (hF (aB n L p) (yM (aB n L p).length))) true true]⟩,fun x => (n * n).toNat - x,0,[],Nat.zero_le _,?_,?_⟩
  ·repeat' ((conv => whnf);(first | apply And.intro | intro _))
   all_goals first | rfl | trivial | exact ah rfl | exact aS ‹_› rfl | exact aT ‹_› rfl | ((repeat' first | rfl | constructor);done) | (unfold VS;rfl)
  rintro x hx
  by_cases cO : x < (n * n).toNat
  ·have p0 : decide ((x : Int) < (((n * n).toNat : Nat) : Int)) = true:=decide_eq_true (by omega)
   have el : VS (eI n P L p (hF (aB n L p) (yM (aB n L p).length))) p x = true -> (KC (eI n P L p (hF (aB n L p) (yM (aB n L p).length))) p x == KC (eI n P L p (hF (aB n L p) (yM (aB n L p).length))) p 0) = VS (eI n P L p (hF (aB n L p) (yM (aB n L p).length))) p (x + 1):=fun h => by rw [Wa,h,VT,VT]
   have ef : VS (eI n P L p (hF (aB n L p) (yM (aB n L p).length))) p x = false -> false = VS (eI n P L p (hF (aB n L p) (yM (aB n L p).length))) p (x + 1):=fun h => by rw [Wa,h]
   repeat' ((conv => whnf);first | apply And.intro | (intro h9;try (have h8 : (_ : Bool) = _:=h9;clear h8;revert h9;subst_vars;intro h9;exact aq h9 (by assumption))))
   all_goals try (conv => whnf)
   all_goals try first | (apply Tk.mk <;> kernel_rfl) | exact ⟨ah rfl⟩ | exact ⟨rfl⟩ | exact ⟨trivial⟩
   all_goals subst_vars
   all_goals try first | rfl | contradiction | (apply Ob.mk;first | (simp only [ag,ak,aa.ae];omega) | ((try simp only [aa.ae]);(try dsimp only);omega))
   all_goals try first
    | exact ⟨show 0 + Int.toNat p < (eI n P L p (hF (aB n L p) (yM (aB n L p).length))).length by omega⟩
    | exact ⟨show 0 <= (x : Int) /\ (x : Int) < ((bh (eI n P L p (hF (aB n L p) (yM (aB n L p).length))) p).length : Int) by omega⟩
    | exact ⟨show 0 + Int.toNat (x : Int) < (bh (eI n P L p (hF (aB n L p) (yM (aB n L p).length))) p).length by omega⟩
    | exact ⟨show 0 <= (0 : Int) /\ (0 : Int) < ((bh (eI n P L p (hF (aB n L p) (yM (aB n L p).length))) p).length : Int) by omega⟩
    | exact ⟨show 0 + Int.toNat (0 : Int) < (bh (eI n P L p (hF (aB n L p) (yM (aB n L p).length))) p).length by omega⟩
   all_goals
    refine ⟨x + 1,[],cO,?_,by show (n * n).toNat - (x + 1) < (n * n).toNat - x;omega⟩
    repeat' ((conv => whnf);(first | apply And.intro | intro _))
    all_goals first | rfl | trivial | exact ah rfl | exact aS ‹_› rfl | exact aT ‹_› rfl | ((repeat' first | rfl | constructor);done) | exact el (by assumption) | exact ef (by assumption) | exact (ef (by assumption)).symm
  have p0 : decide ((x : Int) < (((n * n).toNat : Nat) : Int)) = false:=decide_eq_false (by omega)
  obtain rfl : x = (n * n).toNat:=by omega
  obtain k1 | k1 : AP n L p H = false \/ AP n L p H = true:=by cases AP n L p H <;> simp
  ·repeat' ((conv => whnf);first | apply And.intro | (intro h9;try (have h8 : (_ : Bool) = _:=h9;clear h8;revert h9;subst_vars;intro h9;exact aq h9 (by assumption))))
   all_goals try (conv => whnf)
   all_goals try first | (apply Tk.mk <;> kernel_rfl) | exact ⟨ah rfl⟩ | exact ⟨rfl⟩ | exact ⟨trivial⟩
   all_goals subst_vars
   all_goals try first | rfl | contradiction | (apply Ob.mk;first | (simp only [ag,ak,aa.ae];omega) | ((try simp only [aa.ae]);(try dsimp only);omega))
   all_goals first
    | exact ⟨hl⟩
    | exact ⟨show H.length <= 1000000 by omega⟩
  have Zs : ∀ v,-1099511627776 <= hF (aB n L p) H v /\ hF (aB n L p) H v <= 1099511627776:=Yu (by omega) (XN (by unfold AP at k1;simp only [Bool.and_eq_true] at k1;exact k1.2))
  have Y5:=Xf (n:=n) (P:=P) (L:=L) (p:=p) hc hp Zs
  have k6 : (eI n P L p (hF (aB n L p) H)).length = P.toNat:=Wc
  have k7 : ((Vu n P L (eI n P L p (hF (aB n L p) H))).2 == 0) = true:=by rw [Y5];rfl
  have k8 : (Vu n P L (eI n P L p (hF (aB n L p) H))).1 = true:=by rw [Y5]
  have VE : ∀ w ∈ (eI n P L p (hF (aB n L p) H)),w.length <= 1000000:=fun w hw => by
   obtain ⟨q,_,rfl⟩:=List.mem_map.1 (show w ∈ (List.range P.toNat).map _ from (by unfold eI at hw;exact hw))
   rw [List.length_map,List.length_range];omega
  clear Zs Y5
  repeat' ((conv => whnf);first | apply And.intro | (intro h9;try (have h8 : (_ : Bool) = _:=h9;clear h8;revert h9;subst_vars;intro h9;exact aq h9 (by assumption))))
  all_goals try (conv => whnf)
  all_goals try first | (apply Tk.mk <;> kernel_rfl) | exact ⟨ah rfl⟩ | exact ⟨rfl⟩ | exact ⟨trivial⟩
  all_goals subst_vars
  all_goals try first | rfl | contradiction | (apply Ob.mk;first | (simp only [ag,ak,aa.ae];omega) | ((try simp only [aa.ae]);(try dsimp only);omega))
  all_goals first
   | trivial
   | exact ⟨k6.symm⟩
   | exact ⟨show (eI n P L p (hF (aB n L p) H)).length <= 1000000 by omega⟩
   | exact ⟨VE⟩
   | exact ⟨hl⟩
   | exact ⟨show H.length <= 1000000 by omega⟩)
end Go.Proofs.YthejmgnkenokpaaDoor
end
