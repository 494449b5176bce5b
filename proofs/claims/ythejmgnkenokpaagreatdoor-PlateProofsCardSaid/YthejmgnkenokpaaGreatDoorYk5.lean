/-
  Texts of the claims on chapter 3: Yk5. No condition: lemmas and contracts.
-/
import Derived.Test.YthejmgnkenokpaaGreatDoorYk3
import Derived.Test.YthejmgnkenokpaaGreatDoorYk1
import Derived.Test.YthejmgnkenokpaaGreatDoorQ23
import Derived.Test.YthejmgnkenokpaaGreatDoorPl1
import Derived.Test.YthejmgnkenokpaaGreatDoorYk4
import Derived.Test.YthejmgnkenokpaaGreatDoorYk2
set_option linter.all false
set_option maxRecDepth 100000
set_option maxHeartbeats 4000000
section
namespace Go.Proofs.YthejmgnkenokpaaGreatDoor
open Go Go.Sy Go.bK
variable {Γ : bn}
def afa (D : Int -> List Sg -> Int -> List aa) (R : Int -> List Sg -> Int -> cM) : au:=.new fun args rg K => match args with
 | [.a (.v (.int .i64 n0)),.a x0,.a (.v (.int .i64 n1))] => (match ac1 48 kG rg x0 with | some (q0,L0) => bk false (q0 ++ (D n0 L0 n1)) (K (R n0 L0 n1)) | _ => False)
 | _ => False
theorem aeW {f : FuncId} {b : Body} {E : Env} {d : Nat} (hP : aL Tryz.prog Γ E) (hb : bQ Tryz.prog f b) {D : Int -> List Sg -> Int -> List aa} {R : Int -> List Sg -> Int -> cM}
  (H : ∀ (n0 : Int) (L0 : List Sg) (n1 : Int) (K : cM -> Prop),bW (D n0 L0 n1) -> K (R n0 L0 n1) -> cQ E d b [.a (vI n0),.a (.sl 0 [] 0 L0.length),.a (vI n1)] [.arr 48 kG L0 false false] (bu K)) : au.Ok Tryz.prog Γ f (afa D R):=au.fM (d:=d) hP hb (by
 intro args rg K hF
 split at hF
 next n0 x0 n1 =>
  split at hF
  next q0 L0 hx0 =>
   rw [aV,aH] at hF
   obtain ⟨⟨dm,hD⟩,hK⟩:=hF
   obtain ⟨e0,Vn⟩:=bP (by simp [kG]) hx0 dm
   obtain ⟨p0,r0⟩:=Vn [e0] 0 1 rfl (by omega)
   refine ⟨[e0],[.a (vI n0),.a (.sl 0 [] 0 L0.length),.a (vI n1)],[.arr 48 kG L0 false false],⟨⟨rfl,p0,rfl,trivial⟩,fun r g hg => ?_⟩,bu K,H _ _ _ K hD hK,fun x st h => h⟩
   match r,hg with
   | 0,hg => obtain rfl:=Option.some.inj hg;exact r0
  next => exact hF.elim
 next => exact hF.elim)
theorem adh (l : List Bool) (i : Int) : J0 l i = gb l i:=by unfold J0 gb Ar.get;rw [Nat.zero_add];rfl
noncomputable def ad2 : au:=afa (fun n G f => [(aa.of (1 <= n /\ n <= 6)),(aa.of (G.length <= 1000000)),(aa.of (∀ g ∈ G,0 <= g.1 /\ g.1 <= 7)),(aa.of (0 <= f /\ f < n * n))]) (fun n G f => ⟨[.arr 4 kB (ac9 n G f false) true true,.arr 4 kB (ac9 n G f true) true true],.bF [.a (.sl 0 [] 0 (n * n).toNat),.a (.sl 1 [] 0 (n * n).toNat)]⟩)
def adt (n : Int) (G : List Sg) (E D : List Bool) (i : Nat) : Prop:=∀ j,j < i -> ∀ v,aM n v -> ad4 E D v (aX n (sg G j).1 v) (sg G j).2
def ad3 (n : Int) (G : List Sg) (E D : List Bool) (i x : Nat) : Prop:=∀ y : Nat,y < x -> ad4 E D (y : Int) (aX n (sg G i).1 (y : Int)) (sg G i).2
def adr (E0 D0 E D : List Bool) (more : Bool) (p : List Bool -> List Bool -> Prop) : Prop:=nf E + nf D <= nf E0 + nf D0 /\ (more = true -> nf E + nf D < nf E0 + nf D0) /\ (more = false -> E = E0 /\ D = D0 /\ p E D)
theorem ae5 {n : Int} {m more : Bool} {E0 D0 E D : List Bool} {x y : Int} {p q : List Bool -> List Bool -> Prop} (h : adr E0 D0 E D more p) (le : E.length = (n * n).toNat) (ld : D.length = (n * n).toNat) (hx : aM n x) (hy : aM n y) (hpq : p E D -> ad4 E D x y m -> q E D) :
  adr E0 D0 (ac8 m E D x y) (ac7 m E D x y) (more || adf m E D x y) q:=by
 obtain ⟨h1,h2,h3⟩:=h
 obtain ⟨a1,a2⟩:=afU (m:=m) le ld hx hy
 refine ⟨by omega,fun hb => ?_,fun hb => ?_⟩
 ·rcases (Bool.or_eq_true _ _).mp hb with hb | hb
  ·have:=h2 hb;omega
  ·have:=a2 hb;omega
 ·rw [Bool.or_eq_false_iff] at hb
  obtain ⟨e1,e2,hp⟩:=h3 hb.1
  obtain ⟨e3,e4,hc⟩:=afL le ld hx hy hb.2
  rw [e3,e4]
  exact ⟨e1,e2,hpq hp hc⟩
theorem aeI {l : List Bool} {k i : Nat} {v : Bool} (h : k < l.length) : k < (l.set i v).length:=by rw [List.length_set];exact h
theorem ae2 {n : Int} {G : List Sg} {f : Int} (hf : aM n f) : JI n G f ((List.replicate (n * n).toNat false).set (0 + Int.toNat f) true) (List.replicate (n * n).toNat false):=by
 have hl:=adb hf (N:=(List.replicate (n * n).toNat false).length) (by simp)
 have hr : ∀ v : Int,gb (List.replicate (n * n).toNat false) v = false:=fun v => by
  unfold gb;rw [List.getD_eq_getElem?_getD,List.getElem?_replicate];split <;> rfl
 refine ⟨by simp,by simp,?_,fun v hv b hb => ?_⟩
 ·show gb _ f = true
  rw [Nat.zero_add,adY hf.1 hf.1 hl,if_pos rfl]
 ·rw [Nat.zero_add] at hb
  cases b
  ·have hb : gb _ v = true:=hb
   rw [adY hf.1 hv.1 hl] at hb
   split at hb
   ·rename_i e;rw [e];exact .refl
   ·rw [hr] at hb;cases hb
  ·have hb : gb _ v = true:=hb
   rw [hr] at hb;cases hb
noncomputable def aem : List (Nat × au):=[(63,nQ)]
theorem aeq : aR Tryz.prog Γ aem:=(aR.nil.cons (aj Tryz.func63 rfl rfl).fn Z2)
noncomputable def aeR : Env:={ jV.env aem [] false 0 with cut:=fun t => Nat.beq t 69 }
theorem aei : aL Tryz.prog Γ aeR:=(aP aeq bq.nil false 0).wy _
attribute [local irreducible] ac9 ac8 ac7 adf aX nf adr adt ad3
theorem aeh : au.Ok Tryz.prog Γ 97 ad2:=aeW (d:=0) aei (aj Tryz.func97 rfl rfl) (by
 intro n G f K ⟨hn,hG,hgo,hf,_⟩ hK
 simp only [aa.ae] at hn hG hgo hf
 have j4 : 1 <= n * n /\ n * n <= 36:=sJ hn
 have hst:=ae2 (G:=G) (show aM n f from hf)
 have jl : (n * n).toNat = (List.replicate (n * n).toNat false).length:=List.length_replicate.symm
 repeat' ((conv => whnf);first | apply And.intro | (intro h9;try (have h8 : (_ : Bool) = _:=h9;clear h8;revert h9;subst_vars;intro h9;exact aq h9 (by assumption))))
 all_goals try (conv => whnf)
 all_goals try first | (apply Tk.mk <;> kernel_rfl) | exact ⟨ah rfl⟩ | exact ⟨rfl⟩ | exact ⟨trivial⟩
 all_goals subst_vars
 all_goals try first | rfl | contradiction | (apply Ob.mk;first | (simp only [ag,ak,aa.ae];omega) | ((try simp only [aa.ae]);(try dsimp only);omega))
 all_goals try first
  | exact ⟨show n * n * ((1 : Nat) : Int) <= 16777216 by omega⟩
  | exact ⟨show 0 + Int.toNat f < (List.replicate (n * n).toNat false).length by simp only [List.length_replicate];omega⟩
 refine ⟨List Bool × List Bool × Bool,fun s => JI n G f s.1 s.2.1 /\ (s.2.2 = false -> adt n G s.1 s.2.1 G.length),fun s => ⟨aI 161 [0,1,8,9,10,11] [.a (vI n),.a (.sl 0 [] 0 G.length),.a (vI (n * n)),.a (.sl 1 [] 0 (n * n).toNat),.a (.sl 2 [] 0 (n * n).toNat),.a (.v (.bool s.2.2))],[],[.arr 48 kG G false false,.arr 4 kB (s.1) true true,.arr 4 kB (s.2.1) true true]⟩,fun s => 2 * (nf s.1 + nf s.2.1) + (if s.2.2 = true then 1 else 0),(_,_,true),[],⟨hst,fun h => by cases h⟩,?_,?_⟩
 ·repeat' ((conv => whnf);(first | apply And.intro | intro _))
  all_goals first | rfl | trivial | exact ah rfl | exact aS ‹_› rfl | exact aT ‹_› rfl | ((repeat' first | rfl | constructor);done)
 clear hst jl
 rintro ⟨E0,D0,more⟩ ⟨hJ,hc⟩
 dsimp only at hJ hc
 cases more with
 | false =>
   obtain ⟨e1,e2⟩:=hJ.all hn (fun g hg x hx => by
    obtain ⟨j,hj,rfl⟩:=List.mem_iff_getElem.1 hg
    have:=hc rfl
    unfold adt at this
    have e : sg G j = G[j]:=by unfold sg;simp [hj]
    rw [<- e];exact this j hj x hx)
   rw [<- e1,<- e2] at hK
   clear e1 e2 hc
   repeat' ((conv => whnf);first | apply And.intro | (intro h9;try (have h8 : (_ : Bool) = _:=h9;clear h8;revert h9;subst_vars;intro h9;exact aq h9 (by assumption))))
   all_goals try (conv => whnf)
   all_goals try first | (apply Tk.mk <;> kernel_rfl) | exact ⟨ah rfl⟩ | exact ⟨rfl⟩ | exact ⟨trivial⟩
   all_goals subst_vars
   all_goals try first | rfl | contradiction | (apply Ob.mk;first | (simp only [ag,ak,aa.ae];omega) | ((try simp only [aa.ae]);(try dsimp only);omega))
   refine bu.base ⟨_,[1,2],hK,⟨rfl,rfl,by simp,rfl,rfl,by simp,trivial⟩,rfl,?_⟩
   repeat' ((conv => whnf);(first | apply And.intro | intro _))
   all_goals first | rfl | trivial
 | true =>
 clear hc
 have jk : adr E0 D0 E0 D0 false (fun E D => adt n G E D 0):=by unfold adr adt;exact ⟨Nat.le_refl _,fun h => (by cases h),fun _ => ⟨rfl,rfl,fun j hj => absurd hj (Nat.not_lt_zero j)⟩⟩
 repeat' ((conv => whnf);first | apply And.intro | (intro h9;try (have h8 : (_ : Bool) = _:=h9;clear h8;revert h9;subst_vars;intro h9;exact aq h9 (by assumption))))
 all_goals try (conv => whnf)
 all_goals try first | (apply Tk.mk <;> kernel_rfl) | exact ⟨ah rfl⟩ | exact ⟨rfl⟩ | exact ⟨trivial⟩
 all_goals subst_vars
 all_goals try first | rfl | contradiction | (apply Ob.mk;first | (simp only [ag,ak,aa.ae];omega) | ((try simp only [aa.ae]);(try dsimp only);omega))
 refine ⟨Nat × List Bool × List Bool × Bool,fun s => s.1 <= G.length /\ JI n G f s.2.1 s.2.2.1 /\ adr E0 D0 s.2.1 s.2.2.1 s.2.2.2 (fun E D => adt n G E D s.1),fun s => ⟨aI 161 [0,1,8,9,10,11,12] [.a (vI n),.a (.sl 0 [] 0 G.length),.a (vI (n * n)),.a (.sl 1 [] 0 (n * n).toNat),.a (.sl 2 [] 0 (n * n).toNat),.a (.v (.bool s.2.2.2)),.a (vI s.1)],[],[.arr 48 kG G false false,.arr 4 kB (s.2.1) true true,.arr 4 kB (s.2.2.1) true true]⟩,fun s => G.length - s.1,(0,E0,D0,false),[],⟨Nat.zero_le _,hJ,jk⟩,?_,?_⟩
 ·repeat' ((conv => whnf);(first | apply And.intro | intro _))
  all_goals first | rfl | trivial | exact ah rfl | exact aS ‹_› rfl | exact aT ‹_› rfl | ((repeat' first | rfl | constructor);done)
 rintro ⟨i,E1,D1,m1⟩ ⟨hi,afd,s7⟩
 dsimp only at hi afd s7
 by_cases hi1 : i < G.length
 ·have p0 : decide ((i : Int) < (G.length : Int)) = true:=decide_eq_true (by omega)
  have agn : adr E0 D0 E1 D1 m1 (fun E D => adt n G E D i /\ ad3 n G E D i 0):=by unfold adr at s7 ⊢;exact ⟨s7.1,s7.2.1,fun h => ⟨(s7.2.2 h).1,(s7.2.2 h).2.1,(s7.2.2 h).2.2,by unfold ad3;exact fun y hy => absurd hy (Nat.not_lt_zero y)⟩⟩
  repeat' ((conv => whnf);first | apply And.intro | (intro h9;try (have h8 : (_ : Bool) = _:=h9;clear h8;revert h9;subst_vars;intro h9;exact aq h9 (by assumption))))
  all_goals try (conv => whnf)
  all_goals try first | (apply Tk.mk <;> kernel_rfl) | exact ⟨ah rfl⟩ | exact ⟨rfl⟩ | exact ⟨trivial⟩
  all_goals subst_vars
  all_goals try first | rfl | contradiction | (apply Ob.mk;first | (simp only [ag,ak,aa.ae];omega) | ((try simp only [aa.ae]);(try dsimp only);omega))
  refine ⟨Nat × List Bool × List Bool × Bool,fun s => s.1 <= (n * n).toNat /\ JI n G f s.2.1 s.2.2.1 /\ adr E0 D0 s.2.1 s.2.2.1 s.2.2.2 (fun E D => adt n G E D i /\ ad3 n G E D i s.1),fun s => ⟨aI 161 [0,1,8,9,10,11,12,13] [.a (vI n),.a (.sl 0 [] 0 G.length),.a (vI (n * n)),.a (.sl 1 [] 0 (n * n).toNat),.a (.sl 2 [] 0 (n * n).toNat),.a (.v (.bool s.2.2.2)),.a (vI i),.a (vI s.1)],[],[.arr 48 kG G false false,.arr 4 kB (s.2.1) true true,.arr 4 kB (s.2.2.1) true true]⟩,fun s => (n * n).toNat - s.1,(0,E1,D1,m1),[],⟨Nat.zero_le _,afd,agn⟩,?_,?_⟩
  ·repeat' ((conv => whnf);(first | apply And.intro | intro _))
   all_goals first | rfl | trivial | exact ah rfl | exact aS ‹_› rfl | exact aT ‹_› rfl | ((repeat' first | rfl | constructor);done)
  clear afd s7
  rintro ⟨x,E,D,more⟩ ⟨hx,ad8,c6⟩
  dsimp only at hx ad8 c6
  by_cases cO : x < (n * n).toNat
  ·have p1 : decide ((x : Int) < n * n) = true:=decide_eq_true (by omega)
   have gR : aM n (x : Int):=⟨by omega,by omega⟩
   have cq : 0 <= (x : Int) /\ (x : Int) < n * n:=gR
   have qQ : sg G i ∈ G:=aaq hi1
   have es:=rL G i
   have ht:=hgo _ qQ
   have UW : 0 <= (bI G i).1 /\ (bI G i).1 <= 7:=by rw [es];exact ht
   have hy:=ng hn ht gR
   have adQ:=ad8.step hn hf qQ ht gR
   have DI:=ae5 (m:=(sg G i).2) (q:=fun E D => adt n G E D i /\ ad3 n G E D i (x + 1)) c6 ad8.le ad8.ld gR hy (fun h1 h2 => ⟨h1.1,by
    have h3:=h1.2
    unfold ad3 at h3 ⊢
    intro y hy
    rcases Nat.lt_or_ge y x with h | h
    ·exact h3 y h
    ·obtain rfl : y = x:=by omega
     exact h2⟩)
   have le:=ad8.le
   have ld:=ad8.ld
   have agx:=adQ.le
   have agw:=adQ.ld
   have agt : 0 <= (aX n (bI G i).1 x) /\ (aX n (bI G i).1 x) < (((n * n).toNat : Nat) : Int):=by rw [es];unfold aM at hy;omega
   have agr : 0 + Int.toNat (x : Int) < E.length:=by omega
   have agq : 0 + Int.toNat (x : Int) < D.length:=by omega
   have agv : 0 + Int.toNat (aX n (bI G i).1 x) < E.length:=by omega
   have agu : 0 + Int.toNat (aX n (bI G i).1 x) < D.length:=by omega
   have aeG : 0 + Int.toNat (x : Int) < (ac8 (sg G i).2 E D x (aX n (sg G i).1 x)).length:=by omega
   have aff : 0 + Int.toNat (x : Int) < (ac7 (sg G i).2 E D x (aX n (sg G i).1 x)).length:=by omega
   have afJ : 0 + Int.toNat (aX n (bI G i).1 x) < (ac8 (sg G i).2 E D x (aX n (sg G i).1 x)).length:=by omega
   have agc : 0 + Int.toNat (aX n (bI G i).1 x) < (ac7 (sg G i).2 E D x (aX n (sg G i).1 x)).length:=by omega
   have eY : (aX n (bI G i).1 x) = (aX n (sg G i).1 x):=by rw [es]
   have gx:=adh E x
   have ad6:=adh D x
   have gy : J0 E (aX n (bI G i).1 x) = gb E (aX n (sg G i).1 x):=by rw [eY];exact adh _ _
   have ad7 : J0 D (aX n (bI G i).1 x) = gb D (aX n (sg G i).1 x):=by rw [eY];exact adh _ _
   have ct : J0 E (aX n (bI G i).1 x) = true -> ∀ b,true = (gb E (aX n (sg G i).1 x) || b):=fun h b => by rw [<- gy,h];rfl
   have dt : J0 D (aX n (bI G i).1 x) = true -> ∀ b,true = (gb D (aX n (sg G i).1 x) || b):=fun h b => by rw [<- ad7,h];rfl
   have at' : J0 E x = true -> ∀ b,true = (gb E x || b):=fun h b => by rw [<- gx,h];rfl
   have bt : J0 D x = true -> ∀ b,true = (gb D x || b):=fun h b => by rw [<- ad6,h];rfl
   have af5 : J0 E (aX n (bI G i).1 x) = false -> J0 D x = (gb E (aX n (sg G i).1 x) || gb D x):=fun h => by rw [<- gy,h,ad6];rfl
   have af4 : J0 E (aX n (bI G i).1 x) = false -> J0 E x = (gb E (aX n (sg G i).1 x) || gb E x):=fun h => by rw [<- gy,h,gx];rfl
   have af7 : J0 D (aX n (bI G i).1 x) = false -> J0 E x = (gb D (aX n (sg G i).1 x) || gb E x):=fun h => by rw [<- ad7,h,gx];rfl
   have af6 : J0 D (aX n (bI G i).1 x) = false -> J0 D x = (gb D (aX n (sg G i).1 x) || gb D x):=fun h => by rw [<- ad7,h,ad6];rfl
   have afZ : J0 E x = false -> J0 D (aX n (bI G i).1 x) = (gb E x || gb D (aX n (sg G i).1 x)):=fun h => by rw [<- gx,h,ad7];rfl
   have afY : J0 E x = false -> J0 E (aX n (bI G i).1 x) = (gb E x || gb E (aX n (sg G i).1 x)):=fun h => by rw [<- gx,h,gy];rfl
   have af3 : J0 D x = false -> J0 E (aX n (bI G i).1 x) = (gb D x || gb E (aX n (sg G i).1 x)):=fun h => by rw [<- ad6,h,gy];rfl
   have af2 : J0 D x = false -> J0 D (aX n (bI G i).1 x) = (gb D x || gb D (aX n (sg G i).1 x)):=fun h => by rw [<- ad6,h,ad7];rfl
   have agh : (bI G i).2 = true -> ∀ v1 v2,v1 = (gb E (aX n (sg G i).1 x) || gb D x) -> v2 = (gb E x || gb D (aX n (sg G i).1 x)) -> (E.set (0 + (aX n (bI G i).1 x).toNat) v1).set (0 + Int.toNat (x : Int)) v2 = ac8 (sg G i).2 E D x (aX n (sg G i).1 x):=fun h v1 v2 h1 h2 => by
    rw [es] at h
    rw [eY,h,h1,h2,Nat.zero_add,Nat.zero_add];unfold ac8;rfl
   have agf : (bI G i).2 = false -> ∀ v1 v2,v1 = (gb E (aX n (sg G i).1 x) || gb E x) -> v2 = (gb E x || gb E (aX n (sg G i).1 x)) -> (E.set (0 + (aX n (bI G i).1 x).toNat) v1).set (0 + Int.toNat (x : Int)) v2 = ac8 (sg G i).2 E D x (aX n (sg G i).1 x):=fun h v1 v2 h1 h2 => by
    rw [es] at h
    rw [eY,h,h1,h2,Nat.zero_add,Nat.zero_add];unfold ac8;rfl
   have age : (bI G i).2 = true -> ∀ v1 v2,v1 = (gb D (aX n (sg G i).1 x) || gb E x) -> v2 = (gb D x || gb E (aX n (sg G i).1 x)) -> (D.set (0 + (aX n (bI G i).1 x).toNat) v1).set (0 + Int.toNat (x : Int)) v2 = ac7 (sg G i).2 E D x (aX n (sg G i).1 x):=fun h v1 v2 h1 h2 => by
    rw [es] at h
    rw [eY,h,h1,h2,Nat.zero_add,Nat.zero_add];unfold ac7;rfl
   have agd : (bI G i).2 = false -> ∀ v1 v2,v1 = (gb D (aX n (sg G i).1 x) || gb D x) -> v2 = (gb D x || gb D (aX n (sg G i).1 x)) -> (D.set (0 + (aX n (bI G i).1 x).toNat) v1).set (0 + Int.toNat (x : Int)) v2 = ac7 (sg G i).2 E D x (aX n (sg G i).1 x):=fun h v1 v2 h1 h2 => by
    rw [es] at h
    rw [eY,h,h1,h2,Nat.zero_add,Nat.zero_add];unfold ac7;rfl
   have g1:=adh (ac8 (sg G i).2 E D x (aX n (sg G i).1 x)) x
   have g2:=adh (ac7 (sg G i).2 E D x (aX n (sg G i).1 x)) x
   have g3 : J0 (ac8 (sg G i).2 E D x (aX n (sg G i).1 x)) (aX n (bI G i).1 x) = gb (ac8 (sg G i).2 E D x (aX n (sg G i).1 x)) (aX n (sg G i).1 x):=by rw [eY];exact adh _ _
   have g4 : J0 (ac7 (sg G i).2 E D x (aX n (sg G i).1 x)) (aX n (bI G i).1 x) = gb (ac7 (sg G i).2 E D x (aX n (sg G i).1 x)) (aX n (sg G i).1 x):=by rw [eY];exact adh _ _
   have hN : adf (sg G i).2 E D x (aX n (sg G i).1 x) = ((((J0 (ac8 (sg G i).2 E D x (aX n (sg G i).1 x)) x != J0 E x) || (J0 (ac7 (sg G i).2 E D x (aX n (sg G i).1 x)) x != J0 D x)) || (J0 (ac8 (sg G i).2 E D x (aX n (sg G i).1 x)) (aX n (bI G i).1 x) != J0 E (aX n (bI G i).1 x))) || (J0 (ac7 (sg G i).2 E D x (aX n (sg G i).1 x)) (aX n (bI G i).1 x) != J0 D (aX n (bI G i).1 x))):=by rw [g1,g2,g3,g4,gx,ad6,gy,ad7];unfold adf;rfl
   clear g1 g2 g3 g4 gx ad6 gy ad7
   repeat' ((conv => whnf);first | apply And.intro | (intro h9;try (have h8 : (_ : Bool) = _:=h9;clear h8;revert h9;subst_vars;intro h9;exact aq h9 (by assumption))))
   all_goals try (conv => whnf)
   all_goals try first | (apply Tk.mk <;> kernel_rfl) | exact ⟨ah rfl⟩ | exact ⟨rfl⟩ | exact ⟨trivial⟩
   all_goals subst_vars
   all_goals try first | rfl | contradiction | (apply Ob.mk;first | (simp only [ag,ak,aa.ae];omega) | ((try simp only [aa.ae]);(try dsimp only);omega))
   all_goals try first
    | exact ⟨show 0 + Int.toNat (aX n (bI G i).1 x) < E.length by omega⟩
    | exact ⟨show 0 + Int.toNat (aX n (bI G i).1 x) < D.length by omega⟩
    | exact ⟨show 0 + Int.toNat (i : Int) < G.length by omega⟩
    | exact ⟨show 0 + Int.toNat (x : Int) < E.length by omega⟩
    | exact ⟨show 0 + Int.toNat (x : Int) < D.length by omega⟩
   refine ⟨Unit,fun _ => True,fun _ => ⟨aI 161 [0,1,8,9,10,11,12,13,14,15,16,17,18] [.a (vI n),.a (.sl 0 [] 0 G.length),.a (vI (n * n)),.a (.sl 1 [] 0 (n * n).toNat),.a (.sl 2 [] 0 (n * n).toNat),.a (.v (.bool more)),.a (vI i),.a (vI x),.a (vI (aX n (bI G i).1 x)),.a (.v (.bool (J0 E x))),.a (.v (.bool (J0 D x))),.a (.v (.bool (J0 E (aX n (bI G i).1 x)))),.a (.v (.bool (J0 D (aX n (bI G i).1 x))))],[],[.arr 48 kG G false false,.arr 4 kB (ac8 (sg G i).2 E D x (aX n (sg G i).1 x)) true true,.arr 4 kB (ac7 (sg G i).2 E D x (aX n (sg G i).1 x)) true true]⟩,?_,?_⟩
   ·repeat' ((conv => whnf);first | apply And.intro | (intro h9;try (have h8 : (_ : Bool) = _:=h9;clear h8;revert h9;subst_vars;intro h9;exact aq h9 (by assumption))))
    all_goals try (conv => whnf)
    all_goals try first | (apply Tk.mk <;> kernel_rfl) | exact ⟨ah rfl⟩ | exact ⟨rfl⟩ | exact ⟨trivial⟩
    all_goals subst_vars
    all_goals try first | rfl | contradiction | (apply Ob.mk;first | (simp only [ag,ak,aa.ae];omega) | ((try simp only [aa.ae]);(try dsimp only);omega))
    all_goals try first
     | exact ⟨show 0 + Int.toNat (aX n (bI G i).1 x) < E.length by omega⟩
     | exact ⟨show 0 + Int.toNat (aX n (bI G i).1 x) < D.length by omega⟩
     | exact ⟨aeI agr⟩
     | exact ⟨aeI agq⟩
     | exact ⟨show 0 + Int.toNat (i : Int) < G.length by omega⟩
    all_goals
     refine ⟨(),[],trivial,?_⟩
     repeat' ((conv => whnf);(first | apply And.intro | intro _))
     all_goals first | rfl | trivial | exact ah rfl | exact aS ‹_› rfl | exact aT ‹_› rfl | ((repeat' first | rfl | constructor);done) | exact ⟨rfl,rfl,agh (by assumption) _ _ (by first | exact ct (by assumption) _ | exact af5 (by assumption)) (by first | exact at' (by assumption) _ | exact afZ (by assumption))⟩ | exact ⟨rfl,rfl,agf (by assumption) _ _ (by first | exact ct (by assumption) _ | exact af4 (by assumption)) (by first | exact at' (by assumption) _ | exact afY (by assumption))⟩ | exact ⟨rfl,rfl,age (by assumption) _ _ (by first | exact dt (by assumption) _ | exact af7 (by assumption)) (by first | exact bt (by assumption) _ | exact af3 (by assumption))⟩ | exact ⟨rfl,rfl,agd (by assumption) _ _ (by first | exact dt (by assumption) _ | exact af6 (by assumption)) (by first | exact bt (by assumption) _ | exact af2 (by assumption))⟩
   rintro ⟨⟩ -
   clear ct dt at' bt af5 af4 af7 af6 afZ afY af3 af2 agh agf age agd
   cases more with
   | true =>
     clear hN
     repeat' ((conv => whnf);first | apply And.intro | (intro h9;try (have h8 : (_ : Bool) = _:=h9;clear h8;revert h9;subst_vars;intro h9;exact aq h9 (by assumption))))
     all_goals try (conv => whnf)
     all_goals try first | (apply Tk.mk <;> kernel_rfl) | exact ⟨ah rfl⟩ | exact ⟨rfl⟩ | exact ⟨trivial⟩
     all_goals subst_vars
     all_goals try first | rfl | contradiction | (apply Ob.mk;first | (simp only [ag,ak,aa.ae];omega) | ((try simp only [aa.ae]);(try dsimp only);omega))
     refine ⟨(x + 1,_,_,_),[],⟨cO,adQ,DI⟩,?_,by show (n * n).toNat - (x + 1) < (n * n).toNat - x;omega⟩
     repeat' ((conv => whnf);(first | apply And.intro | intro _))
     all_goals first | rfl | trivial | exact ah rfl | exact aS ‹_› rfl | exact aT ‹_› rfl | ((repeat' first | rfl | constructor);done)
   | false =>
     obtain n0 | n0 : (J0 (ac8 (sg G i).2 E D x (aX n (sg G i).1 x)) x != J0 E x) = true \/ (J0 (ac8 (sg G i).2 E D x (aX n (sg G i).1 x)) x != J0 E x) = false:=by cases (J0 (ac8 (sg G i).2 E D x (aX n (sg G i).1 x)) x != J0 E x) <;> simp
     ·have v1 : true = (false || adf (sg G i).2 E D x (aX n (sg G i).1 x)):=by rw [hN,n0];simp
      have v2 : (J0 (ac8 (sg G i).2 E D x (aX n (sg G i).1 x)) x != J0 E x) = (false || adf (sg G i).2 E D x (aX n (sg G i).1 x)):=by rw [<- v1];exact n0
      clear hN
      repeat' ((conv => whnf);first | apply And.intro | (intro h9;try (have h8 : (_ : Bool) = _:=h9;clear h8;revert h9;subst_vars;intro h9;exact aq h9 (by assumption))))
      all_goals try (conv => whnf)
      all_goals try first | (apply Tk.mk <;> kernel_rfl) | exact ⟨ah rfl⟩ | exact ⟨rfl⟩ | exact ⟨trivial⟩
      all_goals subst_vars
      all_goals try first | rfl | contradiction | (apply Ob.mk;first | (simp only [ag,ak,aa.ae];omega) | ((try simp only [aa.ae]);(try dsimp only);omega))
      all_goals try first
       | exact ⟨aeG⟩
      refine ⟨(x + 1,_,_,_),[],⟨cO,adQ,DI⟩,?_,by show (n * n).toNat - (x + 1) < (n * n).toNat - x;omega⟩
      repeat' ((conv => whnf);(first | apply And.intro | intro _))
      all_goals first | rfl | trivial | exact ah rfl | exact aS ‹_› rfl | exact aT ‹_› rfl | ((repeat' first | rfl | constructor);done) | exact v1 | exact v2 | exact v1.symm
     obtain n1 | n1 : (J0 (ac7 (sg G i).2 E D x (aX n (sg G i).1 x)) x != J0 D x) = true \/ (J0 (ac7 (sg G i).2 E D x (aX n (sg G i).1 x)) x != J0 D x) = false:=by cases (J0 (ac7 (sg G i).2 E D x (aX n (sg G i).1 x)) x != J0 D x) <;> simp
     ·have v1 : true = (false || adf (sg G i).2 E D x (aX n (sg G i).1 x)):=by rw [hN,n0,n1];simp
      have v2 : (J0 (ac7 (sg G i).2 E D x (aX n (sg G i).1 x)) x != J0 D x) = (false || adf (sg G i).2 E D x (aX n (sg G i).1 x)):=by rw [<- v1];exact n1
      clear hN
      repeat' ((conv => whnf);first | apply And.intro | (intro h9;try (have h8 : (_ : Bool) = _:=h9;clear h8;revert h9;subst_vars;intro h9;exact aq h9 (by assumption))))
      all_goals try (conv => whnf)
      all_goals try first | (apply Tk.mk <;> kernel_rfl) | exact ⟨ah rfl⟩ | exact ⟨rfl⟩ | exact ⟨trivial⟩
      all_goals subst_vars
      all_goals try first | rfl | contradiction | (apply Ob.mk;first | (simp only [ag,ak,aa.ae];omega) | ((try simp only [aa.ae]);(try dsimp only);omega))
      all_goals try first
       | exact ⟨aeG⟩
       | exact ⟨aff⟩
      refine ⟨(x + 1,_,_,_),[],⟨cO,adQ,DI⟩,?_,by show (n * n).toNat - (x + 1) < (n * n).toNat - x;omega⟩
      repeat' ((conv => whnf);(first | apply And.intro | intro _))
      all_goals first | rfl | trivial | exact ah rfl | exact aS ‹_› rfl | exact aT ‹_› rfl | ((repeat' first | rfl | constructor);done) | exact v1 | exact v2 | exact v1.symm
     obtain n2 | n2 : (J0 (ac8 (sg G i).2 E D x (aX n (sg G i).1 x)) (aX n (bI G i).1 x) != J0 E (aX n (bI G i).1 x)) = true \/ (J0 (ac8 (sg G i).2 E D x (aX n (sg G i).1 x)) (aX n (bI G i).1 x) != J0 E (aX n (bI G i).1 x)) = false:=by cases (J0 (ac8 (sg G i).2 E D x (aX n (sg G i).1 x)) (aX n (bI G i).1 x) != J0 E (aX n (bI G i).1 x)) <;> simp
     ·have v1 : true = (false || adf (sg G i).2 E D x (aX n (sg G i).1 x)):=by rw [hN,n0,n1,n2];simp
      have v2 : (J0 (ac8 (sg G i).2 E D x (aX n (sg G i).1 x)) (aX n (bI G i).1 x) != J0 E (aX n (bI G i).1 x)) = (false || adf (sg G i).2 E D x (aX n (sg G i).1 x)):=by rw [<- v1];exact n2
      clear hN
      repeat' ((conv => whnf);first | apply And.intro | (intro h9;try (have h8 : (_ : Bool) = _:=h9;clear h8;revert h9;subst_vars;intro h9;exact aq h9 (by assumption))))
      all_goals try (conv => whnf)
      all_goals try first | (apply Tk.mk <;> kernel_rfl) | exact ⟨ah rfl⟩ | exact ⟨rfl⟩ | exact ⟨trivial⟩
      all_goals subst_vars
      all_goals try first | rfl | contradiction | (apply Ob.mk;first | (simp only [ag,ak,aa.ae];omega) | ((try simp only [aa.ae]);(try dsimp only);omega))
      all_goals try first
       | exact ⟨aeG⟩
       | exact ⟨aff⟩
       | exact ⟨afJ⟩
      refine ⟨(x + 1,_,_,_),[],⟨cO,adQ,DI⟩,?_,by show (n * n).toNat - (x + 1) < (n * n).toNat - x;omega⟩
      repeat' ((conv => whnf);(first | apply And.intro | intro _))
      all_goals first | rfl | trivial | exact ah rfl | exact aS ‹_› rfl | exact aT ‹_› rfl | ((repeat' first | rfl | constructor);done) | exact v1 | exact v2 | exact v1.symm
     obtain n3 | n3 : (J0 (ac7 (sg G i).2 E D x (aX n (sg G i).1 x)) (aX n (bI G i).1 x) != J0 D (aX n (bI G i).1 x)) = true \/ (J0 (ac7 (sg G i).2 E D x (aX n (sg G i).1 x)) (aX n (bI G i).1 x) != J0 D (aX n (bI G i).1 x)) = false:=by cases (J0 (ac7 (sg G i).2 E D x (aX n (sg G i).1 x)) (aX n (bI G i).1 x) != J0 D (aX n (bI G i).1 x)) <;> simp
     ·have v1 : true = (false || adf (sg G i).2 E D x (aX n (sg G i).1 x)):=by rw [hN,n0,n1,n2,n3];simp
      have v2 : (J0 (ac7 (sg G i).2 E D x (aX n (sg G i).1 x)) (aX n (bI G i).1 x) != J0 D (aX n (bI G i).1 x)) = (false || adf (sg G i).2 E D x (aX n (sg G i).1 x)):=by rw [<- v1];exact n3
      clear hN
      repeat' ((conv => whnf);first | apply And.intro | (intro h9;try (have h8 : (_ : Bool) = _:=h9;clear h8;revert h9;subst_vars;intro h9;exact aq h9 (by assumption))))
      all_goals try (conv => whnf)
      all_goals try first | (apply Tk.mk <;> kernel_rfl) | exact ⟨ah rfl⟩ | exact ⟨rfl⟩ | exact ⟨trivial⟩
      all_goals subst_vars
      all_goals try first | rfl | contradiction | (apply Ob.mk;first | (simp only [ag,ak,aa.ae];omega) | ((try simp only [aa.ae]);(try dsimp only);omega))
      all_goals try first
       | exact ⟨aeG⟩
       | exact ⟨aff⟩
       | exact ⟨afJ⟩
       | exact ⟨agc⟩
      refine ⟨(x + 1,_,_,_),[],⟨cO,adQ,DI⟩,?_,by show (n * n).toNat - (x + 1) < (n * n).toNat - x;omega⟩
      repeat' ((conv => whnf);(first | apply And.intro | intro _))
      all_goals first | rfl | trivial | exact ah rfl | exact aS ‹_› rfl | exact aT ‹_› rfl | ((repeat' first | rfl | constructor);done) | exact v1 | exact v2 | exact v1.symm
     have v1 : false = (false || adf (sg G i).2 E D x (aX n (sg G i).1 x)):=by rw [hN,n0,n1,n2,n3];rfl
     have v2 : (J0 (ac7 (sg G i).2 E D x (aX n (sg G i).1 x)) (aX n (bI G i).1 x) != J0 D (aX n (bI G i).1 x)) = (false || adf (sg G i).2 E D x (aX n (sg G i).1 x)):=by rw [<- v1];exact n3
     clear hN
     repeat' ((conv => whnf);first | apply And.intro | (intro h9;try (have h8 : (_ : Bool) = _:=h9;clear h8;revert h9;subst_vars;intro h9;exact aq h9 (by assumption))))
     all_goals try (conv => whnf)
     all_goals try first | (apply Tk.mk <;> kernel_rfl) | exact ⟨ah rfl⟩ | exact ⟨rfl⟩ | exact ⟨trivial⟩
     all_goals subst_vars
     all_goals try first | rfl | contradiction | (apply Ob.mk;first | (simp only [ag,ak,aa.ae];omega) | ((try simp only [aa.ae]);(try dsimp only);omega))
     all_goals try first
      | exact ⟨aeG⟩
      | exact ⟨aff⟩
      | exact ⟨afJ⟩
      | exact ⟨agc⟩
     refine ⟨(x + 1,_,_,_),[],⟨cO,adQ,DI⟩,?_,by show (n * n).toNat - (x + 1) < (n * n).toNat - x;omega⟩
     repeat' ((conv => whnf);(first | apply And.intro | intro _))
     all_goals first | rfl | trivial | exact ah rfl | exact aS ‹_› rfl | exact aT ‹_› rfl | ((repeat' first | rfl | constructor);done) | exact v1 | exact v2 | exact v1.symm
  have p1 : decide ((x : Int) < n * n) = false:=decide_eq_false (by omega)
  obtain rfl : x = (n * n).toNat:=by omega
  have DI : adr E0 D0 E D more (fun E D => adt n G E D (i + 1)):=by
   unfold adr at c6 ⊢
   refine ⟨c6.1,c6.2.1,fun h => ?_⟩
   obtain ⟨a1,a2,a3,a4⟩:=c6.2.2 h
   refine ⟨a1,a2,?_⟩
   unfold adt at a3 ⊢
   unfold ad3 at a4
   intro j hj v hv
   rcases Nat.lt_or_ge j i with h1 | h1
   ·exact a3 j h1 v hv
   ·obtain rfl : j = i:=by omega
    obtain ⟨y,hy,rfl⟩:=(ic hn).1 hv
    exact a4 y hy
  repeat' ((conv => whnf);first | apply And.intro | (intro h9;try (have h8 : (_ : Bool) = _:=h9;clear h8;revert h9;subst_vars;intro h9;exact aq h9 (by assumption))))
  all_goals try (conv => whnf)
  all_goals try first | (apply Tk.mk <;> kernel_rfl) | exact ⟨ah rfl⟩ | exact ⟨rfl⟩ | exact ⟨trivial⟩
  all_goals subst_vars
  all_goals try first | rfl | contradiction | (apply Ob.mk;first | (simp only [ag,ak,aa.ae];omega) | ((try simp only [aa.ae]);(try dsimp only);omega))
  refine ⟨(i + 1,E,D,more),[],⟨hi1,ad8,DI⟩,?_,by show G.length - (i + 1) < G.length - i;omega⟩
  repeat' ((conv => whnf);(first | apply And.intro | intro _))
  all_goals first | rfl | trivial | exact ah rfl | exact aS ‹_› rfl | exact aT ‹_› rfl | ((repeat' first | rfl | constructor);done)
 have p0 : decide ((i : Int) < (G.length : Int)) = false:=decide_eq_false (by omega)
 obtain rfl : i = G.length:=by omega
 have AF : m1 = false -> adt n G E1 D1 G.length:=fun h => by unfold adr at s7;exact (s7.2.2 h).2.2
 have agl : 2 * (nf E1 + nf D1) + (if m1 = true then 1 else 0) < 2 * (nf E0 + nf D0) + 1:=by
  unfold adr at s7
  cases m1
  ·obtain ⟨a1,a2,_⟩:=s7.2.2 rfl
   rw [a1,a2];simp
  ·have:=s7.2.1 rfl
   simp only [if_true];omega
 repeat' ((conv => whnf);first | apply And.intro | (intro h9;try (have h8 : (_ : Bool) = _:=h9;clear h8;revert h9;subst_vars;intro h9;exact aq h9 (by assumption))))
 all_goals try (conv => whnf)
 all_goals try first | (apply Tk.mk <;> kernel_rfl) | exact ⟨ah rfl⟩ | exact ⟨rfl⟩ | exact ⟨trivial⟩
 all_goals subst_vars
 all_goals try first | rfl | contradiction | (apply Ob.mk;first | (simp only [ag,ak,aa.ae];omega) | ((try simp only [aa.ae]);(try dsimp only);omega))
 refine ⟨(E1,D1,m1),[],⟨afd,AF⟩,?_,agl⟩
 repeat' ((conv => whnf);(first | apply And.intro | intro _))
 all_goals first | rfl | trivial | exact ah rfl | exact aS ‹_› rfl | exact aT ‹_› rfl | ((repeat' first | rfl | constructor);done))
end Go.Proofs.YthejmgnkenokpaaGreatDoor
end
section
namespace Go.Proofs.YthejmgnkenokpaaGreatDoor
open Go Go.Sy Go.bK
variable {Γ : bn}
def abo (D : List Sg -> List aa) (F : List Sg -> Tm) : au:=.fn fun args rg => match args with
 | [.a x0] => (match ac1 48 kG rg x0 with | some (q0,L0) => some (q0 ++ (D L0),F L0) | _ => none)
 | _ => none
theorem abj {f : FuncId} {b : Body} {E : Env} {d : Nat} (hP : aL Tryz.prog Γ E) (hb : bQ Tryz.prog f b) {D : List Sg -> List aa} {F : List Sg -> Tm} (hp : ∀ (L0 : List Sg),(F L0).plain = true)
  (H : ∀ (L0 : List Sg),bW (D L0) -> cQ E d b [.a (.sl 0 [] 0 L0.length)] [.arr 48 kG L0 false false] (fun x _ => iL x (F L0))) : au.Ok Tryz.prog Γ f (abo D F):=au.er (d:=d) hP hb (by
 intro args rg q t hF hq
 split at hF
 next x0 =>
  split at hF
  next q0 L0 hx0 =>
   obtain ⟨rfl,rfl⟩:=Prod.mk.inj (Option.some.inj hF);clear hF
   rw [aH] at hq
   obtain ⟨dm,hD⟩:=hq
   obtain ⟨e0,Vn⟩:=bP (by simp [kG]) hx0 dm
   obtain ⟨p0,r0⟩:=Vn [e0] 0 1 rfl (by omega)
   refine ⟨hp _,[e0],[.a (.sl 0 [] 0 L0.length)],[.arr 48 kG L0 false false],⟨⟨p0,trivial⟩,fun r g hg => ?_⟩,H _ hD⟩
   match r,hg with
   | 0,hg => obtain rfl:=Option.some.inj hg;exact r0
  next => cases hF
 next => cases hF)
def ya : au:=abo (fun G => [(aa.of (G.length <= 1000000))]) (fun G => bl (dL G))
theorem aaz : au.Ok Tryz.prog Γ 58 ya:=abj (d:=0) (aP aR.nil bq.nil false 0) (aj Tryz.func58 rfl rfl) (fun _ => rfl) (by
 intro G ⟨hG,_⟩
 simp only [aa.ae] at hG
 repeat' ((conv => whnf);first | apply And.intro | (intro h9;try (have h8 : (_ : Bool) = _:=h9;clear h8;revert h9;subst_vars;intro h9;exact aq h9 (by assumption))))
 all_goals try (conv => whnf)
 all_goals try first | (apply Tk.mk <;> kernel_rfl) | exact ⟨ah rfl⟩ | exact ⟨rfl⟩ | exact ⟨trivial⟩
 all_goals subst_vars
 all_goals try first | rfl | contradiction | (apply Ob.mk;first | (simp only [ag,ak,aa.ae];omega) | ((try simp only [aa.ae]);(try dsimp only);omega))
 refine ⟨Nat,fun i => i <= G.length /\ dL G = (G.drop i).any (fun g => g.2),fun i => ⟨aI 15 [0,3] [.a (.sl 0 [] 0 G.length),.a (vI i)],[],[.arr 48 kG G false false]⟩,fun i => G.length - i,0,[],⟨Nat.zero_le _,rfl⟩,?_,?_⟩
 ·repeat' ((conv => whnf);(first | apply And.intro | intro _))
  all_goals first | rfl | trivial | exact ah rfl | exact aS ‹_› rfl | exact aT ‹_› rfl | ((repeat' first | rfl | constructor);done)
 rintro i ⟨hi,hf⟩
 by_cases hi1 : i < G.length
 ·have p0 : decide ((i : Int) < (G.length : Int)) = true:=decide_eq_true (by omega)
  have es:=BP G i
  obtain hb | hb : (bI G i).2 = false \/ (bI G i).2 = true:=by cases (bI G i).2 <;> simp
  ·have jH:=hf.trans (zx hi1 (d:=(0,false)) (by rw [<- es];exact hb))
   repeat' ((conv => whnf);first | apply And.intro | (intro h9;try (have h8 : (_ : Bool) = _:=h9;clear h8;revert h9;subst_vars;intro h9;exact aq h9 (by assumption))))
   all_goals try (conv => whnf)
   all_goals try first | (apply Tk.mk <;> kernel_rfl) | exact ⟨ah rfl⟩ | exact ⟨rfl⟩ | exact ⟨trivial⟩
   all_goals subst_vars
   all_goals try first | rfl | contradiction | (apply Ob.mk;first | (simp only [ag,ak,aa.ae];omega) | ((try simp only [aa.ae]);(try dsimp only);omega))
   all_goals try first
    | exact ⟨show 0 + Int.toNat (i : Int) < G.length by omega⟩
   refine ⟨i + 1,[],⟨hi1,jH⟩,?_,by show G.length - (i + 1) < G.length - i;omega⟩
   repeat' ((conv => whnf);(first | apply And.intro | intro _))
   all_goals first | rfl | trivial | exact ah rfl | exact aS ‹_› rfl | exact aT ‹_› rfl | ((repeat' first | rfl | constructor);done)
  rw [hf.trans (wg hi1 (d:=(0,false)) (by rw [<- es];exact hb))]
  repeat' ((conv => whnf);first | apply And.intro | (intro h9;try (have h8 : (_ : Bool) = _:=h9;clear h8;revert h9;subst_vars;intro h9;exact aq h9 (by assumption))))
  all_goals try (conv => whnf)
  all_goals try first | (apply Tk.mk <;> kernel_rfl) | exact ⟨ah rfl⟩ | exact ⟨rfl⟩ | exact ⟨trivial⟩
  all_goals subst_vars
  all_goals try first | rfl | contradiction | (apply Ob.mk;first | (simp only [ag,ak,aa.ae];omega) | ((try simp only [aa.ae]);(try dsimp only);omega))
  all_goals first
   | exact ⟨show 0 + Int.toNat (i : Int) < G.length by omega⟩
 have p0 : decide ((i : Int) < (G.length : Int)) = false:=decide_eq_false (by omega)
 rw [hf.trans (we (by omega))]
 repeat' ((conv => whnf);first | apply And.intro | (intro h9;try (have h8 : (_ : Bool) = _:=h9;clear h8;revert h9;subst_vars;intro h9;exact aq h9 (by assumption))))
 all_goals try (conv => whnf)
 all_goals try first | (apply Tk.mk <;> kernel_rfl) | exact ⟨ah rfl⟩ | exact ⟨rfl⟩ | exact ⟨trivial⟩
 all_goals subst_vars
 all_goals try first | rfl | contradiction | (apply Ob.mk;first | (simp only [ag,ak,aa.ae];omega) | ((try simp only [aa.ae]);(try dsimp only);omega)))
end Go.Proofs.YthejmgnkenokpaaGreatDoor
end
section
namespace Go.Proofs.YthejmgnkenokpaaGreatDoor
open Go Go.Sy Go.bK
variable {Γ : bn}
def afH (D : Int -> List Sg -> List aa) (F : Int -> List Sg -> Tm) : au:=.fn fun args rg => match args with
 | [.a (.v (.int .i64 n0)),.a x0] => (match ac1 48 kG rg x0 with | some (q0,L0) => some (q0 ++ (D n0 L0),F n0 L0) | _ => none)
 | _ => none
theorem afo {f : FuncId} {b : Body} {E : Env} {d : Nat} (hP : aL Tryz.prog Γ E) (hb : bQ Tryz.prog f b) {D : Int -> List Sg -> List aa} {F : Int -> List Sg -> Tm} (hp : ∀ (n0 : Int) (L0 : List Sg),(F n0 L0).plain = true)
  (H : ∀ (n0 : Int) (L0 : List Sg),bW (D n0 L0) -> cQ E d b [.a (vI n0),.a (.sl 0 [] 0 L0.length)] [.arr 48 kG L0 false false] (fun x _ => iL x (F n0 L0))) : au.Ok Tryz.prog Γ f (afH D F):=au.er (d:=d) hP hb (by
 intro args rg q t hF hq
 split at hF
 next n0 x0 =>
  split at hF
  next q0 L0 hx0 =>
   obtain ⟨rfl,rfl⟩:=Prod.mk.inj (Option.some.inj hF);clear hF
   rw [aH] at hq
   obtain ⟨dm,hD⟩:=hq
   obtain ⟨e0,Vn⟩:=bP (by simp [kG]) hx0 dm
   obtain ⟨p0,r0⟩:=Vn [e0] 0 1 rfl (by omega)
   refine ⟨hp _ _,[e0],[.a (vI n0),.a (.sl 0 [] 0 L0.length)],[.arr 48 kG L0 false false],⟨⟨rfl,p0,trivial⟩,fun r g hg => ?_⟩,H _ _ hD⟩
   match r,hg with
   | 0,hg => obtain rfl:=Option.some.inj hg;exact r0
  next => cases hF
 next => cases hF)
noncomputable def adC : au:=afH (fun n G => [(aa.of (1 <= n /\ n <= 6)),(aa.of (G.length <= 1000000)),(aa.of (∀ g ∈ G,0 <= g.1 /\ g.1 <= 7))]) (fun n G => .a (.v (.bool (eH n G))))
theorem afC {l : List Bool} {i : Nat} (h : i < l.length) : J0 l (i : Int) = id (l.getD i false):=by rw [adh];unfold gb;rw [Int.toNat_natCast];rfl
noncomputable def aew : List (Nat × au):=[(58,ya),(97,ad2)]
theorem adZ : aR Tryz.prog Γ aew:=((aR.nil.cons (aj Tryz.func97 rfl rfl).fn aeh).cons (aj Tryz.func58 rfl rfl).fn aaz)
attribute [local irreducible] ac9 eH
theorem adT : au.Ok Tryz.prog Γ 55 adC:=afo (d:=0) (aP adZ bq.nil false 0) (aj Tryz.func55 rfl rfl) (fun _ _ => rfl) (by
 intro n G ⟨hn,hG,hgo,_⟩
 simp only [aa.ae] at hn hG hgo
 have j4 : 1 <= n * n /\ n * n <= 36:=sJ hn
 obtain m1 | m1 : dL G = false \/ dL G = true:=by cases dL G <;> simp
 ·have m2 : (!dL G) = true:=by rw [m1];rfl
  have aga:=afs (G:=G) hn m1
  have el:=adl (n:=n) (G:=G) (f:=0) (b:=false)
  have ags:=adl (n:=n) (G:=G) (f:=0) (b:=true)
  repeat' ((conv => whnf);first | apply And.intro | (intro h9;try (have h8 : (_ : Bool) = _:=h9;clear h8;revert h9;subst_vars;intro h9;exact aq h9 (by assumption))))
  all_goals try (conv => whnf)
  all_goals try first | (apply Tk.mk <;> kernel_rfl) | exact ⟨ah rfl⟩ | exact ⟨rfl⟩ | exact ⟨trivial⟩
  all_goals subst_vars
  all_goals try first | rfl | contradiction | (apply Ob.mk;first | (simp only [ag,ak,aa.ae];omega) | ((try simp only [aa.ae]);(try dsimp only);omega))
  all_goals try first
   | exact ⟨hG⟩
   | exact ⟨hgo⟩
  refine ⟨Nat,fun i => i <= (n * n).toNat /\ (ac9 n G 0 false).all id = ((ac9 n G 0 false).drop i).all id,fun i => ⟨aI 52 [6,8] [.a (.sl 1 [] 0 (n * n).toNat),.a (vI i)],[],[.arr 48 kG G false false,.arr 4 kB (ac9 n G 0 false) true true]⟩,fun i => (n * n).toNat - i,0,[0,1],⟨Nat.zero_le _,rfl⟩,?_,?_⟩
  ·repeat' ((conv => whnf);(first | apply And.intro | intro _))
   all_goals first | rfl | trivial | exact ah rfl | exact aS ‹_› rfl | exact aT ‹_› rfl | ((repeat' first | rfl | constructor);done)
  rintro i ⟨hi,hf⟩
  by_cases hi1 : i < (n * n).toNat
  ·have p0 : decide ((i : Int) < (((n * n).toNat : Nat) : Int)) = true:=decide_eq_true (by omega)
   have hlt : i < (ac9 n G 0 false).length:=by omega
   have eb:=afC hlt
   obtain b1 | b1 : J0 (ac9 n G 0 false) (i : Int) = false \/ J0 (ac9 n G 0 false) (i : Int) = true:=by cases J0 (ac9 n G 0 false) (i : Int) <;> simp
   ·have b2 : (!J0 (ac9 n G 0 false) (i : Int)) = true:=by rw [b1];rfl
    rw [show eH n G = false by rw [aga,hf];exact zw hlt (by rw [<- eb];exact b1)]
    repeat' ((conv => whnf);first | apply And.intro | (intro h9;try (have h8 : (_ : Bool) = _:=h9;clear h8;revert h9;subst_vars;intro h9;exact aq h9 (by assumption))))
    all_goals try (conv => whnf)
    all_goals try first | (apply Tk.mk <;> kernel_rfl) | exact ⟨ah rfl⟩ | exact ⟨rfl⟩ | exact ⟨trivial⟩
    all_goals subst_vars
    all_goals try first | rfl | contradiction | (apply Ob.mk;first | (simp only [ag,ak,aa.ae];omega) | ((try simp only [aa.ae]);(try dsimp only);omega))
    all_goals first
     | exact ⟨show 0 + Int.toNat (i : Int) < (ac9 n G 0 false).length by omega⟩
   have b2 : (!J0 (ac9 n G 0 false) (i : Int)) = false:=by rw [b1];rfl
   have jH:=hf.trans (C7 hlt (by rw [<- eb];exact b1))
   repeat' ((conv => whnf);first | apply And.intro | (intro h9;try (have h8 : (_ : Bool) = _:=h9;clear h8;revert h9;subst_vars;intro h9;exact aq h9 (by assumption))))
   all_goals try (conv => whnf)
   all_goals try first | (apply Tk.mk <;> kernel_rfl) | exact ⟨ah rfl⟩ | exact ⟨rfl⟩ | exact ⟨trivial⟩
   all_goals subst_vars
   all_goals try first | rfl | contradiction | (apply Ob.mk;first | (simp only [ag,ak,aa.ae];omega) | ((try simp only [aa.ae]);(try dsimp only);omega))
   all_goals try first
    | exact ⟨show 0 + Int.toNat (i : Int) < (ac9 n G 0 false).length by omega⟩
   refine ⟨i + 1,[],⟨hi1,jH⟩,?_,by show (n * n).toNat - (i + 1) < (n * n).toNat - i;omega⟩
   repeat' ((conv => whnf);(first | apply And.intro | intro _))
   all_goals first | rfl | trivial | exact ah rfl | exact aS ‹_› rfl | exact aT ‹_› rfl | ((repeat' first | rfl | constructor);done)
  have p0 : decide ((i : Int) < (((n * n).toNat : Nat) : Int)) = false:=decide_eq_false (by omega)
  rw [show eH n G = true by rw [aga,hf];exact C6 (by omega)]
  repeat' ((conv => whnf);first | apply And.intro | (intro h9;try (have h8 : (_ : Bool) = _:=h9;clear h8;revert h9;subst_vars;intro h9;exact aq h9 (by assumption))))
  all_goals try (conv => whnf)
  all_goals try first | (apply Tk.mk <;> kernel_rfl) | exact ⟨ah rfl⟩ | exact ⟨rfl⟩ | exact ⟨trivial⟩
  all_goals subst_vars
  all_goals try first | rfl | contradiction | (apply Ob.mk;first | (simp only [ag,ak,aa.ae];omega) | ((try simp only [aa.ae]);(try dsimp only);omega))
 have m2 : (!dL G) = false:=by rw [m1];rfl
 have af9:=aft (G:=G) hn m1
 repeat' ((conv => whnf);first | apply And.intro | (intro h9;try (have h8 : (_ : Bool) = _:=h9;clear h8;revert h9;subst_vars;intro h9;exact aq h9 (by assumption))))
 all_goals try (conv => whnf)
 all_goals try first | (apply Tk.mk <;> kernel_rfl) | exact ⟨ah rfl⟩ | exact ⟨rfl⟩ | exact ⟨trivial⟩
 all_goals subst_vars
 all_goals try first | rfl | contradiction | (apply Ob.mk;first | (simp only [ag,ak,aa.ae];omega) | ((try simp only [aa.ae]);(try dsimp only);omega))
 all_goals try first
  | exact ⟨hG⟩
 refine ⟨Nat,fun x => x <= (n * n).toNat /\ ∀ k : Nat,k < x -> gb (ac9 n G (k : Int) true) k = true,fun x => ⟨aI 52 [0,1,9] [.a (vI n),.a (.sl 0 [] 0 G.length),.a (vI x)],[],[.arr 48 kG G false false]⟩,fun x => (n * n).toNat - x,0,[],⟨Nat.zero_le _,fun k h => absurd h (Nat.not_lt_zero k)⟩,?_,?_⟩
 ·repeat' ((conv => whnf);(first | apply And.intro | intro _))
  all_goals first | rfl | trivial | exact ah rfl | exact aS ‹_› rfl | exact aT ‹_› rfl | ((repeat' first | rfl | constructor);done)
 rintro x ⟨hx,hf⟩
 by_cases cO : x < (n * n).toNat
 ·have p0 : decide ((x : Int) < n * n) = true:=decide_eq_true (by omega)
  have el:=adl (n:=n) (G:=G) (f:=(x : Int)) (b:=true)
  have gR : 0 <= (x : Int) /\ (x : Int) < n * n:=⟨by omega,by omega⟩
  have eb:=adh (ac9 n G (x : Int) true) (x : Int)
  obtain b1 | b1 : J0 (ac9 n G (x : Int) true) (x : Int) = false \/ J0 (ac9 n G (x : Int) true) (x : Int) = true:=by cases J0 (ac9 n G (x : Int) true) (x : Int) <;> simp
  ·have b2 : (!J0 (ac9 n G (x : Int) true) (x : Int)) = true:=by rw [b1];rfl
   rw [show eH n G = false by
    cases hb : eH n G with
    | false => rfl
    | true => have:=af9.1 hb x cO;rw [<- eb,b1] at this;cases this]
   repeat' ((conv => whnf);first | apply And.intro | (intro h9;try (have h8 : (_ : Bool) = _:=h9;clear h8;revert h9;subst_vars;intro h9;exact aq h9 (by assumption))))
   all_goals try (conv => whnf)
   all_goals try first | (apply Tk.mk <;> kernel_rfl) | exact ⟨ah rfl⟩ | exact ⟨rfl⟩ | exact ⟨trivial⟩
   all_goals subst_vars
   all_goals try first | rfl | contradiction | (apply Ob.mk;first | (simp only [ag,ak,aa.ae];omega) | ((try simp only [aa.ae]);(try dsimp only);omega))
   all_goals first
    | exact ⟨hG⟩
    | exact ⟨hgo⟩
    | exact ⟨show 0 + Int.toNat (x : Int) < (ac9 n G (x : Int) true).length by omega⟩
  have b2 : (!J0 (ac9 n G (x : Int) true) (x : Int)) = false:=by rw [b1];rfl
  have jH : ∀ k : Nat,k < x + 1 -> gb (ac9 n G (k : Int) true) k = true:=fun k hk => by
   rcases Nat.lt_or_ge k x with h | h
   ·exact hf k h
   ·obtain rfl : k = x:=by omega
    rw [<- eb];exact b1
  repeat' ((conv => whnf);first | apply And.intro | (intro h9;try (have h8 : (_ : Bool) = _:=h9;clear h8;revert h9;subst_vars;intro h9;exact aq h9 (by assumption))))
  all_goals try (conv => whnf)
  all_goals try first | (apply Tk.mk <;> kernel_rfl) | exact ⟨ah rfl⟩ | exact ⟨rfl⟩ | exact ⟨trivial⟩
  all_goals subst_vars
  all_goals try first | rfl | contradiction | (apply Ob.mk;first | (simp only [ag,ak,aa.ae];omega) | ((try simp only [aa.ae]);(try dsimp only);omega))
  all_goals try first
   | exact ⟨hG⟩
   | exact ⟨hgo⟩
   | exact ⟨show 0 + Int.toNat (x : Int) < (ac9 n G (x : Int) true).length by omega⟩
  refine ⟨x + 1,[0],⟨cO,jH⟩,?_,by show (n * n).toNat - (x + 1) < (n * n).toNat - x;omega⟩
  repeat' ((conv => whnf);(first | apply And.intro | intro _))
  all_goals first | rfl | trivial | exact ah rfl | exact aS ‹_› rfl | exact aT ‹_› rfl | ((repeat' first | rfl | constructor);done)
 have p0 : decide ((x : Int) < n * n) = false:=decide_eq_false (by omega)
 rw [show eH n G = true by rw [af9];exact fun k hk => hf k (by omega)]
 repeat' ((conv => whnf);first | apply And.intro | (intro h9;try (have h8 : (_ : Bool) = _:=h9;clear h8;revert h9;subst_vars;intro h9;exact aq h9 (by assumption))))
 all_goals try (conv => whnf)
 all_goals try first | (apply Tk.mk <;> kernel_rfl) | exact ⟨ah rfl⟩ | exact ⟨rfl⟩ | exact ⟨trivial⟩
 all_goals subst_vars
 all_goals try first | rfl | contradiction | (apply Ob.mk;first | (simp only [ag,ak,aa.ae];omega) | ((try simp only [aa.ae]);(try dsimp only);omega)))
end Go.Proofs.YthejmgnkenokpaaGreatDoor
end
section
namespace Go.Proofs.YthejmgnkenokpaaGreatDoor
open Go Go.Sy Go.bK
variable {Γ : bn}
def ae9 (D : Int -> Int -> List Wk -> Int -> List (List Int) -> List aa) (F : Int -> Int -> List Wk -> Int -> List (List Int) -> Tm) : au:=.fn fun args rg => match args with
 | [.agg [.v (.int .i64 n0),.v (.int .i64 n1),x0],.a (.v (.int .i64 n2)),.a x1] => (match ac1 46 kW rg x0,ac1 49 kT rg x1 with | some (q0,L0),some (q1,L1) => some (q0 ++ (q1 ++ (D n0 n1 L0 n2 L1)),F n0 n1 L0 n2 L1) | _,_ => none)
 | _ => none
theorem aeV {f : FuncId} {b : Body} {E : Env} {d : Nat} (hP : aL Tryz.prog Γ E) (hb : bQ Tryz.prog f b) {D : Int -> Int -> List Wk -> Int -> List (List Int) -> List aa} {F : Int -> Int -> List Wk -> Int -> List (List Int) -> Tm} (hp : ∀ (n0 : Int) (n1 : Int) (L0 : List Wk) (n2 : Int) (L1 : List (List Int)),(F n0 n1 L0 n2 L1).plain = true)
  (H : ∀ (n0 : Int) (n1 : Int) (L0 : List Wk) (n2 : Int) (L1 : List (List Int)),bW (D n0 n1 L0 n2 L1) -> cQ E d b [.agg [vI n0,vI n1,.sl 0 [] 0 L0.length],.a (vI n2),.a (.sl 1 [] 0 L1.length)] [.arr 46 kW L0 false false,.arr 49 kT L1 false false] (fun x _ => iL x (F n0 n1 L0 n2 L1))) : au.Ok Tryz.prog Γ f (ae9 D F):=au.er (d:=d) hP hb (by
 intro args rg q t hF hq
 split at hF
 next n0 n1 x0 n2 x1 =>
  split at hF
  next q0 L0 q1 L1 hx0 cO =>
   obtain ⟨rfl,rfl⟩:=Prod.mk.inj (Option.some.inj hF);clear hF
   rw [aH,aH] at hq
   obtain ⟨dm,gk,hD⟩:=hq
   obtain ⟨e0,Vn⟩:=bP (by simp [kW]) hx0 dm
   obtain ⟨e1,iO⟩:=bP (by simp [kT]) cO gk
   obtain ⟨p0,r0⟩:=Vn [e0,e1] 0 2 rfl (by omega)
   obtain ⟨p1,r1⟩:=iO [e0,e1] 1 2 rfl (by omega)
   refine ⟨hp _ _ _ _ _,[e0,e1],[.agg [vI n0,vI n1,.sl 0 [] 0 L0.length],.a (vI n2),.a (.sl 1 [] 0 L1.length)],[.arr 46 kW L0 false false,.arr 49 kT L1 false false],⟨⟨⟨rfl,rfl,p0,trivial⟩,rfl,p1,trivial⟩,fun r g hg => ?_⟩,H _ _ _ _ _ hD⟩
   match r,hg with
   | 0,hg => obtain rfl:=Option.some.inj hg;exact r0
   | 1,hg => obtain rfl:=Option.some.inj hg;exact r1
  next => cases hF
 next => cases hF)
def adL (D : Int -> Int -> List Wk -> Int -> List (List Int) -> List aa) (Rk : Int -> Int -> List Wk -> Int -> List (List Int) -> (cM -> Prop) -> Prop) : au:=.new fun args rg K => match args with
 | [.agg [.v (.int .i64 n0),.v (.int .i64 n1),x0],.a (.v (.int .i64 n2)),.a x1] => (match ac1 46 kW rg x0,ac1 49 kT rg x1 with | some (q0,L0),some (q1,L1) => bk false (q0 ++ (q1 ++ (D n0 n1 L0 n2 L1))) (Rk n0 n1 L0 n2 L1 K) | _,_ => False)
 | _ => False
theorem aeu {f : FuncId} {D : Int -> Int -> List Wk -> Int -> List (List Int) -> List aa} {R : Int -> Int -> List Wk -> Int -> List (List Int) -> cM} {Rk : Int -> Int -> List Wk -> Int -> List (List Int) -> (cM -> Prop) -> Prop} (h : au.Ok Tryz.prog Γ f (adG D R)) (hk : ∀ (n0 : Int) (n1 : Int) (L0 : List Wk) (n2 : Int) (L1 : List (List Int)) K,Rk n0 n1 L0 n2 L1 K -> K (R n0 n1 L0 n2 L1)) : au.Ok Tryz.prog Γ f (adL D Rk):=by
 intro args rg K hC
 refine h args rg K ?_
 (try unfold adL at hC)
 (try unfold adG)
 (try dsimp only at hC ⊢)
 split at hC
 next n0 n1 x0 n2 x1 =>
  split at hC
  next q0 L0 q1 L1 hx0 cO =>
   (try dsimp only)
   (try simp only [hx0,cO])
   rw [aV] at hC ⊢
   exact ⟨hC.1,hk _ _ _ _ _ K hC.2⟩
  next => exact hC.elim
 next => exact hC.elim
def aea : au:=adL (fun _ P L _ W => [(aa.of (dY P L = true)),(aa.of (L.length <= 1000000)),(aa.of (W.length <= 1000000)),(aa.of (∀ w ∈ W,bN L w = true /\ w.length <= 96))]) (fun _ _ L p W K => ((W.all (qK L p)) = true -> K ⟨[.arr 48 kG (ag2 L p W) true true],.bF [.a (.sl 0 [] 0 W.length),.a (.v (.bool true))]⟩) /\ ((W.all (qK L p)) = false -> K ⟨[],.bF [.a (.v (.slice none 0 0)),.a (.v (.bool false))]⟩))
theorem aej : au.Ok Tryz.prog Γ 54 aea:=aeu aeg (by
 intro n P L p W K ⟨h1,h2⟩
 unfold ado
 cases hb : W.all (qK L p)
 ·exact h2 hb
 ·exact h1 hb)
noncomputable def adm (n : Int) (L : List Wk) (p : Int) (W : List (List Int)) : Int:=match decide ((W.length : Int) > 40) with
 | true => 2
 | false => match cK L W == 0 with
   | false => cK L W
   | true => abz n L p W
theorem aeB {n P : Int} {L : List Wk} {p : Int} {W : List (List Int)} (h : (bf n P L p == 0) = true) : jZ n P L p W = adm n L p W:=by unfold jZ;rw [h];rfl
theorem wg {α : Type} {f : α -> Bool} {L : List α} {i : Nat} {d : α} (h : i < L.length) (hf : f (L.getD i d) = true) : (L.drop i).any f = true:=by
 rw [List.drop_eq_getElem_cons h,List.any_cons]
 have : L.getD i d = L[i]:=by simp [h]
 rw [<- this,hf];rfl
theorem zx {α : Type} {f : α -> Bool} {L : List α} {i : Nat} {d : α} (h : i < L.length) (hf : f (L.getD i d) = false) : (L.drop i).any f = (L.drop (i + 1)).any f:=by
 rw [List.drop_eq_getElem_cons h,List.any_cons]
 have : L.getD i d = L[i]:=by simp [h]
 rw [<- this,hf];rfl
theorem we {α : Type} {f : α -> Bool} {L : List α} {i : Nat} (h : L.length <= i) : (L.drop i).any f = false:=by
 rw [List.drop_eq_nil_of_le h];rfl
noncomputable def adn : au:=ae9 (fun n P L p W => [(aa.of (dY P L = true)),(aa.of (P <= 6)),(aa.of (0 <= p /\ p <= P - 1)),(aa.of (1 <= n /\ n <= 6)),(aa.of (L.length <= 1000000)),(aa.of (W.length <= 1000000)),(aa.of (∀ w ∈ W,w.length <= 1000000))]) (fun n _ L p W => .a (vI (adm n L p W)))
noncomputable def agj : List (Nat × au):=[(53,zK),(54,aea),(55,adC)]
theorem afi : aR Tryz.prog Γ agj:=(((aR.nil.cons (aj Tryz.func55 rfl rfl).fn adT).cons (aj Tryz.func54 rfl rfl).fn aej).cons (aj Tryz.func53 rfl rfl).fn CC)
attribute [local irreducible] cK eH ag2 qK dc fW bN
theorem adu : au.Ok Tryz.prog Γ 14 adn:=aeV (d:=0) (aP afi bq.nil false 0) (aj Tryz.func14 rfl rfl) (fun _ _ _ _ _ => rfl) (by
 intro n P L p W ⟨hw,hP,hp,hn,hl,hW,hv,_⟩
 simp only [aa.ae] at hw hP hp hn hl hW hv
 obtain h1 | h1 : decide ((W.length : Int) > 40) = true \/ decide ((W.length : Int) > 40) = false:=by cases decide ((W.length : Int) > 40) <;> simp
 ·rw [show adm n L p W = 2 by unfold adm;rw [h1]]
  repeat' ((conv => whnf);first | apply And.intro | (intro h9;try (have h8 : (_ : Bool) = _:=h9;clear h8;revert h9;subst_vars;intro h9;exact aq h9 (by assumption))))
  all_goals try (conv => whnf)
  all_goals try first | (apply Tk.mk <;> kernel_rfl) | exact ⟨ah rfl⟩ | exact ⟨rfl⟩ | exact ⟨trivial⟩
  all_goals subst_vars
  all_goals try first | rfl | contradiction | (apply Ob.mk;first | (simp only [ag,ak,aa.ae];omega) | ((try simp only [aa.ae]);(try dsimp only);omega))
 have R8 : W.length <= 40:=by have:=of_decide_eq_false h1;omega
 repeat' ((conv => whnf);first | apply And.intro | (intro h9;try (have h8 : (_ : Bool) = _:=h9;clear h8;revert h9;subst_vars;intro h9;exact aq h9 (by assumption))))
 all_goals try (conv => whnf)
 all_goals try first | (apply Tk.mk <;> kernel_rfl) | exact ⟨ah rfl⟩ | exact ⟨rfl⟩ | exact ⟨trivial⟩
 all_goals subst_vars
 all_goals try first | rfl | contradiction | (apply Ob.mk;first | (simp only [ag,ak,aa.ae];omega) | ((try simp only [aa.ae]);(try dsimp only);omega))
 refine ⟨Nat,fun i => i <= W.length /\ W.any fW = (W.drop i).any fW,fun i => ⟨aI 58 [1,2,3,7] [.a (vI p),.a (.sl 1 [] 0 W.length),.a (.p 2 [] 0 0),.a (vI i)],[],[.arr 46 kW L false false,.arr 49 kT W false false,.box true [vI n,vI P,.sl 0 [] 0 L.length]]⟩,fun i => W.length - i,0,[],⟨Nat.zero_le _,rfl⟩,?_,?_⟩
 ·repeat' ((conv => whnf);(first | apply And.intro | intro _))
  all_goals first | rfl | trivial | exact ah rfl | exact aS ‹_› rfl | exact aT ‹_› rfl | ((repeat' first | rfl | constructor);done)
 rintro i ⟨hi,hf⟩
 by_cases hi1 : i < W.length
 ·have p0 : decide ((i : Int) < (W.length : Int)) = true:=decide_eq_true (by omega)
  have gr:=wV W i
  have ge : W.getD i [] = bh W i:=gr.symm
  obtain b1 | b1 : decide (((bh W i).length : Int) > 96) = true \/ decide (((bh W i).length : Int) > 96) = false:=by cases decide (((bh W i).length : Int) > 96) <;> simp
  ·have agM : fW (bh W i) = true:=by unfold fW;exact b1
   rw [show adm n L p W = 2 by
    have : cK L W = 2:=by unfold cK;rw [hf.trans (wg hi1 (d:=[]) (by rw [ge];exact agM))]
    unfold adm;rw [h1,this];rfl]
   repeat' ((conv => whnf);first | apply And.intro | (intro h9;try (have h8 : (_ : Bool) = _:=h9;clear h8;revert h9;subst_vars;intro h9;exact aq h9 (by assumption))))
   all_goals try (conv => whnf)
   all_goals try first | (apply Tk.mk <;> kernel_rfl) | exact ⟨ah rfl⟩ | exact ⟨rfl⟩ | exact ⟨trivial⟩
   all_goals subst_vars
   all_goals try first | rfl | contradiction | (apply Ob.mk;first | (simp only [ag,ak,aa.ae];omega) | ((try simp only [aa.ae]);(try dsimp only);omega))
   all_goals first
    | exact ⟨show 0 + Int.toNat (i : Int) < W.length by omega⟩
  have agM : fW (bh W i) = false:=by unfold fW;exact b1
  have jH:=hf.trans (zx hi1 (d:=[]) (by rw [ge];exact agM))
  repeat' ((conv => whnf);first | apply And.intro | (intro h9;try (have h8 : (_ : Bool) = _:=h9;clear h8;revert h9;subst_vars;intro h9;exact aq h9 (by assumption))))
  all_goals try (conv => whnf)
  all_goals try first | (apply Tk.mk <;> kernel_rfl) | exact ⟨ah rfl⟩ | exact ⟨rfl⟩ | exact ⟨trivial⟩
  all_goals subst_vars
  all_goals try first | rfl | contradiction | (apply Ob.mk;first | (simp only [ag,ak,aa.ae];omega) | ((try simp only [aa.ae]);(try dsimp only);omega))
  all_goals try first
   | exact ⟨show 0 + Int.toNat (i : Int) < W.length by omega⟩
  refine ⟨i + 1,[],⟨hi1,jH⟩,?_,by show W.length - (i + 1) < W.length - i;omega⟩
  repeat' ((conv => whnf);(first | apply And.intro | intro _))
  all_goals first | rfl | trivial | exact ah rfl | exact aS ‹_› rfl | exact aT ‹_› rfl | ((repeat' first | rfl | constructor);done)
 have p0 : decide ((i : Int) < (W.length : Int)) = false:=decide_eq_false (by omega)
 have hsh : W.any fW = false:=hf.trans (we (by omega))
 clear hf
 repeat' ((conv => whnf);first | apply And.intro | (intro h9;try (have h8 : (_ : Bool) = _:=h9;clear h8;revert h9;subst_vars;intro h9;exact aq h9 (by assumption))))
 all_goals try (conv => whnf)
 all_goals try first | (apply Tk.mk <;> kernel_rfl) | exact ⟨ah rfl⟩ | exact ⟨rfl⟩ | exact ⟨trivial⟩
 all_goals subst_vars
 all_goals try first | rfl | contradiction | (apply Ob.mk;first | (simp only [ag,ak,aa.ae];omega) | ((try simp only [aa.ae]);(try dsimp only);omega))
 refine ⟨Nat,fun i => i <= W.length /\ W.any (fun w => !bN L w) = (W.drop i).any (fun w => !bN L w),fun i => ⟨aI 58 [1,2,3,8] [.a (vI p),.a (.sl 1 [] 0 W.length),.a (.p 2 [] 0 0),.a (vI i)],[],[.arr 46 kW L false false,.arr 49 kT W false false,.box true [vI n,vI P,.sl 0 [] 0 L.length]]⟩,fun i => W.length - i,0,[],⟨Nat.zero_le _,rfl⟩,?_,?_⟩
 ·repeat' ((conv => whnf);(first | apply And.intro | intro _))
  all_goals first | rfl | trivial | exact ah rfl | exact aS ‹_› rfl | exact aT ‹_› rfl | ((repeat' first | rfl | constructor);done)
 rintro i ⟨hi,hf⟩
 by_cases hi1 : i < W.length
 ·have p0 : decide ((i : Int) < (W.length : Int)) = true:=decide_eq_true (by omega)
  have gr:=wV W i
  have ge : W.getD i [] = bh W i:=gr.symm
  have hm : bh W i ∈ W:=by rw [gr];exact AA hi1
  have gv : (bh W i).length <= 1000000:=hv _ hm
  have hnl : fW (bh W i) = false:=by simpa using List.any_eq_false.1 hsh _ hm
  obtain b1 | b1 : bN L (bh W i) = true \/ bN L (bh W i) = false:=by cases bN L (bh W i) <;> simp
  ·have hle : (dc L (bh W i) != 0) = false:=by unfold dc;rw [hnl,b1];rfl
   have jH:=hf.trans (zx hi1 (d:=[]) (by rw [ge,b1];rfl))
   repeat' ((conv => whnf);first | apply And.intro | (intro h9;try (have h8 : (_ : Bool) = _:=h9;clear h8;revert h9;subst_vars;intro h9;exact aq h9 (by assumption))))
   all_goals try (conv => whnf)
   all_goals try first | (apply Tk.mk <;> kernel_rfl) | exact ⟨ah rfl⟩ | exact ⟨rfl⟩ | exact ⟨trivial⟩
   all_goals subst_vars
   all_goals try first | rfl | contradiction | (apply Ob.mk;first | (simp only [ag,ak,aa.ae];omega) | ((try simp only [aa.ae]);(try dsimp only);omega))
   all_goals try first
    | exact ⟨hl⟩
    | exact ⟨gv⟩
    | exact ⟨show 0 + Int.toNat (i : Int) < W.length by omega⟩
   refine ⟨i + 1,[],⟨hi1,jH⟩,?_,by show W.length - (i + 1) < W.length - i;omega⟩
   repeat' ((conv => whnf);(first | apply And.intro | intro _))
   all_goals first | rfl | trivial | exact ah rfl | exact aS ‹_› rfl | exact aT ‹_› rfl | ((repeat' first | rfl | constructor);done)
  have hle : (dc L (bh W i) != 0) = true:=by unfold dc;rw [hnl,b1];rfl
  rw [show adm n L p W = dc L (bh W i) by
   have e1 : cK L W = 1:=by unfold cK;rw [hsh,hf.trans (wg hi1 (d:=[]) (by rw [ge,b1];rfl))]
   have e2 : dc L (bh W i) = 1:=by unfold dc;rw [hnl,b1]
   unfold adm;rw [h1,e1,e2];rfl]
  repeat' ((conv => whnf);first | apply And.intro | (intro h9;try (have h8 : (_ : Bool) = _:=h9;clear h8;revert h9;subst_vars;intro h9;exact aq h9 (by assumption))))
  all_goals try (conv => whnf)
  all_goals try first | (apply Tk.mk <;> kernel_rfl) | exact ⟨ah rfl⟩ | exact ⟨rfl⟩ | exact ⟨trivial⟩
  all_goals subst_vars
  all_goals try first | rfl | contradiction | (apply Ob.mk;first | (simp only [ag,ak,aa.ae];omega) | ((try simp only [aa.ae]);(try dsimp only);omega))
  all_goals first
   | exact ⟨hl⟩
   | exact ⟨gv⟩
   | exact ⟨show 0 + Int.toNat (i : Int) < W.length by omega⟩
 have p0 : decide ((i : Int) < (W.length : Int)) = false:=decide_eq_false (by omega)
 have hst : W.any (fun w => !bN L w) = false:=hf.trans (we (by omega))
 clear hi1 hf
 have Vn : cK L W = 0:=by unfold cK;rw [hsh,hst]
 have gT:=tv Vn
 have nv:=D8 (L:=L) (p:=p) (W:=W) (Nat.le_refl _)
 rw [List.take_length] at nv
 rw [show adm n L p W = abz n L p W by unfold adm;rw [h1,Vn];rfl]
 obtain c1 | c1 : W.all (qK L p) = false \/ W.all (qK L p) = true:=by cases W.all (qK L p) <;> simp
 ·rw [show abz n L p W = 8 by unfold abz;rw [c1]]
  repeat' ((conv => whnf);first | apply And.intro | (intro h9;try (have h8 : (_ : Bool) = _:=h9;clear h8;revert h9;subst_vars;intro h9;exact aq h9 (by assumption))))
  all_goals try (conv => whnf)
  all_goals try first | (apply Tk.mk <;> kernel_rfl) | exact ⟨ah rfl⟩ | exact ⟨rfl⟩ | exact ⟨trivial⟩
  all_goals subst_vars
  all_goals try first | rfl | contradiction | (apply Ob.mk;first | (simp only [ag,ak,aa.ae];omega) | ((try simp only [aa.ae]);(try dsimp only);omega))
  all_goals first
   | exact ⟨hw⟩
   | exact ⟨hl⟩
   | exact ⟨hW⟩
   | exact ⟨gT⟩
 have Q7:=HZ (cW.1 hw) (fun w hw' => (gT w hw').1) c1
 have aae : ∀ g ∈ ag2 L p W,0 <= g.1 /\ g.1 <= 7:=fun g hg => rT (cW.1 hw) (Q7 g hg)
 have aad : (ag2 L p W).length <= 1000000:=by omega
 obtain d1 | d1 : eH n (ag2 L p W) = false \/ eH n (ag2 L p W) = true:=by cases eH n (ag2 L p W) <;> simp
 ·have d2 : (!eH n (ag2 L p W)) = true:=by rw [d1];rfl
  rw [show abz n L p W = 8 by unfold abz;rw [c1];dsimp only;rw [d1]]
  repeat' ((conv => whnf);first | apply And.intro | (intro h9;try (have h8 : (_ : Bool) = _:=h9;clear h8;revert h9;subst_vars;intro h9;exact aq h9 (by assumption))))
  all_goals try (conv => whnf)
  all_goals try first | (apply Tk.mk <;> kernel_rfl) | exact ⟨ah rfl⟩ | exact ⟨rfl⟩ | exact ⟨trivial⟩
  all_goals subst_vars
  all_goals try first | rfl | contradiction | (apply Ob.mk;first | (simp only [ag,ak,aa.ae];omega) | ((try simp only [aa.ae]);(try dsimp only);omega))
  all_goals first
   | exact ⟨hw⟩
   | exact ⟨hl⟩
   | exact ⟨hW⟩
   | exact ⟨gT⟩
   | exact ⟨aae⟩
   | exact ⟨aad⟩
   | exact ⟨nv.symm⟩
 have d2 : (!eH n (ag2 L p W)) = false:=by rw [d1];rfl
 rw [show abz n L p W = 0 by unfold abz;rw [c1];dsimp only;rw [d1]]
 repeat' ((conv => whnf);first | apply And.intro | (intro h9;try (have h8 : (_ : Bool) = _:=h9;clear h8;revert h9;subst_vars;intro h9;exact aq h9 (by assumption))))
 all_goals try (conv => whnf)
 all_goals try first | (apply Tk.mk <;> kernel_rfl) | exact ⟨ah rfl⟩ | exact ⟨rfl⟩ | exact ⟨trivial⟩
 all_goals subst_vars
 all_goals try first | rfl | contradiction | (apply Ob.mk;first | (simp only [ag,ak,aa.ae];omega) | ((try simp only [aa.ae]);(try dsimp only);omega))
 all_goals first
  | exact ⟨hw⟩
  | exact ⟨hl⟩
  | exact ⟨hW⟩
  | exact ⟨gT⟩
  | exact ⟨aae⟩
  | exact ⟨aad⟩
  | exact ⟨nv.symm⟩)
end Go.Proofs.YthejmgnkenokpaaGreatDoor
end
section
namespace Go.Proofs.YthejmgnkenokpaaGreatDoor
open Go Go.Sy Go.bK
variable {Γ : bn}
def PA (D : List Int -> List Int -> List aa) (F : List Int -> List Int -> Tm) : au:=.fn fun args rg => match args with
 | [.a x0,.a x1] => (match ac1 3 kI rg x0,ac1 3 kI rg x1 with | some (q0,L0),some (q1,L1) => some (q0 ++ (q1 ++ (D L0 L1)),F L0 L1) | _,_ => none)
 | _ => none
theorem MK {f : FuncId} {b : Body} {E : Env} {d : Nat} (hP : aL Tryz.prog Γ E) (hb : bQ Tryz.prog f b) {D : List Int -> List Int -> List aa} {F : List Int -> List Int -> Tm} (hp : ∀ (L0 : List Int) (L1 : List Int),(F L0 L1).plain = true)
  (H : ∀ (L0 : List Int) (L1 : List Int),bW (D L0 L1) -> cQ E d b [.a (.sl 0 [] 0 L0.length),.a (.sl 1 [] 0 L1.length)] [.arr 3 kI L0 false false,.arr 3 kI L1 false false] (fun x _ => iL x (F L0 L1))) : au.Ok Tryz.prog Γ f (PA D F):=au.er (d:=d) hP hb (by
 intro args rg q t hF hq
 split at hF
 next x0 x1 =>
  split at hF
  next q0 L0 q1 L1 hx0 cO =>
   obtain ⟨rfl,rfl⟩:=Prod.mk.inj (Option.some.inj hF);clear hF
   rw [aH,aH] at hq
   obtain ⟨dm,gk,hD⟩:=hq
   obtain ⟨e0,Vn⟩:=bP (by simp [kI]) hx0 dm
   obtain ⟨e1,iO⟩:=bP (by simp [kI]) cO gk
   obtain ⟨p0,r0⟩:=Vn [e0,e1] 0 2 rfl (by omega)
   obtain ⟨p1,r1⟩:=iO [e0,e1] 1 2 rfl (by omega)
   refine ⟨hp _ _,[e0,e1],[.a (.sl 0 [] 0 L0.length),.a (.sl 1 [] 0 L1.length)],[.arr 3 kI L0 false false,.arr 3 kI L1 false false],⟨⟨p0,p1,trivial⟩,fun r g hg => ?_⟩,H _ _ hD⟩
   match r,hg with
   | 0,hg => obtain rfl:=Option.some.inj hg;exact r0
   | 1,hg => obtain rfl:=Option.some.inj hg;exact r1
  next => cases hF
 next => cases hF)
def Pz (D : List Sg -> List Sg -> List aa) (F : List Sg -> List Sg -> Tm) : au:=.fn fun args rg => match args with
 | [.a x0,.a x1] => (match ac1 48 kG rg x0,ac1 48 kG rg x1 with | some (q0,L0),some (q1,L1) => some (q0 ++ (q1 ++ (D L0 L1)),F L0 L1) | _,_ => none)
 | _ => none
theorem MJ {f : FuncId} {b : Body} {E : Env} {d : Nat} (hP : aL Tryz.prog Γ E) (hb : bQ Tryz.prog f b) {D : List Sg -> List Sg -> List aa} {F : List Sg -> List Sg -> Tm} (hp : ∀ (L0 : List Sg) (L1 : List Sg),(F L0 L1).plain = true)
  (H : ∀ (L0 : List Sg) (L1 : List Sg),bW (D L0 L1) -> cQ E d b [.a (.sl 0 [] 0 L0.length),.a (.sl 1 [] 0 L1.length)] [.arr 48 kG L0 false false,.arr 48 kG L1 false false] (fun x _ => iL x (F L0 L1))) : au.Ok Tryz.prog Γ f (Pz D F):=au.er (d:=d) hP hb (by
 intro args rg q t hF hq
 split at hF
 next x0 x1 =>
  split at hF
  next q0 L0 q1 L1 hx0 cO =>
   obtain ⟨rfl,rfl⟩:=Prod.mk.inj (Option.some.inj hF);clear hF
   rw [aH,aH] at hq
   obtain ⟨dm,gk,hD⟩:=hq
   obtain ⟨e0,Vn⟩:=bP (by simp [kG]) hx0 dm
   obtain ⟨e1,iO⟩:=bP (by simp [kG]) cO gk
   obtain ⟨p0,r0⟩:=Vn [e0,e1] 0 2 rfl (by omega)
   obtain ⟨p1,r1⟩:=iO [e0,e1] 1 2 rfl (by omega)
   refine ⟨hp _ _,[e0,e1],[.a (.sl 0 [] 0 L0.length),.a (.sl 1 [] 0 L1.length)],[.arr 48 kG L0 false false,.arr 48 kG L1 false false],⟨⟨p0,p1,trivial⟩,fun r g hg => ?_⟩,H _ _ hD⟩
   match r,hg with
   | 0,hg => obtain rfl:=Option.some.inj hg;exact r0
   | 1,hg => obtain rfl:=Option.some.inj hg;exact r1
  next => cases hF
 next => cases hF)
theorem AU (G : List Int) (i : Nat) : av G i = G.getD i 0:=dP G i
def uA : au:=PA (fun A B => [(aa.of (A.length <= 1000000)),(aa.of (B.length <= 1000000))]) (fun A B => bl (A == B))
theorem yG : au.Ok Tryz.prog Γ 26 uA:=MK (d:=0) (aP aR.nil bq.nil false 0) (aj Tryz.func26 rfl rfl) (fun _ _ => rfl) (by
 intro A B ⟨hA,hB,_⟩
 simp only [aa.ae] at hA hB
 by_cases hl : A.length = B.length
 ·have e0 : ((A.length : Int) != (B.length : Int)) = false:=by rw [hl];exact bne_self_eq_false _
  repeat' ((conv => whnf);first | apply And.intro | (intro h9;try (have h8 : (_ : Bool) = _:=h9;clear h8;revert h9;subst_vars;intro h9;exact aq h9 (by assumption))))
  all_goals try (conv => whnf)
  all_goals try first | (apply Tk.mk <;> kernel_rfl) | exact ⟨ah rfl⟩ | exact ⟨rfl⟩ | exact ⟨trivial⟩
  all_goals subst_vars
  all_goals try first | rfl | contradiction | (apply Ob.mk;first | (simp only [ag,ak,aa.ae];omega) | ((try simp only [aa.ae]);(try dsimp only);omega))
  refine ⟨Nat,fun i => i <= A.length /\ ∀ j,j < i -> A.getD j (0) = B.getD j (0),fun i => ⟨aI 26 [0,1,5] [.a (.sl 0 [] 0 A.length),.a (.sl 1 [] 0 B.length),.a (vI i)],[],[.arr 3 kI A false false,.arr 3 kI B false false]⟩,fun i => A.length - i,0,[],⟨Nat.zero_le _,fun _ h => absurd h (Nat.not_lt_zero _)⟩,?_,?_⟩
  ·repeat' ((conv => whnf);(first | apply And.intro | intro _))
   all_goals first | rfl | trivial | exact ah rfl | exact aS ‹_› rfl | exact aT ‹_› rfl | ((repeat' first | rfl | constructor);done)
  rintro i ⟨hi,hs⟩
  by_cases hi1 : i < A.length
  ·have p0 : decide ((i : Int) < (A.length : Int)) = true:=decide_eq_true (by omega)
   have ea:=AU A i
   have eb:=AU B i
   cases hb : (av A i == av B i)
   ·have e1 : (!(av A i == av B i)) = true:=by rw [hb];rfl
    rw [D5 (A:=A) (B:=B) (d:=0) (i:=i) (fun e => by
     have e3 : av A i = av B i:=by rw [ea,eb];exact e
     rw [e3] at hb;revert hb;simp)]
    repeat' ((conv => whnf);first | apply And.intro | (intro h9;try (have h8 : (_ : Bool) = _:=h9;clear h8;revert h9;subst_vars;intro h9;exact aq h9 (by assumption))))
    all_goals try (conv => whnf)
    all_goals try first | (apply Tk.mk <;> kernel_rfl) | exact ⟨ah rfl⟩ | exact ⟨rfl⟩ | exact ⟨trivial⟩
    all_goals subst_vars
    all_goals try first | rfl | contradiction | (apply Ob.mk;first | (simp only [ag,ak,aa.ae];omega) | ((try simp only [aa.ae]);(try dsimp only);omega))
    all_goals first
     | exact ⟨show 0 + Int.toNat (i : Int) < A.length by omega⟩
     | exact ⟨show 0 + Int.toNat (i : Int) < B.length by omega⟩
   have e1 : (!(av A i == av B i)) = false:=by rw [hb];rfl
   have pT : ∀ j,j < i + 1 -> A.getD j (0) = B.getD j (0):=fun j hj => (Nat.lt_succ_iff_lt_or_eq.1 hj).elim (hs j) (fun e => by
    rw [e]
    refine ea.symm.trans (Eq.trans ?_ eb)
    exact eq_of_beq hb)
   repeat' ((conv => whnf);first | apply And.intro | (intro h9;try (have h8 : (_ : Bool) = _:=h9;clear h8;revert h9;subst_vars;intro h9;exact aq h9 (by assumption))))
   all_goals try (conv => whnf)
   all_goals try first | (apply Tk.mk <;> kernel_rfl) | exact ⟨ah rfl⟩ | exact ⟨rfl⟩ | exact ⟨trivial⟩
   all_goals subst_vars
   all_goals try first | rfl | contradiction | (apply Ob.mk;first | (simp only [ag,ak,aa.ae];omega) | ((try simp only [aa.ae]);(try dsimp only);omega))
   all_goals try first
    | exact ⟨show 0 + Int.toNat (i : Int) < A.length by omega⟩
    | exact ⟨show 0 + Int.toNat (i : Int) < B.length by omega⟩
   refine ⟨i + 1,[],⟨hi1,pT⟩,?_,by show A.length - (i + 1) < A.length - i;omega⟩
   repeat' ((conv => whnf);(first | apply And.intro | intro _))
   all_goals first | rfl | trivial | exact ah rfl | exact aS ‹_› rfl | exact aT ‹_› rfl | ((repeat' first | rfl | constructor);done)
  have p0 : decide ((i : Int) < (A.length : Int)) = false:=decide_eq_false (by omega)
  rw [BO (A:=A) (B:=B) (d:=0) hl (fun j hj => hs j (by omega))]
  repeat' ((conv => whnf);first | apply And.intro | (intro h9;try (have h8 : (_ : Bool) = _:=h9;clear h8;revert h9;subst_vars;intro h9;exact aq h9 (by assumption))))
  all_goals try (conv => whnf)
  all_goals try first | (apply Tk.mk <;> kernel_rfl) | exact ⟨ah rfl⟩ | exact ⟨rfl⟩ | exact ⟨trivial⟩
  all_goals subst_vars
  all_goals try first | rfl | contradiction | (apply Ob.mk;first | (simp only [ag,ak,aa.ae];omega) | ((try simp only [aa.ae]);(try dsimp only);omega))
 have e0 : ((A.length : Int) != (B.length : Int)) = true:=by rw [bne_iff_ne];omega
 rw [BN hl]
 repeat' ((conv => whnf);first | apply And.intro | (intro h9;try (have h8 : (_ : Bool) = _:=h9;clear h8;revert h9;subst_vars;intro h9;exact aq h9 (by assumption))))
 all_goals try (conv => whnf)
 all_goals try first | (apply Tk.mk <;> kernel_rfl) | exact ⟨ah rfl⟩ | exact ⟨rfl⟩ | exact ⟨trivial⟩
 all_goals subst_vars
 all_goals try first | rfl | contradiction | (apply Ob.mk;first | (simp only [ag,ak,aa.ae];omega) | ((try simp only [aa.ae]);(try dsimp only);omega)))
def sQ : au:=Pz (fun A B => [(aa.of (A.length <= 1000000)),(aa.of (B.length <= 1000000))]) (fun A B => bl (A == B))
theorem Z0 : au.Ok Tryz.prog Γ 28 sQ:=MJ (d:=0) (aP aR.nil bq.nil false 0) (aj Tryz.func28 rfl rfl) (fun _ _ => rfl) (by
 intro A B ⟨hA,hB,_⟩
 simp only [aa.ae] at hA hB
 by_cases hl : A.length = B.length
 ·have e0 : ((A.length : Int) != (B.length : Int)) = false:=by rw [hl];exact bne_self_eq_false _
  repeat' ((conv => whnf);first | apply And.intro | (intro h9;try (have h8 : (_ : Bool) = _:=h9;clear h8;revert h9;subst_vars;intro h9;exact aq h9 (by assumption))))
  all_goals try (conv => whnf)
  all_goals try first | (apply Tk.mk <;> kernel_rfl) | exact ⟨ah rfl⟩ | exact ⟨rfl⟩ | exact ⟨trivial⟩
  all_goals subst_vars
  all_goals try first | rfl | contradiction | (apply Ob.mk;first | (simp only [ag,ak,aa.ae];omega) | ((try simp only [aa.ae]);(try dsimp only);omega))
  refine ⟨Nat,fun i => i <= A.length /\ ∀ j,j < i -> A.getD j ((0,false)) = B.getD j ((0,false)),fun i => ⟨aI 26 [0,1,5] [.a (.sl 0 [] 0 A.length),.a (.sl 1 [] 0 B.length),.a (vI i)],[],[.arr 48 kG A false false,.arr 48 kG B false false]⟩,fun i => A.length - i,0,[],⟨Nat.zero_le _,fun _ h => absurd h (Nat.not_lt_zero _)⟩,?_,?_⟩
  ·repeat' ((conv => whnf);(first | apply And.intro | intro _))
   all_goals first | rfl | trivial | exact ah rfl | exact aS ‹_› rfl | exact aT ‹_› rfl | ((repeat' first | rfl | constructor);done)
  rintro i ⟨hi,hs⟩
  by_cases hi1 : i < A.length
  ·have p0 : decide ((i : Int) < (A.length : Int)) = true:=decide_eq_true (by omega)
   have ea:=BP A i
   have eb:=BP B i
   cases hb : ((bI A i).1 == (bI B i).1 && ((bI A i).2 == (bI B i).2 && true))
   ·have e1 : (!((bI A i).1 == (bI B i).1 && ((bI A i).2 == (bI B i).2 && true))) = true:=by rw [hb];rfl
    rw [D5 (A:=A) (B:=B) (d:=(0,false)) (i:=i) (fun e => by
     have e3 : bI A i = bI B i:=by rw [ea,eb];exact e
     rw [e3] at hb;revert hb;simp)]
    repeat' ((conv => whnf);first | apply And.intro | (intro h9;try (have h8 : (_ : Bool) = _:=h9;clear h8;revert h9;subst_vars;intro h9;exact aq h9 (by assumption))))
    all_goals try (conv => whnf)
    all_goals try first | (apply Tk.mk <;> kernel_rfl) | exact ⟨ah rfl⟩ | exact ⟨rfl⟩ | exact ⟨trivial⟩
    all_goals subst_vars
    all_goals try first | rfl | contradiction | (apply Ob.mk;first | (simp only [ag,ak,aa.ae];omega) | ((try simp only [aa.ae]);(try dsimp only);omega))
    all_goals first
     | exact ⟨show 0 + Int.toNat (i : Int) < A.length by omega⟩
     | exact ⟨show 0 + Int.toNat (i : Int) < B.length by omega⟩
   have e1 : (!((bI A i).1 == (bI B i).1 && ((bI A i).2 == (bI B i).2 && true))) = false:=by rw [hb];rfl
   have pT : ∀ j,j < i + 1 -> A.getD j ((0,false)) = B.getD j ((0,false)):=fun j hj => (Nat.lt_succ_iff_lt_or_eq.1 hj).elim (hs j) (fun e => by
    rw [e]
    refine ea.symm.trans (Eq.trans ?_ eb)
    simp only [Bool.and_true,Bool.and_eq_true,beq_iff_eq] at hb;exact Prod.ext hb.1 hb.2)
   repeat' ((conv => whnf);first | apply And.intro | (intro h9;try (have h8 : (_ : Bool) = _:=h9;clear h8;revert h9;subst_vars;intro h9;exact aq h9 (by assumption))))
   all_goals try (conv => whnf)
   all_goals try first | (apply Tk.mk <;> kernel_rfl) | exact ⟨ah rfl⟩ | exact ⟨rfl⟩ | exact ⟨trivial⟩
   all_goals subst_vars
   all_goals try first | rfl | contradiction | (apply Ob.mk;first | (simp only [ag,ak,aa.ae];omega) | ((try simp only [aa.ae]);(try dsimp only);omega))
   all_goals try first
    | exact ⟨show 0 + Int.toNat (i : Int) < A.length by omega⟩
    | exact ⟨show 0 + Int.toNat (i : Int) < B.length by omega⟩
   refine ⟨i + 1,[],⟨hi1,pT⟩,?_,by show A.length - (i + 1) < A.length - i;omega⟩
   repeat' ((conv => whnf);(first | apply And.intro | intro _))
   all_goals first | rfl | trivial | exact ah rfl | exact aS ‹_› rfl | exact aT ‹_› rfl | ((repeat' first | rfl | constructor);done)
  have p0 : decide ((i : Int) < (A.length : Int)) = false:=decide_eq_false (by omega)
  rw [BO (A:=A) (B:=B) (d:=(0,false)) hl (fun j hj => hs j (by omega))]
  repeat' ((conv => whnf);first | apply And.intro | (intro h9;try (have h8 : (_ : Bool) = _:=h9;clear h8;revert h9;subst_vars;intro h9;exact aq h9 (by assumption))))
  all_goals try (conv => whnf)
  all_goals try first | (apply Tk.mk <;> kernel_rfl) | exact ⟨ah rfl⟩ | exact ⟨rfl⟩ | exact ⟨trivial⟩
  all_goals subst_vars
  all_goals try first | rfl | contradiction | (apply Ob.mk;first | (simp only [ag,ak,aa.ae];omega) | ((try simp only [aa.ae]);(try dsimp only);omega))
 have e0 : ((A.length : Int) != (B.length : Int)) = true:=by rw [bne_iff_ne];omega
 rw [BN hl]
 repeat' ((conv => whnf);first | apply And.intro | (intro h9;try (have h8 : (_ : Bool) = _:=h9;clear h8;revert h9;subst_vars;intro h9;exact aq h9 (by assumption))))
 all_goals try (conv => whnf)
 all_goals try first | (apply Tk.mk <;> kernel_rfl) | exact ⟨ah rfl⟩ | exact ⟨rfl⟩ | exact ⟨trivial⟩
 all_goals subst_vars
 all_goals try first | rfl | contradiction | (apply Ob.mk;first | (simp only [ag,ak,aa.ae];omega) | ((try simp only [aa.ae]);(try dsimp only);omega)))
end Go.Proofs.YthejmgnkenokpaaGreatDoor
end
