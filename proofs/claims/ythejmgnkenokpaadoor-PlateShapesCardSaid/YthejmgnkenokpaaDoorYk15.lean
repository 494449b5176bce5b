/-
  Texts of the claims on chapter 3: Yk15. No condition: lemmas and contracts.
-/
import Derived.Test.YthejmgnkenokpaaDoorYk12
import Derived.Test.YthejmgnkenokpaaDoorYk14
set_option linter.all false
set_option maxRecDepth 100000
set_option maxHeartbeats 4000000
section
namespace Go.Proofs.YthejmgnkenokpaaDoor
open Go Go.Sy Go.bK
variable {Γ : bn}
def abY (D : Int -> Int -> List Wk -> Int -> List Int -> List aa) (R : Int -> Int -> List Wk -> Int -> List Int -> cM) : au:=.new fun args rg K => match args with
 | [.agg [.v (.int .i64 n0),.v (.int .i64 n1),x0],.a (.v (.int .i64 n2)),.a x1] => (match ca 60 kW rg x0,ca 3 kI rg x1 with | some (q0,L0),some (q1,L1) => bk false (q0 ++ (q1 ++ (D n0 n1 L0 n2 L1))) (K (R n0 n1 L0 n2 L1)) | _,_ => False)
 | _ => False
theorem abZ {f : FuncId} {b : Body} {E : Env} {d : Nat} (hP : aL Tryd.prog Γ E) (hb : bQ Tryd.prog f b) {D : Int -> Int -> List Wk -> Int -> List Int -> List aa} {R : Int -> Int -> List Wk -> Int -> List Int -> cM}
  (H : ∀ (n0 : Int) (n1 : Int) (L0 : List Wk) (n2 : Int) (L1 : List Int) (K : cM -> Prop),bW (D n0 n1 L0 n2 L1) -> K (R n0 n1 L0 n2 L1) -> cQ E d b [.agg [vI n0,vI n1,.sl 0 [] 0 L0.length],.a (vI n2),.a (.sl 1 [] 0 L1.length)] [.arr 60 kW L0 false false,.arr 3 kI L1 false false] (bu K)) : au.Ok Tryd.prog Γ f (abY D R):=au.fM (d:=d) hP hb (by
 intro args rg K hF
 split at hF
 next n0 n1 x0 n2 x1 =>
  split at hF
  next q0 L0 q1 L1 hx0 cO =>
   rw [aV,aH,aH] at hF
   obtain ⟨⟨dm,gk,hD⟩,hK⟩:=hF
   obtain ⟨e0,Vn⟩:=bP (by simp [kW]) hx0 dm
   obtain ⟨e1,iO⟩:=bP (by simp [kI]) cO gk
   obtain ⟨p0,r0⟩:=Vn [e0,e1] 0 2 rfl (by omega)
   obtain ⟨p1,r1⟩:=iO [e0,e1] 1 2 rfl (by omega)
   refine ⟨[e0,e1],[.agg [vI n0,vI n1,.sl 0 [] 0 L0.length],.a (vI n2),.a (.sl 1 [] 0 L1.length)],[.arr 60 kW L0 false false,.arr 3 kI L1 false false],⟨⟨⟨rfl,rfl,p0,trivial⟩,rfl,p1,trivial⟩,fun r g hg => ?_⟩,bu K,H _ _ _ _ _ K hD hK,fun x st h => h⟩
   match r,hg with
   | 0,hg => obtain rfl:=Option.some.inj hg;exact r0
   | 1,hg => obtain rfl:=Option.some.inj hg;exact r1
  next => exact hF.elim
 next => exact hF.elim)
def oV (A W F H : List Int) (k y : Nat) : Int:=av W y * aO (bG F H k) (av A y) 0
def abF (A W F H : List Int) (N x k : Nat) : List Int:=(List.range N).map fun y => if y < x then oV A W F H F.length y else if y = x then oV A W F H k y else 0
theorem abP {A W F H : List Int} {N x k : Nat} : (abF A W F H N x k).length = N:=by simp [abF]
theorem abU {A W F H : List Int} {y : Nat} : oV A W F H 0 y = 0:=by
 unfold oV bG
 show _ * (0 : Int) = 0
 omega
theorem ab7 {A W F H : List Int} {N : Nat} : abF A W F H N 0 0 = List.replicate N 0:=by
 refine List.ext_getElem (by simp [abF]) fun j h1 h2 => ?_
 simp only [abF,List.getElem_map,List.getElem_range,List.getElem_replicate]
 rw [if_neg (Nat.not_lt_zero j)]
 split
 ·exact abU
 ·rfl
theorem ab6 {A W F H : List Int} {N x : Nat} : abF A W F H N x F.length = abF A W F H N (x + 1) 0:=by
 unfold abF
 refine List.map_congr_left fun y _ => ?_
 by_cases h : y < x
 ·rw [if_pos h,if_pos (by omega)]
 ·by_cases h2 : y = x
  ·subst h2;rw [if_neg h,if_pos rfl,if_pos (Nat.lt_succ_self y)]
  ·rw [if_neg h,if_neg h2,if_neg (by omega)]
   split
   ·exact abU.symm
   ·rfl
theorem acv {A W F H : List Int} {k y : Nat} (h : (av A y == av F k) = false) : oV A W F H (k + 1) y = oV A W F H k y:=by
 unfold oV
 rw [bG,lB,if_neg]
 intro e
 rw [<- dP] at e
 rw [<- e] at h;simp at h
theorem acr {A W F H : List Int} {k y : Nat} (h : (av A y == av F k) = true) : oV A W F H (k + 1) y = av W y * av H k:=by
 unfold oV
 rw [bG,lB,if_pos,dP H]
 rw [<- dP];exact (eq_of_beq h).symm
theorem ack {A W F H : List Int} {N x k : Nat} (h : (av A x == av F k) = false) : abF A W F H N x k = abF A W F H N x (k + 1):=by
 unfold abF
 refine List.map_congr_left fun y _ => ?_
 by_cases h2 : y = x
 ·subst h2;rw [acv h]
 ·rw [if_neg h2,if_neg h2]
theorem acd {A W F H : List Int} {N x k : Nat} (h : (av A x == av F k) = true) : (abF A W F H N x k).set (0 + Int.toNat (x : Int)) (av W x * av H k) = abF A W F H N x (k + 1):=by
 rw [Nat.zero_add,Int.toNat_natCast]
 refine List.ext_getElem (by simp [abF]) fun j h1 h2 => ?_
 rw [List.getElem_set]
 simp only [abF,List.getElem_map,List.getElem_range]
 by_cases h3 : x = j
 ·subst h3;rw [if_pos rfl,if_neg (Nat.lt_irrefl x),if_pos rfl,acr h]
 ·rw [if_neg h3]
  by_cases h4 : j < x
  ·rw [if_pos h4,if_pos h4]
  ·rw [if_neg h4,if_neg h4,if_neg (fun e => h3 e.symm),if_neg (fun e => h3 e.symm)]
theorem acj {A W F H : List Int} {N y : Nat} (h : y < N) : av (abF A W F H N N 0) y = oV A W F H F.length y:=by
 rw [dP]
 unfold gi abF
 rw [Int.toNat_natCast,List.getD_eq_getElem?_getD,List.getElem?_map,List.getElem?_range h]
 show (if y < N then _ else _) = _
 rw [if_pos h]
theorem ace {α : Type} (i : Nat) (x : α) : List.drop 0 (List.replicate i x) ++ [x] = List.replicate (i + 1) x:=by
 rw [List.drop_zero,List.replicate_succ']
def abK : au:=abY (fun n P L p H => [(aa.of (dY P L = true)),(aa.of (P <= 6)),(aa.of (L.length <= 1000000)),(aa.of (0 <= p /\ p <= P - 1)),(aa.of (1 <= n /\ n <= 6)),(aa.of (H.length = (aB n L p).length)),(aa.of (H.all hB = true))]) (fun n P L p H => ⟨[.arr 27 kT (eI n P L p (hF (aB n L p) H)) true true],.a (.sl 0 [] 0 P.toNat)⟩)
noncomputable def abT : List (Nat × au):=[(22,kx),(21,ei),(26,aaF),(62,aaH),(61,nQ)]
theorem abW : aR Tryd.prog Γ abT:=(((((aR.nil.cons (aj Tryd.func61 rfl rfl).fn Z2).cons (aj Tryd.func62 rfl rfl).fn aaI).cons (aj Tryd.func26 rfl rfl).fn aaG).cons (aj Tryd.func21 rfl rfl).fn acE).cons (aj Tryd.func22 rfl rfl).fn k8)
def acf (id : Nat) : Option OT:=match Nat.beq id 1 with | true => some (.take 0 (.take 3 (.alt 1 (.alt 2 (.alt 4 (.alt 5 (.alt 6 (.alt 7 .fin .fin) .fin) (.alt 6 (.alt 5 (.alt 7 .fin .fin) .fin) .fin)) (.alt 6 (.alt 4 (.alt 5 (.alt 7 .fin .fin) .fin) .fin) .fin)) (.alt 6 (.alt 2 (.alt 4 (.alt 5 (.alt 7 .fin .fin) .fin) .fin) .fin) .fin)) (.alt 2 (.alt 1 (.alt 4 (.alt 5 (.alt 6 (.alt 7 .fin .fin) .fin) (.alt 6 (.alt 5 (.alt 7 .fin .fin) .fin) .fin)) (.alt 6 (.alt 4 (.alt 5 (.alt 7 .fin .fin) .fin) .fin) .fin)) (.alt 4 (.alt 1 (.alt 5 (.alt 6 (.alt 7 .fin .fin) .fin) (.alt 6 (.alt 5 (.alt 7 .fin .fin) .fin) .fin)) (.alt 6 (.alt 1 (.alt 5 (.alt 7 .fin .fin) .fin) .fin) .fin)) (.alt 6 (.alt 1 (.alt 4 (.alt 5 (.alt 7 .fin .fin) .fin) .fin) (.alt 4 (.alt 1 (.alt 5 (.alt 7 .fin .fin) .fin) .fin) .fin)) .fin))) (.alt 6 (.alt 1 (.alt 2 (.alt 4 (.alt 5 (.alt 7 .fin .fin) .fin) .fin) .fin) (.alt 2 (.alt 1 (.alt 4 (.alt 5 (.alt 7 .fin .fin) .fin) .fin) (.alt 4 (.alt 1 (.alt 5 (.alt 7 .fin .fin) .fin) .fin) .fin)) .fin)) .fin))))) | false => none
noncomputable def abX : Env:={ jV.env abT [] false 0 with tree:=acf }
noncomputable def ab9 : Env:={ abX with cut:=fun t => Nat.beq t 2001 }
theorem abS : aL Tryd.prog Γ ab9:=((aP abW bq.nil false 0).vU _).wy _
attribute [local irreducible] af ap eI hF bG fO aX hB cI cN eR abF cy
theorem abO : au.Ok Tryd.prog Γ 29 abK:=abZ (d:=0) abS (aj Tryd.func29 rfl rfl) (by
 intro n P L p H K ⟨hw,hP,hl,hp,hn,ab4,ab2,_⟩ hK
 simp only [aa.ae] at hw hP hl hp hn ab4 ab2
 have lS:=cW.1 hw
 have hG:=nK lS hP hp
 have hgo : ∀ g ∈ (af L p),0 <= g.1 /\ g.1 <= 7:=hG.ok
 have dZ:=fj L p
 have j4 : 1 <= n * n /\ n * n <= 36:=sJ hn
 have l1:=tx n (af L p) (n * n).toNat
 have l2:=u5 n (af L p) (n * n).toNat
 have l3 : (cI n (af L p) (n * n).toNat).length = (cN n (af L p) (n * n).toNat).length:=l1.trans l2.symm
 have aag:=r9 (cI n (af L p) (n * n).toNat) (cN n (af L p) (n * n).toNat) (cI n (af L p) (n * n).toNat).length
 have acg : aB n L p = (eR (cI n (af L p) (n * n).toNat) (cN n (af L p) (n * n).toNat) (cI n (af L p) (n * n).toNat).length):=by unfold aB;rw [aaB,aaC hG hn]
 rw [acg] at hK ab4
 have Vj:=XN ab2
 repeat' ((conv => whnf);first | apply And.intro | (intro h9;try (have h8 : (_ : Bool) = _:=h9;clear h8;revert h9;subst_vars;intro h9;exact aq h9 (by assumption))))
 all_goals try (conv => whnf)
 all_goals try first | (apply Tk.mk <;> kernel_rfl) | exact ⟨ah rfl⟩ | exact ⟨rfl⟩ | exact ⟨trivial⟩
 all_goals subst_vars
 all_goals try first | rfl | contradiction | (apply Ob.mk;first | (simp only [ag,ak,aa.ae];omega) | ((try simp only [aa.ae]);(try dsimp only);omega))
 refine ⟨Unit,fun _ => True,fun _ => ⟨aI 128 [1,2,3,7] [.a (vI p),.a (.sl 1 [] 0 H.length),.a (.p 2 [] 0 0),.a (.p 5 [] 0 0)],[],[.arr 60 kW L false false,.arr 3 kI H false false,.box true [vI n,vI P,.sl 0 [] 0 L.length],.arr 3 kI (cI n (af L p) (n * n).toNat) true true,.arr 3 kI (cN n (af L p) (n * n).toNat) true true,.box true [.sl 3 [] 0 (cI n (af L p) (n * n).toNat).length,.sl 4 [] 0 (cN n (af L p) (n * n).toNat).length]]⟩,?_,?_⟩
 ·repeat' ((conv => whnf);first | apply And.intro | (intro h9;try (have h8 : (_ : Bool) = _:=h9;clear h8;revert h9;subst_vars;intro h9;exact aq h9 (by assumption))))
  all_goals try (conv => whnf)
  all_goals try first | (apply Tk.mk <;> kernel_rfl) | exact ⟨ah rfl⟩ | exact ⟨rfl⟩ | exact ⟨trivial⟩
  all_goals subst_vars
  all_goals try first | rfl | contradiction | (apply Ob.mk;first | (simp only [ag,ak,aa.ae];omega) | ((try simp only [aa.ae]);(try dsimp only);omega))
  all_goals try first
   | exact True.intro
   | exact ⟨hw⟩
   | exact ⟨hl⟩
   | exact ⟨hgo⟩
   | exact ⟨show (af L p).length <= 1000000 by omega⟩
  all_goals first
   | (refine ⟨(),[0,1,2,3,4,6],trivial,?_⟩
      repeat' ((conv => whnf);(first | apply And.intro | intro _))
      all_goals first | rfl | trivial | exact ah rfl | exact aS ‹_› rfl | exact aT ‹_› rfl | ((repeat' first | rfl | constructor);done)
      done)
   | (refine ⟨(),[0,1,2,4,5,6],trivial,?_⟩
      repeat' ((conv => whnf);(first | apply And.intro | intro _))
      all_goals first | rfl | trivial | exact ah rfl | exact aS ‹_› rfl | exact aT ‹_› rfl | ((repeat' first | rfl | constructor);done)
      done)
   | (refine ⟨(),[0,1,2,4,5,3],trivial,?_⟩
      repeat' ((conv => whnf);(first | apply And.intro | intro _))
      all_goals first | rfl | trivial | exact ah rfl | exact aS ‹_› rfl | exact aT ‹_› rfl | ((repeat' first | rfl | constructor);done)
      done)
   | (refine ⟨(),[0,1,2,5,6,3],trivial,?_⟩
      repeat' ((conv => whnf);(first | apply And.intro | intro _))
      all_goals first | rfl | trivial | exact ah rfl | exact aS ‹_› rfl | exact aT ‹_› rfl | ((repeat' first | rfl | constructor);done)
      done)
   | (refine ⟨(),[0,1,2,5,6,4],trivial,?_⟩
      repeat' ((conv => whnf);(first | apply And.intro | intro _))
      all_goals first | rfl | trivial | exact ah rfl | exact aS ‹_› rfl | exact aT ‹_› rfl | ((repeat' first | rfl | constructor);done)
      done)
 rintro ⟨⟩ -
 repeat' ((conv => whnf);first | apply And.intro | (intro h9;try (have h8 : (_ : Bool) = _:=h9;clear h8;revert h9;subst_vars;intro h9;exact aq h9 (by assumption))))
 all_goals try (conv => whnf)
 all_goals try first | (apply Tk.mk <;> kernel_rfl) | exact ⟨ah rfl⟩ | exact ⟨rfl⟩ | exact ⟨trivial⟩
 all_goals subst_vars
 all_goals try first | rfl | contradiction | (apply Ob.mk;first | (simp only [ag,ak,aa.ae];omega) | ((try simp only [aa.ae]);(try dsimp only);omega))
 all_goals try first
  | exact ⟨l3⟩
  | exact ⟨show (cI n (af L p) (n * n).toNat).length <= 1000000 by omega⟩
  | exact ⟨show n * n * ((1 : Nat) : Int) <= 16777216 by omega⟩
 refine ⟨Nat,fun x => x <= (n * n).toNat,fun x => ⟨aI 128 [1,2,3,7,8,9,10] [.a (vI p),.a (.sl 1 [] 0 H.length),.a (.p 2 [] 0 0),.a (.p 5 [] 0 0),.a (.sl 6 [] 0 (eR (cI n (af L p) (n * n).toNat) (cN n (af L p) (n * n).toNat) (cI n (af L p) (n * n).toNat).length).length),.a (.sl 7 [] 0 (n * n).toNat),.a (vI x)],[],[.arr 60 kW L false false,.arr 3 kI H false false,.box true [vI n,vI P,.sl 0 [] 0 L.length],.arr 3 kI (cI n (af L p) (n * n).toNat) true true,.arr 3 kI (cN n (af L p) (n * n).toNat) true true,.box true [.sl 3 [] 0 (cI n (af L p) (n * n).toNat).length,.sl 4 [] 0 (cN n (af L p) (n * n).toNat).length],.arr 3 kI (eR (cI n (af L p) (n * n).toNat) (cN n (af L p) (n * n).toNat) (cI n (af L p) (n * n).toNat).length) true true,.arr 3 kI (abF (cI n (af L p) (n * n).toNat) (cN n (af L p) (n * n).toNat) (eR (cI n (af L p) (n * n).toNat) (cN n (af L p) (n * n).toNat) (cI n (af L p) (n * n).toNat).length) H (n * n).toNat x 0) true true]⟩,fun x => (n * n).toNat - x,0,[],Nat.zero_le _,?_,?_⟩
 ·repeat' ((conv => whnf);(first | apply And.intro | intro _))
  all_goals first | rfl | trivial | exact ah rfl | exact aS ‹_› rfl | exact aT ‹_› rfl | ((repeat' first | rfl | constructor);done) | exact ⟨rfl,rfl,ab7.symm⟩
 rintro x hx
 by_cases cO : x < (n * n).toNat
 ·have p0 : decide ((x : Int) < (((n * n).toNat : Nat) : Int)) = true:=decide_eq_true (by omega)
  repeat' ((conv => whnf);first | apply And.intro | (intro h9;try (have h8 : (_ : Bool) = _:=h9;clear h8;revert h9;subst_vars;intro h9;exact aq h9 (by assumption))))
  all_goals try (conv => whnf)
  all_goals try first | (apply Tk.mk <;> kernel_rfl) | exact ⟨ah rfl⟩ | exact ⟨rfl⟩ | exact ⟨trivial⟩
  all_goals subst_vars
  all_goals try first | rfl | contradiction | (apply Ob.mk;first | (simp only [ag,ak,aa.ae];omega) | ((try simp only [aa.ae]);(try dsimp only);omega))
  refine ⟨Nat,fun k => k <= (eR (cI n (af L p) (n * n).toNat) (cN n (af L p) (n * n).toNat) (cI n (af L p) (n * n).toNat).length).length,fun k => ⟨aI 128 [1,2,3,7,8,9,10,11] [.a (vI p),.a (.sl 1 [] 0 H.length),.a (.p 2 [] 0 0),.a (.p 5 [] 0 0),.a (.sl 6 [] 0 (eR (cI n (af L p) (n * n).toNat) (cN n (af L p) (n * n).toNat) (cI n (af L p) (n * n).toNat).length).length),.a (.sl 7 [] 0 (n * n).toNat),.a (vI x),.a (vI k)],[],[.arr 60 kW L false false,.arr 3 kI H false false,.box true [vI n,vI P,.sl 0 [] 0 L.length],.arr 3 kI (cI n (af L p) (n * n).toNat) true true,.arr 3 kI (cN n (af L p) (n * n).toNat) true true,.box true [.sl 3 [] 0 (cI n (af L p) (n * n).toNat).length,.sl 4 [] 0 (cN n (af L p) (n * n).toNat).length],.arr 3 kI (eR (cI n (af L p) (n * n).toNat) (cN n (af L p) (n * n).toNat) (cI n (af L p) (n * n).toNat).length) true true,.arr 3 kI (abF (cI n (af L p) (n * n).toNat) (cN n (af L p) (n * n).toNat) (eR (cI n (af L p) (n * n).toNat) (cN n (af L p) (n * n).toNat) (cI n (af L p) (n * n).toNat).length) H (n * n).toNat x k) true true]⟩,fun k => (eR (cI n (af L p) (n * n).toNat) (cN n (af L p) (n * n).toNat) (cI n (af L p) (n * n).toNat).length).length - k,0,[],Nat.zero_le _,?_,?_⟩
  ·repeat' ((conv => whnf);(first | apply And.intro | intro _))
   all_goals first | rfl | trivial | exact ah rfl | exact aS ‹_› rfl | exact aT ‹_› rfl | ((repeat' first | rfl | constructor);done)
  rintro k hk
  by_cases cB : k < (eR (cI n (af L p) (n * n).toNat) (cN n (af L p) (n * n).toNat) (cI n (af L p) (n * n).toNat).length).length
  ·have p1 : decide ((k : Int) < ((eR (cI n (af L p) (n * n).toNat) (cN n (af L p) (n * n).toNat) (cI n (af L p) (n * n).toNat).length).length : Int)) = true:=decide_eq_true (by omega)
   have acB : (abF (cI n (af L p) (n * n).toNat) (cN n (af L p) (n * n).toNat) (eR (cI n (af L p) (n * n).toNat) (cN n (af L p) (n * n).toNat) (cI n (af L p) (n * n).toNat).length) H (n * n).toNat x k).length = (n * n).toNat:=abP
   have dI:=Vj k
   rw [<- dP] at dI
   have acq : av (cN n (af L p) (n * n).toNat) x = fO n (af L p) x:=by rw [dP,<- aaC hG hn];exact G4 hG hn ((ic hn).2 ⟨x,cO,rfl⟩)
   have So : -1099511627776 <= av (cN n (af L p) (n * n).toNat) x * av H k /\ av (cN n (af L p) (n * n).toNat) x * av H k <= 1099511627776:=by
    rw [acq]
    rcases JQ n (af L p) x with h | h | h <;> rw [h] <;> omega
   have dV : (ag .i64 (av (cN n (af L p) (n * n).toNat) x * av H k)).p:=by show ak .i64 _;unfold ak;omega
   obtain b1 | b1 : (av (cI n (af L p) (n * n).toNat) x == av (eR (cI n (af L p) (n * n).toNat) (cN n (af L p) (n * n).toNat) (cI n (af L p) (n * n).toNat).length) k) = false \/ (av (cI n (af L p) (n * n).toNat) x == av (eR (cI n (af L p) (n * n).toNat) (cN n (af L p) (n * n).toNat) (cI n (af L p) (n * n).toNat).length) k) = true:=by cases (av (cI n (af L p) (n * n).toNat) x == av (eR (cI n (af L p) (n * n).toNat) (cN n (af L p) (n * n).toNat) (cI n (af L p) (n * n).toNat).length) k) <;> simp
   ·have ab5:=ack (W:=(cN n (af L p) (n * n).toNat)) (H:=H) (N:=(n * n).toNat) b1
    repeat' ((conv => whnf);first | apply And.intro | (intro h9;try (have h8 : (_ : Bool) = _:=h9;clear h8;revert h9;subst_vars;intro h9;exact aq h9 (by assumption))))
    all_goals try (conv => whnf)
    all_goals try first | (apply Tk.mk <;> kernel_rfl) | exact ⟨ah rfl⟩ | exact ⟨rfl⟩ | exact ⟨trivial⟩
    all_goals subst_vars
    all_goals try first | rfl | contradiction | (apply Ob.mk;first | (simp only [ag,ak,aa.ae];omega) | ((try simp only [aa.ae]);(try dsimp only);omega))
    all_goals try first
     | exact ⟨show 0 + Int.toNat (x : Int) < (cI n (af L p) (n * n).toNat).length by omega⟩
     | exact ⟨show 0 + Int.toNat (k : Int) < (eR (cI n (af L p) (n * n).toNat) (cN n (af L p) (n * n).toNat) (cI n (af L p) (n * n).toNat).length).length by omega⟩
    refine ⟨k + 1,[],cB,?_,by show (eR (cI n (af L p) (n * n).toNat) (cN n (af L p) (n * n).toNat) (cI n (af L p) (n * n).toNat).length).length - (k + 1) < (eR (cI n (af L p) (n * n).toNat) (cN n (af L p) (n * n).toNat) (cI n (af L p) (n * n).toNat).length).length - k;omega⟩
    repeat' ((conv => whnf);(first | apply And.intro | intro _))
    all_goals first | rfl | trivial | exact ah rfl | exact aS ‹_› rfl | exact aT ‹_› rfl | ((repeat' first | rfl | constructor);done) | exact ⟨rfl,rfl,ab5⟩
   have ab5:=acd (W:=(cN n (af L p) (n * n).toNat)) (H:=H) (N:=(n * n).toNat) b1
   repeat' ((conv => whnf);first | apply And.intro | (intro h9;try (have h8 : (_ : Bool) = _:=h9;clear h8;revert h9;subst_vars;intro h9;exact aq h9 (by assumption))))
   all_goals try (conv => whnf)
   all_goals try first | (apply Tk.mk <;> kernel_rfl) | exact ⟨ah rfl⟩ | exact ⟨rfl⟩ | exact ⟨trivial⟩
   all_goals subst_vars
   all_goals try first | rfl | contradiction | (apply Ob.mk;first | (simp only [ag,ak,aa.ae];omega) | ((try simp only [aa.ae]);(try dsimp only);omega))
   all_goals try first
    | exact ⟨show 0 + Int.toNat (x : Int) < (cI n (af L p) (n * n).toNat).length by omega⟩
    | exact ⟨show 0 + Int.toNat (x : Int) < (cN n (af L p) (n * n).toNat).length by omega⟩
    | exact ⟨show 0 + Int.toNat (x : Int) < (abF (cI n (af L p) (n * n).toNat) (cN n (af L p) (n * n).toNat) (eR (cI n (af L p) (n * n).toNat) (cN n (af L p) (n * n).toNat) (cI n (af L p) (n * n).toNat).length) H (n * n).toNat x k).length by omega⟩
    | exact ⟨show 0 + Int.toNat (k : Int) < (eR (cI n (af L p) (n * n).toNat) (cN n (af L p) (n * n).toNat) (cI n (af L p) (n * n).toNat).length).length by omega⟩
    | exact ⟨show 0 + Int.toNat (k : Int) < H.length by omega⟩
   refine ⟨k + 1,[],cB,?_,by show (eR (cI n (af L p) (n * n).toNat) (cN n (af L p) (n * n).toNat) (cI n (af L p) (n * n).toNat).length).length - (k + 1) < (eR (cI n (af L p) (n * n).toNat) (cN n (af L p) (n * n).toNat) (cI n (af L p) (n * n).toNat).length).length - k;omega⟩
   repeat' ((conv => whnf);(first | apply And.intro | intro _))
   all_goals first | rfl | trivial | exact ah rfl | exact aS ‹_› rfl | exact aT ‹_› rfl | ((repeat' first | rfl | constructor);done) | exact ⟨rfl,rfl,ab5⟩
  have p1 : decide ((k : Int) < ((eR (cI n (af L p) (n * n).toNat) (cN n (af L p) (n * n).toNat) (cI n (af L p) (n * n).toNat).length).length : Int)) = false:=decide_eq_false (by omega)
  obtain rfl : k = (eR (cI n (af L p) (n * n).toNat) (cN n (af L p) (n * n).toNat) (cI n (af L p) (n * n).toNat).length).length:=by omega
  have ab5:=ab6 (A:=(cI n (af L p) (n * n).toNat)) (W:=(cN n (af L p) (n * n).toNat)) (F:=(eR (cI n (af L p) (n * n).toNat) (cN n (af L p) (n * n).toNat) (cI n (af L p) (n * n).toNat).length)) (H:=H) (N:=(n * n).toNat) (x:=x)
  clear hk cB
  repeat' ((conv => whnf);first | apply And.intro | (intro h9;try (have h8 : (_ : Bool) = _:=h9;clear h8;revert h9;subst_vars;intro h9;exact aq h9 (by assumption))))
  all_goals try (conv => whnf)
  all_goals try first | (apply Tk.mk <;> kernel_rfl) | exact ⟨ah rfl⟩ | exact ⟨rfl⟩ | exact ⟨trivial⟩
  all_goals subst_vars
  all_goals try first | rfl | contradiction | (apply Ob.mk;first | (simp only [ag,ak,aa.ae];omega) | ((try simp only [aa.ae]);(try dsimp only);omega))
  refine ⟨x + 1,[],cO,?_,by show (n * n).toNat - (x + 1) < (n * n).toNat - x;omega⟩
  repeat' ((conv => whnf);(first | apply And.intro | intro _))
  all_goals first | rfl | trivial | exact ah rfl | exact aS ‹_› rfl | exact aT ‹_› rfl | ((repeat' first | rfl | constructor);done) | exact ⟨rfl,rfl,ab5⟩
 have p0 : decide ((x : Int) < (((n * n).toNat : Nat) : Int)) = false:=decide_eq_false (by omega)
 obtain rfl : x = (n * n).toNat:=by omega
 clear hx cO
 repeat' ((conv => whnf);first | apply And.intro | (intro h9;try (have h8 : (_ : Bool) = _:=h9;clear h8;revert h9;subst_vars;intro h9;exact aq h9 (by assumption))))
 all_goals try (conv => whnf)
 all_goals try first | (apply Tk.mk <;> kernel_rfl) | exact ⟨ah rfl⟩ | exact ⟨rfl⟩ | exact ⟨trivial⟩
 all_goals subst_vars
 all_goals try first | rfl | contradiction | (apply Ob.mk;first | (simp only [ag,ak,aa.ae];omega) | ((try simp only [aa.ae]);(try dsimp only);omega))
 refine ⟨Nat,fun i => i <= P.toNat,fun i => ⟨aI 128 [1,3,9,12,13] [.a (vI p),.a (.p 2 [] 0 0),.a (.sl 7 [] 0 (n * n).toNat),.a (.sl 8 [] 0 i),.a (vI i)],[],[.arr 60 kW L false false,.arr 3 kI H false false,.box true [vI n,vI P,.sl 0 [] 0 L.length],.arr 3 kI (cI n (af L p) (n * n).toNat) true true,.arr 3 kI (cN n (af L p) (n * n).toNat) true true,.box true [.sl 3 [] 0 (cI n (af L p) (n * n).toNat).length,.sl 4 [] 0 (cN n (af L p) (n * n).toNat).length],.arr 3 kI (eR (cI n (af L p) (n * n).toNat) (cN n (af L p) (n * n).toNat) (cI n (af L p) (n * n).toNat).length) true true,.arr 3 kI (abF (cI n (af L p) (n * n).toNat) (cN n (af L p) (n * n).toNat) (eR (cI n (af L p) (n * n).toNat) (cN n (af L p) (n * n).toNat) (cI n (af L p) (n * n).toNat).length) H (n * n).toNat (n * n).toNat 0) true true,.arr 27 kT (List.replicate i (List.replicate (n * n).toNat (0 : Int))) true true]⟩,fun i => P.toNat - i,0,[0,1,2,3,4,5,6,7,1000],Nat.zero_le _,?_,?_⟩
 ·repeat' ((conv => whnf);(first | apply And.intro | intro _))
  all_goals first | rfl | trivial | exact ah rfl | exact aS ‹_› rfl | exact aT ‹_› rfl | ((repeat' first | rfl | constructor);done) | exact ⟨rfl,rfl,rfl⟩
 clear p0
 rintro i hi
 by_cases hi1 : i < P.toNat
 ·have p0 : decide ((i : Int) < P) = true:=decide_eq_true (by omega)
  have nw:=ace i (List.replicate (n * n).toNat (0 : Int))
  have jl : (List.replicate i (List.replicate (n * n).toNat (0 : Int))).length = i:=List.length_replicate
  have s7 : (n * n).toNat = (List.replicate (n * n).toNat (0 : Int)).length:=List.length_replicate.symm
  repeat' ((conv => whnf);first | apply And.intro | (intro h9;try (have h8 : (_ : Bool) = _:=h9;clear h8;revert h9;subst_vars;intro h9;exact aq h9 (by assumption))))
  all_goals try (conv => whnf)
  all_goals try first | (apply Tk.mk <;> kernel_rfl) | exact ⟨ah rfl⟩ | exact ⟨rfl⟩ | exact ⟨trivial⟩
  all_goals subst_vars
  all_goals try first | rfl | contradiction | (apply Ob.mk;first | (simp only [ag,ak,aa.ae];omega) | ((try simp only [aa.ae]);(try dsimp only);omega))
  all_goals try first
   | exact ⟨s7⟩
   | exact ⟨show n * n * ((1 : Nat) : Int) <= 16777216 by omega⟩
   | exact ⟨show 0 + i = (List.replicate i (List.replicate (n * n).toNat (0 : Int))).length by omega⟩
   | exact ⟨show (i + 1) * 1 <= 1099511627776 by omega⟩
  refine ⟨i + 1,[],hi1,?_,by show P.toNat - (i + 1) < P.toNat - i;omega⟩
  repeat' ((conv => whnf);(first | apply And.intro | intro _))
  all_goals first | rfl | trivial | exact ah rfl | exact aS ‹_› rfl | exact aT ‹_› rfl | ((repeat' first | rfl | constructor);done) | exact ⟨rfl,rfl,nw⟩
 have p0 : decide ((i : Int) < P) = false:=decide_eq_false (by omega)
 obtain rfl : i = P.toNat:=by omega
 clear hi hi1
 have hE:=xh lS hP hp
 have hst:=JJ (n:=n) (P:=P) (L:=L) (p:=p) (Hf:=hF (eR (cI n (af L p) (n * n).toNat) (cN n (af L p) (n * n).toNat) (cI n (af L p) (n * n).toNat).length) H)
 rw [show ((List.range P.toNat).map fun _ => List.replicate (n * n).toNat (0 : Int)) = List.replicate P.toNat (List.replicate (n * n).toNat (0 : Int)) from List.ext_getElem (by simp) fun j h1 h2 => by simp] at hst
 have aby:=I3 (ap L p)
 have Sa:=hE.Kg hP
 have Vh : (ag .i64 (((ap L p).length : Int) - 1)).p:=by show ak .i64 _;unfold ak;omega
 repeat' ((conv => whnf);first | apply And.intro | (intro h9;try (have h8 : (_ : Bool) = _:=h9;clear h8;revert h9;subst_vars;intro h9;exact aq h9 (by assumption))))
 all_goals try (conv => whnf)
 all_goals try first | (apply Tk.mk <;> kernel_rfl) | exact ⟨ah rfl⟩ | exact ⟨rfl⟩ | exact ⟨trivial⟩
 all_goals subst_vars
 all_goals try first | rfl | contradiction | (apply Ob.mk;first | (simp only [ag,ak,aa.ae];omega) | ((try simp only [aa.ae]);(try dsimp only);omega))
 all_goals try first
  | exact ⟨hw⟩
  | exact ⟨hl⟩
  | exact ⟨Vh⟩
 refine ⟨Nat × List Nat × List (List Int),fun s => s.1 <= (ap L p).length /\ (∀ j,s.1 <= j -> j < (ap L p).length -> j ∈ s.2.1) /\ um n P L p (hF (eR (cI n (af L p) (n * n).toNat) (cN n (af L p) (n * n).toNat) (cI n (af L p) (n * n).toNat).length) H) (fun q _ => l8 (ap L p) s.2.1 q) s.2.2,fun s => ⟨aI 128 [1,3,9,12,14,15] [.a (vI p),.a (.p 2 [] 0 0),.a (.sl 7 [] 0 (n * n).toNat),.a (.sl 8 [] 0 P.toNat),.a (.sl 9 [] 0 (ap L p).length),.a (vI ((s.1 : Int) - 1))],[],[.arr 60 kW L false false,.arr 3 kI H false false,.box true [vI n,vI P,.sl 0 [] 0 L.length],.arr 3 kI (cI n (af L p) (n * n).toNat) true true,.arr 3 kI (cN n (af L p) (n * n).toNat) true true,.box true [.sl 3 [] 0 (cI n (af L p) (n * n).toNat).length,.sl 4 [] 0 (cN n (af L p) (n * n).toNat).length],.arr 3 kI (eR (cI n (af L p) (n * n).toNat) (cN n (af L p) (n * n).toNat) (cI n (af L p) (n * n).toNat).length) true true,.arr 3 kI (abF (cI n (af L p) (n * n).toNat) (cN n (af L p) (n * n).toNat) (eR (cI n (af L p) (n * n).toNat) (cN n (af L p) (n * n).toNat) (cI n (af L p) (n * n).toNat).length) H (n * n).toNat (n * n).toNat 0) true true,.arr 27 kT (s.2.2) true true,.arr 105 kV (cy (ap L p)) true true]⟩,fun s => s.1,((ap L p).length,[],List.replicate P.toNat (List.replicate (n * n).toNat (0 : Int))),[],⟨Nat.le_refl _,fun j h1 h2 => absurd h2 (by show ¬ _;omega),hst⟩,?_,?_⟩
 ·repeat' ((conv => whnf);(first | apply And.intro | intro _))
  all_goals first | rfl | trivial | exact ah rfl | exact aS ‹_› rfl | exact aT ‹_› rfl | ((repeat' first | rfl | constructor);done)
 clear hst p0
 rintro ⟨k,seen,X⟩ ⟨hk,PS,hX⟩
 dsimp only at hk PS hX
 cases k with
 | zero =>
   have p1 : decide ((((0 : Nat) : Int) - 1) >= 0) = false:=rfl
   have hend:=Oi hX (fun j hj => PS j (Nat.zero_le _) hj)
   rw [<- hend] at hK
   clear hX
   repeat' ((conv => whnf);first | apply And.intro | (intro h9;try (have h8 : (_ : Bool) = _:=h9;clear h8;revert h9;subst_vars;intro h9;exact aq h9 (by assumption))))
   all_goals try (conv => whnf)
   all_goals try first | (apply Tk.mk <;> kernel_rfl) | exact ⟨ah rfl⟩ | exact ⟨rfl⟩ | exact ⟨trivial⟩
   all_goals subst_vars
   all_goals try first | rfl | contradiction | (apply Ob.mk;first | (simp only [ag,ak,aa.ae];omega) | ((try simp only [aa.ae]);(try dsimp only);omega))
   refine bu.base ⟨_,[8],hK,⟨rfl,rfl,by simp,trivial⟩,rfl,?_⟩
   repeat' ((conv => whnf);(first | apply And.intro | intro _))
   all_goals first | rfl | trivial
 | succ k =>
 have p1 : decide ((((k + 1 : Nat) : Int) - 1) >= 0) = true:=decide_eq_true (by omega)
 have acA : (((k + 1 : Nat) : Int) - 1) = (k : Int):=by omega
 have Rp:=hE.at (show k < (ap L p).length from hk)
 have jn : 0 <= ((ap L p).getD k aG).1.2.1 /\ ((ap L p).getD k aG).1.2.1 <= 7:=Rp.2
 have ea : cf (ap L p) (((k + 1 : Nat) : Int) - 1) = wq ((ap L p).getD k aG):=by rw [acA];exact vz hk
 have e1 : (cf (ap L p) (((k + 1 : Nat) : Int) - 1)).1 = ((ap L p).getD k aG).1.1:=by rw [ea];rfl
 have e2 : (cf (ap L p) (((k + 1 : Nat) : Int) - 1)).2.1 = ((ap L p).getD k aG).1.2.1:=by rw [ea];rfl
 have e3 : (cf (ap L p) (((k + 1 : Nat) : Int) - 1)).2.2.1 = ((ap L p).getD k aG).1.2.2:=by rw [ea];rfl
 clear ea
 repeat' ((conv => whnf);first | apply And.intro | (intro h9;try (have h8 : (_ : Bool) = _:=h9;clear h8;revert h9;subst_vars;intro h9;exact aq h9 (by assumption))))
 all_goals try (conv => whnf)
 all_goals try first | (apply Tk.mk <;> kernel_rfl) | exact ⟨ah rfl⟩ | exact ⟨rfl⟩ | exact ⟨trivial⟩
 all_goals subst_vars
 all_goals try first | rfl | contradiction | (apply Ob.mk;first | (simp only [ag,ak,aa.ae];omega) | ((try simp only [aa.ae]);(try dsimp only);omega))
 all_goals try first
  | exact ⟨show 0 + Int.toNat (((k + 1 : Nat) : Int) - 1) < (cy (ap L p)).length by omega⟩
 refine ⟨Nat × List (List Int),fun s => s.1 <= (n * n).toNat /\ um n P L p (hF (eR (cI n (af L p) (n * n).toNat) (cN n (af L p) (n * n).toNat) (cI n (af L p) (n * n).toNat).length) H) (cX (ap L p) n seen k s.1) s.2,fun s => ⟨aI 128 [1,3,9,12,14,15,16,17] [.a (vI p),.a (.p 2 [] 0 0),.a (.sl 7 [] 0 (n * n).toNat),.a (.sl 8 [] 0 P.toNat),.a (.sl 9 [] 0 (ap L p).length),.a (vI (((k + 1 : Nat) : Int) - 1)),.a (.p 10 [] 0 0),.a (vI s.1)],[],[.arr 60 kW L false false,.arr 3 kI H false false,.box true [vI n,vI P,.sl 0 [] 0 L.length],.arr 3 kI (cI n (af L p) (n * n).toNat) true true,.arr 3 kI (cN n (af L p) (n * n).toNat) true true,.box true [.sl 3 [] 0 (cI n (af L p) (n * n).toNat).length,.sl 4 [] 0 (cN n (af L p) (n * n).toNat).length],.arr 3 kI (eR (cI n (af L p) (n * n).toNat) (cN n (af L p) (n * n).toNat) (cI n (af L p) (n * n).toNat).length) true true,.arr 3 kI (abF (cI n (af L p) (n * n).toNat) (cN n (af L p) (n * n).toNat) (eR (cI n (af L p) (n * n).toNat) (cN n (af L p) (n * n).toNat) (cI n (af L p) (n * n).toNat).length) H (n * n).toNat (n * n).toNat 0) true true,.arr 27 kT (s.2) true true,.arr 105 kV (cy (ap L p)) true true,.box true [vI ((ap L p).getD k aG).1.1,vI ((ap L p).getD k aG).1.2.1,.v (.bool ((ap L p).getD k aG).1.2.2)]]⟩,fun s => (n * n).toNat - s.1,(0,X),[],⟨Nat.zero_le _,hX.congr (fun q z _ => K5)⟩,?_,?_⟩
 ·repeat' ((conv => whnf);(first | apply And.intro | intro _))
  all_goals first | rfl | trivial | exact ah rfl | exact aS ‹_› rfl | exact aT ‹_› rfl | ((repeat' first | rfl | constructor);done) | exact e1 | exact e2 | exact e3
 clear hX e1 e2 e3
 rintro ⟨x,X⟩ ⟨hx,hX⟩
 dsimp only at hx hX
 by_cases cO : x < (n * n).toNat
 ·have p0 : decide ((x : Int) < (((n * n).toNat : Nat) : Int)) = true:=decide_eq_true (by omega)
  have gR : aM n (x : Int):=⟨by omega,by omega⟩
  have cq : 0 <= (x : Int) /\ (x : Int) < n * n:=gR
  have Nz:=ng hn jn gR
  have acB : (abF (cI n (af L p) (n * n).toNat) (cN n (af L p) (n * n).toNat) (eR (cI n (af L p) (n * n).toNat) (cN n (af L p) (n * n).toNat) (cI n (af L p) (n * n).toNat).length) H (n * n).toNat (n * n).toNat 0).length = (n * n).toNat:=abP
  have acq : av (cN n (af L p) (n * n).toNat) x = fO n (af L p) x:=by rw [dP,<- aaC hG hn];exact G4 hG hn gR
  have hlv : av (cI n (af L p) (n * n).toNat) x = aK n (af L p) x:=by rw [dP,<- aaB];exact G2 hn gR
  have hown : av (abF (cI n (af L p) (n * n).toNat) (cN n (af L p) (n * n).toNat) (eR (cI n (af L p) (n * n).toNat) (cN n (af L p) (n * n).toNat) (cI n (af L p) (n * n).toNat).length) H (n * n).toNat (n * n).toNat 0) x = tS n (af L p) (hF (eR (cI n (af L p) (n * n).toNat) (cN n (af L p) (n * n).toNat) (cI n (af L p) (n * n).toNat).length) H) x:=by
   rw [acj cO];unfold oV
   rw [acq,hlv];unfold tS hF;rfl
  have So:=Zc (n:=n) (G:=(af L p)) (H:=hF (eR (cI n (af L p) (n * n).toNat) (cN n (af L p) (n * n).toNat) (cI n (af L p) (n * n).toNat).length) H) (M:=1099511627776) (Yu (by omega) Vj) x
  rw [<- hown] at So
  have dV : (ag .i64 (0 - av (abF (cI n (af L p) (n * n).toNat) (cN n (af L p) (n * n).toNat) (eR (cI n (af L p) (n * n).toNat) (cN n (af L p) (n * n).toNat) (cI n (af L p) (n * n).toNat).length) H (n * n).toNat (n * n).toNat 0) x)).p:=by show ak .i64 _;unfold ak;omega
  have hq : Int.toNat ((ap L p).getD k aG).1.1 < P.toNat:=by omega
  have Sj:=hX.len
  have hrow:=hX.row _ hq
  have Nv : bh X ((ap L p).getD k aG).1.1 = je X (Int.toNat ((ap L p).getD k aG).1.1):=by unfold bh je;rw [Nat.zero_add];rfl
  have jl : (bh X ((ap L p).getD k aG).1.1).length = (n * n).toNat:=by rw [Nv];exact hrow
  have lR : 0 <= aX n ((ap L p).getD k aG).1.2.1 x /\ aX n ((ap L p).getD k aG).1.2.1 x < ((bh X ((ap L p).getD k aG).1.1).length : Int):=by rw [jl];unfold aM at Nz;omega
  have hem : ((ap L p).getD k aG) ∈ (ap L p):=pc hk
  have PT:=Oj lS hP hp hn (hF (eR (cI n (af L p) (n * n).toNat) (cN n (af L p) (n * n).toNat) (cI n (af L p) (n * n).toNat).length) H) hem gR
  have hcast : ((Int.toNat ((ap L p).getD k aG).1.1 : Nat) : Int) = ((ap L p).getD k aG).1.1:=by omega
  have PX : ∀ v : Int,X.set (0 + Int.toNat ((ap L p).getD k aG).1.1) ((bh X ((ap L p).getD k aG).1.1).set (0 + Int.toNat (aX n ((ap L p).getD k aG).1.2.1 x)) v) = X.set (Int.toNat ((ap L p).getD k aG).1.1) ((bh X ((ap L p).getD k aG).1.1).set (Int.toNat (aX n ((ap L p).getD k aG).1.2.1 x)) v):=fun v => by rw [Nat.zero_add,Nat.zero_add]
  obtain Kp | Kp : ((ap L p).getD k aG).1.2.2 = false \/ ((ap L p).getD k aG).1.2.2 = true:=by cases ((ap L p).getD k aG).1.2.2 <;> simp
  ·have jK:=Ea hX hq Nz (v:=av (abF (cI n (af L p) (n * n).toNat) (cN n (af L p) (n * n).toNat) (eR (cI n (af L p) (n * n).toNat) (cN n (af L p) (n * n).toNat) (cI n (af L p) (n * n).toNat).length) H (n * n).toNat (n * n).toNat 0) x) (by rw [hcast,PT,Kp,hown];rfl)
   have vg:=jK.congr (C':=cX (ap L p) n seen k (x + 1)) (fun q z _ => by rw [hcast];exact Dc)
   rw [<- Nv] at vg
   repeat' ((conv => whnf);first | apply And.intro | (intro h9;try (have h8 : (_ : Bool) = _:=h9;clear h8;revert h9;subst_vars;intro h9;exact aq h9 (by assumption))))
   all_goals try (conv => whnf)
   all_goals try first | (apply Tk.mk <;> kernel_rfl) | exact ⟨ah rfl⟩ | exact ⟨rfl⟩ | exact ⟨trivial⟩
   all_goals subst_vars
   all_goals try first | rfl | contradiction | (apply Ob.mk;first | (simp only [ag,ak,aa.ae];omega) | ((try simp only [aa.ae]);(try dsimp only);omega))
   all_goals try first
    | exact ⟨lR⟩
    | exact ⟨show 0 + Int.toNat (x : Int) < (abF (cI n (af L p) (n * n).toNat) (cN n (af L p) (n * n).toNat) (eR (cI n (af L p) (n * n).toNat) (cN n (af L p) (n * n).toNat) (cI n (af L p) (n * n).toNat).length) H (n * n).toNat (n * n).toNat 0).length by omega⟩
    | exact ⟨show 0 + Int.toNat ((ap L p).getD k aG).1.1 < X.length by omega⟩
    | exact ⟨show 0 + Int.toNat (aX n ((ap L p).getD k aG).1.2.1 x) < (bh X ((ap L p).getD k aG).1.1).length by omega⟩
   refine ⟨(x + 1,_),[],⟨cO,vg⟩,?_,by show (n * n).toNat - (x + 1) < (n * n).toNat - x;omega⟩
   repeat' ((conv => whnf);(first | apply And.intro | intro _))
   all_goals first | rfl | trivial | exact ah rfl | exact aS ‹_› rfl | exact aT ‹_› rfl | ((repeat' first | rfl | constructor);done) | exact ⟨rfl,rfl,PX _⟩
  have jK:=Ea hX hq Nz (v:=0 - av (abF (cI n (af L p) (n * n).toNat) (cN n (af L p) (n * n).toNat) (eR (cI n (af L p) (n * n).toNat) (cN n (af L p) (n * n).toNat) (cI n (af L p) (n * n).toNat).length) H (n * n).toNat (n * n).toNat 0) x) (by rw [hcast,PT,Kp,hown];show 0 - _ = - _;omega)
  have vg:=jK.congr (C':=cX (ap L p) n seen k (x + 1)) (fun q z _ => by rw [hcast];exact Dc)
  rw [<- Nv] at vg
  repeat' ((conv => whnf);first | apply And.intro | (intro h9;try (have h8 : (_ : Bool) = _:=h9;clear h8;revert h9;subst_vars;intro h9;exact aq h9 (by assumption))))
  all_goals try (conv => whnf)
  all_goals try first | (apply Tk.mk <;> kernel_rfl) | exact ⟨ah rfl⟩ | exact ⟨rfl⟩ | exact ⟨trivial⟩
  all_goals subst_vars
  all_goals try first | rfl | contradiction | (apply Ob.mk;first | (simp only [ag,ak,aa.ae];omega) | ((try simp only [aa.ae]);(try dsimp only);omega))
  all_goals try first
   | exact ⟨lR⟩
   | exact ⟨show 0 + Int.toNat (x : Int) < (abF (cI n (af L p) (n * n).toNat) (cN n (af L p) (n * n).toNat) (eR (cI n (af L p) (n * n).toNat) (cN n (af L p) (n * n).toNat) (cI n (af L p) (n * n).toNat).length) H (n * n).toNat (n * n).toNat 0).length by omega⟩
   | exact ⟨show 0 + Int.toNat ((ap L p).getD k aG).1.1 < X.length by omega⟩
   | exact ⟨show 0 + Int.toNat (aX n ((ap L p).getD k aG).1.2.1 x) < (bh X ((ap L p).getD k aG).1.1).length by omega⟩
  refine ⟨(x + 1,_),[],⟨cO,vg⟩,?_,by show (n * n).toNat - (x + 1) < (n * n).toNat - x;omega⟩
  repeat' ((conv => whnf);(first | apply And.intro | intro _))
  all_goals first | rfl | trivial | exact ah rfl | exact aS ‹_› rfl | exact aT ‹_› rfl | ((repeat' first | rfl | constructor);done) | exact ⟨rfl,rfl,PX _⟩
 have p0 : decide ((x : Int) < (((n * n).toNat : Nat) : Int)) = false:=decide_eq_false (by omega)
 obtain rfl : x = (n * n).toNat:=by omega
 have Rh:=hX.congr (C':=fun q _ => l8 (ap L p) (k :: seen) q) (fun q z hz => Mo hn jn hz)
 clear hX hx cO
 have pT : ∀ j,k <= j -> j < (ap L p).length -> j ∈ k :: seen:=fun j h1 h2 => by
  by_cases h : j = k
  ·subst h;exact List.mem_cons_self ..
  ·exact List.mem_cons_of_mem _ (PS j (by omega) h2)
 repeat' ((conv => whnf);first | apply And.intro | (intro h9;try (have h8 : (_ : Bool) = _:=h9;clear h8;revert h9;subst_vars;intro h9;exact aq h9 (by assumption))))
 all_goals try (conv => whnf)
 all_goals try first | (apply Tk.mk <;> kernel_rfl) | exact ⟨ah rfl⟩ | exact ⟨rfl⟩ | exact ⟨trivial⟩
 all_goals subst_vars
 all_goals try first | rfl | contradiction | (apply Ob.mk;first | (simp only [ag,ak,aa.ae];omega) | ((try simp only [aa.ae]);(try dsimp only);omega))
 refine ⟨(k,k :: seen,X),[],⟨Nat.le_of_succ_le hk,pT,Rh⟩,?_,Nat.lt_succ_self k⟩
 repeat' ((conv => whnf);(first | apply And.intro | intro _))
 all_goals first | rfl | trivial | exact ah rfl | exact aS ‹_› rfl | exact aT ‹_› rfl | ((repeat' first | rfl | constructor);done) | exact idx k)
end Go.Proofs.YthejmgnkenokpaaDoor
end
