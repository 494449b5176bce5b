/-
  Texts of the claims on chapter 3: Yk16. No condition: lemmas and contracts.
-/
import Derived.Test.YthejmgnkenokpaaDoorYk15
set_option linter.all false
set_option maxRecDepth 100000
set_option maxHeartbeats 4000000
section
namespace Go.Proofs.YthejmgnkenokpaaDoor
open Go Go.Sy Go.bK
variable {Γ : bn}
def ab0 (D : Int -> Int -> List Wk -> Int -> List Int -> List aa) (F : Int -> Int -> List Wk -> Int -> List Int -> Tm) : au:=.fn fun args rg => match args with
 | [.agg [.v (.int .i64 n0),.v (.int .i64 n1),x0],.a (.v (.int .i64 n2)),.a x1] => (match ca 60 kW rg x0,ca 3 kI rg x1 with | some (q0,L0),some (q1,L1) => some (q0 ++ (q1 ++ (D n0 n1 L0 n2 L1)),F n0 n1 L0 n2 L1) | _,_ => none)
 | _ => none
theorem ab1 {f : FuncId} {b : Body} {E : Env} {d : Nat} (hP : aL Tryd.prog Γ E) (hb : bQ Tryd.prog f b) {D : Int -> Int -> List Wk -> Int -> List Int -> List aa} {F : Int -> Int -> List Wk -> Int -> List Int -> Tm} (hp : ∀ (n0 : Int) (n1 : Int) (L0 : List Wk) (n2 : Int) (L1 : List Int),(F n0 n1 L0 n2 L1).plain = true)
  (H : ∀ (n0 : Int) (n1 : Int) (L0 : List Wk) (n2 : Int) (L1 : List Int),bW (D n0 n1 L0 n2 L1) -> cQ E d b [.agg [vI n0,vI n1,.sl 0 [] 0 L0.length],.a (vI n2),.a (.sl 1 [] 0 L1.length)] [.arr 60 kW L0 false false,.arr 3 kI L1 false false] (fun x _ => iL x (F n0 n1 L0 n2 L1))) : au.Ok Tryd.prog Γ f (ab0 D F):=au.er (d:=d) hP hb (by
 intro args rg q t hF hq
 split at hF
 next n0 n1 x0 n2 x1 =>
  split at hF
  next q0 L0 q1 L1 hx0 cO =>
   obtain ⟨rfl,rfl⟩:=Prod.mk.inj (Option.some.inj hF);clear hF
   rw [aH,aH] at hq
   obtain ⟨dm,gk,hD⟩:=hq
   obtain ⟨e0,Vn⟩:=bP (by simp [kW]) hx0 dm
   obtain ⟨e1,iO⟩:=bP (by simp [kI]) cO gk
   obtain ⟨p0,r0⟩:=Vn [e0,e1] 0 2 rfl (by omega)
   obtain ⟨p1,r1⟩:=iO [e0,e1] 1 2 rfl (by omega)
   refine ⟨hp _ _ _ _ _,[e0,e1],[.agg [vI n0,vI n1,.sl 0 [] 0 L0.length],.a (vI n2),.a (.sl 1 [] 0 L1.length)],[.arr 60 kW L0 false false,.arr 3 kI L1 false false],⟨⟨⟨rfl,rfl,p0,trivial⟩,rfl,p1,trivial⟩,fun r g hg => ?_⟩,H _ _ _ _ _ hD⟩
   match r,hg with
   | 0,hg => obtain rfl:=Option.some.inj hg;exact r0
   | 1,hg => obtain rfl:=Option.some.inj hg;exact r1
  next => cases hF
 next => cases hF)
def abG (b : Bool) (H : List Int) : Nat -> Int
 | 0 => match b with | true => 1 | false => 0
 | k + 1 => match aQ (av H k) (-1099511627776) 1099511627776 with | true => abG b H k | false => 1
theorem abJ {b : Bool} {H : List Int} : ∀ {k : Nat},abG b H k = 0 -> b = false /\ ∀ j,j < k -> aQ (av H j) (-1099511627776) 1099511627776 = true
 | 0,h => by
   refine ⟨?_,fun j hj => absurd hj (Nat.not_lt_zero j)⟩
   cases b
   ·rfl
   ·exact absurd h (by unfold abG;decide)
 | k + 1,h => by
   unfold abG at h
   cases hb : aQ (av H k) (-1099511627776) 1099511627776 <;> rw [hb] at h <;> dsimp only at h
   ·exact absurd h (by decide)
   ·obtain ⟨h1,h2⟩:=abJ h
    refine ⟨h1,fun j hj => ?_⟩
    rcases Nat.lt_or_ge j k with h3 | h3
    ·exact h2 j h3
    ·obtain rfl : j = k:=by omega
     exact hb
theorem abR (b : Bool) (H : List Int) : ∀ k : Nat,abG b H k = 0 \/ abG b H k = 1
 | 0 => by cases b <;> simp [abG]
 | k + 1 => by
   unfold abG
   cases aQ (av H k) (-1099511627776) 1099511627776
   ·exact .inr rfl
   ·exact abR b H k
theorem acm {H : List Int} {k : Nat} (h : abG false H k = 0) (hk : H.length <= k) : H.all hB = true:=by
 rw [List.all_eq_true]
 intro x hx
 obtain ⟨j,hj,rfl⟩:=List.mem_iff_getElem.1 hx
 have:=(abJ h).2 j (by omega)
 rw [dP] at this
 unfold gi at this
 rw [Int.toNat_natCast,List.getD_eq_getElem?_getD,List.getElem?_eq_getElem hj] at this
 exact this
theorem acu {H : List Int} (h : H.all hB = true) {k : Nat} (hk : k < H.length) : aQ (av H k) (-1099511627776) 1099511627776 = true:=by
 rw [dP];exact bA.2 (XN h k)
def abN : au:=ab0 (fun _ _ _ _ _ => []) (fun _ _ _ _ _ => bl true)
noncomputable def acn : List (Nat × au):=[(15,Df),(25,DK),(20,uD),(22,kx),(21,ei),(26,aaF),(27,mg),(29,abK),(28,abH),(16,tC)]
theorem aci : aR Tryd.prog Γ acn:=((((((((((aR.nil.cons (aj Tryd.func16 rfl rfl).fn sW).cons (aj Tryd.func28 rfl rfl).fn abL).cons (aj Tryd.func29 rfl rfl).fn abO).cons (aj Tryd.func27 rfl rfl).fn jx).cons (aj Tryd.func26 rfl rfl).fn aaG).cons (aj Tryd.func21 rfl rfl).fn acE).cons (aj Tryd.func22 rfl rfl).fn k8).cons (aj Tryd.func20 rfl rfl).fn yH).cons (aj Tryd.func25 rfl rfl).fn Fb).cons (aj Tryd.func15 rfl rfl).fn EJ)
def acw (id : Nat) : Option OT:=match Nat.beq id 6 with | true => some (.take 0 (.take 3 (.alt 1 (.alt 2 (.alt 4 (.alt 5 (.alt 6 (.take 7 .fin) .fin) .fin) .fin) .fin) (.alt 2 (.alt 1 (.alt 4 (.alt 5 (.alt 6 (.take 7 .fin) .fin) .fin) .fin) (.alt 4 (.alt 1 (.alt 5 (.alt 6 (.take 7 .fin) .fin) .fin) .fin) .fin)) .fin)))) | false => none
noncomputable def aco : Env:={ jV.env acn [] false 0 with tree:=acw }
noncomputable def acs : Env:={ aco with cut:=fun t => Nat.beq t 2006 }
theorem ab8 : aL Tryd.prog Γ acs:=((aP aci bq.nil false 0).vU _).wy _
attribute [local irreducible] bf eI hF aB hB af cI cN eR abG
theorem abI : au.Ok Tryd.prog Γ 4 abN:=ab1 (d:=0) ab8 (aj Tryd.func4 rfl rfl) (fun _ _ _ _ _ => rfl) (by
 intro n P L p H _
 obtain h0 | h0 : decide ((L.length : Int) <= 20) = false \/ decide ((L.length : Int) <= 20) = true:=by cases decide ((L.length : Int) <= 20) <;> simp
 ·have n0 : (!decide ((L.length : Int) <= 20)) = true:=by rw [h0];rfl
  repeat' ((conv => whnf);first | apply And.intro | (intro h9;try (have h8 : (_ : Bool) = _:=h9;clear h8;revert h9;subst_vars;intro h9;exact aq h9 (by assumption))))
  all_goals try (conv => whnf)
  all_goals try first | (apply Tk.mk <;> kernel_rfl) | exact ⟨ah rfl⟩ | exact ⟨rfl⟩ | exact ⟨trivial⟩
  all_goals subst_vars
  all_goals try first | rfl | contradiction | (apply Ob.mk;first | (simp only [ag,ak,aa.ae];omega) | ((try simp only [aa.ae]);(try dsimp only);omega))
 have n0 : (!decide ((L.length : Int) <= 20)) = false:=by rw [h0];rfl
 have ZX:=of_decide_eq_true h0
 have hl : L.length <= 1000000:=by omega
 obtain z1 | z1 : decide ((H.length : Int) > 40) = true \/ decide ((H.length : Int) > 40) = false:=by cases decide ((H.length : Int) > 40) <;> simp
 ·repeat' ((conv => whnf);first | apply And.intro | (intro h9;try (have h8 : (_ : Bool) = _:=h9;clear h8;revert h9;subst_vars;intro h9;exact aq h9 (by assumption))))
  all_goals try (conv => whnf)
  all_goals try first | (apply Tk.mk <;> kernel_rfl) | exact ⟨ah rfl⟩ | exact ⟨rfl⟩ | exact ⟨trivial⟩
  all_goals subst_vars
  all_goals try first | rfl | contradiction | (apply Ob.mk;first | (simp only [ag,ak,aa.ae];omega) | ((try simp only [aa.ae]);(try dsimp only);omega))
 have hH:=of_decide_eq_false z1
 have s0 : (bf n P L p == bf n P L p) = true:=beq_self_eq_true _
 obtain q1 | q1 : (bf n P L p == 0) = false \/ (bf n P L p == 0) = true:=by cases bf n P L p == 0 <;> simp
 ·have q2 : (bf n P L p != 0) = true:=by unfold bne;rw [q1];rfl
  repeat' ((conv => whnf);first | apply And.intro | (intro h9;try (have h8 : (_ : Bool) = _:=h9;clear h8;revert h9;subst_vars;intro h9;exact aq h9 (by assumption))))
  all_goals try (conv => whnf)
  all_goals try first | (apply Tk.mk <;> kernel_rfl) | exact ⟨ah rfl⟩ | exact ⟨rfl⟩ | exact ⟨trivial⟩
  all_goals subst_vars
  all_goals try first | rfl | contradiction | (apply Ob.mk;first | (simp only [ag,ak,aa.ae];omega) | ((try simp only [aa.ae]);(try dsimp only);omega))
  all_goals first
   | exact ⟨hl⟩
   | exact ⟨show H.length <= 1000000 by omega⟩
 have q2 : (bf n P L p != 0) = false:=by unfold bne;rw [q1];rfl
 obtain ⟨hw,hP,hp,hn⟩:=gg (eq_of_beq q1)
 have hG:=nK (cW.1 hw) hP hp
 have hgo : ∀ g ∈ (af L p),0 <= g.1 /\ g.1 <= 7:=hG.ok
 have dZ:=fj L p
 have j4 : 1 <= n * n /\ n * n <= 36:=sJ hn
 have l1:=tx n (af L p) (n * n).toNat
 have l2:=u5 n (af L p) (n * n).toNat
 have l3 : (cI n (af L p) (n * n).toNat).length = (cN n (af L p) (n * n).toNat).length:=l1.trans l2.symm
 have acg : aB n L p = (eR (cI n (af L p) (n * n).toNat) (cN n (af L p) (n * n).toNat) (cI n (af L p) (n * n).toNat).length):=by unfold aB;rw [aaB,aaC hG hn]
 obtain hs | hs : AP n L p H = true \/ AP n L p H = false:=by cases AP n L p H <;> simp
 ·have pT:=hs
  unfold AP at pT
  rw [Bool.and_eq_true,decide_eq_true_iff] at pT
  obtain ⟨ab4,ab2⟩:=pT
  have d1 : (((eR (cI n (af L p) (n * n).toNat) (cN n (af L p) (n * n).toNat) (cI n (af L p) (n * n).toNat).length).length : Int) != (H.length : Int)) = false:=by rw [ab4,acg];exact bne_self_eq_false _
  have acD : (eI n P L p (hF (aB n L p) H)).length = P.toNat:=Wc
  have acC : ∀ w ∈ (eI n P L p (hF (aB n L p) H)),w.length <= 1000000:=fun w h => by
   unfold eI at h
   obtain ⟨q,_,rfl⟩:=List.mem_map.1 h
   rw [List.length_map,List.length_range];omega
  have gT : ((eI n P L p (hF (aB n L p) H)) == (eI n P L p (hF (aB n L p) H))) = true:=beq_self_eq_true _
  repeat' ((conv => whnf);first | apply And.intro | (intro h9;try (have h8 : (_ : Bool) = _:=h9;clear h8;revert h9;subst_vars;intro h9;exact aq h9 (by assumption))))
  all_goals try (conv => whnf)
  all_goals try first | (apply Tk.mk <;> kernel_rfl) | exact ⟨ah rfl⟩ | exact ⟨rfl⟩ | exact ⟨trivial⟩
  all_goals subst_vars
  all_goals try first | rfl | contradiction | (apply Ob.mk;first | (simp only [ag,ak,aa.ae];omega) | ((try simp only [aa.ae]);(try dsimp only);omega))
  all_goals try first
   | exact ⟨hl⟩
   | exact ⟨show H.length <= 1000000 by omega⟩
  refine ⟨Unit,fun _ => True,fun _ => ⟨aI 83 [1,2,3,7,8,9,10] [.a (vI p),.a (.sl 1 [] 0 H.length),.a (.p 2 [] 0 0),.a (.sl 3 [] 0 P.toNat),.a (vI 0),.a (vI (bf n P L p)),.a (.sl 4 [] 0 (eR (cI n (af L p) (n * n).toNat) (cN n (af L p) (n * n).toNat) (cI n (af L p) (n * n).toNat).length).length)],[],[.arr 60 kW L false false,.arr 3 kI H false false,.box true [vI n,vI P,.sl 0 [] 0 L.length],.arr 27 kT (eI n P L p (hF (aB n L p) H)) true true,.arr 3 kI (eR (cI n (af L p) (n * n).toNat) (cN n (af L p) (n * n).toNat) (cI n (af L p) (n * n).toNat).length) true true]⟩,?_,?_⟩
  ·repeat' ((conv => whnf);first | apply And.intro | (intro h9;try (have h8 : (_ : Bool) = _:=h9;clear h8;revert h9;subst_vars;intro h9;exact aq h9 (by assumption))))
   all_goals try (conv => whnf)
   all_goals try first | (apply Tk.mk <;> kernel_rfl) | exact ⟨ah rfl⟩ | exact ⟨rfl⟩ | exact ⟨trivial⟩
   all_goals subst_vars
   all_goals try first | rfl | contradiction | (apply Ob.mk;first | (simp only [ag,ak,aa.ae];omega) | ((try simp only [aa.ae]);(try dsimp only);omega))
   all_goals try first
    | exact True.intro
    | exact ⟨hw⟩
    | exact ⟨hl⟩
    | exact ⟨hgo⟩
    | exact ⟨l3⟩
    | exact ⟨show (af L p).length <= 1000000 by omega⟩
    | exact ⟨show (cI n (af L p) (n * n).toNat).length <= 1000000 by omega⟩
   all_goals first
    | (refine ⟨(),[0,1,2,3,7],trivial,?_⟩
       repeat' ((conv => whnf);(first | apply And.intro | intro _))
       all_goals first | rfl | trivial | exact ah rfl | exact aS ‹_› rfl | exact aT ‹_› rfl | ((repeat' first | rfl | constructor);done)
       done)
    | (refine ⟨(),[0,1,2,3,4],trivial,?_⟩
       repeat' ((conv => whnf);(first | apply And.intro | intro _))
       all_goals first | rfl | trivial | exact ah rfl | exact aS ‹_› rfl | exact aT ‹_› rfl | ((repeat' first | rfl | constructor);done)
       done)
    | (refine ⟨(),[0,1,2,3,5],trivial,?_⟩
       repeat' ((conv => whnf);(first | apply And.intro | intro _))
       all_goals first | rfl | trivial | exact ah rfl | exact aS ‹_› rfl | exact aT ‹_› rfl | ((repeat' first | rfl | constructor);done)
       done)
    | (refine ⟨(),[0,1,2,3,6],trivial,?_⟩
       repeat' ((conv => whnf);(first | apply And.intro | intro _))
       all_goals first | rfl | trivial | exact ah rfl | exact aS ‹_› rfl | exact aT ‹_› rfl | ((repeat' first | rfl | constructor);done)
       done)
  rintro ⟨⟩ -
  repeat' ((conv => whnf);first | apply And.intro | (intro h9;try (have h8 : (_ : Bool) = _:=h9;clear h8;revert h9;subst_vars;intro h9;exact aq h9 (by assumption))))
  all_goals try (conv => whnf)
  all_goals try first | (apply Tk.mk <;> kernel_rfl) | exact ⟨ah rfl⟩ | exact ⟨rfl⟩ | exact ⟨trivial⟩
  all_goals subst_vars
  all_goals try first | rfl | contradiction | (apply Ob.mk;first | (simp only [ag,ak,aa.ae];omega) | ((try simp only [aa.ae]);(try dsimp only);omega))
  refine ⟨Nat,fun i => i <= H.length,fun i => ⟨aI 83 [1,2,3,7,8,9,11] [.a (vI p),.a (.sl 1 [] 0 H.length),.a (.p 2 [] 0 0),.a (.sl 3 [] 0 P.toNat),.a (vI 0),.a (vI (bf n P L p)),.a (vI i)],[],[.arr 60 kW L false false,.arr 3 kI H false false,.box true [vI n,vI P,.sl 0 [] 0 L.length],.arr 27 kT (eI n P L p (hF (aB n L p) H)) true true]⟩,fun i => H.length - i,0,[],Nat.zero_le _,?_,?_⟩
  ·repeat' ((conv => whnf);(first | apply And.intro | intro _))
   all_goals first | rfl | trivial | exact ah rfl | exact aS ‹_› rfl | exact aT ‹_› rfl | ((repeat' first | rfl | constructor);done)
  rintro i hi
  by_cases hi1 : i < H.length
  ·have p0 : decide ((i : Int) < (H.length : Int)) = true:=decide_eq_true (by omega)
   have e1 : (!aQ (av H i) (-1099511627776) 1099511627776) = false:=by rw [acu ab2 hi1];rfl
   repeat' ((conv => whnf);first | apply And.intro | (intro h9;try (have h8 : (_ : Bool) = _:=h9;clear h8;revert h9;subst_vars;intro h9;exact aq h9 (by assumption))))
   all_goals try (conv => whnf)
   all_goals try first | (apply Tk.mk <;> kernel_rfl) | exact ⟨ah rfl⟩ | exact ⟨rfl⟩ | exact ⟨trivial⟩
   all_goals subst_vars
   all_goals try first | rfl | contradiction | (apply Ob.mk;first | (simp only [ag,ak,aa.ae];omega) | ((try simp only [aa.ae]);(try dsimp only);omega))
   all_goals try first
    | exact ⟨show 0 + Int.toNat (i : Int) < H.length by omega⟩
   refine ⟨i + 1,[],hi1,?_,by show H.length - (i + 1) < H.length - i;omega⟩
   repeat' ((conv => whnf);(first | apply And.intro | intro _))
   all_goals first | rfl | trivial | exact ah rfl | exact aS ‹_› rfl | exact aT ‹_› rfl | ((repeat' first | rfl | constructor);done)
  have p0 : decide ((i : Int) < (H.length : Int)) = false:=decide_eq_false (by omega)
  repeat' ((conv => whnf);first | apply And.intro | (intro h9;try (have h8 : (_ : Bool) = _:=h9;clear h8;revert h9;subst_vars;intro h9;exact aq h9 (by assumption))))
  all_goals try (conv => whnf)
  all_goals try first | (apply Tk.mk <;> kernel_rfl) | exact ⟨ah rfl⟩ | exact ⟨rfl⟩ | exact ⟨trivial⟩
  all_goals subst_vars
  all_goals try first | rfl | contradiction | (apply Ob.mk;first | (simp only [ag,ak,aa.ae];omega) | ((try simp only [aa.ae]);(try dsimp only);omega))
  all_goals first
   | trivial
   | exact ⟨hw⟩
   | exact ⟨hl⟩
   | exact ⟨ab4⟩
   | exact ⟨ab2⟩
   | exact ⟨acC⟩
   | exact ⟨show (eI n P L p (hF (aB n L p) H)).length <= 1000000 by omega⟩
   | exact ⟨show P.toNat = (eI n P L p (hF (aB n L p) H)).length by omega⟩
 have ach : ∀ b,(((eR (cI n (af L p) (n * n).toNat) (cN n (af L p) (n * n).toNat) (cI n (af L p) (n * n).toNat).length).length : Int) != (H.length : Int)) = b -> abG b H H.length = 1:=fun b hb => by
  rcases abR b H H.length with h | h
  ·exfalso
   obtain rfl:=(abJ h).1
   have bT:=acm h (Nat.le_refl _)
   unfold AP at hs
   rw [bT,Bool.and_true,decide_eq_false_iff_not] at hs
   rw [bne_eq_false_iff_eq] at hb
   exact hs (by rw [acg];omega)
  ·exact h
 obtain d1 | d1 : (((eR (cI n (af L p) (n * n).toNat) (cN n (af L p) (n * n).toNat) (cI n (af L p) (n * n).toNat).length).length : Int) != (H.length : Int)) = true \/ (((eR (cI n (af L p) (n * n).toNat) (cN n (af L p) (n * n).toNat) (cI n (af L p) (n * n).toNat).length).length : Int) != (H.length : Int)) = false:=by cases (((eR (cI n (af L p) (n * n).toNat) (cN n (af L p) (n * n).toNat) (cI n (af L p) (n * n).toNat).length).length : Int) != (H.length : Int)) <;> simp
 ·repeat' ((conv => whnf);first | apply And.intro | (intro h9;try (have h8 : (_ : Bool) = _:=h9;clear h8;revert h9;subst_vars;intro h9;exact aq h9 (by assumption))))
  all_goals try (conv => whnf)
  all_goals try first | (apply Tk.mk <;> kernel_rfl) | exact ⟨ah rfl⟩ | exact ⟨rfl⟩ | exact ⟨trivial⟩
  all_goals subst_vars
  all_goals try first | rfl | contradiction | (apply Ob.mk;first | (simp only [ag,ak,aa.ae];omega) | ((try simp only [aa.ae]);(try dsimp only);omega))
  all_goals try first
   | exact ⟨hl⟩
   | exact ⟨show H.length <= 1000000 by omega⟩
  refine ⟨Unit,fun _ => True,fun _ => ⟨aI 83 [1,2,3,7,8,9,10] [.a (vI p),.a (.sl 1 [] 0 H.length),.a (.p 2 [] 0 0),.a (.v (.slice none 0 0)),.a (vI 1),.a (vI (bf n P L p)),.a (.sl 3 [] 0 (eR (cI n (af L p) (n * n).toNat) (cN n (af L p) (n * n).toNat) (cI n (af L p) (n * n).toNat).length).length)],[],[.arr 60 kW L false false,.arr 3 kI H false false,.box true [vI n,vI P,.sl 0 [] 0 L.length],.arr 3 kI (eR (cI n (af L p) (n * n).toNat) (cN n (af L p) (n * n).toNat) (cI n (af L p) (n * n).toNat).length) true true]⟩,?_,?_⟩
  ·repeat' ((conv => whnf);first | apply And.intro | (intro h9;try (have h8 : (_ : Bool) = _:=h9;clear h8;revert h9;subst_vars;intro h9;exact aq h9 (by assumption))))
   all_goals try (conv => whnf)
   all_goals try first | (apply Tk.mk <;> kernel_rfl) | exact ⟨ah rfl⟩ | exact ⟨rfl⟩ | exact ⟨trivial⟩
   all_goals subst_vars
   all_goals try first | rfl | contradiction | (apply Ob.mk;first | (simp only [ag,ak,aa.ae];omega) | ((try simp only [aa.ae]);(try dsimp only);omega))
   all_goals try first
    | exact True.intro
    | exact ⟨hw⟩
    | exact ⟨hl⟩
    | exact ⟨hgo⟩
    | exact ⟨l3⟩
    | exact ⟨show (af L p).length <= 1000000 by omega⟩
    | exact ⟨show (cI n (af L p) (n * n).toNat).length <= 1000000 by omega⟩
   all_goals first
    | (refine ⟨(),[0,1,2,6],trivial,?_⟩
       repeat' ((conv => whnf);(first | apply And.intro | intro _))
       all_goals first | rfl | trivial | exact ah rfl | exact aS ‹_› rfl | exact aT ‹_› rfl | ((repeat' first | rfl | constructor);done)
       done)
    | (refine ⟨(),[0,1,2,3],trivial,?_⟩
       repeat' ((conv => whnf);(first | apply And.intro | intro _))
       all_goals first | rfl | trivial | exact ah rfl | exact aS ‹_› rfl | exact aT ‹_› rfl | ((repeat' first | rfl | constructor);done)
       done)
    | (refine ⟨(),[0,1,2,4],trivial,?_⟩
       repeat' ((conv => whnf);(first | apply And.intro | intro _))
       all_goals first | rfl | trivial | exact ah rfl | exact aS ‹_› rfl | exact aT ‹_› rfl | ((repeat' first | rfl | constructor);done)
       done)
    | (refine ⟨(),[0,1,2,5],trivial,?_⟩
       repeat' ((conv => whnf);(first | apply And.intro | intro _))
       all_goals first | rfl | trivial | exact ah rfl | exact aS ‹_› rfl | exact aT ‹_› rfl | ((repeat' first | rfl | constructor);done)
       done)
  rintro ⟨⟩ -
  have z0 : (1 : Int) = abG true H 0:=by unfold abG;rfl
  repeat' ((conv => whnf);first | apply And.intro | (intro h9;try (have h8 : (_ : Bool) = _:=h9;clear h8;revert h9;subst_vars;intro h9;exact aq h9 (by assumption))))
  all_goals try (conv => whnf)
  all_goals try first | (apply Tk.mk <;> kernel_rfl) | exact ⟨ah rfl⟩ | exact ⟨rfl⟩ | exact ⟨trivial⟩
  all_goals subst_vars
  all_goals try first | rfl | contradiction | (apply Ob.mk;first | (simp only [ag,ak,aa.ae];omega) | ((try simp only [aa.ae]);(try dsimp only);omega))
  refine ⟨Nat,fun i => i <= H.length,fun i => ⟨aI 83 [1,2,3,7,8,9,11] [.a (vI p),.a (.sl 1 [] 0 H.length),.a (.p 2 [] 0 0),.a (.v (.slice none 0 0)),.a (vI 1),.a (vI (abG true H i)),.a (vI i)],[],[.arr 60 kW L false false,.arr 3 kI H false false,.box true [vI n,vI P,.sl 0 [] 0 L.length]]⟩,fun i => H.length - i,0,[],Nat.zero_le _,?_,?_⟩
  ·repeat' ((conv => whnf);(first | apply And.intro | intro _))
   all_goals first | rfl | trivial | exact ah rfl | exact aS ‹_› rfl | exact aT ‹_› rfl | ((repeat' first | rfl | constructor);done) | exact z0 | exact z0.symm
  rintro i hi
  by_cases hi1 : i < H.length
  ·have p0 : decide ((i : Int) < (H.length : Int)) = true:=decide_eq_true (by omega)
   obtain b1 | b1 : aQ (av H i) (-1099511627776) 1099511627776 = false \/ aQ (av H i) (-1099511627776) 1099511627776 = true:=by cases aQ (av H i) (-1099511627776) 1099511627776 <;> simp
   ·have e1 : (!aQ (av H i) (-1099511627776) 1099511627776) = true:=by rw [b1];rfl
    have ws : 1 = abG true H (i + 1):=by rw [abG,b1]
    repeat' ((conv => whnf);first | apply And.intro | (intro h9;try (have h8 : (_ : Bool) = _:=h9;clear h8;revert h9;subst_vars;intro h9;exact aq h9 (by assumption))))
    all_goals try (conv => whnf)
    all_goals try first | (apply Tk.mk <;> kernel_rfl) | exact ⟨ah rfl⟩ | exact ⟨rfl⟩ | exact ⟨trivial⟩
    all_goals subst_vars
    all_goals try first | rfl | contradiction | (apply Ob.mk;first | (simp only [ag,ak,aa.ae];omega) | ((try simp only [aa.ae]);(try dsimp only);omega))
    all_goals try first
     | exact ⟨show 0 + Int.toNat (i : Int) < H.length by omega⟩
    refine ⟨i + 1,[],hi1,?_,by show H.length - (i + 1) < H.length - i;omega⟩
    repeat' ((conv => whnf);(first | apply And.intro | intro _))
    all_goals first | rfl | trivial | exact ah rfl | exact aS ‹_› rfl | exact aT ‹_› rfl | ((repeat' first | rfl | constructor);done) | exact ws | exact ws.symm
   have e1 : (!aQ (av H i) (-1099511627776) 1099511627776) = false:=by rw [b1];rfl
   have ws : abG true H i = abG true H (i + 1):=by rw [abG,b1]
   repeat' ((conv => whnf);first | apply And.intro | (intro h9;try (have h8 : (_ : Bool) = _:=h9;clear h8;revert h9;subst_vars;intro h9;exact aq h9 (by assumption))))
   all_goals try (conv => whnf)
   all_goals try first | (apply Tk.mk <;> kernel_rfl) | exact ⟨ah rfl⟩ | exact ⟨rfl⟩ | exact ⟨trivial⟩
   all_goals subst_vars
   all_goals try first | rfl | contradiction | (apply Ob.mk;first | (simp only [ag,ak,aa.ae];omega) | ((try simp only [aa.ae]);(try dsimp only);omega))
   all_goals try first
    | exact ⟨show 0 + Int.toNat (i : Int) < H.length by omega⟩
   refine ⟨i + 1,[],hi1,?_,by show H.length - (i + 1) < H.length - i;omega⟩
   repeat' ((conv => whnf);(first | apply And.intro | intro _))
   all_goals first | rfl | trivial | exact ah rfl | exact aS ‹_› rfl | exact aT ‹_› rfl | ((repeat' first | rfl | constructor);done) | exact ws | exact ws.symm
  have p0 : decide ((i : Int) < (H.length : Int)) = false:=decide_eq_false (by omega)
  obtain rfl : i = H.length:=by omega
  have w1:=ach _ d1
  have x1 : (abG true H H.length != 0) = true:=by rw [w1];rfl
  have x2 : ((1 : Int) == abG true H H.length) = true:=by rw [w1];rfl
  clear w1 ach
  repeat' ((conv => whnf);first | apply And.intro | (intro h9;try (have h8 : (_ : Bool) = _:=h9;clear h8;revert h9;subst_vars;intro h9;exact aq h9 (by assumption))))
  all_goals try (conv => whnf)
  all_goals try first | (apply Tk.mk <;> kernel_rfl) | exact ⟨ah rfl⟩ | exact ⟨rfl⟩ | exact ⟨trivial⟩
  all_goals subst_vars
  all_goals try first | rfl | contradiction | (apply Ob.mk;first | (simp only [ag,ak,aa.ae];omega) | ((try simp only [aa.ae]);(try dsimp only);omega))
 repeat' ((conv => whnf);first | apply And.intro | (intro h9;try (have h8 : (_ : Bool) = _:=h9;clear h8;revert h9;subst_vars;intro h9;exact aq h9 (by assumption))))
 all_goals try (conv => whnf)
 all_goals try first | (apply Tk.mk <;> kernel_rfl) | exact ⟨ah rfl⟩ | exact ⟨rfl⟩ | exact ⟨trivial⟩
 all_goals subst_vars
 all_goals try first | rfl | contradiction | (apply Ob.mk;first | (simp only [ag,ak,aa.ae];omega) | ((try simp only [aa.ae]);(try dsimp only);omega))
 all_goals try first
  | exact ⟨hl⟩
  | exact ⟨show H.length <= 1000000 by omega⟩
 refine ⟨Unit,fun _ => True,fun _ => ⟨aI 83 [1,2,3,7,8,9,10] [.a (vI p),.a (.sl 1 [] 0 H.length),.a (.p 2 [] 0 0),.a (.v (.slice none 0 0)),.a (vI 1),.a (vI (bf n P L p)),.a (.sl 3 [] 0 (eR (cI n (af L p) (n * n).toNat) (cN n (af L p) (n * n).toNat) (cI n (af L p) (n * n).toNat).length).length)],[],[.arr 60 kW L false false,.arr 3 kI H false false,.box true [vI n,vI P,.sl 0 [] 0 L.length],.arr 3 kI (eR (cI n (af L p) (n * n).toNat) (cN n (af L p) (n * n).toNat) (cI n (af L p) (n * n).toNat).length) true true]⟩,?_,?_⟩
 ·repeat' ((conv => whnf);first | apply And.intro | (intro h9;try (have h8 : (_ : Bool) = _:=h9;clear h8;revert h9;subst_vars;intro h9;exact aq h9 (by assumption))))
  all_goals try (conv => whnf)
  all_goals try first | (apply Tk.mk <;> kernel_rfl) | exact ⟨ah rfl⟩ | exact ⟨rfl⟩ | exact ⟨trivial⟩
  all_goals subst_vars
  all_goals try first | rfl | contradiction | (apply Ob.mk;first | (simp only [ag,ak,aa.ae];omega) | ((try simp only [aa.ae]);(try dsimp only);omega))
  all_goals try first
   | exact True.intro
   | exact ⟨hw⟩
   | exact ⟨hl⟩
   | exact ⟨hgo⟩
   | exact ⟨l3⟩
   | exact ⟨show (af L p).length <= 1000000 by omega⟩
   | exact ⟨show (cI n (af L p) (n * n).toNat).length <= 1000000 by omega⟩
  all_goals first
   | (refine ⟨(),[0,1,2,6],trivial,?_⟩
      repeat' ((conv => whnf);(first | apply And.intro | intro _))
      all_goals first | rfl | trivial | exact ah rfl | exact aS ‹_› rfl | exact aT ‹_› rfl | ((repeat' first | rfl | constructor);done)
      done)
   | (refine ⟨(),[0,1,2,3],trivial,?_⟩
      repeat' ((conv => whnf);(first | apply And.intro | intro _))
      all_goals first | rfl | trivial | exact ah rfl | exact aS ‹_› rfl | exact aT ‹_› rfl | ((repeat' first | rfl | constructor);done)
      done)
   | (refine ⟨(),[0,1,2,4],trivial,?_⟩
      repeat' ((conv => whnf);(first | apply And.intro | intro _))
      all_goals first | rfl | trivial | exact ah rfl | exact aS ‹_› rfl | exact aT ‹_› rfl | ((repeat' first | rfl | constructor);done)
      done)
   | (refine ⟨(),[0,1,2,5],trivial,?_⟩
      repeat' ((conv => whnf);(first | apply And.intro | intro _))
      all_goals first | rfl | trivial | exact ah rfl | exact aS ‹_› rfl | exact aT ‹_› rfl | ((repeat' first | rfl | constructor);done)
      done)
 rintro ⟨⟩ -
 have z0 : bf n P L p = abG false H 0:=by rw [eq_of_beq q1];unfold abG;rfl
 repeat' ((conv => whnf);first | apply And.intro | (intro h9;try (have h8 : (_ : Bool) = _:=h9;clear h8;revert h9;subst_vars;intro h9;exact aq h9 (by assumption))))
 all_goals try (conv => whnf)
 all_goals try first | (apply Tk.mk <;> kernel_rfl) | exact ⟨ah rfl⟩ | exact ⟨rfl⟩ | exact ⟨trivial⟩
 all_goals subst_vars
 all_goals try first | rfl | contradiction | (apply Ob.mk;first | (simp only [ag,ak,aa.ae];omega) | ((try simp only [aa.ae]);(try dsimp only);omega))
 refine ⟨Nat,fun i => i <= H.length,fun i => ⟨aI 83 [1,2,3,7,8,9,11] [.a (vI p),.a (.sl 1 [] 0 H.length),.a (.p 2 [] 0 0),.a (.v (.slice none 0 0)),.a (vI 1),.a (vI (abG false H i)),.a (vI i)],[],[.arr 60 kW L false false,.arr 3 kI H false false,.box true [vI n,vI P,.sl 0 [] 0 L.length]]⟩,fun i => H.length - i,0,[],Nat.zero_le _,?_,?_⟩
 ·repeat' ((conv => whnf);(first | apply And.intro | intro _))
  all_goals first | rfl | trivial | exact ah rfl | exact aS ‹_› rfl | exact aT ‹_› rfl | ((repeat' first | rfl | constructor);done) | exact z0 | exact z0.symm
 rintro i hi
 by_cases hi1 : i < H.length
 ·have p0 : decide ((i : Int) < (H.length : Int)) = true:=decide_eq_true (by omega)
  obtain b1 | b1 : aQ (av H i) (-1099511627776) 1099511627776 = false \/ aQ (av H i) (-1099511627776) 1099511627776 = true:=by cases aQ (av H i) (-1099511627776) 1099511627776 <;> simp
  ·have e1 : (!aQ (av H i) (-1099511627776) 1099511627776) = true:=by rw [b1];rfl
   have ws : 1 = abG false H (i + 1):=by rw [abG,b1]
   repeat' ((conv => whnf);first | apply And.intro | (intro h9;try (have h8 : (_ : Bool) = _:=h9;clear h8;revert h9;subst_vars;intro h9;exact aq h9 (by assumption))))
   all_goals try (conv => whnf)
   all_goals try first | (apply Tk.mk <;> kernel_rfl) | exact ⟨ah rfl⟩ | exact ⟨rfl⟩ | exact ⟨trivial⟩
   all_goals subst_vars
   all_goals try first | rfl | contradiction | (apply Ob.mk;first | (simp only [ag,ak,aa.ae];omega) | ((try simp only [aa.ae]);(try dsimp only);omega))
   all_goals try first
    | exact ⟨show 0 + Int.toNat (i : Int) < H.length by omega⟩
   refine ⟨i + 1,[],hi1,?_,by show H.length - (i + 1) < H.length - i;omega⟩
   repeat' ((conv => whnf);(first | apply And.intro | intro _))
   all_goals first | rfl | trivial | exact ah rfl | exact aS ‹_› rfl | exact aT ‹_› rfl | ((repeat' first | rfl | constructor);done) | exact ws | exact ws.symm
  have e1 : (!aQ (av H i) (-1099511627776) 1099511627776) = false:=by rw [b1];rfl
  have ws : abG false H i = abG false H (i + 1):=by rw [abG,b1]
  repeat' ((conv => whnf);first | apply And.intro | (intro h9;try (have h8 : (_ : Bool) = _:=h9;clear h8;revert h9;subst_vars;intro h9;exact aq h9 (by assumption))))
  all_goals try (conv => whnf)
  all_goals try first | (apply Tk.mk <;> kernel_rfl) | exact ⟨ah rfl⟩ | exact ⟨rfl⟩ | exact ⟨trivial⟩
  all_goals subst_vars
  all_goals try first | rfl | contradiction | (apply Ob.mk;first | (simp only [ag,ak,aa.ae];omega) | ((try simp only [aa.ae]);(try dsimp only);omega))
  all_goals try first
   | exact ⟨show 0 + Int.toNat (i : Int) < H.length by omega⟩
  refine ⟨i + 1,[],hi1,?_,by show H.length - (i + 1) < H.length - i;omega⟩
  repeat' ((conv => whnf);(first | apply And.intro | intro _))
  all_goals first | rfl | trivial | exact ah rfl | exact aS ‹_› rfl | exact aT ‹_› rfl | ((repeat' first | rfl | constructor);done) | exact ws | exact ws.symm
 have p0 : decide ((i : Int) < (H.length : Int)) = false:=decide_eq_false (by omega)
 obtain rfl : i = H.length:=by omega
 have w1:=ach _ d1
 have x1 : (abG false H H.length != 0) = true:=by rw [w1];rfl
 have x2 : ((1 : Int) == abG false H H.length) = true:=by rw [w1];rfl
 clear w1 ach
 repeat' ((conv => whnf);first | apply And.intro | (intro h9;try (have h8 : (_ : Bool) = _:=h9;clear h8;revert h9;subst_vars;intro h9;exact aq h9 (by assumption))))
 all_goals try (conv => whnf)
 all_goals try first | (apply Tk.mk <;> kernel_rfl) | exact ⟨ah rfl⟩ | exact ⟨rfl⟩ | exact ⟨trivial⟩
 all_goals subst_vars
 all_goals try first | rfl | contradiction | (apply Ob.mk;first | (simp only [ag,ak,aa.ae];omega) | ((try simp only [aa.ae]);(try dsimp only);omega)))
end Go.Proofs.YthejmgnkenokpaaDoor
end
