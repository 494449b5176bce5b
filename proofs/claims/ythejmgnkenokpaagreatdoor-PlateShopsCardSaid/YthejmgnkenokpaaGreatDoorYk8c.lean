/-
  Texts of the claims on chapter 3: Yk8c. No condition: lemmas and contracts.
-/
import Derived.Test.YthejmgnkenokpaaGreatDoorYk4c
import Derived.Test.YthejmgnkenokpaaGreatDoorYk5c
import Derived.Test.YthejmgnkenokpaaGreatDoorPl1c
import Derived.Test.YthejmgnkenokpaaGreatDoorYk7c
set_option linter.all false
set_option maxRecDepth 100000
set_option maxHeartbeats 4000000
section
namespace Go.Proofs.YthejmgnkenokpaaGreatDoor
open Go Go.Sy Go.bK
variable {Γ : bn}
def MI (D : Int -> List Sg -> List aa) (R : Int -> List Sg -> cM) : au:=.new fun args rg K => match args with
 | [.a (.v (.int .i64 n0)),.a x0] => (match ac1 48 kG rg x0 with | some (q0,L0) => bk false (q0 ++ (D n0 L0)) (K (R n0 L0)) | _ => False)
 | _ => False
theorem Lj {f : FuncId} {b : Body} {E : Env} {d : Nat} (hP : aL Tryz.prog Γ E) (hb : bQ Tryz.prog f b) {D : Int -> List Sg -> List aa} {R : Int -> List Sg -> cM}
  (H : ∀ (n0 : Int) (L0 : List Sg) (K : cM -> Prop),bW (D n0 L0) -> K (R n0 L0) -> cQ E d b [.a (vI n0),.a (.sl 0 [] 0 L0.length)] [.arr 48 kG L0 false false] (bu K)) : au.Ok Tryz.prog Γ f (MI D R):=au.fM (d:=d) hP hb (by
 intro args rg K hF
 split at hF
 next n0 x0 =>
  split at hF
  next q0 L0 hx0 =>
   rw [aV,aH] at hF
   obtain ⟨⟨dm,hD⟩,hK⟩:=hF
   obtain ⟨e0,Vn⟩:=bP (by simp [kG]) hx0 dm
   obtain ⟨p0,r0⟩:=Vn [e0] 0 1 rfl (by omega)
   refine ⟨[e0],[.a (vI n0),.a (.sl 0 [] 0 L0.length)],[.arr 48 kG L0 false false],⟨⟨rfl,p0,trivial⟩,fun r g hg => ?_⟩,bu K,H _ _ K hD hK,fun x st h => h⟩
   match r,hg with
   | 0,hg => obtain rfl:=Option.some.inj hg;exact r0
  next => exact hF.elim
 next => exact hF.elim)
def lO (n : Int) (G : List Sg) (x : Int) (k : Nat) : Bool:=(sg G k).2 && (oP n G k x == x)
def iD (n : Int) (G : List Sg) (x : Int) (es : List (Int × Bool)) : Nat -> List (Int × Bool)
 | 0 => es
 | k + 1 => match lO n G x k with | true => dF (iD n G x es k) (aK n G x) true | false => iD n G x es k
def gB (n : Int) (G : List Sg) : Nat -> List (Int × Bool)
 | 0 => []
 | x + 1 => iD n G (x : Nat) (gB n G x) G.length
def gE (n : Int) (G : List Sg) (x : Int) (k : Nat) : Bool:=!(sg G k).2 && (oP n G k (aK n G x) == x)
def cH (n : Int) (G : List Sg) (x : Int) : Nat -> Int
 | 0 => -1
 | k + 1 => match gE n G x k with | true => 1 | false => cH n G x k
def bO (n : Int) (G : List Sg) (x : Int) : Int:=match aO (gB n G (n * n).toNat) (aK n G x) false with | true => 0 | false => cH n G x G.length
theorem HI {n : Int} {G : List Sg} {x : Int} (hn : 1 <= n /\ n <= 6) (hg : ∀ g ∈ G,0 <= g.1 /\ g.1 <= 7) (hx : 0 <= x /\ x < n * n) : ∀ k,k <= G.length -> 0 <= cU n G x k /\ cU n G x k < n * n
 | 0,_ => hx
 | k + 1,hk => by
   rw [cU]
   split
   ·exact rP hn (hg _ (aaq hk)) hx
   ·exact HI hn hg hx k (by omega)
theorem qg {f : Int -> Int} {N x : Nat} (h : x < N) : gi (ay f N N) x = f (x : Nat):=by simp [gi,ay,h]
theorem F3 {f : Int -> Int} {N x : Nat} (h : f (x : Nat) = 0) : ay f N (x + 1) = ay f N x:=by
 refine List.ext_getElem (by simp [ay]) fun j h1 h2 => ?_
 simp only [ay,List.getElem_map,List.getElem_range]
 by_cases h3 : j < x
 ·rw [if_pos h3,if_pos (by omega)]
 ·rw [if_neg h3]
  by_cases h4 : j < x + 1
  ·obtain rfl : j = x:=by omega
   rw [if_pos h4,h]
  ·rw [if_neg h4]
theorem w6 (l : List Int) (i : Nat) (v : Int) : l.set (0 + Int.toNat (i : Int)) v = l.set i v:=by rw [Nat.zero_add,Int.toNat_natCast]
def nj : au:=MI (fun n G => [(aa.of (1 <= n /\ n <= 6)),(aa.of (G.length <= 1000000)),(aa.of (∀ g ∈ G,0 <= g.1 /\ g.1 <= 7))]) (fun n G => ⟨[.arr 3 kI (ay (aK n G) (n * n).toNat (n * n).toNat) true true,.arr 3 kI (ay (bO n G) (n * n).toNat (n * n).toNat) true true],.bF [.a (.sl 0 [] 0 (n * n).toNat),.a (.sl 1 [] 0 (n * n).toNat)]⟩)
noncomputable def zm : List (Nat × au):=[(83,ke)]
theorem Cs : aR Tryz.prog Γ zm:=(aR.nil.cons (aj Tryz.func83 rfl rfl).fn iK)
noncomputable def xp : List (Nat × Body):=[(82,bo Tryz.f82),(117,bo Tryz.f117),(115,bo Tryz.f115)]
theorem zC : bq Tryz.prog xp:=(((bq.nil.cons (cg Tryz.func115 rfl rfl)).cons (cg Tryz.func117 rfl rfl)).cons (cg Tryz.func82 rfl rfl))
def HU (id : Nat) : Option (List Nat × OT):=match Nat.beq id 1 with | true => some ([],(.take 0 (.take 1 (.take 2 (.take 4 (.take 5 (.take 6 (.alt 3 (.alt 7 (.alt 8 (.alt 9 (.alt 10 (.alt 11 .fin .fin) .fin) .fin) (.alt 9 (.alt 8 (.alt 10 (.alt 11 .fin .fin) .fin) .fin) .fin)) (.alt 8 (.alt 7 (.alt 9 (.alt 10 (.alt 11 .fin .fin) .fin) .fin) (.alt 9 (.alt 7 (.alt 10 (.alt 11 .fin .fin) .fin) (.alt 10 (.alt 7 (.alt 11 .fin .fin) .fin) .fin)) .fin)) (.alt 9 (.alt 7 (.alt 8 (.alt 10 (.alt 11 .fin .fin) .fin) .fin) (.alt 8 (.alt 7 (.alt 10 (.alt 11 .fin .fin) .fin) (.alt 10 (.alt 7 (.alt 11 .fin .fin) .fin) .fin)) .fin)) .fin))) (.alt 7 (.alt 3 (.alt 8 (.alt 9 (.alt 10 (.alt 11 .fin .fin) .fin) .fin) (.alt 9 (.alt 8 (.alt 10 (.alt 11 .fin .fin) .fin) .fin) .fin)) (.alt 8 (.alt 3 (.alt 9 (.alt 10 (.alt 11 .fin .fin) .fin) .fin) (.alt 9 (.alt 3 (.alt 10 (.alt 11 .fin .fin) .fin) .fin) .fin)) (.alt 9 (.alt 3 (.alt 8 (.alt 10 (.alt 11 .fin .fin) .fin) .fin) (.alt 8 (.alt 3 (.alt 10 (.alt 11 .fin .fin) .fin) .fin) .fin)) .fin))) (.alt 8 (.alt 3 (.alt 7 (.alt 9 (.alt 10 (.alt 11 .fin .fin) .fin) .fin) (.alt 9 (.alt 7 (.alt 10 (.alt 11 .fin .fin) .fin) (.alt 10 (.alt 7 (.alt 11 .fin .fin) .fin) .fin)) .fin)) (.alt 7 (.alt 3 (.alt 9 (.alt 10 (.alt 11 .fin .fin) .fin) .fin) (.alt 9 (.alt 3 (.alt 10 (.alt 11 .fin .fin) .fin) .fin) .fin)) (.alt 9 (.alt 3 (.alt 7 (.alt 10 (.alt 11 .fin .fin) .fin) (.alt 10 (.alt 7 (.alt 11 .fin .fin) .fin) .fin)) (.alt 7 (.alt 3 (.alt 10 (.alt 11 .fin .fin) .fin) .fin) .fin)) .fin))) (.alt 9 (.alt 3 (.alt 7 (.alt 8 (.alt 10 (.alt 11 .fin .fin) .fin) .fin) (.alt 8 (.alt 7 (.alt 10 (.alt 11 .fin .fin) .fin) (.alt 10 (.alt 7 (.alt 11 .fin .fin) .fin) .fin)) .fin)) (.alt 7 (.alt 3 (.alt 8 (.alt 10 (.alt 11 .fin .fin) .fin) .fin) (.alt 8 (.alt 3 (.alt 10 (.alt 11 .fin .fin) .fin) .fin) .fin)) (.alt 8 (.alt 3 (.alt 7 (.alt 10 (.alt 11 .fin .fin) .fin) (.alt 10 (.alt 7 (.alt 11 .fin .fin) .fin) .fin)) (.alt 7 (.alt 3 (.alt 10 (.alt 11 .fin .fin) .fin) .fin) .fin)) .fin))) .fin))))))))))) | false => none
noncomputable def uO : Env:={ jV.env zm xp false 0 with str:=HU }
theorem yK : aL Tryz.prog Γ uO:=(aP Cs zC false 0).strs _
noncomputable def Gy : Env:={ uO with cut:=fun t => Nat.beq t 2001 }
theorem Aa : aL Tryz.prog Γ Gy:=yK.wy _
theorem mA : au.Ok Tryz.prog Γ 78 nj:=Lj (d:=4) Aa (aj Tryz.func78 rfl rfl) (by
 intro n G K ⟨hn,hG,hg,_⟩ hK
 simp only [aa.ae] at hn hG hg
 have j4 : 1 <= n * n /\ n * n <= 36:=sJ hn
 repeat' ((conv => whnf);first | apply And.intro | (intro h9;try (have h8 : (_ : Bool) = _:=h9;clear h8;revert h9;subst_vars;intro h9;exact aq h9 (by assumption))))
 all_goals try (conv => whnf)
 all_goals try first | (apply Tk.mk <;> kernel_rfl) | exact ⟨ah rfl⟩ | exact ⟨rfl⟩ | exact ⟨trivial⟩
 all_goals subst_vars
 all_goals try first | rfl | contradiction | (apply Ob.mk;first | (simp only [ag,ak,aa.ae];omega) | ((try simp only [aa.ae]);(try dsimp only);omega))
 refine ⟨Unit,fun _ => True,fun _ => ⟨aI 69 [2,3,6,7] [.a (.p 1 [] 0 0),.a (.p 2 [] 0 0),.a (.p 5 [] 0 0),.a (.p 6 [] 0 0)],[],[.arr 48 kG G false false,.box true [vI n],.box true [.sl 0 [] 0 G.length],.arr 3 kI (List.replicate (n * n).toNat (0 : Int)) true true,.arr 3 kI (List.replicate (n * n).toNat (0 : Int)) true true,.box true [.sl 3 [] 0 (n * n).toNat],.box true [.sl 4 [] 0 (n * n).toNat]]⟩,?_,?_⟩
 ·repeat' ((conv => whnf);first | apply And.intro | (intro h9;try (have h8 : (_ : Bool) = _:=h9;clear h8;revert h9;subst_vars;intro h9;exact aq h9 (by assumption))))
  all_goals try (conv => whnf)
  all_goals try first | (apply Tk.mk <;> kernel_rfl) | exact ⟨ah rfl⟩ | exact ⟨rfl⟩ | exact ⟨trivial⟩
  all_goals subst_vars
  all_goals try first | rfl | contradiction | (apply Ob.mk;first | (simp only [ag,ak,aa.ae];omega) | ((try simp only [aa.ae]);(try dsimp only);omega))
  all_goals try first
   | exact True.intro
   | exact ⟨show n * n * ((1 : Nat) : Int) <= 16777216 by omega⟩
  refine ⟨(),[0,1,2,3,4,5,6],trivial,?_⟩
  rotate_left
  refine ⟨(),[0,1,2,3,4,6,5],trivial,?_⟩
  rotate_left
  refine ⟨(),[0,1,2,3,5,4,6],trivial,?_⟩
  rotate_left
  refine ⟨(),[0,1,2,3,6,4,5],trivial,?_⟩
  rotate_left
  refine ⟨(),[0,1,2,3,6,4,5],trivial,?_⟩
  rotate_left
  refine ⟨(),[0,1,2,3,5,6,4],trivial,?_⟩
  rotate_left
  refine ⟨(),[0,1,2,3,6,5,4],trivial,?_⟩
  rotate_left
  refine ⟨(),[0,1,2,3,6,5,4],trivial,?_⟩
  rotate_left
  refine ⟨(),[0,1,2,4,3,5,6],trivial,?_⟩
  rotate_left
  refine ⟨(),[0,1,2,4,3,6,5],trivial,?_⟩
  rotate_left
  refine ⟨(),[0,1,2,5,3,4,6],trivial,?_⟩
  rotate_left
  refine ⟨(),[0,1,2,6,3,4,5],trivial,?_⟩
  rotate_left
  refine ⟨(),[0,1,2,5,3,6,4],trivial,?_⟩
  rotate_left
  refine ⟨(),[0,1,2,6,3,5,4],trivial,?_⟩
  rotate_left
  refine ⟨(),[0,1,2,4,5,3,6],trivial,?_⟩
  rotate_left
  refine ⟨(),[0,1,2,4,6,3,5],trivial,?_⟩
  rotate_left
  refine ⟨(),[0,1,2,4,6,3,5],trivial,?_⟩
  rotate_left
  refine ⟨(),[0,1,2,5,4,3,6],trivial,?_⟩
  rotate_left
  refine ⟨(),[0,1,2,6,4,3,5],trivial,?_⟩
  rotate_left
  refine ⟨(),[0,1,2,5,6,3,4],trivial,?_⟩
  rotate_left
  refine ⟨(),[0,1,2,5,6,3,4],trivial,?_⟩
  rotate_left
  refine ⟨(),[0,1,2,6,5,3,4],trivial,?_⟩
  rotate_left
  refine ⟨(),[0,1,2,4,5,6,3],trivial,?_⟩
  rotate_left
  refine ⟨(),[0,1,2,4,6,5,3],trivial,?_⟩
  rotate_left
  refine ⟨(),[0,1,2,4,6,5,3],trivial,?_⟩
  rotate_left
  refine ⟨(),[0,1,2,5,4,6,3],trivial,?_⟩
  rotate_left
  refine ⟨(),[0,1,2,6,4,5,3],trivial,?_⟩
  rotate_left
  refine ⟨(),[0,1,2,5,6,4,3],trivial,?_⟩
  rotate_left
  refine ⟨(),[0,1,2,5,6,4,3],trivial,?_⟩
  rotate_left
  refine ⟨(),[0,1,2,6,5,4,3],trivial,?_⟩
  rotate_right 29
  iterate 30
   ·repeat' ((conv => whnf);(first | apply And.intro | intro _))
    all_goals first | rfl | trivial | exact ah rfl | exact aS ‹_› rfl | exact aT ‹_› rfl | ((repeat' first | rfl | constructor);done)
 rintro _ _
 repeat' ((conv => whnf);first | apply And.intro | (intro h9;try (have h8 : (_ : Bool) = _:=h9;clear h8;revert h9;subst_vars;intro h9;exact aq h9 (by assumption))))
 all_goals try (conv => whnf)
 all_goals try first | (apply Tk.mk <;> kernel_rfl) | exact ⟨ah rfl⟩ | exact ⟨rfl⟩ | exact ⟨trivial⟩
 all_goals subst_vars
 all_goals try first | rfl | contradiction | (apply Ob.mk;first | (simp only [ag,ak,aa.ae];omega) | ((try simp only [aa.ae]);(try dsimp only);omega))
 all_goals try first
  | exact True.intro
 rename_i l fn T
 rename Nat => dd
 refine ⟨Nat,fun x => x <= (n * n).toNat,fun x => ⟨aI 15 [0,1,6,7] [.a (.yl 11),.a (.p 10 [] 0 0),.a (vI (n * n)),.a (vI x)],[aI 69 [2,3,6,7,8,9] [.a (.p 1 [] 0 0),.a (.p 2 [] 0 0),.a (.p 5 [] 0 0),.a (.p 6 [] 0 0),.a (.p 8 [] 0 0),.a (.p 9 [] 0 0)]],[.arr 48 kG G false false,.box true [vI n],.box true [.sl 0 [] 0 G.length],.arr 3 kI (ay (aK n G) (n * n).toNat x) true true,.arr 3 kI (List.replicate (n * n).toNat (0 : Int)) true true,.box true [.sl 3 [] 0 (n * n).toNat],.box true [.sl 4 [] 0 (n * n).toNat],.map 143 .i64 .bool (gB n G x) true,.box true [.mp 7],.box true [.fn 115 [5,2,1,8]],.box true [vI n],.lp l (aI 69 [2,3,6,7,8,9] [.a (.p 1 [] 0 0),.a (.p 2 [] 0 0),.a (.p 5 [] 0 0),.a (.p 6 [] 0 0),.a (.p 8 [] 0 0),.a (.p 9 [] 0 0)]) (ac5 Tryz.f78 0 fn T dd) .ready none]⟩,fun x => (n * n).toNat - x,0,[],Nat.zero_le _,?_,?_⟩
 ·repeat' ((conv => whnf);(first | apply And.intro | intro _))
  all_goals first | rfl | trivial | exact ah rfl | exact aS ‹_› rfl | exact aT ‹_› rfl | ((repeat' first | rfl | constructor);done) | exact ⟨rfl,rfl,qh.symm⟩ | exact ⟨rfl,rfl,rfl,rfl,rfl⟩ | (rename_i bx;simp only [List.mem_cons,List.not_mem_nil,or_false] at bx;rcases bx with rfl | rfl | rfl | rfl <;> exact ah rfl)
 rintro x hx
 by_cases cO : x < (n * n).toNat
 ·have p0 : decide ((x : Int) < n * n) = true:=decide_eq_true (by omega)
  have cq : 0 <= (x : Int) /\ (x : Int) < n * n:=by omega
  have hla : x < (ay (aK n G) (n * n).toNat x).length:=by rw [c7];exact cO
  repeat' ((conv => whnf);first | apply And.intro | (intro h9;try (have h8 : (_ : Bool) = _:=h9;clear h8;revert h9;subst_vars;intro h9;exact aq h9 (by assumption))))
  all_goals try (conv => whnf)
  all_goals try first | (apply Tk.mk <;> kernel_rfl) | exact ⟨ah rfl⟩ | exact ⟨rfl⟩ | exact ⟨trivial⟩
  all_goals subst_vars
  all_goals try first | rfl | contradiction | (apply Ob.mk;first | (simp only [ag,ak,aa.ae];omega) | ((try simp only [aa.ae]);(try dsimp only);omega))
  all_goals try first
   | exact ⟨show 0 + Int.toNat (x : Int) < (ay (aK n G) (n * n).toNat x).length by omega⟩
  refine ⟨Nat,fun k => k <= G.length,fun k => ⟨aI 57 [0,1,2,3,4,14,15,16] [.a (vI x),.a (.p 5 [] 0 0),.a (.p 2 [] 0 0),.a (.p 1 [] 0 0),.a (.p 8 [] 0 0),.a (.sl 0 [] 0 G.length),.a (vI G.length),.a (vI k)],[aI 69 [2,3,6,7,8,9] [.a (.p 1 [] 0 0),.a (.p 2 [] 0 0),.a (.p 5 [] 0 0),.a (.p 6 [] 0 0),.a (.p 8 [] 0 0),.a (.p 9 [] 0 0)],aI 15 [0,1,6,7] [.a (.yl 11),.a (.p 10 [] 0 0),.a (vI (n * n)),.a (vI x)],aI 69 [2,3,6,7,8,9] [.a (.p 1 [] 0 0),.a (.p 2 [] 0 0),.a (.p 5 [] 0 0),.a (.p 6 [] 0 0),.a (.p 8 [] 0 0),.a (.p 9 [] 0 0)]],[.arr 48 kG G false false,.box true [vI n],.box true [.sl 0 [] 0 G.length],.arr 3 kI ((ay (aK n G) (n * n).toNat x).set x (cU n G x k)) true true,.arr 3 kI (List.replicate (n * n).toNat (0 : Int)) true true,.box true [.sl 3 [] 0 (n * n).toNat],.box true [.sl 4 [] 0 (n * n).toNat],.map 143 .i64 .bool (gB n G x) true,.box true [.mp 7],.box true [.fn 115 [5,2,1,8]],.box true [vI n],.lp l (aI 69 [2,3,6,7,8,9] [.a (.p 1 [] 0 0),.a (.p 2 [] 0 0),.a (.p 5 [] 0 0),.a (.p 6 [] 0 0),.a (.p 8 [] 0 0),.a (.p 9 [] 0 0)]) (ac5 Tryz.f78 0 fn T dd) .busy none]⟩,fun k => G.length - k,0,[],Nat.zero_le _,?_,?_⟩
  ·repeat' ((conv => whnf);(first | apply And.intro | intro _))
   all_goals first | rfl | trivial | exact ah rfl | exact aS ‹_› rfl | exact aT ‹_› rfl | ((repeat' first | rfl | constructor);done) | exact ⟨rfl,rfl,w6 ..⟩ | (rename_i bx;simp only [List.mem_cons,List.not_mem_nil,or_false] at bx;rcases bx with rfl | rfl | rfl | rfl <;> exact ah rfl)
  rintro k hk
  by_cases cB : k < G.length
  ·have p1 : decide ((k : Int) < (G.length : Int)) = true:=decide_eq_true (by omega)
   have es:=rL G k
   have dI : 0 <= (bI G k).1 /\ (bI G k).1 <= 7:=by rw [es];exact hg _ (aaq cB)
   have hlb : x < ((ay (aK n G) (n * n).toNat x).set x (cU n G x k)).length:=by rw [List.length_set];exact hla
   have hr : av ((ay (aK n G) (n * n).toNat x).set x (cU n G x k)) x = cU n G x k:=by rw [dP];exact G3 hla
   have hstep : (((ay (aK n G) (n * n).toNat x).set x (cU n G x k)).set (0 + Int.toNat (x : Int)) (if aX n (bI G k).1 x < av ((ay (aK n G) (n * n).toNat x).set x (cU n G x k)) x then aX n (bI G k).1 x else av ((ay (aK n G) (n * n).toNat x).set x (cU n G x k)) x)) = (ay (aK n G) (n * n).toNat x).set x (cU n G x (k + 1)):=by
    rw [hr,es,Nat.zero_add,Int.toNat_natCast,yt];rfl
   repeat' ((conv => whnf);first | apply And.intro | (intro h9;try (have h8 : (_ : Bool) = _:=h9;clear h8;revert h9;subst_vars;intro h9;exact aq h9 (by assumption))))
   all_goals try (conv => whnf)
   all_goals try first | (apply Tk.mk <;> kernel_rfl) | exact ⟨ah rfl⟩ | exact ⟨rfl⟩ | exact ⟨trivial⟩
   all_goals subst_vars
   all_goals try first | rfl | contradiction | (apply Ob.mk;first | (simp only [ag,ak,aa.ae];omega) | ((try simp only [aa.ae]);(try dsimp only);omega))
   all_goals try first
    | exact ⟨show 0 + Int.toNat (x : Int) < ((ay (aK n G) (n * n).toNat x).set x (cU n G x k)).length by omega⟩
    | exact ⟨show 0 + Int.toNat (k : Int) < G.length by omega⟩
   refine ⟨k + 1,[],cB,?_,by show G.length - (k + 1) < G.length - k;omega⟩
   repeat' ((conv => whnf);(first | apply And.intro | intro _))
   all_goals first | rfl | trivial | exact ah rfl | exact aS ‹_› rfl | exact aT ‹_› rfl | ((repeat' first | rfl | constructor);done) | exact ⟨rfl,rfl,hstep⟩ | (rename_i bx;simp only [List.mem_cons,List.not_mem_nil,or_false] at bx;rcases bx with rfl | rfl | rfl | rfl <;> exact ah rfl)
  have p1 : decide ((k : Int) < (G.length : Int)) = false:=decide_eq_false (by omega)
  obtain rfl : k = G.length:=by omega
  repeat' ((conv => whnf);first | apply And.intro | (intro h9;try (have h8 : (_ : Bool) = _:=h9;clear h8;revert h9;subst_vars;intro h9;exact aq h9 (by assumption))))
  all_goals try (conv => whnf)
  all_goals try first | (apply Tk.mk <;> kernel_rfl) | exact ⟨ah rfl⟩ | exact ⟨rfl⟩ | exact ⟨trivial⟩
  all_goals subst_vars
  all_goals try first | rfl | contradiction | (apply Ob.mk;first | (simp only [ag,ak,aa.ae];omega) | ((try simp only [aa.ae]);(try dsimp only);omega))
  refine ⟨Nat,fun k => k <= G.length,fun k => ⟨aI 57 [0,1,2,3,4,34,35,36] [.a (vI x),.a (.p 5 [] 0 0),.a (.p 2 [] 0 0),.a (.p 1 [] 0 0),.a (.p 8 [] 0 0),.a (.sl 0 [] 0 G.length),.a (vI G.length),.a (vI k)],[aI 69 [2,3,6,7,8,9] [.a (.p 1 [] 0 0),.a (.p 2 [] 0 0),.a (.p 5 [] 0 0),.a (.p 6 [] 0 0),.a (.p 8 [] 0 0),.a (.p 9 [] 0 0)],aI 15 [0,1,6,7] [.a (.yl 11),.a (.p 10 [] 0 0),.a (vI (n * n)),.a (vI x)],aI 69 [2,3,6,7,8,9] [.a (.p 1 [] 0 0),.a (.p 2 [] 0 0),.a (.p 5 [] 0 0),.a (.p 6 [] 0 0),.a (.p 8 [] 0 0),.a (.p 9 [] 0 0)]],[.arr 48 kG G false false,.box true [vI n],.box true [.sl 0 [] 0 G.length],.arr 3 kI (ay (aK n G) (n * n).toNat (x + 1)) true true,.arr 3 kI (List.replicate (n * n).toNat (0 : Int)) true true,.box true [.sl 3 [] 0 (n * n).toNat],.box true [.sl 4 [] 0 (n * n).toNat],.map 143 .i64 .bool (iD n G x (gB n G x) k) true,.box true [.mp 7],.box true [.fn 115 [5,2,1,8]],.box true [vI n],.lp l (aI 69 [2,3,6,7,8,9] [.a (.p 1 [] 0 0),.a (.p 2 [] 0 0),.a (.p 5 [] 0 0),.a (.p 6 [] 0 0),.a (.p 8 [] 0 0),.a (.p 9 [] 0 0)]) (ac5 Tryz.f78 0 fn T dd) .busy none]⟩,fun k => G.length - k,0,[],Nat.zero_le _,?_,?_⟩
  ·repeat' ((conv => whnf);(first | apply And.intro | intro _))
   all_goals first | rfl | trivial | exact ah rfl | exact aS ‹_› rfl | exact aT ‹_› rfl | ((repeat' first | rfl | constructor);done) | exact ⟨rfl,rfl,oQ⟩ | (rename_i bx;simp only [List.mem_cons,List.not_mem_nil,or_false] at bx;rcases bx with rfl | rfl | rfl | rfl <;> exact ah rfl)
  clear p1 hk cB
  rintro k hk
  by_cases cB : k < G.length
  ·have p1 : decide ((k : Int) < (G.length : Int)) = true:=decide_eq_true (by omega)
   have es:=rL G k
   have dI : 0 <= (bI G k).1 /\ (bI G k).1 <= 7:=by rw [es];exact hg _ (aaq cB)
   have hlc : x < (ay (aK n G) (n * n).toNat (x + 1)).length:=by rw [c7];exact cO
   have hr : av (ay (aK n G) (n * n).toNat (x + 1)) x = aK n G x:=by rw [dP];exact K1 cO
   cases q1 : (bI G k).2
   ·have hno : iD n G x (gB n G x) (k + 1) = iD n G x (gB n G x) k:=by rw [iD,show lO n G x k = false by unfold lO;rw [<- es,q1];rfl]
    repeat' ((conv => whnf);first | apply And.intro | (intro h9;try (have h8 : (_ : Bool) = _:=h9;clear h8;revert h9;subst_vars;intro h9;exact aq h9 (by assumption))))
    all_goals try (conv => whnf)
    all_goals try first | (apply Tk.mk <;> kernel_rfl) | exact ⟨ah rfl⟩ | exact ⟨rfl⟩ | exact ⟨trivial⟩
    all_goals subst_vars
    all_goals try first | rfl | contradiction | (apply Ob.mk;first | (simp only [ag,ak,aa.ae];omega) | ((try simp only [aa.ae]);(try dsimp only);omega))
    all_goals try first
     | exact ⟨show 0 + Int.toNat (k : Int) < G.length by omega⟩
    refine ⟨k + 1,[],cB,?_,by show G.length - (k + 1) < G.length - k;omega⟩
    repeat' ((conv => whnf);(first | apply And.intro | intro _))
    all_goals first | rfl | trivial | exact ah rfl | exact aS ‹_› rfl | exact aT ‹_› rfl | ((repeat' first | rfl | constructor);done) | exact ⟨rfl,hno.symm⟩ | exact ⟨rfl,rfl,hno.symm⟩ | exact ⟨rfl,rfl,rfl,hno.symm⟩ | (rename_i bx;simp only [List.mem_cons,List.not_mem_nil,or_false] at bx;rcases bx with rfl | rfl | rfl | rfl <;> exact ah rfl)
   cases q2 : (aX n (bI G k).1 x == (x : Int))
   ·have hno : iD n G x (gB n G x) (k + 1) = iD n G x (gB n G x) k:=by rw [iD,show lO n G x k = false by unfold lO oP;rw [<- es,q2,Bool.and_false]]
    repeat' ((conv => whnf);first | apply And.intro | (intro h9;try (have h8 : (_ : Bool) = _:=h9;clear h8;revert h9;subst_vars;intro h9;exact aq h9 (by assumption))))
    all_goals try (conv => whnf)
    all_goals try first | (apply Tk.mk <;> kernel_rfl) | exact ⟨ah rfl⟩ | exact ⟨rfl⟩ | exact ⟨trivial⟩
    all_goals subst_vars
    all_goals try first | rfl | contradiction | (apply Ob.mk;first | (simp only [ag,ak,aa.ae];omega) | ((try simp only [aa.ae]);(try dsimp only);omega))
    all_goals try first
     | exact ⟨show 0 + Int.toNat (k : Int) < G.length by omega⟩
    refine ⟨k + 1,[],cB,?_,by show G.length - (k + 1) < G.length - k;omega⟩
    repeat' ((conv => whnf);(first | apply And.intro | intro _))
    all_goals first | rfl | trivial | exact ah rfl | exact aS ‹_› rfl | exact aT ‹_› rfl | ((repeat' first | rfl | constructor);done) | exact ⟨rfl,hno.symm⟩ | exact ⟨rfl,rfl,hno.symm⟩ | exact ⟨rfl,rfl,rfl,hno.symm⟩ | (rename_i bx;simp only [List.mem_cons,List.not_mem_nil,or_false] at bx;rcases bx with rfl | rfl | rfl | rfl <;> exact ah rfl)
   have iB : iD n G x (gB n G x) (k + 1) = dF (iD n G x (gB n G x) k) (av (ay (aK n G) (n * n).toNat (x + 1)) x) true:=by rw [iD,show lO n G x k = true by unfold lO oP;rw [<- es,q1,q2];rfl,hr]
   repeat' ((conv => whnf);first | apply And.intro | (intro h9;try (have h8 : (_ : Bool) = _:=h9;clear h8;revert h9;subst_vars;intro h9;exact aq h9 (by assumption))))
   all_goals try (conv => whnf)
   all_goals try first | (apply Tk.mk <;> kernel_rfl) | exact ⟨ah rfl⟩ | exact ⟨rfl⟩ | exact ⟨trivial⟩
   all_goals subst_vars
   all_goals try first | rfl | contradiction | (apply Ob.mk;first | (simp only [ag,ak,aa.ae];omega) | ((try simp only [aa.ae]);(try dsimp only);omega))
   all_goals try first
    | exact ⟨show 0 + Int.toNat (x : Int) < (ay (aK n G) (n * n).toNat (x + 1)).length by omega⟩
    | exact ⟨show 0 + Int.toNat (k : Int) < G.length by omega⟩
   refine ⟨k + 1,[],cB,?_,by show G.length - (k + 1) < G.length - k;omega⟩
   repeat' ((conv => whnf);(first | apply And.intro | intro _))
   all_goals first | rfl | trivial | exact ah rfl | exact aS ‹_› rfl | exact aT ‹_› rfl | ((repeat' first | rfl | constructor);done) | exact ⟨rfl,iB.symm⟩ | exact ⟨rfl,rfl,iB.symm⟩ | exact ⟨rfl,rfl,rfl,iB.symm⟩ | (rename_i bx;simp only [List.mem_cons,List.not_mem_nil,or_false] at bx;rcases bx with rfl | rfl | rfl | rfl <;> exact ah rfl)
  have p1 : decide ((k : Int) < (G.length : Int)) = false:=decide_eq_false (by omega)
  obtain rfl : k = G.length:=by omega
  repeat' ((conv => whnf);first | apply And.intro | (intro h9;try (have h8 : (_ : Bool) = _:=h9;clear h8;revert h9;subst_vars;intro h9;exact aq h9 (by assumption))))
  all_goals try (conv => whnf)
  all_goals try first | (apply Tk.mk <;> kernel_rfl) | exact ⟨ah rfl⟩ | exact ⟨rfl⟩ | exact ⟨trivial⟩
  all_goals subst_vars
  all_goals try first | rfl | contradiction | (apply Ob.mk;first | (simp only [ag,ak,aa.ae];omega) | ((try simp only [aa.ae]);(try dsimp only);omega))
  refine ⟨x + 1,[],cO,?_,by show (n * n).toNat - (x + 1) < (n * n).toNat - x;omega⟩
  repeat' ((conv => whnf);(first | apply And.intro | intro _))
  all_goals first | rfl | trivial | exact ah rfl | exact aS ‹_› rfl | exact aT ‹_› rfl | ((repeat' first | rfl | constructor);done) | (rename_i bx;simp only [List.mem_cons,List.not_mem_nil,or_false] at bx;rcases bx with rfl | rfl | rfl | rfl <;> exact ah rfl)
 have p0 : decide ((x : Int) < n * n) = false:=decide_eq_false (by omega)
 obtain rfl : x = (n * n).toNat:=by omega
 repeat' ((conv => whnf);first | apply And.intro | (intro h9;try (have h8 : (_ : Bool) = _:=h9;clear h8;revert h9;subst_vars;intro h9;exact aq h9 (by assumption))))
 all_goals try (conv => whnf)
 all_goals try first | (apply Tk.mk <;> kernel_rfl) | exact ⟨ah rfl⟩ | exact ⟨rfl⟩ | exact ⟨trivial⟩
 all_goals subst_vars
 all_goals try first | rfl | contradiction | (apply Ob.mk;first | (simp only [ag,ak,aa.ae];omega) | ((try simp only [aa.ae]);(try dsimp only);omega))
 all_goals try first
  | exact True.intro
 rename_i l2 Kh T2
 rename Nat => d2
 clear p0 hx
 refine ⟨Nat,fun x => x <= (n * n).toNat,fun x => ⟨aI 15 [0,1,6,7] [.a (.yl 13),.a (.p 12 [] 0 0),.a (vI (n * n)),.a (vI x)],[aI 69 [2,3,6,7,8] [.a (.p 1 [] 0 0),.a (.p 2 [] 0 0),.a (.p 5 [] 0 0),.a (.p 6 [] 0 0),.a (.p 8 [] 0 0)]],[.arr 48 kG G false false,.box true [vI n],.box true [.sl 0 [] 0 G.length],.arr 3 kI (ay (aK n G) (n * n).toNat (n * n).toNat) true true,.arr 3 kI (ay (bO n G) (n * n).toNat x) true true,.box true [.sl 3 [] 0 (n * n).toNat],.box true [.sl 4 [] 0 (n * n).toNat],.map 143 .i64 .bool (gB n G (n * n).toNat) true,.box true [.mp 7],.box true [.fn 115 [5,2,1,8]],.box true [vI n],.dead,.box true [vI n],.lp l2 (aI 69 [2,3,6,7,8] [.a (.p 1 [] 0 0),.a (.p 2 [] 0 0),.a (.p 5 [] 0 0),.a (.p 6 [] 0 0),.a (.p 8 [] 0 0)]) (ac5 Tryz.f78 1 Kh T2 d2) .ready none]⟩,fun x => (n * n).toNat - x,0,[],Nat.zero_le _,?_,?_⟩
 ·repeat' ((conv => whnf);(first | apply And.intro | intro _))
  all_goals first | rfl | trivial | exact ah rfl | exact aS ‹_› rfl | exact aT ‹_› rfl | ((repeat' first | rfl | constructor);done) | exact ⟨rfl,rfl,qh.symm⟩ | (rename_i bx;simp only [List.mem_cons,List.not_mem_nil,or_false] at bx;rcases bx with rfl | rfl | rfl | rfl <;> exact ah rfl)
 rintro x hx
 by_cases cO : x < (n * n).toNat
 ·have p0 : decide ((x : Int) < n * n) = true:=decide_eq_true (by omega)
  have cq : 0 <= (x : Int) /\ (x : Int) < n * n:=by omega
  have hlf : x < (ay (aK n G) (n * n).toNat (n * n).toNat).length:=by rw [c7];exact cO
  have hls : x < (ay (bO n G) (n * n).toNat x).length:=by rw [c7];exact cO
  have hr : av (ay (aK n G) (n * n).toNat (n * n).toNat) x = aK n G x:=by rw [dP];exact qg cO
  have hlo : 0 <= av (ay (aK n G) (n * n).toNat (n * n).toNat) x /\ av (ay (aK n G) (n * n).toNat (n * n).toNat) x < n * n:=by rw [hr];exact HI hn hg cq G.length (Nat.le_refl _)
  cases m1 : aO (gB n G (n * n).toNat) (av (ay (aK n G) (n * n).toNat (n * n).toNat) x) false
  ·repeat' ((conv => whnf);first | apply And.intro | (intro h9;try (have h8 : (_ : Bool) = _:=h9;clear h8;revert h9;subst_vars;intro h9;exact aq h9 (by assumption))))
   all_goals try (conv => whnf)
   all_goals try first | (apply Tk.mk <;> kernel_rfl) | exact ⟨ah rfl⟩ | exact ⟨rfl⟩ | exact ⟨trivial⟩
   all_goals subst_vars
   all_goals try first | rfl | contradiction | (apply Ob.mk;first | (simp only [ag,ak,aa.ae];omega) | ((try simp only [aa.ae]);(try dsimp only);omega))
   all_goals try first
    | exact ⟨show 0 + Int.toNat (x : Int) < (ay (aK n G) (n * n).toNat (n * n).toNat).length by omega⟩
    | exact ⟨show 0 + Int.toNat (x : Int) < (ay (bO n G) (n * n).toNat x).length by omega⟩
   refine ⟨Nat,fun k => k <= G.length,fun k => ⟨aI 69 [2,3,6,7,8,11,42,43,44] [.a (.p 1 [] 0 0),.a (.p 2 [] 0 0),.a (.p 5 [] 0 0),.a (.p 6 [] 0 0),.a (.p 8 [] 0 0),.a (vI x),.a (.sl 0 [] 0 G.length),.a (vI G.length),.a (vI k)],[aI 15 [0,1,6,7] [.a (.yl 13),.a (.p 12 [] 0 0),.a (vI (n * n)),.a (vI x)],aI 69 [2,3,6,7,8] [.a (.p 1 [] 0 0),.a (.p 2 [] 0 0),.a (.p 5 [] 0 0),.a (.p 6 [] 0 0),.a (.p 8 [] 0 0)]],[.arr 48 kG G false false,.box true [vI n],.box true [.sl 0 [] 0 G.length],.arr 3 kI (ay (aK n G) (n * n).toNat (n * n).toNat) true true,.arr 3 kI ((ay (bO n G) (n * n).toNat x).set x (cH n G x k)) true true,.box true [.sl 3 [] 0 (n * n).toNat],.box true [.sl 4 [] 0 (n * n).toNat],.map 143 .i64 .bool (gB n G (n * n).toNat) true,.box true [.mp 7],.box true [.fn 115 [5,2,1,8]],.box true [vI n],.dead,.box true [vI n],.lp l2 (aI 69 [2,3,6,7,8] [.a (.p 1 [] 0 0),.a (.p 2 [] 0 0),.a (.p 5 [] 0 0),.a (.p 6 [] 0 0),.a (.p 8 [] 0 0)]) (ac5 Tryz.f78 1 Kh T2 d2) .busy none]⟩,fun k => G.length - k,0,[],Nat.zero_le _,?_,?_⟩
   ·repeat' ((conv => whnf);(first | apply And.intro | intro _))
    all_goals first | rfl | trivial | exact ah rfl | exact aS ‹_› rfl | exact aT ‹_› rfl | ((repeat' first | rfl | constructor);done) | exact ⟨rfl,rfl,w6 ..⟩ | (rename_i bx;simp only [List.mem_cons,List.not_mem_nil,or_false] at bx;rcases bx with rfl | rfl | rfl | rfl <;> exact ah rfl)
   rintro k hk
   by_cases cB : k < G.length
   ·have p1 : decide ((k : Int) < (G.length : Int)) = true:=decide_eq_true (by omega)
    have es:=rL G k
    have dI : 0 <= (bI G k).1 /\ (bI G k).1 <= 7:=by rw [es];exact hg _ (aaq cB)
    have hlb : x < ((ay (bO n G) (n * n).toNat x).set x (cH n G x k)).length:=by rw [List.length_set];exact hls
    cases q1 : (bI G k).2
    ·have hq : (!(bI G k).2) = true:=by rw [q1];rfl
     cases q2 : (aX n (bI G k).1 (av (ay (aK n G) (n * n).toNat (n * n).toNat) x) == (x : Int))
     ·have hno : cH n G x (k + 1) = cH n G x k:=by rw [cH,show gE n G x k = false by unfold gE oP;rw [<- es,<- hr,q2,Bool.and_false]]
      have Jb : (ay (bO n G) (n * n).toNat x).set x (cH n G x k) = (ay (bO n G) (n * n).toNat x).set x (cH n G x (k + 1)):=by rw [hno]
      repeat' ((conv => whnf);first | apply And.intro | (intro h9;try (have h8 : (_ : Bool) = _:=h9;clear h8;revert h9;subst_vars;intro h9;exact aq h9 (by assumption))))
      all_goals try (conv => whnf)
      all_goals try first | (apply Tk.mk <;> kernel_rfl) | exact ⟨ah rfl⟩ | exact ⟨rfl⟩ | exact ⟨trivial⟩
      all_goals subst_vars
      all_goals try first | rfl | contradiction | (apply Ob.mk;first | (simp only [ag,ak,aa.ae];omega) | ((try simp only [aa.ae]);(try dsimp only);omega))
      all_goals try first
       | exact ⟨show 0 + Int.toNat (x : Int) < (ay (aK n G) (n * n).toNat (n * n).toNat).length by omega⟩
       | exact ⟨show 0 + Int.toNat (k : Int) < G.length by omega⟩
      refine ⟨k + 1,[],cB,?_,by show G.length - (k + 1) < G.length - k;omega⟩
      repeat' ((conv => whnf);(first | apply And.intro | intro _))
      all_goals first | rfl | trivial | exact ah rfl | exact aS ‹_› rfl | exact aT ‹_› rfl | ((repeat' first | rfl | constructor);done) | exact ⟨rfl,rfl,Jb⟩ | (rename_i bx;simp only [List.mem_cons,List.not_mem_nil,or_false] at bx;rcases bx with rfl | rfl | rfl | rfl <;> exact ah rfl)
     have iB : cH n G x (k + 1) = 1:=by rw [cH,show gE n G x k = true by unfold gE oP;rw [<- es,<- hr,q1,q2];rfl]
     have jK : ((ay (bO n G) (n * n).toNat x).set x (cH n G x k)).set (0 + Int.toNat (x : Int)) 1 = (ay (bO n G) (n * n).toNat x).set x (cH n G x (k + 1)):=by rw [iB,w6,yt]
     repeat' ((conv => whnf);first | apply And.intro | (intro h9;try (have h8 : (_ : Bool) = _:=h9;clear h8;revert h9;subst_vars;intro h9;exact aq h9 (by assumption))))
     all_goals try (conv => whnf)
     all_goals try first | (apply Tk.mk <;> kernel_rfl) | exact ⟨ah rfl⟩ | exact ⟨rfl⟩ | exact ⟨trivial⟩
     all_goals subst_vars
     all_goals try first | rfl | contradiction | (apply Ob.mk;first | (simp only [ag,ak,aa.ae];omega) | ((try simp only [aa.ae]);(try dsimp only);omega))
     all_goals try first
      | exact ⟨show 0 + Int.toNat (x : Int) < (ay (aK n G) (n * n).toNat (n * n).toNat).length by omega⟩
      | exact ⟨show 0 + Int.toNat (x : Int) < ((ay (bO n G) (n * n).toNat x).set x (cH n G x k)).length by omega⟩
      | exact ⟨show 0 + Int.toNat (k : Int) < G.length by omega⟩
     refine ⟨k + 1,[],cB,?_,by show G.length - (k + 1) < G.length - k;omega⟩
     repeat' ((conv => whnf);(first | apply And.intro | intro _))
     all_goals first | rfl | trivial | exact ah rfl | exact aS ‹_› rfl | exact aT ‹_› rfl | ((repeat' first | rfl | constructor);done) | exact ⟨rfl,rfl,jK⟩ | (rename_i bx;simp only [List.mem_cons,List.not_mem_nil,or_false] at bx;rcases bx with rfl | rfl | rfl | rfl <;> exact ah rfl)
    have hq : (!(bI G k).2) = false:=by rw [q1];rfl
    have hno : cH n G x (k + 1) = cH n G x k:=by rw [cH,show gE n G x k = false by unfold gE;rw [<- es,q1];rfl]
    have Jb : (ay (bO n G) (n * n).toNat x).set x (cH n G x k) = (ay (bO n G) (n * n).toNat x).set x (cH n G x (k + 1)):=by rw [hno]
    repeat' ((conv => whnf);first | apply And.intro | (intro h9;try (have h8 : (_ : Bool) = _:=h9;clear h8;revert h9;subst_vars;intro h9;exact aq h9 (by assumption))))
    all_goals try (conv => whnf)
    all_goals try first | (apply Tk.mk <;> kernel_rfl) | exact ⟨ah rfl⟩ | exact ⟨rfl⟩ | exact ⟨trivial⟩
    all_goals subst_vars
    all_goals try first | rfl | contradiction | (apply Ob.mk;first | (simp only [ag,ak,aa.ae];omega) | ((try simp only [aa.ae]);(try dsimp only);omega))
    all_goals try first
     | exact ⟨show 0 + Int.toNat (k : Int) < G.length by omega⟩
    refine ⟨k + 1,[],cB,?_,by show G.length - (k + 1) < G.length - k;omega⟩
    repeat' ((conv => whnf);(first | apply And.intro | intro _))
    all_goals first | rfl | trivial | exact ah rfl | exact aS ‹_› rfl | exact aT ‹_› rfl | ((repeat' first | rfl | constructor);done) | exact ⟨rfl,rfl,Jb⟩ | (rename_i bx;simp only [List.mem_cons,List.not_mem_nil,or_false] at bx;rcases bx with rfl | rfl | rfl | rfl <;> exact ah rfl)
   have p1 : decide ((k : Int) < (G.length : Int)) = false:=decide_eq_false (by omega)
   obtain rfl : k = G.length:=by omega
   have hend : (ay (bO n G) (n * n).toNat x).set x (cH n G x G.length) = ay (bO n G) (n * n).toNat (x + 1):=by
    rw [<- oQ,show bO n G x = cH n G x G.length by unfold bO;rw [<- hr,m1]]
   repeat' ((conv => whnf);first | apply And.intro | (intro h9;try (have h8 : (_ : Bool) = _:=h9;clear h8;revert h9;subst_vars;intro h9;exact aq h9 (by assumption))))
   all_goals try (conv => whnf)
   all_goals try first | (apply Tk.mk <;> kernel_rfl) | exact ⟨ah rfl⟩ | exact ⟨rfl⟩ | exact ⟨trivial⟩
   all_goals subst_vars
   all_goals try first | rfl | contradiction | (apply Ob.mk;first | (simp only [ag,ak,aa.ae];omega) | ((try simp only [aa.ae]);(try dsimp only);omega))
   refine ⟨x + 1,[],cO,?_,by show (n * n).toNat - (x + 1) < (n * n).toNat - x;omega⟩
   repeat' ((conv => whnf);(first | apply And.intro | intro _))
   all_goals first | rfl | trivial | exact ah rfl | exact aS ‹_› rfl | exact aT ‹_› rfl | ((repeat' first | rfl | constructor);done) | exact ⟨rfl,rfl,hend⟩ | (rename_i bx;simp only [List.mem_cons,List.not_mem_nil,or_false] at bx;rcases bx with rfl | rfl | rfl | rfl <;> exact ah rfl)
  have hkeep : ay (bO n G) (n * n).toNat (x + 1) = ay (bO n G) (n * n).toNat x:=F3 (by unfold bO;rw [<- hr,m1])
  repeat' ((conv => whnf);first | apply And.intro | (intro h9;try (have h8 : (_ : Bool) = _:=h9;clear h8;revert h9;subst_vars;intro h9;exact aq h9 (by assumption))))
  all_goals try (conv => whnf)
  all_goals try first | (apply Tk.mk <;> kernel_rfl) | exact ⟨ah rfl⟩ | exact ⟨rfl⟩ | exact ⟨trivial⟩
  all_goals subst_vars
  all_goals try first | rfl | contradiction | (apply Ob.mk;first | (simp only [ag,ak,aa.ae];omega) | ((try simp only [aa.ae]);(try dsimp only);omega))
  all_goals try first
   | exact ⟨show 0 + Int.toNat (x : Int) < (ay (aK n G) (n * n).toNat (n * n).toNat).length by omega⟩
  refine ⟨x + 1,[],cO,?_,by show (n * n).toNat - (x + 1) < (n * n).toNat - x;omega⟩
  repeat' ((conv => whnf);(first | apply And.intro | intro _))
  all_goals first | rfl | trivial | exact ah rfl | exact aS ‹_› rfl | exact aT ‹_› rfl | ((repeat' first | rfl | constructor);done) | exact ⟨rfl,rfl,hkeep.symm⟩ | (rename_i bx;simp only [List.mem_cons,List.not_mem_nil,or_false] at bx;rcases bx with rfl | rfl | rfl | rfl <;> exact ah rfl)
 have p0 : decide ((x : Int) < n * n) = false:=decide_eq_false (by omega)
 obtain rfl : x = (n * n).toNat:=by omega
 repeat' ((conv => whnf);first | apply And.intro | (intro h9;try (have h8 : (_ : Bool) = _:=h9;clear h8;revert h9;subst_vars;intro h9;exact aq h9 (by assumption))))
 all_goals try (conv => whnf)
 all_goals try first | (apply Tk.mk <;> kernel_rfl) | exact ⟨ah rfl⟩ | exact ⟨rfl⟩ | exact ⟨trivial⟩
 all_goals subst_vars
 all_goals try first | rfl | contradiction | (apply Ob.mk;first | (simp only [ag,ak,aa.ae];omega) | ((try simp only [aa.ae]);(try dsimp only);omega))
 refine bu.base ⟨_,[3,4],hK,⟨rfl,rfl,by simp,rfl,rfl,by simp,trivial⟩,rfl,?_⟩
 repeat' ((conv => whnf);(first | apply And.intro | intro _))
 all_goals first | rfl | trivial)
end Go.Proofs.YthejmgnkenokpaaGreatDoor
end
section
namespace Go.Proofs.YthejmgnkenokpaaGreatDoor
open Go Go.Sy Go.bK
variable {Γ : bn}
def aJ (n : Int) (G : List Sg) : List Int:=ay (aK n G) (n * n).toNat (n * n).toNat
def aU (n : Int) (G : List Sg) : List Int:=ay (bO n G) (n * n).toNat (n * n).toNat
def ki (n P : Int) (L : List Wk) (p : Int) : cM:=match bf n P L p == 0 with
 | true => ⟨[.arr 3 kI (aJ n (af L p)) true true,.arr 3 kI (aU n (af L p)) true true],.bF [.a (.sl 0 [] 0 (n * n).toNat),.a (.sl 1 [] 0 (n * n).toNat),.a (vI 0)]⟩
 | false => ⟨[],.bF [.a (.v (.slice none 0 0)),.a (.v (.slice none 0 0)),.a (vI (bf n P L p))]⟩
def F8 : au:=tG (fun _ _ L _ => [(aa.of (L.length <= 1000000))]) ki
theorem BQ {W : List bR} {p : Int} : ∀ c,c <= 16 -> ∀ g ∈ ee W p c,0 <= g.1 /\ g.1 <= 7
 | 0,_,g,h => by cases h
 | c + 1,hc,g,h => by
   rw [ee] at h
   have ih:=BQ (W:=W) (p:=p) c (by omega)
   cases hb : akt W p (fA c) <;> rw [hb] at h <;> dsimp only at h
   ·exact ih g h
   ·rcases List.mem_append.1 h with h | h
    ·exact ih g h
    ·rw [List.mem_singleton] at h;subst h;unfold fA;dsimp only;omega
noncomputable def zl : List (Nat × au):=[(45,jf),(48,mh),(78,nj)]
theorem Co : aR Tryz.prog Γ zl:=(((aR.nil.cons (aj Tryz.func78 rfl rfl).fn mA).cons (aj Tryz.func48 rfl rfl).fn jy).cons (aj Tryz.func45 rfl rfl).fn fQ)
def HL (id : Nat) : Option (List Nat):=match Nat.beq id 4 with | true => some [0,1,2,3,4,5,6,7,8,9,10] | false => none
noncomputable def Gw : Env:={ jV.env zl [] false 0 with ord:=HL }
theorem zY : aL Tryz.prog Γ Gw:=(aP Co bq.nil false 0).Ju _
attribute [local irreducible] af
theorem zG : au.Ok Tryz.prog Γ 39 F8:=sa (d:=0) zY (aj Tryz.func39 rfl rfl) (by
 intro n P L p K ⟨hl,_⟩ hK
 simp only [aa.ae] at hl
 cases h0 : bf n P L p == 0
 ·have e0 : (bf n P L p != 0) = true:=by unfold bne;rw [h0];rfl
  rw [show ki n P L p = ⟨[],.bF [.a (.v (.slice none 0 0)),.a (.v (.slice none 0 0)),.a (vI (bf n P L p))]⟩ by unfold ki;rw [h0]] at hK
  repeat' ((conv => whnf);first | apply And.intro | (intro h9;try (have h8 : (_ : Bool) = _:=h9;clear h8;revert h9;subst_vars;intro h9;exact aq h9 (by assumption))))
  all_goals try (conv => whnf)
  all_goals try first | (apply Tk.mk <;> kernel_rfl) | exact ⟨ah rfl⟩ | exact ⟨rfl⟩ | exact ⟨trivial⟩
  all_goals subst_vars
  all_goals try first | rfl | contradiction | (apply Ob.mk;first | (simp only [ag,ak,aa.ae];omega) | ((try simp only [aa.ae]);(try dsimp only);omega))
  all_goals first
   | exact ⟨hl⟩
   | (refine bu.base ⟨_,[],hK,trivial,rfl,?_⟩;(repeat' ((conv => whnf);(first | apply And.intro | intro _)));all_goals first | rfl | trivial)
 have e0 : (bf n P L p != 0) = false:=by unfold bne;rw [h0];rfl
 have e2:=eq_of_beq h0
 obtain ⟨hw,hP,hp,hn⟩:=gg e2
 have dZ : (af L p).length <= 1000000:=by unfold af;have:=oK (ag5 L p) p 16;omega
 have ed : ∀ g ∈ af L p,0 <= g.1 /\ g.1 <= 7:=by unfold af;exact BQ 16 (Nat.le_refl _)
 rw [show ki n P L p = ⟨[.arr 3 kI (aJ n (af L p)) true true,.arr 3 kI (aU n (af L p)) true true],.bF [.a (.sl 0 [] 0 (n * n).toNat),.a (.sl 1 [] 0 (n * n).toNat),.a (vI 0)]⟩ by unfold ki;rw [h0]] at hK
 repeat' ((conv => whnf);first | apply And.intro | (intro h9;try (have h8 : (_ : Bool) = _:=h9;clear h8;revert h9;subst_vars;intro h9;exact aq h9 (by assumption))))
 all_goals try (conv => whnf)
 all_goals try first | (apply Tk.mk <;> kernel_rfl) | exact ⟨ah rfl⟩ | exact ⟨rfl⟩ | exact ⟨trivial⟩
 all_goals subst_vars
 all_goals try first | rfl | contradiction | (apply Ob.mk;first | (simp only [ag,ak,aa.ae];omega) | ((try simp only [aa.ae]);(try dsimp only);omega))
 all_goals first
  | exact ⟨hw⟩
  | exact ⟨hl⟩
  | exact ⟨dZ⟩
  | exact ⟨ed⟩
  | (refine bu.base ⟨_,[3,4],hK,⟨rfl,rfl,by simp,rfl,rfl,by simp,trivial⟩,rfl,?_⟩;(repeat' ((conv => whnf);(first | apply And.intro | intro _)));all_goals first | rfl | trivial))
end Go.Proofs.YthejmgnkenokpaaGreatDoor
end
section
namespace Go.Proofs.YthejmgnkenokpaaGreatDoor
open Go Go.Sy Go.bK
variable {Γ : bn}
def qD (n : Int) (G : List Sg) : Nat:=(eR (aJ n G) (aU n G) (aJ n G).length).length
def lP (n : Int) (G : List Sg) : Int:=match dL G with | true => (qD n G : Int) | false => (qD n G : Int) - 1
theorem Lh (n : Int) (G : List Sg) : qD n G <= (n * n).toNat:=by
 have:=r9 (aJ n G) (aU n G) (aJ n G).length
 have h2 : (aJ n G).length = (n * n).toNat:=c7
 unfold qD;omega
def qo : au:=xL (fun n P L p => [(aa.of (dY P L = true)),(aa.of (P <= 6)),(aa.of (L.length <= 1000000)),(aa.of (0 <= p /\ p <= P - 1)),(aa.of (1 <= n /\ n <= 6))]) (fun n _ L p => .a (vI (lP n (af L p))))
noncomputable def Iu : List (Nat × au):=[(48,mh),(78,nj),(79,wo)]
theorem Ct : aR Tryz.prog Γ Iu:=(((aR.nil.cons (aj Tryz.func79 rfl rfl).fn uC).cons (aj Tryz.func78 rfl rfl).fn mA).cons (aj Tryz.func48 rfl rfl).fn jy)
noncomputable def F6 : List (Nat × Body):=[(85,bo Tryz.f85),(119,bo Tryz.f119),(86,bo Tryz.f86)]
theorem zD : bq Tryz.prog F6:=(((bq.nil.cons (cg Tryz.func86 rfl rfl)).cons (cg Tryz.func119 rfl rfl)).cons (cg Tryz.func85 rfl rfl))
attribute [local irreducible] af
theorem qp : au.Ok Tryz.prog Γ 46 qo:=mG (d:=4) (aP Ct zD false 0) (aj Tryz.func46 rfl rfl) (fun _ _ _ _ => rfl) (by
 intro n P L p ⟨hw,hP,hl,hp,hn,_⟩
 simp only [aa.ae] at hw hP hl hp hn
 have dZ : (af L p).length <= 1000000:=by unfold af;have:=oK (ag5 L p) p 16;omega
 have ed : ∀ g ∈ af L p,0 <= g.1 /\ g.1 <= 7:=by unfold af;exact BQ 16 (Nat.le_refl _)
 have j4 : 1 <= n * n /\ n * n <= 36:=sJ hn
 have hal : (ay (aK n (af L p)) (n * n).toNat (n * n).toNat).length <= 1000000:=by rw [c7];omega
 have has : (ay (bO n (af L p)) (n * n).toNat (n * n).toNat).length = (ay (aK n (af L p)) (n * n).toNat (n * n).toNat).length:=by rw [c7,c7]
 have hev:=Lh n (af L p)
 have qN : (n * n).toNat = (ay (aK n (af L p)) (n * n).toNat (n * n).toNat).length:=c7.symm
 have qO : (n * n).toNat = (ay (bO n (af L p)) (n * n).toNat (n * n).toNat).length:=c7.symm
 have m1 : decide ((-1 : Int) >= 0) = false:=rfl
 repeat' ((conv => whnf);first | apply And.intro | (intro h9;try (have h8 : (_ : Bool) = _:=h9;clear h8;revert h9;subst_vars;intro h9;exact aq h9 (by assumption))))
 all_goals try (conv => whnf)
 all_goals try first | (apply Tk.mk <;> kernel_rfl) | exact ⟨ah rfl⟩ | exact ⟨rfl⟩ | exact ⟨trivial⟩
 all_goals subst_vars
 all_goals try first | rfl | contradiction | (apply Ob.mk;first | (simp only [ag,ak,aa.ae];omega) | ((try simp only [aa.ae]);(try dsimp only);omega))
 all_goals try first
  | exact ⟨hw⟩
  | exact ⟨hl⟩
  | exact ⟨dZ⟩
  | exact ⟨ed⟩
  | exact ⟨hal⟩
  | exact ⟨has⟩
  | exact ⟨qN⟩
  | exact ⟨qO⟩
 refine ⟨Nat,fun i => i <= (af L p).length /\ dL (af L p) = ((af L p).drop i).any (fun g => g.2),fun i => ⟨aI 19 [0,1,7,8] [.a (.sl 2 [] 0 (af L p).length),.a (.fn 86 []),.a (vI (af L p).length),.a (vI i)],[aI 9 [] [],aI 24 [6] [.a (vI (qD n (af L p)))]],[.arr 46 kW L false false,.box true [vI n,vI P,.sl 0 [] 0 L.length],.arr 48 kG (af L p) true true]⟩,fun i => (af L p).length - i,0,[0,1,2],⟨Nat.zero_le _,rfl⟩,?_,?_⟩
 ·repeat' ((conv => whnf);(first | apply And.intro | intro _))
  all_goals first | rfl | trivial | exact ah rfl | exact aS ‹_› rfl | exact aT ‹_› rfl | ((repeat' first | rfl | constructor);done)
 rintro i ⟨hi,hf⟩
 have m2 : decide ((i : Int) >= 0) = true:=decide_eq_true (by omega)
 by_cases hi1 : i < (af L p).length
 ·have p0 : decide ((i : Int) < ((af L p).length : Int)) = true:=decide_eq_true (by omega)
  have es:=BP (af L p) i
  cases hb : (bI (af L p) i).2
  ·have jH:=hf.trans (zx hi1 (d:=(0,false)) (by rw [<- es];exact hb))
   repeat' ((conv => whnf);first | apply And.intro | (intro h9;try (have h8 : (_ : Bool) = _:=h9;clear h8;revert h9;subst_vars;intro h9;exact aq h9 (by assumption))))
   all_goals try (conv => whnf)
   all_goals try first | (apply Tk.mk <;> kernel_rfl) | exact ⟨ah rfl⟩ | exact ⟨rfl⟩ | exact ⟨trivial⟩
   all_goals subst_vars
   all_goals try first | rfl | contradiction | (apply Ob.mk;first | (simp only [ag,ak,aa.ae];omega) | ((try simp only [aa.ae]);(try dsimp only);omega))
   all_goals try first
    | exact ⟨show 0 + Int.toNat (i : Int) < (af L p).length by omega⟩
   refine ⟨i + 1,[],⟨hi1,jH⟩,?_,by show (af L p).length - (i + 1) < (af L p).length - i;omega⟩
   repeat' ((conv => whnf);(first | apply And.intro | intro _))
   all_goals first | rfl | trivial | exact ah rfl | exact aS ‹_› rfl | exact aT ‹_› rfl | ((repeat' first | rfl | constructor);done)
  rw [show lP n (af L p) = (qD n (af L p) : Int) by unfold lP;rw [hf.trans (wg hi1 (d:=(0,false)) (by rw [<- es];exact hb))]]
  repeat' ((conv => whnf);first | apply And.intro | (intro h9;try (have h8 : (_ : Bool) = _:=h9;clear h8;revert h9;subst_vars;intro h9;exact aq h9 (by assumption))))
  all_goals try (conv => whnf)
  all_goals try first | (apply Tk.mk <;> kernel_rfl) | exact ⟨ah rfl⟩ | exact ⟨rfl⟩ | exact ⟨trivial⟩
  all_goals subst_vars
  all_goals try first | rfl | contradiction | (apply Ob.mk;first | (simp only [ag,ak,aa.ae];omega) | ((try simp only [aa.ae]);(try dsimp only);omega))
  all_goals first
   | exact ⟨show 0 + Int.toNat (i : Int) < (af L p).length by omega⟩
 have p0 : decide ((i : Int) < ((af L p).length : Int)) = false:=decide_eq_false (by omega)
 rw [show lP n (af L p) = (qD n (af L p) : Int) - 1 by unfold lP;rw [hf.trans (we (by omega))]]
 repeat' ((conv => whnf);first | apply And.intro | (intro h9;try (have h8 : (_ : Bool) = _:=h9;clear h8;revert h9;subst_vars;intro h9;exact aq h9 (by assumption))))
 all_goals try (conv => whnf)
 all_goals try first | (apply Tk.mk <;> kernel_rfl) | exact ⟨ah rfl⟩ | exact ⟨rfl⟩ | exact ⟨trivial⟩
 all_goals subst_vars
 all_goals try first | rfl | contradiction | (apply Ob.mk;first | (simp only [ag,ak,aa.ae];omega) | ((try simp only [aa.ae]);(try dsimp only);omega)))
def pb (n P : Int) (L : List Wk) (p : Int) : Int:=match bf n P L p == 0 with | true => lP n (af L p) | false => 0
def o6 (n P : Int) (L : List Wk) (p : Int) : Bool:=match bf n P L p == 0 with | true => lP n (af L p) == 0 | false => false
def ZZ : au:=xL (fun _ _ L _ => [(aa.of (L.length <= 1000000))]) (fun n P L p => .bF [.a (vI (pb n P L p)),.a (vI (bf n P L p))])
noncomputable def Im : List (Nat × au):=[(45,jf),(46,qo)]
theorem sO : aR Tryz.prog Γ Im:=((aR.nil.cons (aj Tryz.func46 rfl rfl).fn qp).cons (aj Tryz.func45 rfl rfl).fn fQ)
attribute [local irreducible] lP
theorem zI : au.Ok Tryz.prog Γ 40 ZZ:=mG (d:=0) (aP sO bq.nil false 0) (aj Tryz.func40 rfl rfl) (fun _ _ _ _ => rfl) (by
 intro n P L p ⟨hl,_⟩
 simp only [aa.ae] at hl
 cases h0 : bf n P L p == 0
 ·have e0 : (bf n P L p != 0) = true:=by unfold bne;rw [h0];rfl
  rw [show pb n P L p = 0 by unfold pb;rw [h0]]
  repeat' ((conv => whnf);first | apply And.intro | (intro h9;try (have h8 : (_ : Bool) = _:=h9;clear h8;revert h9;subst_vars;intro h9;exact aq h9 (by assumption))))
  all_goals try (conv => whnf)
  all_goals try first | (apply Tk.mk <;> kernel_rfl) | exact ⟨ah rfl⟩ | exact ⟨rfl⟩ | exact ⟨trivial⟩
  all_goals subst_vars
  all_goals try first | rfl | contradiction | (apply Ob.mk;first | (simp only [ag,ak,aa.ae];omega) | ((try simp only [aa.ae]);(try dsimp only);omega))
  all_goals first
   | trivial
   | exact ⟨hl⟩
 have e0 : (bf n P L p != 0) = false:=by unfold bne;rw [h0];rfl
 have e2:=eq_of_beq h0
 obtain ⟨hw,hP,hp,hn⟩:=gg e2
 rw [show pb n P L p = lP n (af L p) by unfold pb;rw [h0]]
 rw [e2]
 repeat' ((conv => whnf);first | apply And.intro | (intro h9;try (have h8 : (_ : Bool) = _:=h9;clear h8;revert h9;subst_vars;intro h9;exact aq h9 (by assumption))))
 all_goals try (conv => whnf)
 all_goals try first | (apply Tk.mk <;> kernel_rfl) | exact ⟨ah rfl⟩ | exact ⟨rfl⟩ | exact ⟨trivial⟩
 all_goals subst_vars
 all_goals try first | rfl | contradiction | (apply Ob.mk;first | (simp only [ag,ak,aa.ae];omega) | ((try simp only [aa.ae]);(try dsimp only);omega))
 all_goals first
  | trivial
  | exact ⟨hw⟩
  | exact ⟨hl⟩)
def F9 : au:=xL (fun _ _ L _ => [(aa.of (L.length <= 1000000))]) (fun n P L p => .bF [.a (.v (.bool (o6 n P L p))),.a (vI (bf n P L p))])
theorem Ga : au.Ok Tryz.prog Γ 42 F9:=mG (d:=0) (aP sO bq.nil false 0) (aj Tryz.func42 rfl rfl) (fun _ _ _ _ => rfl) (by
 intro n P L p ⟨hl,_⟩
 simp only [aa.ae] at hl
 cases h0 : bf n P L p == 0
 ·have e0 : (bf n P L p != 0) = true:=by unfold bne;rw [h0];rfl
  rw [show o6 n P L p = false by unfold o6;rw [h0]]
  repeat' ((conv => whnf);first | apply And.intro | (intro h9;try (have h8 : (_ : Bool) = _:=h9;clear h8;revert h9;subst_vars;intro h9;exact aq h9 (by assumption))))
  all_goals try (conv => whnf)
  all_goals try first | (apply Tk.mk <;> kernel_rfl) | exact ⟨ah rfl⟩ | exact ⟨rfl⟩ | exact ⟨trivial⟩
  all_goals subst_vars
  all_goals try first | rfl | contradiction | (apply Ob.mk;first | (simp only [ag,ak,aa.ae];omega) | ((try simp only [aa.ae]);(try dsimp only);omega))
  all_goals first
   | trivial
   | exact ⟨hl⟩
 have e0 : (bf n P L p != 0) = false:=by unfold bne;rw [h0];rfl
 have e2:=eq_of_beq h0
 obtain ⟨hw,hP,hp,hn⟩:=gg e2
 rw [show o6 n P L p = (lP n (af L p) == 0) by unfold o6;rw [h0]]
 rw [e2]
 repeat' ((conv => whnf);first | apply And.intro | (intro h9;try (have h8 : (_ : Bool) = _:=h9;clear h8;revert h9;subst_vars;intro h9;exact aq h9 (by assumption))))
 all_goals try (conv => whnf)
 all_goals try first | (apply Tk.mk <;> kernel_rfl) | exact ⟨ah rfl⟩ | exact ⟨rfl⟩ | exact ⟨trivial⟩
 all_goals subst_vars
 all_goals try first | rfl | contradiction | (apply Ob.mk;first | (simp only [ag,ak,aa.ae];omega) | ((try simp only [aa.ae]);(try dsimp only);omega))
 all_goals first
  | trivial
  | exact ⟨hw⟩
  | exact ⟨hl⟩)
end Go.Proofs.YthejmgnkenokpaaGreatDoor
end
section
namespace Go.Proofs.YthejmgnkenokpaaGreatDoor
open Go Go.Sy Go.bK
variable {Γ : bn}
abbrev kH : List CK:=[.sl 48 kG]
def Pw (D : List (List Sg) -> List aa) (R : List (List Sg) -> cM) : au:=.new fun args rg K => match args with
 | [.a x0] => (match ac1 52 kH rg x0 with | some (q0,L0) => bk false (q0 ++ (D L0)) (K (R L0)) | _ => False)
 | _ => False
theorem ME {f : FuncId} {b : Body} {E : Env} {d : Nat} (hP : aL Tryz.prog Γ E) (hb : bQ Tryz.prog f b) {D : List (List Sg) -> List aa} {R : List (List Sg) -> cM}
  (H : ∀ (L0 : List (List Sg)) (K : cM -> Prop),bW (D L0) -> K (R L0) -> cQ E d b [.a (.sl 0 [] 0 L0.length)] [.arr 52 kH L0 false false] (bu K)) : au.Ok Tryz.prog Γ f (Pw D R):=au.fM (d:=d) hP hb (by
 intro args rg K hF
 split at hF
 next x0 =>
  split at hF
  next q0 L0 hx0 =>
   rw [aV,aH] at hF
   obtain ⟨⟨dm,hD⟩,hK⟩:=hF
   obtain ⟨e0,Vn⟩:=bP (by simp [kH]) hx0 dm
   obtain ⟨p0,r0⟩:=Vn [e0] 0 1 rfl (by omega)
   refine ⟨[e0],[.a (.sl 0 [] 0 L0.length)],[.arr 52 kH L0 false false],⟨⟨p0,trivial⟩,fun r g hg => ?_⟩,bu K,H _ K hD hK,fun x st h => h⟩
   match r,hg with
   | 0,hg => obtain rfl:=Option.some.inj hg;exact r0
  next => exact hF.elim
 next => exact hF.elim)
def De : au:=.new fun args rg K => match args with
 | [.a (.v (.slice none 0 0)),.a (.v (.int .i64 n))] => bk false [(aa.of (0 <= n)),(aa.of (n <= 1000000))] (K ⟨[.arr 48 kG [] true true],.a (.sl 0 [] 0 0)⟩)
 | _ => False
theorem EI : au.Ok Tryz.prog Γ 89 De:=au.fM (d:=0) (aP aR.nil bq.nil false 0) (aj Tryz.func89 rfl rfl) (by
 intro args rg K hC
 split at hC
 next n =>
  rw [aV] at hC
  obtain ⟨⟨h0,h1,_⟩,hK⟩:=hC
  simp only [aa.ae] at h0 h1
  refine ⟨[],[.a (.v (.slice none 0 0)),.a (vI n)],[],⟨⟨rfl,rfl,trivial⟩,fun r g hg => by cases hg⟩,bu K,?_,fun x st h => h⟩
  have p0 : decide (n < 0) = false:=decide_eq_false (by omega)
  have e0 : n - (((0 : Nat) : Int) - ((0 : Nat) : Int)) = n:=by omega
  by_cases hn : n = 0
  ·subst hn
   have p1 : decide ((0 : Int) > 0) = false:=rfl
   repeat' ((conv => whnf);first | apply And.intro | (intro h9;try (have h8 : (_ : Bool) = _:=h9;clear h8;revert h9;subst_vars;intro h9;exact aq h9 (by assumption))))
   all_goals try (conv => whnf)
   all_goals try first | (apply Tk.mk <;> kernel_rfl) | exact ⟨ah rfl⟩ | exact ⟨rfl⟩ | exact ⟨trivial⟩
   all_goals subst_vars
   all_goals try first | rfl | contradiction | (apply Ob.mk;first | (simp only [ag,ak,aa.ae];omega) | ((try simp only [aa.ae]);(try dsimp only);omega))
   exact bu.aC 48 kG (by simp) (.base ⟨_,[0],hK,⟨rfl,rfl,by simp,trivial⟩,rfl,rfl,rfl,rfl,rfl⟩)
  have p1 : decide (n > 0) = true:=decide_eq_true (by omega)
  have p2 : decide (n - (((0 : Nat) : Int) - ((0 : Nat) : Int)) > 0) = true:=by rw [e0];exact p1
  repeat' ((conv => whnf);first | apply And.intro | (intro h9;try (have h8 : (_ : Bool) = _:=h9;clear h8;revert h9;subst_vars;intro h9;exact aq h9 (by assumption))))
  all_goals try (conv => whnf)
  all_goals try first | (apply Tk.mk <;> kernel_rfl) | exact ⟨ah rfl⟩ | exact ⟨rfl⟩ | exact ⟨trivial⟩
  all_goals subst_vars
  all_goals try first | rfl | contradiction | (apply Ob.mk;first | (simp only [ag,ak,aa.ae];omega) | ((try simp only [aa.ae]);(try dsimp only);omega))
  all_goals try first
   | exact ⟨show (n - (((0 : Nat) : Int) - ((0 : Nat) : Int))) * ((2 : Nat) : Int) <= 16777216 by rw [e0];omega⟩
  apply bu.base
  exact ⟨_,[0],hK,⟨rfl,rfl,by simp,trivial⟩,rfl,rfl,rfl,rfl,rfl⟩
 next => exact hC.elim)
def cL (W : List (List Sg)) (i : Nat) : List Sg:=(W.take i).flatten
abbrev agZ (W : List (List Sg)) (i : Int) : List Sg:=@Ar.get ⟨52,kH,W⟩ (0 + Int.toNat i)
theorem LL (W : List (List Sg)) (i : Nat) : agZ W i = W.getD i []:=by unfold agZ;rw [Nat.zero_add,Int.toNat_natCast];rfl
theorem Ap {W : List (List Sg)} {i : Nat} (h : i < W.length) : cL W (i + 1) = cL W i ++ agZ W i:=by
 rw [LL]
 unfold cL
 rw [List.take_succ_eq_append_getElem h,List.flatten_append,List.flatten_singleton]
 simp [h]
theorem GV {W : List (List Sg)} {i j : Nat} (h : i <= j) : (cL W i).length <= (cL W j).length:=by
 unfold cL
 have e : W.take i = (W.take j).take i:=by rw [List.take_take,Nat.min_eq_left h]
 rw [e]
 conv => rhs;rw [<- List.take_append_drop i (W.take j),List.flatten_append,List.length_append]
 omega
def xz : au:=Pw (fun W => [(aa.of (W.length <= 1000000)),(aa.of ((cL W W.length).length <= 1000000))]) (fun W => ⟨[.arr 48 kG (cL W W.length) true true],.a (.sl 0 [] 0 (cL W W.length).length)⟩)
noncomputable def Il : List (Nat × au):=[(89,De)]
theorem Cq : aR Tryz.prog Γ Il:=(aR.nil.cons (aj Tryz.func89 rfl rfl).fn EI)
attribute [local irreducible] cL
theorem zQ : au.Ok Tryz.prog Γ 49 xz:=ME (d:=0) (aP Cq bq.nil false 0) (aj Tryz.func49 rfl rfl) (by
 intro W K ⟨hW,hF,_⟩ hK
 simp only [aa.ae] at hW hF
 have f0 : cL W 0 = []:=by unfold cL;rfl
 repeat' ((conv => whnf);first | apply And.intro | (intro h9;try (have h8 : (_ : Bool) = _:=h9;clear h8;revert h9;subst_vars;intro h9;exact aq h9 (by assumption))))
 all_goals try (conv => whnf)
 all_goals try first | (apply Tk.mk <;> kernel_rfl) | exact ⟨ah rfl⟩ | exact ⟨rfl⟩ | exact ⟨trivial⟩
 all_goals subst_vars
 all_goals try first | rfl | contradiction | (apply Ob.mk;first | (simp only [ag,ak,aa.ae];omega) | ((try simp only [aa.ae]);(try dsimp only);omega))
 refine ⟨Nat,fun i => i <= W.length,fun i => ⟨aI 36 [0,3,9,10,11] [.a (.sl 0 [] 0 W.length),.a (vI (cL W i).length),.a (.sl 0 [] 0 W.length),.a (vI W.length),.a (vI i)],[],[.arr 52 kH W false false]⟩,fun i => W.length - i,0,[],Nat.zero_le _,?_,?_⟩
 ·repeat' ((conv => whnf);(first | apply And.intro | intro _))
  all_goals first | rfl | trivial | exact ah rfl | exact aS ‹_› rfl | exact aT ‹_› rfl | ((repeat' first | rfl | constructor);done) | (rw [f0];rfl)
 rintro i hi
 by_cases hi1 : i < W.length
 ·have p0 : decide ((i : Int) < (W.length : Int)) = true:=decide_eq_true (by omega)
  have hs:=congrArg List.length (Ap hi1)
  rw [List.length_append] at hs
  have hle:=GV (W:=W) (show i + 1 <= W.length from hi1)
  have p1 : decide (((cL W i).length : Int) + ((agZ W i).length : Int) < 0) = false:=decide_eq_false (by omega)
  repeat' ((conv => whnf);first | apply And.intro | (intro h9;try (have h8 : (_ : Bool) = _:=h9;clear h8;revert h9;subst_vars;intro h9;exact aq h9 (by assumption))))
  all_goals try (conv => whnf)
  all_goals try first | (apply Tk.mk <;> kernel_rfl) | exact ⟨ah rfl⟩ | exact ⟨rfl⟩ | exact ⟨trivial⟩
  all_goals subst_vars
  all_goals try first | rfl | contradiction | (apply Ob.mk;first | (simp only [ag,ak,aa.ae];omega) | ((try simp only [aa.ae]);(try dsimp only);omega))
  all_goals try first
   | exact ⟨show -9223372036854775808 <= ((cL W i).length : Int) + ((agZ W i).length : Int) /\ ((cL W i).length : Int) + ((agZ W i).length : Int) <= 9223372036854775807 by omega⟩
   | exact ⟨show 0 + Int.toNat (i : Int) < W.length by omega⟩
  refine ⟨i + 1,[],hi1,?_,by show W.length - (i + 1) < W.length - i;omega⟩
  repeat' ((conv => whnf);(first | apply And.intro | intro _))
  all_goals first | rfl | trivial | exact ah rfl | exact aS ‹_› rfl | exact aT ‹_› rfl | ((repeat' first | rfl | constructor);done) | (rw [hs];exact (Int.natCast_add ..).symm) | (rw [hs];exact Int.natCast_add ..)
 have p0 : decide ((i : Int) < (W.length : Int)) = false:=decide_eq_false (by omega)
 obtain rfl : i = W.length:=by omega
 clear hi hi1
 repeat' ((conv => whnf);first | apply And.intro | (intro h9;try (have h8 : (_ : Bool) = _:=h9;clear h8;revert h9;subst_vars;intro h9;exact aq h9 (by assumption))))
 all_goals try (conv => whnf)
 all_goals try first | (apply Tk.mk <;> kernel_rfl) | exact ⟨ah rfl⟩ | exact ⟨rfl⟩ | exact ⟨trivial⟩
 all_goals subst_vars
 all_goals try first | rfl | contradiction | (apply Ob.mk;first | (simp only [ag,ak,aa.ae];omega) | ((try simp only [aa.ae]);(try dsimp only);omega))
 refine ⟨Nat,fun i => i <= W.length,fun i => ⟨aI 36 [6,25,26,27] [.a (.sl 1 [] 0 (cL W i).length),.a (.sl 0 [] 0 W.length),.a (vI W.length),.a (vI i)],[],[.arr 52 kH W false false,.arr 48 kG (cL W i) true true]⟩,fun i => W.length - i,0,[],Nat.zero_le _,?_,?_⟩
 ·repeat' ((conv => whnf);(first | apply And.intro | intro _))
  all_goals first | rfl | trivial | exact ah rfl | exact aS ‹_› rfl | exact aT ‹_› rfl | ((repeat' first | rfl | constructor);done) | (rw [f0];rfl) | exact ⟨rfl,rfl,f0.symm⟩
 clear p0
 rintro i hi
 by_cases hi1 : i < W.length
 ·have p0 : decide ((i : Int) < (W.length : Int)) = true:=decide_eq_true (by omega)
  have hfs:=Ap hi1
  have hs:=congrArg List.length hfs
  rw [List.length_append] at hs
  have hle:=GV (W:=W) (show i + 1 <= W.length from hi1)
  have htk : List.drop 0 (cL W i) ++ List.take (agZ W i).length (List.drop 0 (agZ W i)) = cL W i ++ agZ W i:=by rw [List.drop_zero,List.drop_zero,List.take_length]
  repeat' ((conv => whnf);first | apply And.intro | (intro h9;try (have h8 : (_ : Bool) = _:=h9;clear h8;revert h9;subst_vars;intro h9;exact aq h9 (by assumption))))
  all_goals try (conv => whnf)
  all_goals try first | (apply Tk.mk <;> kernel_rfl) | exact ⟨ah rfl⟩ | exact ⟨rfl⟩ | exact ⟨trivial⟩
  all_goals subst_vars
  all_goals try first | rfl | contradiction | (apply Ob.mk;first | (simp only [ag,ak,aa.ae];omega) | ((try simp only [aa.ae]);(try dsimp only);omega))
  all_goals try first
   | exact ⟨show 0 + Int.toNat (i : Int) < W.length by omega⟩
   | exact ⟨Nat.zero_add _⟩
   | exact ⟨show ((cL W i).length + (agZ W i).length) * 2 <= 1099511627776 by omega⟩
  refine ⟨i + 1,[],hi1,?_,by show W.length - (i + 1) < W.length - i;omega⟩
  repeat' ((conv => whnf);(first | apply And.intro | intro _))
  all_goals first | rfl | trivial | exact ah rfl | exact aS ‹_› rfl | exact aT ‹_› rfl | ((repeat' first | rfl | constructor);done) | exact hs.symm | exact ⟨rfl,rfl,htk.trans hfs.symm⟩
 have p0 : decide ((i : Int) < (W.length : Int)) = false:=decide_eq_false (by omega)
 obtain rfl : i = W.length:=by omega
 repeat' ((conv => whnf);first | apply And.intro | (intro h9;try (have h8 : (_ : Bool) = _:=h9;clear h8;revert h9;subst_vars;intro h9;exact aq h9 (by assumption))))
 all_goals try (conv => whnf)
 all_goals try first | (apply Tk.mk <;> kernel_rfl) | exact ⟨ah rfl⟩ | exact ⟨rfl⟩ | exact ⟨trivial⟩
 all_goals subst_vars
 all_goals try first | rfl | contradiction | (apply Ob.mk;first | (simp only [ag,ak,aa.ae];omega) | ((try simp only [aa.ae]);(try dsimp only);omega))
 refine bu.base ⟨_,[1],hK,⟨rfl,rfl,by simp,trivial⟩,rfl,?_⟩
 repeat' ((conv => whnf);(first | apply And.intro | intro _))
 all_goals first | rfl | trivial)
end Go.Proofs.YthejmgnkenokpaaGreatDoor
end
section
namespace Go.Proofs.YthejmgnkenokpaaGreatDoor
open Go Go.Sy Go.bK
variable {Γ : bn}
theorem A2 {p : Int} {g : Sg} : ∀ (E : List bR),br kX ((p,g) : Sp) E = E.findIdx (fun e => e.1 == (p,g))
 | [] => rfl
 | e :: E => by
   have ih:=A2 (p:=p) (g:=g) E
   show jM (fun q : bR => ai.beq kX (p,g) q.1) (e :: E) = _
   rw [jM,List.findIdx_cons]
   have e2 : (((p,g) : Sp) == e.1) = (e.1 == (p,g)):=Bool.eq_iff_iff.2 ⟨fun h => by rw [eq_of_beq h];exact beq_self_eq_true _,fun h => by rw [eq_of_beq h];exact beq_self_eq_true _⟩
   have e0 : ai.beq kX ((p,g) : Sp) e.1 = (e.1 == (p,g)):=(wi (p,g) e.1).trans e2
   have e1 : (match ai.beq kX ((p,g) : Sp) e.1 with | true => 0 | false => br kX ((p,g) : Sp) E + 1) = bif e.1 == (p,g) then 0 else E.findIdx (fun e => e.1 == (p,g)) + 1:=by
    rw [e0,ih]
    cases e.1 == (p,g) <;> rfl
   exact e1
theorem MZ (a b : List Sg) : cL [a,b] 2 = a ++ b:=by unfold cL;simp
abbrev ac6 (l : List Sg) (i : Nat) : List Sg:=cL [List.take ((((i + 1 : Nat) : Int) - 1).toNat - 0) (List.drop (0 + 0) l),List.take (l.length - (((i + 1 : Nat) : Int) - 1 + 1).toNat) (List.drop (0 + (((i + 1 : Nat) : Int) - 1 + 1).toNat) l)] 2
theorem idx (i : Nat) : ((i + 1 : Nat) : Int) - 1 - 1 = (i : Int) - 1:=by omega
theorem NY (l : List Sg) (i : Nat) : ac6 l i = l.take i ++ l.drop (i + 1):=by
 unfold ac6
 rw [MZ,show (((i + 1 : Nat) : Int) - 1).toNat - 0 = i by omega,show (((i + 1 : Nat) : Int) - 1 + 1).toNat = i + 1 by omega,show 0 + 0 = 0 from rfl,List.drop_zero,Nat.zero_add]
 congr 1
 refine List.take_of_length_le ?_
 rw [List.length_drop];exact Nat.le_refl _
theorem JC {n : Int} {i : Nat} {l : List Sg} : jQ n (i + 1) l = match eH n (l.take i ++ l.drop (i + 1)) with | true => jQ n i (l.take i ++ l.drop (i + 1)) | false => jQ n i l:=rfl
theorem LC (n : Int) (G : List Sg) : jQ n G.length G = tU n G:=rfl
theorem LD (n : Int) (L : List Wk) (p : Int) : jO n L p = (tU n (af L p)).map (Vr L p):=rfl
theorem JD {n : Int} {l : List Sg} : jQ n 0 l = l:=rfl
theorem Jn {L : List Wk} {p : Int} {l : List Sg} {i : Nat} (h : i < l.length) : (l.take (i + 1)).map (Vr L p) = (l.take i).map (Vr L p) ++ [Vr L p (sg l i)]:=by
 rw [List.take_succ_eq_append_getElem h,List.map_append]
 simp [sg,h]
end Go.Proofs.YthejmgnkenokpaaGreatDoor
end
section
namespace Go.Proofs.YthejmgnkenokpaaGreatDoor
open Go Go.Sy Go.bK
variable {Γ : bn}
theorem Bp {n : Int} {G : List Sg} {x : Int} {es : List (Int × Bool)} {l : Int} : ∀ k,aO (iD n G x es k) l false = true <-> (aO es l false = true \/ (aK n G x = l /\ ∃ i,i < k /\ lO n G x i = true))
 | 0 => by
   rw [iD]
   refine ⟨.inl,fun h => h.resolve_right ?_⟩
   rintro ⟨_,i,hi,_⟩
   exact absurd hi (Nat.not_lt_zero _)
 | k + 1 => by
   rw [iD]
   have ih:=Bp (n:=n) (G:=G) (x:=x) (es:=es) (l:=l) k
   cases hb : lO n G x k <;> dsimp only
   ·rw [ih]
    refine or_congr Iff.rfl (and_congr Iff.rfl ?_)
    constructor
    ·rintro ⟨i,hi,h⟩;exact ⟨i,by omega,h⟩
    ·rintro ⟨i,hi,h⟩
     rcases Nat.lt_or_ge i k with h1 | h1
     ·exact ⟨i,h1,h⟩
     ·obtain rfl : i = k:=by omega
      rw [hb] at h;cases h
   ·rw [lB]
    by_cases e : aK n G x = l
    ·rw [if_pos e]
     exact ⟨fun _ => .inr ⟨e,k,by omega,hb⟩,fun _ => rfl⟩
    ·rw [if_neg e,ih]
     refine or_congr Iff.rfl ?_
     constructor
     ·rintro ⟨h,_⟩;exact absurd h e
     ·rintro ⟨h,_⟩;exact absurd h e
theorem Ln {n : Int} {G : List Sg} {x : Int} : (∃ i,i < G.length /\ lO n G x i = true) <-> eV n G x = true:=by
 rw [kw]
 constructor
 ·rintro ⟨i,hi,h⟩
  simp only [lO,oP,Bool.and_eq_true,beq_iff_eq] at h
  exact ⟨_,aaq hi,h⟩
 ·rintro ⟨g,hg,h1,h2⟩
  obtain ⟨i,hi,rfl⟩:=vO hg
  exact ⟨i,hi,by simp only [lO,oP,Bool.and_eq_true,beq_iff_eq];exact ⟨h1,h2⟩⟩
theorem Bo {n : Int} {G : List Sg} {l : Int} : ∀ c,aO (gB n G c) l false = true <-> ∃ x : Nat,x < c /\ aK n G (x : Int) = l /\ eV n G (x : Int) = true
 | 0 => by
   rw [gB]
   refine ⟨fun h => (by cases h),?_⟩
   rintro ⟨i,hi,_⟩
   exact absurd hi (Nat.not_lt_zero _)
 | c + 1 => by
   rw [gB,Bp,Bo c,Ln]
   constructor
   ·rintro (⟨x,hx,h⟩ | ⟨h1,h2⟩)
    ·exact ⟨x,by omega,h⟩
    ·exact ⟨c,by omega,h1,h2⟩
   ·rintro ⟨x,hx,h1,h2⟩
    rcases Nat.lt_or_ge x c with h3 | h3
    ·exact .inl ⟨x,h3,h1,h2⟩
    ·obtain rfl : x = c:=by omega
     exact .inr ⟨h1,h2⟩
theorem D9 {n : Int} {G : List Sg} {x : Int} : ∀ k,cH n G x k = if ∃ i,i < k /\ gE n G x i = true then 1 else -1
 | 0 => by
   rw [cH,if_neg]
   rintro ⟨i,hi,_⟩
   exact absurd hi (Nat.not_lt_zero _)
 | k + 1 => by
   rw [cH]
   cases hb : gE n G x k <;> dsimp only
   ·rw [D9 k]
    by_cases h : ∃ i,i < k /\ gE n G x i = true
    ·rw [if_pos h,if_pos]
     obtain ⟨i,hi,h⟩:=h
     exact ⟨i,by omega,h⟩
    ·rw [if_neg h,if_neg]
     rintro ⟨i,hi,h'⟩
     rcases Nat.lt_or_ge i k with h1 | h1
     ·exact h ⟨i,h1,h'⟩
     ·obtain rfl : i = k:=by omega
      rw [hb] at h';cases h'
   ·rw [if_pos ⟨k,by omega,hb⟩]
theorem AY {n : Int} {G : List Sg} {x : Int} : (∃ i,i < G.length /\ gE n G x i = true) <-> q7 n G x = true:=by
 rw [tL]
 constructor
 ·rintro ⟨i,hi,h⟩
  simp only [gE,oP,Bool.and_eq_true,beq_iff_eq,Bool.not_eq_true'] at h
  exact ⟨_,aaq hi,h⟩
 ·rintro ⟨g,hg,h1,h2⟩
  obtain ⟨i,hi,rfl⟩:=vO hg
  exact ⟨i,hi,by simp only [gE,oP,Bool.and_eq_true,beq_iff_eq,Bool.not_eq_true'];exact ⟨h1,h2⟩⟩
theorem LS {n : Int} {G : List Sg} (hG : gH G) (hn : bz n) {x : Int} (hx : aM n x) : bO n G x = fO n G x:=by
 have h1 : aO (gB n G (n * n).toNat) (aK n G x) false = eV n G x:=by
  rw [Bool.eq_iff_iff,Bo]
  constructor
  ·rintro ⟨y,hy,e,hp⟩
   have pS : aM n (y : Int):=(ic hn).2 ⟨y,hy,rfl⟩
   have o1:=gz hG hn pS
   rw [e] at o1
   exact wS hG hn pS (rD hG hn pS o1 (mW hG hn hx (gz hG hn hx))) hp
  ·intro hp
   obtain ⟨k,hk,rfl⟩:=(ic hn).1 hx
   exact ⟨k,hk,rfl,hp⟩
 unfold bO fO
 rw [h1,D9]
 cases eV n G x <;> dsimp only
 by_cases h : ∃ i,i < G.length /\ gE n G x i = true
 ·rw [if_pos h,AY.1 h]
 ·rw [if_neg h]
  cases hk : q7 n G x
  ·rfl
  ·exact absurd (AY.2 hk) h
theorem G2 {n : Int} {G : List Sg} (hn : bz n) {x : Int} (hx : aM n x) : gi (aJ n G) x = aK n G x:=by
 obtain ⟨k,hk,rfl⟩:=(ic hn).1 hx
 exact qg hk
theorem G4 {n : Int} {G : List Sg} (hG : gH G) (hn : bz n) {x : Int} (hx : aM n x) : gi (aU n G) x = fO n G x:=by
 rw [<- LS hG hn hx]
 obtain ⟨k,hk,rfl⟩:=(ic hn).1 hx
 exact qg hk
theorem Dr {n : Int} {G : List Sg} (hG : gH G) (hn : bz n) : ∀ c,c <= (n * n).toNat -> eR (aJ n G) (aU n G) c = fH n G c
 | 0,_ => rfl
 | c + 1,hc => by
   have hx : aM n (c : Int):=(ic hn).2 ⟨c,by omega,rfl⟩
   rw [eR,fH,Dr hG hn c (by omega)]
   have : uQ (aJ n G) (aU n G) c = Z6 n G c:=by
    unfold uQ Z6
    rw [G2 hn hx,G4 hG hn hx]
    congr 2
    rw [Bool.eq_iff_iff,beq_iff_eq]
    exact JR
   rw [this]
   all_goals (cases Z6 n G c <;> rfl)
theorem MD {n : Int} {G : List Sg} (hG : gH G) (hn : bz n) : eR (aJ n G) (aU n G) (aJ n G).length = fH n G (n * n).toNat:=by
 have : (aJ n G).length = (n * n).toNat:=c7
 rw [this];exact Dr hG hn _ (Nat.le_refl _)
theorem Ax {n : Int} {G : List Sg} (hG : gH G) (hn : bz n) : lP n G = zb n G:=by
 unfold lP zb qD
 rw [MD hG hn]
 cases dL G <;> dsimp only
 omega
end Go.Proofs.YthejmgnkenokpaaGreatDoor
end
