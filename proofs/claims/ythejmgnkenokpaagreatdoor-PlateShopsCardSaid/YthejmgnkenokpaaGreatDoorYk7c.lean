/-
  Texts of the claims on chapter 3: Yk7c. No condition: lemmas and contracts.
-/
import Derived.Test.YthejmgnkenokpaaGreatDoorYk6c
import Derived.Test.YthejmgnkenokpaaGreatDoorYk5c
import Derived.Test.YthejmgnkenokpaaGreatDoorYk4c
import Derived.Test.YthejmgnkenokpaaGreatDoorPl1c
set_option linter.all false
set_option maxRecDepth 100000
set_option maxHeartbeats 4000000
section
namespace Go.Proofs.YthejmgnkenokpaaGreatDoor
open Go Go.Sy Go.bK
variable {Γ : bn}
def PB (D : Int -> List Sg -> List aa) (F : Int -> List Sg -> Tm) : au:=.fn fun args rg => match args with
 | [.a (.v (.int .i64 n0)),.a x0] => (match ac1 48 kG rg x0 with | some (q0,L0) => some (q0 ++ (D n0 L0),F n0 L0) | _ => none)
 | _ => none
theorem ML {f : FuncId} {b : Body} {E : Env} {d : Nat} (hP : aL Tryz.prog Γ E) (hb : bQ Tryz.prog f b) {D : Int -> List Sg -> List aa} {F : Int -> List Sg -> Tm} (hp : ∀ (n0 : Int) (L0 : List Sg),(F n0 L0).plain = true)
  (H : ∀ (n0 : Int) (L0 : List Sg),bW (D n0 L0) -> cQ E d b [.a (vI n0),.a (.sl 0 [] 0 L0.length)] [.arr 48 kG L0 false false] (fun x _ => iL x (F n0 L0))) : au.Ok Tryz.prog Γ f (PB D F):=au.er (d:=d) hP hb (by
 intro args rg q t hF hq
 split at hF
 next n0 x0 =>
  split at hF
  next q0 L0 hx0 =>
   obtain ⟨rfl,rfl⟩:=Prod.mk.inj (Option.some.inj hF);clear hF
   rw [aH] at hq
   obtain ⟨dm,hD⟩:=hq
   obtain ⟨e0,Vn⟩:=bP (by simp [kG]) hx0 dm
   obtain ⟨p0,r0⟩:=Vn [e0] 0 1 rfl (by omega)
   refine ⟨hp _ _,[e0],[.a (vI n0),.a (.sl 0 [] 0 L0.length)],[.arr 48 kG L0 false false],⟨⟨rfl,p0,trivial⟩,fun r g hg => ?_⟩,H _ _ hD⟩
   match r,hg with
   | 0,hg => obtain rfl:=Option.some.inj hg;exact r0
  next => cases hF
 next => cases hF)
theorem Oh (l : List Int) (i : Nat) (v : Int) : l.set (0 + Int.toNat (i : Int)) v = l.set i v:=by rw [Nat.zero_add,Int.toNat_natCast]
noncomputable def tB : au:=PB (fun n G => [(aa.of (1 <= n /\ n <= 6)),(aa.of (G.length <= 1000000)),(aa.of (∀ g ∈ G,0 <= g.1 /\ g.1 <= 7))]) (fun n G => bl (eH n G))
noncomputable def C4 : List (Nat × au):=[(83,ke),(91,Gm)]
theorem En : aR Tryz.prog Γ C4:=((aR.nil.cons (aj Tryz.func91 rfl rfl).fn Gn).cons (aj Tryz.func83 rfl rfl).fn iK)
noncomputable def zE : List (Nat × Body):=[(82,bo Tryz.f82),(117,bo Tryz.f117),(90,bo Tryz.f90)]
theorem CA : bq Tryz.prog zE:=(((bq.nil.cons (cg Tryz.func90 rfl rfl)).cons (cg Tryz.func117 rfl rfl)).cons (cg Tryz.func82 rfl rfl))
def I7 (id : Nat) : Option (Nat × OT):=match Nat.beq id 1 with | true => some (11,(.take 0 (.take 1 (.take 2 (.take 4 (.take 5 (.take 6 (.alt 3 (.alt 7 (.alt 8 (.take 9 (.alt 10 .fin .fin)) (.alt 10 (.alt 8 (.take 9 .fin) .fin) .fin)) (.alt 8 (.alt 7 (.take 9 (.alt 10 .fin .fin)) (.alt 10 (.alt 7 (.take 9 .fin) .fin) .fin)) (.alt 10 (.alt 7 (.alt 8 (.take 9 .fin) .fin) (.alt 8 (.alt 7 (.take 9 .fin) .fin) .fin)) .fin))) (.alt 7 (.alt 3 (.alt 8 (.take 9 (.alt 10 .fin .fin)) (.alt 10 (.alt 8 (.take 9 .fin) .fin) .fin)) (.alt 8 (.alt 3 (.take 9 (.alt 10 .fin .fin)) (.alt 10 (.alt 3 (.take 9 .fin) .fin) .fin)) (.alt 10 (.alt 3 (.alt 8 (.take 9 .fin) .fin) (.alt 8 (.alt 3 (.take 9 .fin) .fin) .fin)) .fin))) (.alt 8 (.alt 3 (.alt 7 (.take 9 (.alt 10 .fin .fin)) (.alt 10 (.alt 7 (.take 9 .fin) .fin) .fin)) (.alt 7 (.alt 3 (.take 9 (.alt 10 .fin .fin)) (.alt 10 (.alt 3 (.take 9 .fin) .fin) .fin)) (.alt 10 (.alt 3 (.alt 7 (.take 9 .fin) .fin) (.alt 7 (.alt 3 (.take 9 .fin) .fin) .fin)) .fin))) (.alt 10 (.alt 3 (.alt 7 (.alt 8 (.take 9 .fin) .fin) (.alt 8 (.alt 7 (.take 9 .fin) .fin) .fin)) (.alt 7 (.alt 3 (.alt 8 (.take 9 .fin) .fin) (.alt 8 (.alt 3 (.take 9 .fin) .fin) .fin)) (.alt 8 (.alt 3 (.alt 7 (.take 9 .fin) .fin) (.alt 7 (.alt 3 (.take 9 .fin) .fin) .fin)) .fin))) .fin))))))))))) | false => none
def JK (id : Nat) : Option OT:=match Nat.beq id 4 with | true => some (.take 0 (.take 1 (.take 2 (.take 4 (.take 5 (.take 6 (.take 7 (.take 9 (.take 10 (.take 11 (.take 12 (.take 13 (.take 14 (.take 15 (.alt 3 (.alt 8 (.take 16 (.alt 17 (.take 18 (.alt 19 .fin .fin)) .fin)) .fin) (.alt 8 (.alt 3 (.take 16 (.alt 17 (.take 18 (.alt 19 .fin .fin)) .fin)) .fin) .fin)))))))))))))))) | false => none
def Jr (id : Nat) : Option (List Nat):=match Nat.beq id 12 with | true => some [0,1,2,3,4,5,6,7] | false => none
noncomputable def xF : Env:={ jV.env C4 zE false 0 with htr:=I7 }
theorem Ab : aL Tryz.prog Γ xF:=(aP En CA false 0).NA _
noncomputable def xG : Env:={ xF with tree:=JK }
theorem Ac : aL Tryz.prog Γ xG:=Ab.vU _
noncomputable def xH : Env:={ xG with ord:=Jr }
theorem Ad : aL Tryz.prog Γ xH:=Ac.Ju _
noncomputable def IX : Env:={ xH with cut:=fun t => Nat.beq t 2001 || Nat.beq t 1009 }
theorem CH : aL Tryz.prog Γ IX:=Ad.wy _
theorem Bg (G : List Sg) (k : Nat) : gp G (k + 1) = (gp G k || (sg G k).2):=rfl
theorem Bh (G : List Sg) : gp G 0 = false:=rfl
theorem pg {n : Int} {U : List Int} {Pa : List Bool} {R : Int -> Int} {Q : Int -> Bool} {rk : Int -> Nat} (h : xj n U Pa R Q rk) {x : Int} (hx : aM n x) (hn : n * n <= 36) : akh U Pa x:=⟨n,R,Q,rk,h,hx,hn⟩
attribute [local irreducible] eH gp aX cm akh
theorem sU : au.Ok Tryz.prog Γ 50 tB:=ML (d:=5) CH (aj Tryz.func50 rfl rfl) (fun _ _ => rfl) (by
 intro n G ⟨hn,hG,hg,_⟩
 simp only [aa.ae] at hn hG hg
 have j4 : 1 <= n * n /\ n * n <= 36:=sJ hn
 repeat' ((conv => whnf);first | apply And.intro | (intro h9;try (have h8 : (_ : Bool) = _:=h9;clear h8;revert h9;subst_vars;intro h9;exact aq h9 (by assumption))))
 all_goals try (conv => whnf)
 all_goals try first | (apply Tk.mk <;> kernel_rfl) | exact ⟨ah rfl⟩ | exact ⟨rfl⟩ | exact ⟨trivial⟩
 all_goals subst_vars
 all_goals try first | rfl | contradiction | (apply Ob.mk;first | (simp only [ag,ak,aa.ae];omega) | ((try simp only [aa.ae]);(try dsimp only);omega))
 refine ⟨Unit,fun _ => True,fun _ => ⟨aI 87 [1,2,4,5] [.a (.sl 0 [] 0 G.length),.a (.p 1 [] 0 0),.a (.p 2 [] 0 0),.a (.p 6 [] 0 0)],[],[.arr 48 kG G false false,.box true [vI n],.box true [.ff],.arr 3 kI (List.replicate (n * n).toNat (0 : Int)) true true,.arr 4 kB (List.replicate (n * n).toNat false) true true,.map 143 .i64 .bool [] true,.box true [.sl 3 [] 0 (n * n).toNat,.sl 4 [] 0 (n * n).toNat,.mp 5]]⟩,?_,?_⟩
 ·repeat' ((conv => whnf);first | apply And.intro | (intro h9;try (have h8 : (_ : Bool) = _:=h9;clear h8;revert h9;subst_vars;intro h9;exact aq h9 (by assumption))))
  all_goals try (conv => whnf)
  all_goals try first | (apply Tk.mk <;> kernel_rfl) | exact ⟨ah rfl⟩ | exact ⟨rfl⟩ | exact ⟨trivial⟩
  all_goals subst_vars
  all_goals try first | rfl | contradiction | (apply Ob.mk;first | (simp only [ag,ak,aa.ae];omega) | ((try simp only [aa.ae]);(try dsimp only);omega))
  all_goals try first
   | exact True.intro
   | exact ⟨show n * n * ((1 : Nat) : Int) <= 16777216 by omega⟩
  refine ⟨(),[0,1,2,3,4,5,6],trivial,?_⟩
  rotate_left
  refine ⟨(),[0,1,2,3,4,6,5],trivial,?_⟩
  rotate_left
  refine ⟨(),[0,1,2,3,5,4,6],trivial,?_⟩
  rotate_left
  refine ⟨(),[0,1,2,3,6,4,5],trivial,?_⟩
  rotate_left
  refine ⟨(),[0,1,2,3,5,6,4],trivial,?_⟩
  rotate_left
  refine ⟨(),[0,1,2,3,6,5,4],trivial,?_⟩
  rotate_left
  refine ⟨(),[0,1,2,4,3,5,6],trivial,?_⟩
  rotate_left
  refine ⟨(),[0,1,2,4,3,6,5],trivial,?_⟩
  rotate_left
  refine ⟨(),[0,1,2,5,3,4,6],trivial,?_⟩
  rotate_left
  refine ⟨(),[0,1,2,6,3,4,5],trivial,?_⟩
  rotate_left
  refine ⟨(),[0,1,2,5,3,6,4],trivial,?_⟩
  rotate_left
  refine ⟨(),[0,1,2,6,3,5,4],trivial,?_⟩
  rotate_left
  refine ⟨(),[0,1,2,4,5,3,6],trivial,?_⟩
  rotate_left
  refine ⟨(),[0,1,2,4,6,3,5],trivial,?_⟩
  rotate_left
  refine ⟨(),[0,1,2,5,4,3,6],trivial,?_⟩
  rotate_left
  refine ⟨(),[0,1,2,6,4,3,5],trivial,?_⟩
  rotate_left
  refine ⟨(),[0,1,2,5,6,3,4],trivial,?_⟩
  rotate_left
  refine ⟨(),[0,1,2,6,5,3,4],trivial,?_⟩
  rotate_left
  refine ⟨(),[0,1,2,4,5,6,3],trivial,?_⟩
  rotate_left
  refine ⟨(),[0,1,2,4,6,5,3],trivial,?_⟩
  rotate_left
  refine ⟨(),[0,1,2,5,4,6,3],trivial,?_⟩
  rotate_left
  refine ⟨(),[0,1,2,6,4,5,3],trivial,?_⟩
  rotate_left
  refine ⟨(),[0,1,2,5,6,4,3],trivial,?_⟩
  rotate_left
  refine ⟨(),[0,1,2,6,5,4,3],trivial,?_⟩
  rotate_right 23
  iterate 24
   ·repeat' ((conv => whnf);(first | apply And.intro | intro _))
    all_goals first | rfl | trivial | exact ah rfl | exact aS ‹_› rfl | exact aT ‹_› rfl | ((repeat' first | rfl | constructor);done) | exact ⟨rfl,rfl,rfl⟩
 rintro _ _
 repeat' ((conv => whnf);first | apply And.intro | (intro h9;try (have h8 : (_ : Bool) = _:=h9;clear h8;revert h9;subst_vars;intro h9;exact aq h9 (by assumption))))
 all_goals try (conv => whnf)
 all_goals try first | (apply Tk.mk <;> kernel_rfl) | exact ⟨ah rfl⟩ | exact ⟨rfl⟩ | exact ⟨trivial⟩
 all_goals subst_vars
 all_goals try first | rfl | contradiction | (apply Ob.mk;first | (simp only [ag,ak,aa.ae];omega) | ((try simp only [aa.ae]);(try dsimp only);omega))
 all_goals try first
  | exact True.intro
 rename_i l fn T
 rename Nat => dd
 refine ⟨Nat,fun x => x <= (n * n).toNat,fun x => ⟨aI 15 [0,1,6,7] [.a (.yl 8),.a (.p 7 [] 0 0),.a (vI (n * n)),.a (vI x)],[aI 87 [1,2,4,5] [.a (.sl 0 [] 0 G.length),.a (.p 1 [] 0 0),.a (.p 2 [] 0 0),.a (.p 6 [] 0 0)]],[.arr 48 kG G false false,.box true [vI n],.box true [.ff],.arr 3 kI (ay (fun y => y) (n * n).toNat x) true true,.arr 4 kB (List.replicate (n * n).toNat false) true true,.map 143 .i64 .bool [] true,.box true [.sl 3 [] 0 (n * n).toNat,.sl 4 [] 0 (n * n).toNat,.mp 5],.box true [vI n],.lp l (aI 87 [1,2,4,5] [.a (.sl 0 [] 0 G.length),.a (.p 1 [] 0 0),.a (.p 2 [] 0 0),.a (.p 6 [] 0 0)]) (ac5 Tryz.f50 0 fn T dd) .ready none]⟩,fun x => (n * n).toNat - x,0,[],Nat.zero_le _,?_,?_⟩
 ·repeat' ((conv => whnf);(first | apply And.intro | intro _))
  all_goals first | rfl | trivial | exact ah rfl | exact aS ‹_› rfl | exact aT ‹_› rfl | ((repeat' first | rfl | constructor);done) | exact ⟨rfl,rfl,qh.symm⟩ | (rename_i bx;simp only [List.mem_cons,List.not_mem_nil,or_false] at bx;rcases bx with rfl | rfl | rfl | rfl <;> exact ah rfl)
 rintro x hx
 by_cases cO : x < (n * n).toNat
 ·have p0 : decide ((x : Int) < n * n) = true:=decide_eq_true (by omega)
  have hla : x < (ay (fun y => y) (n * n).toNat x).length:=by rw [c7];exact cO
  have jK : (ay (fun y => y) (n * n).toNat x).set (0 + Int.toNat (x : Int)) (x : Int) = ay (fun y => y) (n * n).toNat (x + 1):=by rw [Oh];exact oQ
  repeat' ((conv => whnf);first | apply And.intro | (intro h9;try (have h8 : (_ : Bool) = _:=h9;clear h8;revert h9;subst_vars;intro h9;exact aq h9 (by assumption))))
  all_goals try (conv => whnf)
  all_goals try first | (apply Tk.mk <;> kernel_rfl) | exact ⟨ah rfl⟩ | exact ⟨rfl⟩ | exact ⟨trivial⟩
  all_goals subst_vars
  all_goals try first | rfl | contradiction | (apply Ob.mk;first | (simp only [ag,ak,aa.ae];omega) | ((try simp only [aa.ae]);(try dsimp only);omega))
  all_goals try first
   | exact ⟨show 0 + Int.toNat (x : Int) < (ay (fun y => y) (n * n).toNat x).length by omega⟩
  refine ⟨x + 1,[],cO,?_,by show (n * n).toNat - (x + 1) < (n * n).toNat - x;omega⟩
  repeat' ((conv => whnf);(first | apply And.intro | intro _))
  all_goals first | rfl | trivial | exact ah rfl | exact aS ‹_› rfl | exact aT ‹_› rfl | ((repeat' first | rfl | constructor);done) | exact ⟨rfl,rfl,jK⟩ | (rename_i bx;simp only [List.mem_cons,List.not_mem_nil,or_false] at bx;rcases bx with rfl | rfl | rfl | rfl <;> exact ah rfl)
 have p0 : decide ((x : Int) < n * n) = false:=decide_eq_false (by omega)
 obtain rfl : x = (n * n).toNat:=by omega
 repeat' ((conv => whnf);first | apply And.intro | (intro h9;try (have h8 : (_ : Bool) = _:=h9;clear h8;revert h9;subst_vars;intro h9;exact aq h9 (by assumption))))
 all_goals try (conv => whnf)
 all_goals try first | (apply Tk.mk <;> kernel_rfl) | exact ⟨ah rfl⟩ | exact ⟨rfl⟩ | exact ⟨trivial⟩
 all_goals subst_vars
 all_goals try first | rfl | contradiction | (apply Ob.mk;first | (simp only [ag,ak,aa.ae];omega) | ((try simp only [aa.ae]);(try dsimp only);omega))
 clear p0 hx cO
 refine ⟨Nat × List Int × List Bool × List (Int × Bool),fun s => s.1 <= G.length /\ zq n (jP n G s.1 0) s.2.1 s.2.2.1 s.2.2.2,fun s => ⟨aI 87 [2,4,5,7,34,35,36] [.a (.p 1 [] 0 0),.a (.p 2 [] 0 0),.a (.p 6 [] 0 0),.a (.p 7 [] 0 0),.a (.sl 0 [] 0 G.length),.a (vI G.length),.a (vI s.1)],[],[.arr 48 kG G false false,.box true [vI n],.box true [.ff],.arr 3 kI s.2.1 true true,.arr 4 kB s.2.2.1 true true,.map 143 .i64 .bool s.2.2.2 true,.box true [.sl 3 [] 0 (n * n).toNat,.sl 4 [] 0 (n * n).toNat,.mp 5],.box true [.v (.bool (gp G s.1))]]⟩,fun s => G.length - s.1,(0,(ay (fun y => y) (n * n).toNat (n * n).toNat),(List.replicate (n * n).toNat false),[]),[0,1,2,3,4,5,6,9],⟨Nat.zero_le _,JN hn⟩,?_,?_⟩
 ·repeat' ((conv => whnf);(first | apply And.intro | intro _))
  all_goals first | rfl | trivial | exact ah rfl | exact aS ‹_› rfl | exact aT ‹_› rfl | ((repeat' first | rfl | constructor);done) | exact ⟨rfl,rfl,rfl⟩ | exact (Bh G).symm | exact Bh G | (rename_i bx;simp only [List.mem_cons,List.not_mem_nil,or_false] at bx;rcases bx with rfl | rfl | rfl | rfl <;> exact ah rfl)
 rintro ⟨k,U,Pa,M⟩ ⟨hk,hU⟩
 dsimp only at hk hU
 by_cases cB : k < G.length
 ·have p1 : decide ((k : Int) < (G.length : Int)) = true:=decide_eq_true (by omega)
  have es:=rL G k
  have dI : 0 <= (bI G k).1 /\ (bI G k).1 <= 7:=by rw [es];exact hg _ (aaq cB)
  have Rz : gp G k = true -> gp G (k + 1) = true:=fun h => by rw [Bg,h];rfl
  have Ry : gp G k = false -> (bI G k).2 = gp G (k + 1):=fun h => by rw [Bg,h,es];rfl
  repeat' ((conv => whnf);first | apply And.intro | (intro h9;try (have h8 : (_ : Bool) = _:=h9;clear h8;revert h9;subst_vars;intro h9;exact aq h9 (by assumption))))
  all_goals try (conv => whnf)
  all_goals try first | (apply Tk.mk <;> kernel_rfl) | exact ⟨ah rfl⟩ | exact ⟨rfl⟩ | exact ⟨trivial⟩
  all_goals subst_vars
  all_goals try first | rfl | contradiction | (apply Ob.mk;first | (simp only [ag,ak,aa.ae];omega) | ((try simp only [aa.ae]);(try dsimp only);omega))
  all_goals try first
   | exact ⟨show 0 + Int.toNat (k : Int) < G.length by omega⟩
  refine ⟨Unit,fun _ => True,fun _ => ⟨aI 87 [2,4,5,7,9,34,35,36] [.a (.p 1 [] 0 0),.a (.p 2 [] 0 0),.a (.p 6 [] 0 0),.a (.p 7 [] 0 0),.a (.p 8 [] 0 0),.a (.sl 0 [] 0 G.length),.a (vI G.length),.a (vI k)],[],[.arr 48 kG G false false,.box true [vI n],.box true [.ff],.arr 3 kI U true true,.arr 4 kB Pa true true,.map 143 .i64 .bool M true,.box true [.sl 3 [] 0 (n * n).toNat,.sl 4 [] 0 (n * n).toNat,.mp 5],.box true [.v (.bool (gp G (k + 1)))],.box true [vI (bI G k).1,.v (.bool (bI G k).2)]]⟩,?_,?_⟩
  ·repeat' ((conv => whnf);first | apply And.intro | (intro h9;try (have h8 : (_ : Bool) = _:=h9;clear h8;revert h9;subst_vars;intro h9;exact aq h9 (by assumption))))
   all_goals try (conv => whnf)
   all_goals try first | (apply Tk.mk <;> kernel_rfl) | exact ⟨ah rfl⟩ | exact ⟨rfl⟩ | exact ⟨trivial⟩
   all_goals subst_vars
   all_goals try first | rfl | contradiction | (apply Ob.mk;first | (simp only [ag,ak,aa.ae];omega) | ((try simp only [aa.ae]);(try dsimp only);omega))
   all_goals
    refine ⟨(),[],trivial,?_⟩
    repeat' ((conv => whnf);(first | apply And.intro | intro _))
    all_goals first | rfl | trivial | exact ah rfl | exact aS ‹_› rfl | exact aT ‹_› rfl | ((repeat' first | rfl | constructor);done) | exact ⟨rfl,rfl,rfl⟩ | exact Rz (by assumption) | exact Ry (by assumption) | (rename_i bx;simp only [List.mem_cons,List.not_mem_nil,or_false] at bx;rcases bx with rfl | rfl | rfl | rfl <;> exact ah rfl)
  rintro _ _
  repeat' ((conv => whnf);first | apply And.intro | (intro h9;try (have h8 : (_ : Bool) = _:=h9;clear h8;revert h9;subst_vars;intro h9;exact aq h9 (by assumption))))
  all_goals try (conv => whnf)
  all_goals try first | (apply Tk.mk <;> kernel_rfl) | exact ⟨ah rfl⟩ | exact ⟨rfl⟩ | exact ⟨trivial⟩
  all_goals subst_vars
  all_goals try first | rfl | contradiction | (apply Ob.mk;first | (simp only [ag,ak,aa.ae];omega) | ((try simp only [aa.ae]);(try dsimp only);omega))
  all_goals try first
   | exact True.intro
  rename_i l2 Kh T2
  rename Nat => d2
  refine ⟨Nat × List Int × List Bool × List (Int × Bool),fun s => s.1 <= (n * n).toNat /\ zq n (jP n G k s.1) s.2.1 s.2.2.1 s.2.2.2,fun s => ⟨aI 15 [0,1,6,7] [.a (.yl 10),.a (.p 9 [] 0 0),.a (vI (n * n)),.a (vI s.1)],[aI 87 [2,4,5,7,9,34,35,36] [.a (.p 1 [] 0 0),.a (.p 2 [] 0 0),.a (.p 6 [] 0 0),.a (.p 7 [] 0 0),.a (.p 8 [] 0 0),.a (.sl 0 [] 0 G.length),.a (vI G.length),.a (vI k)]],[.arr 48 kG G false false,.box true [vI n],.box true [.ff],.arr 3 kI s.2.1 true true,.arr 4 kB s.2.2.1 true true,.map 143 .i64 .bool s.2.2.2 true,.box true [.sl 3 [] 0 (n * n).toNat,.sl 4 [] 0 (n * n).toNat,.mp 5],.box true [.v (.bool (gp G (k + 1)))],.box true [vI (bI G k).1,.v (.bool (bI G k).2)],.box true [vI n],.lp l2 (aI 87 [2,4,5,7,9,34,35,36] [.a (.p 1 [] 0 0),.a (.p 2 [] 0 0),.a (.p 6 [] 0 0),.a (.p 7 [] 0 0),.a (.p 8 [] 0 0),.a (.sl 0 [] 0 G.length),.a (vI G.length),.a (vI k)]) (ac5 Tryz.f50 1 Kh T2 d2) .ready none]⟩,fun s => (n * n).toNat - s.1,(0,U,Pa,M),[],⟨Nat.zero_le _,hU⟩,?_,?_⟩
  ·repeat' ((conv => whnf);(first | apply And.intro | intro _))
   all_goals first | rfl | trivial | exact ah rfl | exact aS ‹_› rfl | exact aT ‹_› rfl | ((repeat' first | rfl | constructor);done) | exact ⟨rfl,rfl,rfl⟩ | (rename_i bx;simp only [List.mem_cons,List.not_mem_nil,or_false] at bx;rcases bx with rfl | rfl | rfl | rfl <;> exact ah rfl)
  clear hU
  rintro ⟨x,U,Pa,M⟩ ⟨hx,hU⟩
  dsimp only at hx hU
  by_cases cO : x < (n * n).toNat
  ·have p0 : decide ((x : Int) < n * n) = true:=decide_eq_true (by omega)
   have gR : aM n (x : Int):=⟨by omega,by omega⟩
   have cq : 0 <= (x : Int) /\ (x : Int) < n * n:=gR
   have pS : aM n (aX n (bI G k).1 (x : Int)):=ng hn dI gR
   obtain ⟨R,Q,rk,hr,hu⟩:=hU
   have xJ : (cm U Pa (x : Int)) = (R x,Q x):=rH hr gR j4.2
   have Dq : (cm U Pa (aX n (bI G k).1 (x : Int))) = (R (aX n (bI G k).1 (x : Int)),Q (aX n (bI G k).1 (x : Int))):=rH hr pS j4.2
   have jm : akh U Pa (x : Int):=pg hr gR j4.2
   have j5 : akh U Pa (aX n (bI G k).1 (x : Int)):=pg hr pS j4.2
   have RF:=(hr.rc _ gR).1
   have fR : R x = (cm U Pa (x : Int)).1:=by rw [xJ]
   have tE : Q x = (cm U Pa (x : Int)).2:=by rw [xJ]
   have nR : R (aX n (bI G k).1 (x : Int)) = (cm U Pa (aX n (bI G k).1 (x : Int))).1:=by rw [Dq]
   have tF : Q (aX n (bI G k).1 (x : Int)) = (cm U Pa (aX n (bI G k).1 (x : Int))).2:=by rw [Dq]
   have j7 : 0 <= (cm U Pa (x : Int)).1 /\ (cm U Pa (x : Int)).1 < ((n * n).toNat : Int):=by rw [<- fR];unfold aM at RF;omega
   have iz : U.length = (n * n).toNat:=hr.lu
   have iy : Pa.length = (n * n).toNat:=hr.lp
   have iS : 0 + Int.toNat (cm U Pa (x : Int)).1 < U.length:=by omega
   have iR : 0 + Int.toNat (cm U Pa (x : Int)).1 < Pa.length:=by omega
   by_cases hxy : (cm U Pa (x : Int)).1 = (cm U Pa (aX n (bI G k).1 (x : Int))).1
   ·have q2 : ((cm U Pa (x : Int)).1 == (cm U Pa (aX n (bI G k).1 (x : Int))).1) = true:=beq_iff_eq.2 hxy
    have pr : R x = R (aX n (bI G k).1 (x : Int)):=by rw [fR,nR];exact hxy
    cases qV : aO M (cm U Pa (x : Int)).1 false
    ·have key:=Ed (m:=(bI G k).2) (b:=(!((!((cm U Pa (x : Int)).2 == (cm U Pa (aX n (bI G k).1 (x : Int))).2)) == (bI G k).2))) hr hu pr (by rw [fR,tE,tF,qV];rfl)
     rw [fR,es,<- sw cB gR,<- es] at key
     clear xJ Dq fR tE nR tF pr hr hu
     repeat' ((conv => whnf);first | apply And.intro | (intro h9;try (have h8 : (_ : Bool) = _:=h9;clear h8;revert h9;subst_vars;intro h9;exact aq h9 (by assumption))))
     all_goals try (conv => whnf)
     all_goals try first | (apply Tk.mk <;> kernel_rfl) | exact ⟨ah rfl⟩ | exact ⟨rfl⟩ | exact ⟨trivial⟩
     all_goals subst_vars
     all_goals try first | rfl | contradiction | (apply Ob.mk;first | (simp only [ag,ak,aa.ae];omega) | ((try simp only [aa.ae]);(try dsimp only);omega))
     all_goals try first
      | exact ⟨iz.symm⟩
      | exact ⟨iy.symm⟩
      | exact ⟨jm⟩
      | exact ⟨j5⟩
     refine ⟨(x + 1,U,Pa,dF M (cm U Pa (x : Int)).1 (!((!((cm U Pa (x : Int)).2 == (cm U Pa (aX n (bI G k).1 (x : Int))).2)) == (bI G k).2))),[],⟨cO,key⟩,?_,by show (n * n).toNat - (x + 1) < (n * n).toNat - x;omega⟩
     repeat' ((conv => whnf);(first | apply And.intro | intro _))
     all_goals first | rfl | trivial | exact ah rfl | exact aS ‹_› rfl | exact aT ‹_› rfl | ((repeat' first | rfl | constructor);done) | exact ⟨rfl,rfl,rfl⟩ | (rename_i bx;simp only [List.mem_cons,List.not_mem_nil,or_false] at bx;rcases bx with rfl | rfl | rfl | rfl <;> exact ah rfl)
    have key:=Ed (m:=(bI G k).2) (b:=true) hr hu pr (by rw [fR,qV];rfl)
    rw [fR,es,<- sw cB gR] at key
    clear xJ Dq fR tE nR tF pr hr hu
    repeat' ((conv => whnf);first | apply And.intro | (intro h9;try (have h8 : (_ : Bool) = _:=h9;clear h8;revert h9;subst_vars;intro h9;exact aq h9 (by assumption))))
    all_goals try (conv => whnf)
    all_goals try first | (apply Tk.mk <;> kernel_rfl) | exact ⟨ah rfl⟩ | exact ⟨rfl⟩ | exact ⟨trivial⟩
    all_goals subst_vars
    all_goals try first | rfl | contradiction | (apply Ob.mk;first | (simp only [ag,ak,aa.ae];omega) | ((try simp only [aa.ae]);(try dsimp only);omega))
    all_goals try first
     | exact ⟨iz.symm⟩
     | exact ⟨iy.symm⟩
     | exact ⟨jm⟩
     | exact ⟨j5⟩
    refine ⟨(x + 1,U,Pa,dF M (cm U Pa (x : Int)).1 true),[],⟨cO,key⟩,?_,by show (n * n).toNat - (x + 1) < (n * n).toNat - x;omega⟩
    repeat' ((conv => whnf);(first | apply And.intro | intro _))
    all_goals first | rfl | trivial | exact ah rfl | exact aS ‹_› rfl | exact aT ‹_› rfl | ((repeat' first | rfl | constructor);done) | exact ⟨rfl,rfl,rfl⟩ | (rename_i bx;simp only [List.mem_cons,List.not_mem_nil,or_false] at bx;rcases bx with rfl | rfl | rfl | rfl <;> exact ah rfl)
   have q2 : ((cm U Pa (x : Int)).1 == (cm U Pa (aX n (bI G k).1 (x : Int))).1) = false:=by rw [beq_eq_false_iff_ne];exact hxy
   have pr : ¬ R x = R (aX n (bI G k).1 (x : Int)):=by rw [fR,nR];exact hxy
   cases qV : aO M (cm U Pa (aX n (bI G k).1 (x : Int))).1 false
   ·have key:=Ec (m:=(bI G k).2) (b:=aO M (cm U Pa (x : Int)).1 false) hr hu gR pS pr (by rw [nR,fR,qV];rfl)
    rw [fR,nR,tE,tF,es,<- sw cB gR,<- es,<- Nat.zero_add (Int.toNat (cm U Pa (x : Int)).1)] at key
    clear xJ Dq fR tE nR tF pr hr hu
    repeat' ((conv => whnf);first | apply And.intro | (intro h9;try (have h8 : (_ : Bool) = _:=h9;clear h8;revert h9;subst_vars;intro h9;exact aq h9 (by assumption))))
    all_goals try (conv => whnf)
    all_goals try first | (apply Tk.mk <;> kernel_rfl) | exact ⟨ah rfl⟩ | exact ⟨rfl⟩ | exact ⟨trivial⟩
    all_goals subst_vars
    all_goals try first | rfl | contradiction | (apply Ob.mk;first | (simp only [ag,ak,aa.ae];omega) | ((try simp only [aa.ae]);(try dsimp only);omega))
    all_goals try first
     | exact True.intro
     | exact ⟨iz.symm⟩
     | exact ⟨iy.symm⟩
     | exact ⟨iS⟩
     | exact ⟨iR⟩
     | exact ⟨j7⟩
     | exact ⟨jm⟩
     | exact ⟨j5⟩
    all_goals
     refine ⟨(x + 1,U.set (0 + Int.toNat (cm U Pa (x : Int)).1) (cm U Pa (aX n (bI G k).1 (x : Int))).1,Pa.set (0 + Int.toNat (cm U Pa (x : Int)).1) (!((!((cm U Pa (x : Int)).2 == (cm U Pa (aX n (bI G k).1 (x : Int))).2)) == (bI G k).2)),dF M (cm U Pa (aX n (bI G k).1 (x : Int))).1 (aO M (cm U Pa (x : Int)).1 false)),[],⟨cO,key⟩,?_,by show (n * n).toNat - (x + 1) < (n * n).toNat - x;omega⟩
     repeat' ((conv => whnf);(first | apply And.intro | intro _))
     all_goals first | rfl | trivial | exact ah rfl | exact aS ‹_› rfl | exact aT ‹_› rfl | ((repeat' first | rfl | constructor);done) | exact ⟨rfl,rfl,rfl⟩ | (rename_i bx;simp only [List.mem_cons,List.not_mem_nil,or_false] at bx;rcases bx with rfl | rfl | rfl | rfl <;> exact ah rfl)
   have key:=Ec (m:=(bI G k).2) (b:=true) hr hu gR pS pr (by rw [nR,qV];rfl)
   rw [fR,nR,tE,tF,es,<- sw cB gR,<- es,<- Nat.zero_add (Int.toNat (cm U Pa (x : Int)).1)] at key
   clear xJ Dq fR tE nR tF pr hr hu
   repeat' ((conv => whnf);first | apply And.intro | (intro h9;try (have h8 : (_ : Bool) = _:=h9;clear h8;revert h9;subst_vars;intro h9;exact aq h9 (by assumption))))
   all_goals try (conv => whnf)
   all_goals try first | (apply Tk.mk <;> kernel_rfl) | exact ⟨ah rfl⟩ | exact ⟨rfl⟩ | exact ⟨trivial⟩
   all_goals subst_vars
   all_goals try first | rfl | contradiction | (apply Ob.mk;first | (simp only [ag,ak,aa.ae];omega) | ((try simp only [aa.ae]);(try dsimp only);omega))
   all_goals try first
    | exact True.intro
    | exact ⟨iz.symm⟩
    | exact ⟨iy.symm⟩
    | exact ⟨iS⟩
    | exact ⟨iR⟩
    | exact ⟨j7⟩
    | exact ⟨jm⟩
    | exact ⟨j5⟩
   all_goals
    refine ⟨(x + 1,U.set (0 + Int.toNat (cm U Pa (x : Int)).1) (cm U Pa (aX n (bI G k).1 (x : Int))).1,Pa.set (0 + Int.toNat (cm U Pa (x : Int)).1) (!((!((cm U Pa (x : Int)).2 == (cm U Pa (aX n (bI G k).1 (x : Int))).2)) == (bI G k).2)),dF M (cm U Pa (aX n (bI G k).1 (x : Int))).1 true),[],⟨cO,key⟩,?_,by show (n * n).toNat - (x + 1) < (n * n).toNat - x;omega⟩
    repeat' ((conv => whnf);(first | apply And.intro | intro _))
    all_goals first | rfl | trivial | exact ah rfl | exact aS ‹_› rfl | exact aT ‹_› rfl | ((repeat' first | rfl | constructor);done) | exact ⟨rfl,rfl,rfl⟩ | (rename_i bx;simp only [List.mem_cons,List.not_mem_nil,or_false] at bx;rcases bx with rfl | rfl | rfl | rfl <;> exact ah rfl)
  have p0 : decide ((x : Int) < n * n) = false:=decide_eq_false (by omega)
  obtain rfl : x = (n * n).toNat:=by omega
  rw [NM cB] at hU
  repeat' ((conv => whnf);first | apply And.intro | (intro h9;try (have h8 : (_ : Bool) = _:=h9;clear h8;revert h9;subst_vars;intro h9;exact aq h9 (by assumption))))
  all_goals try (conv => whnf)
  all_goals try first | (apply Tk.mk <;> kernel_rfl) | exact ⟨ah rfl⟩ | exact ⟨rfl⟩ | exact ⟨trivial⟩
  all_goals subst_vars
  all_goals try first | rfl | contradiction | (apply Ob.mk;first | (simp only [ag,ak,aa.ae];omega) | ((try simp only [aa.ae]);(try dsimp only);omega))
  refine ⟨(k + 1,U,Pa,M),[0,1,2,3,4,5,6,7],⟨cB,hU⟩,?_,by show G.length - (k + 1) < G.length - k;omega⟩
  repeat' ((conv => whnf);(first | apply And.intro | intro _))
  all_goals first | rfl | trivial | exact ah rfl | exact aS ‹_› rfl | exact aT ‹_› rfl | ((repeat' first | rfl | constructor);done) | exact ⟨rfl,rfl,rfl⟩ | (rename_i bx;simp only [List.mem_cons,List.not_mem_nil,or_false] at bx;rcases bx with rfl | rfl | rfl | rfl <;> exact ah rfl)
 have p1 : decide ((k : Int) < (G.length : Int)) = false:=decide_eq_false (by omega)
 obtain rfl : k = G.length:=by omega
 rw [NL] at hU
 obtain ⟨R,Q,rk,hr,hu⟩:=hU
 have hc0:=gM hn
 have QW : cm U Pa 0 = (R 0,Q 0):=rH hr hc0 j4.2
 have MB : R 0 = (cm U Pa 0).1:=by rw [QW]
 have iz : U.length = (n * n).toNat:=hr.lu
 have iy : Pa.length = (n * n).toNat:=hr.lp
 have fK : akh U Pa 0:=pg hr hc0 j4.2
 clear hk cB
 repeat' ((conv => whnf);first | apply And.intro | (intro h9;try (have h8 : (_ : Bool) = _:=h9;clear h8;revert h9;subst_vars;intro h9;exact aq h9 (by assumption))))
 all_goals try (conv => whnf)
 all_goals try first | (apply Tk.mk <;> kernel_rfl) | exact ⟨ah rfl⟩ | exact ⟨rfl⟩ | exact ⟨trivial⟩
 all_goals subst_vars
 all_goals try first | rfl | contradiction | (apply Ob.mk;first | (simp only [ag,ak,aa.ae];omega) | ((try simp only [aa.ae]);(try dsimp only);omega))
 all_goals try first
  | exact True.intro
  | exact ⟨iz.symm⟩
  | exact ⟨iy.symm⟩
  | exact ⟨fK⟩
 rename_i l3 QY T3
 rename Nat => d3
 refine ⟨Nat,fun x => x <= (n * n).toNat /\ ∀ y : Nat,y < x -> match gp G G.length with | true => aO M (R (y : Int)) false = true | false => R (y : Int) = R 0,fun x => ⟨aI 15 [0,1,6,7] [.a (.yl 10),.a (.p 9 [] 0 0),.a (vI (n * n)),.a (vI x)],[aI 87 [2,4,5,7,11] [.a (.p 1 [] 0 0),.a (.p 2 [] 0 0),.a (.p 6 [] 0 0),.a (.p 7 [] 0 0),.a (.p 8 [] 0 0)]],[.arr 48 kG G false false,.box true [vI n],.box true [.ff],.arr 3 kI U true true,.arr 4 kB Pa true true,.map 143 .i64 .bool M true,.box true [.sl 3 [] 0 (n * n).toNat,.sl 4 [] 0 (n * n).toNat,.mp 5],.box true [.v (.bool (gp G G.length))],.box true [vI (cm U Pa 0).1],.box true [vI n],.lp l3 (aI 87 [2,4,5,7,11] [.a (.p 1 [] 0 0),.a (.p 2 [] 0 0),.a (.p 6 [] 0 0),.a (.p 7 [] 0 0),.a (.p 8 [] 0 0)]) (ac5 Tryz.f50 2 QY T3 d3) .ready none]⟩,fun x => (n * n).toNat - x,0,[],⟨Nat.zero_le _,fun y hy => absurd hy (Nat.not_lt_zero _)⟩,?_,?_⟩
 ·repeat' ((conv => whnf);(first | apply And.intro | intro _))
  all_goals first | rfl | trivial | exact ah rfl | exact aS ‹_› rfl | exact aT ‹_› rfl | ((repeat' first | rfl | constructor);done) | exact ⟨rfl,rfl,rfl⟩ | (rename_i bx;simp only [List.mem_cons,List.not_mem_nil,or_false] at bx;rcases bx with rfl | rfl | rfl | rfl <;> exact ah rfl)
 rintro x ⟨hx,hall⟩
 by_cases cO : x < (n * n).toNat
 ·have p0 : decide ((x : Int) < n * n) = true:=decide_eq_true (by omega)
  have gR : aM n (x : Int):=⟨by omega,by omega⟩
  have xJ : (cm U Pa (x : Int)) = (R x,Q x):=rH hr gR j4.2
  have fR : R x = (cm U Pa (x : Int)).1:=by rw [xJ]
  have jm : akh U Pa (x : Int):=pg hr gR j4.2
  have cq : 0 <= (x : Int) /\ (x : Int) < n * n:=gR
  obtain hm | hm : gp G G.length = false \/ gp G G.length = true:=by cases gp G G.length <;> simp
  ·have hmb : dL G = false:=by rw [<- wP];exact hm
   have q3 : (!gp G G.length) = true:=by rw [hm];rfl
   by_cases hxy : (cm U Pa (x : Int)).1 = (cm U Pa 0).1
   ·have q2 : ((cm U Pa (x : Int)).1 != (cm U Pa 0).1) = false:=by rw [hxy];exact bne_self_eq_false _
    have agO : ∀ y : Nat,y < x + 1 -> match gp G G.length with | true => aO M (R (y : Int)) false = true | false => R (y : Int) = R 0:=fun y hy => by
     rcases Nat.lt_or_ge y x with h | h
     ·exact hall y h
     ·obtain rfl : y = x:=by omega
      rw [hm];dsimp only
      rw [fR,MB];exact hxy
    repeat' ((conv => whnf);first | apply And.intro | (intro h9;try (have h8 : (_ : Bool) = _:=h9;clear h8;revert h9;subst_vars;intro h9;exact aq h9 (by assumption))))
    all_goals try (conv => whnf)
    all_goals try first | (apply Tk.mk <;> kernel_rfl) | exact ⟨ah rfl⟩ | exact ⟨rfl⟩ | exact ⟨trivial⟩
    all_goals subst_vars
    all_goals try first | rfl | contradiction | (apply Ob.mk;first | (simp only [ag,ak,aa.ae];omega) | ((try simp only [aa.ae]);(try dsimp only);omega))
    all_goals try first
     | exact ⟨iz.symm⟩
     | exact ⟨iy.symm⟩
     | exact ⟨jm⟩
    all_goals
     refine ⟨x + 1,[],⟨cO,by first | exact agO | (rw [hm] at agO;exact agO)⟩,?_,by show (n * n).toNat - (x + 1) < (n * n).toNat - x;omega⟩
     repeat' ((conv => whnf);(first | apply And.intro | intro _))
     all_goals first | rfl | trivial | exact ah rfl | exact aS ‹_› rfl | exact aT ‹_› rfl | ((repeat' first | rfl | constructor);done) | exact ⟨rfl,rfl,rfl⟩ | exact hm | exact hm.symm | (rename_i bx;simp only [List.mem_cons,List.not_mem_nil,or_false] at bx;rcases bx with rfl | rfl | rfl | rfl <;> exact ah rfl)
   have q2 : ((cm U Pa (x : Int)).1 != (cm U Pa 0).1) = true:=by rw [bne_iff_ne];exact hxy
   rw [Jy hu hmb gR (by rw [fR,MB];exact hxy)]
   repeat' ((conv => whnf);first | apply And.intro | (intro h9;try (have h8 : (_ : Bool) = _:=h9;clear h8;revert h9;subst_vars;intro h9;exact aq h9 (by assumption))))
   all_goals try (conv => whnf)
   all_goals try first | (apply Tk.mk <;> kernel_rfl) | exact ⟨ah rfl⟩ | exact ⟨rfl⟩ | exact ⟨trivial⟩
   all_goals subst_vars
   all_goals try first | rfl | contradiction | (apply Ob.mk;first | (simp only [ag,ak,aa.ae];omega) | ((try simp only [aa.ae]);(try dsimp only);omega))
   all_goals first
    | exact ⟨iz.symm⟩
    | exact ⟨iy.symm⟩
    | exact ⟨jm⟩
  have hmb : dL G = true:=by rw [<- wP];exact hm
  have q3 : (!gp G G.length) = false:=by rw [hm];rfl
  obtain qV | qV : aO M (cm U Pa (x : Int)).1 false = false \/ aO M (cm U Pa (x : Int)).1 false = true:=by cases aO M (cm U Pa (x : Int)).1 false <;> simp
  ·have q4 : (!aO M (cm U Pa (x : Int)).1 false) = true:=by rw [qV];rfl
   rw [Jx hu hmb gR (by rw [fR];exact qV)]
   repeat' ((conv => whnf);first | apply And.intro | (intro h9;try (have h8 : (_ : Bool) = _:=h9;clear h8;revert h9;subst_vars;intro h9;exact aq h9 (by assumption))))
   all_goals try (conv => whnf)
   all_goals try first | (apply Tk.mk <;> kernel_rfl) | exact ⟨ah rfl⟩ | exact ⟨rfl⟩ | exact ⟨trivial⟩
   all_goals subst_vars
   all_goals try first | rfl | contradiction | (apply Ob.mk;first | (simp only [ag,ak,aa.ae];omega) | ((try simp only [aa.ae]);(try dsimp only);omega))
   all_goals first
    | exact ⟨iz.symm⟩
    | exact ⟨iy.symm⟩
    | exact ⟨jm⟩
  have q4 : (!aO M (cm U Pa (x : Int)).1 false) = false:=by rw [qV];rfl
  have agO : ∀ y : Nat,y < x + 1 -> match gp G G.length with | true => aO M (R (y : Int)) false = true | false => R (y : Int) = R 0:=fun y hy => by
   rcases Nat.lt_or_ge y x with h | h
   ·exact hall y h
   ·obtain rfl : y = x:=by omega
    rw [hm];dsimp only
    rw [fR];exact qV
  repeat' ((conv => whnf);first | apply And.intro | (intro h9;try (have h8 : (_ : Bool) = _:=h9;clear h8;revert h9;subst_vars;intro h9;exact aq h9 (by assumption))))
  all_goals try (conv => whnf)
  all_goals try first | (apply Tk.mk <;> kernel_rfl) | exact ⟨ah rfl⟩ | exact ⟨rfl⟩ | exact ⟨trivial⟩
  all_goals subst_vars
  all_goals try first | rfl | contradiction | (apply Ob.mk;first | (simp only [ag,ak,aa.ae];omega) | ((try simp only [aa.ae]);(try dsimp only);omega))
  all_goals try first
   | exact ⟨iz.symm⟩
   | exact ⟨iy.symm⟩
   | exact ⟨jm⟩
  all_goals
   refine ⟨x + 1,[],⟨cO,by first | exact agO | (rw [hm] at agO;exact agO)⟩,?_,by show (n * n).toNat - (x + 1) < (n * n).toNat - x;omega⟩
   repeat' ((conv => whnf);(first | apply And.intro | intro _))
   all_goals first | rfl | trivial | exact ah rfl | exact aS ‹_› rfl | exact aT ‹_› rfl | ((repeat' first | rfl | constructor);done) | exact ⟨rfl,rfl,rfl⟩ | exact hm | exact hm.symm | (rename_i bx;simp only [List.mem_cons,List.not_mem_nil,or_false] at bx;rcases bx with rfl | rfl | rfl | rfl <;> exact ah rfl)
 have p0 : decide ((x : Int) < n * n) = false:=decide_eq_false (by omega)
 obtain rfl : x = (n * n).toNat:=by omega
 rw [Jz hu (fun v hv => by
  obtain ⟨y,hy,rfl⟩:=(ic hn).1 hv
  rw [<- wP];exact hall y hy)]
 repeat' ((conv => whnf);first | apply And.intro | (intro h9;try (have h8 : (_ : Bool) = _:=h9;clear h8;revert h9;subst_vars;intro h9;exact aq h9 (by assumption))))
 all_goals try (conv => whnf)
 all_goals try first | (apply Tk.mk <;> kernel_rfl) | exact ⟨ah rfl⟩ | exact ⟨rfl⟩ | exact ⟨trivial⟩
 all_goals subst_vars
 all_goals try first | rfl | contradiction | (apply Ob.mk;first | (simp only [ag,ak,aa.ae];omega) | ((try simp only [aa.ae]);(try dsimp only);omega)))
end Go.Proofs.YthejmgnkenokpaaGreatDoor
end
section
namespace Go.Proofs.YthejmgnkenokpaaGreatDoor
open Go Go.Sy Go.bK
variable {Γ : bn}
def MO (D : Int -> Int -> List Wk -> Int -> List (List Int) -> List aa) (F : Int -> Int -> List Wk -> Int -> List (List Int) -> Tm) : au:=.fn fun args rg => match args with
 | [.agg [.v (.int .i64 n0),.v (.int .i64 n1),x0],.a (.v (.int .i64 n2)),.a x1] => (match ac1 46 kW rg x0,ac1 49 kT rg x1 with | some (q0,L0),some (q1,L1) => some (q0 ++ (q1 ++ (D n0 n1 L0 n2 L1)),F n0 n1 L0 n2 L1) | _,_ => none)
 | _ => none
theorem Ll {f : FuncId} {b : Body} {E : Env} {d : Nat} (hP : aL Tryz.prog Γ E) (hb : bQ Tryz.prog f b) {D : Int -> Int -> List Wk -> Int -> List (List Int) -> List aa} {F : Int -> Int -> List Wk -> Int -> List (List Int) -> Tm} (hp : ∀ (n0 : Int) (n1 : Int) (L0 : List Wk) (n2 : Int) (L1 : List (List Int)),(F n0 n1 L0 n2 L1).plain = true)
  (H : ∀ (n0 : Int) (n1 : Int) (L0 : List Wk) (n2 : Int) (L1 : List (List Int)),bW (D n0 n1 L0 n2 L1) -> cQ E d b [.agg [vI n0,vI n1,.sl 0 [] 0 L0.length],.a (vI n2),.a (.sl 1 [] 0 L1.length)] [.arr 46 kW L0 false false,.arr 49 kT L1 false false] (fun x _ => iL x (F n0 n1 L0 n2 L1))) : au.Ok Tryz.prog Γ f (MO D F):=au.er (d:=d) hP hb (by
 intro args rg q t hF hq
 split at hF
 next n0 n1 x0 n2 x1 =>
  split at hF
  next q0 L0 q1 L1 hx0 cO =>
   obtain ⟨rfl,rfl⟩:=Prod.mk.inj (Option.some.inj hF);clear hF
   rw [aH,aH] at hq
   obtain ⟨dm,gk,hD⟩:=hq
   obtain ⟨e0,Vn⟩:=bP (by simp [kW]) hx0 dm
   obtain ⟨e1,iO⟩:=bP (by simp [kT]) cO gk
   obtain ⟨p0,r0⟩:=Vn [e0,e1] 0 2 rfl (by omega)
   obtain ⟨p1,r1⟩:=iO [e0,e1] 1 2 rfl (by omega)
   refine ⟨hp _ _ _ _ _,[e0,e1],[.agg [vI n0,vI n1,.sl 0 [] 0 L0.length],.a (vI n2),.a (.sl 1 [] 0 L1.length)],[.arr 46 kW L0 false false,.arr 49 kT L1 false false],⟨⟨⟨rfl,rfl,p0,trivial⟩,rfl,p1,trivial⟩,fun r g hg => ?_⟩,H _ _ _ _ _ hD⟩
   match r,hg with
   | 0,hg => obtain rfl:=Option.some.inj hg;exact r0
   | 1,hg => obtain rfl:=Option.some.inj hg;exact r1
  next => cases hF
 next => cases hF)
noncomputable def jZ (n P : Int) (L : List Wk) (p : Int) (W : List (List Int)) : Int:=match bf n P L p == 0 with
 | false => bf n P L p
 | true => match decide ((W.length : Int) > 40) with
   | true => 2
   | false => match cK L W == 0 with
     | false => cK L W
     | true => abz n L p W
noncomputable def ql : au:=MO (fun _ _ L _ W => [(aa.of (L.length <= 1000000)),(aa.of (W.length <= 1000000)),(aa.of (∀ w ∈ W,w.length <= 1000000))]) (fun n P L p W => .a (vI (jZ n P L p W)))
noncomputable def Cm : List (Nat × au):=[(45,jf),(51,wv),(52,oT),(50,tB)]
theorem v8 : aR Tryz.prog Γ Cm:=((((aR.nil.cons (aj Tryz.func50 rfl rfl).fn sU).cons (aj Tryz.func52 rfl rfl).fn sR).cons (aj Tryz.func51 rfl rfl).fn uF).cons (aj Tryz.func45 rfl rfl).fn fQ)
attribute [local irreducible] bj cK bf eH ag2
theorem ux : au.Ok Tryz.prog Γ 12 ql:=Ll (d:=0) (aP v8 bq.nil false 0) (aj Tryz.func12 rfl rfl) (fun _ _ _ _ _ => rfl) (by
 intro n P L p W ⟨hl,hW,hv,_⟩
 simp only [aa.ae] at hl hW hv
 cases h0 : bf n P L p == 0
 ·have e0 : (bf n P L p != 0) = true:=by unfold bne;rw [h0];rfl
  rw [show jZ n P L p W = bf n P L p by unfold jZ;rw [h0]]
  repeat' ((conv => whnf);first | apply And.intro | (intro h9;try (have h8 : (_ : Bool) = _:=h9;clear h8;revert h9;subst_vars;intro h9;exact aq h9 (by assumption))))
  all_goals try (conv => whnf)
  all_goals try first | (apply Tk.mk <;> kernel_rfl) | exact ⟨ah rfl⟩ | exact ⟨rfl⟩ | exact ⟨trivial⟩
  all_goals subst_vars
  all_goals try first | rfl | contradiction | (apply Ob.mk;first | (simp only [ag,ak,aa.ae];omega) | ((try simp only [aa.ae]);(try dsimp only);omega))
  all_goals first
   | exact ⟨hl⟩
 have e0 : (bf n P L p != 0) = false:=by unfold bne;rw [h0];rfl
 obtain ⟨hw,hP,hp,hn⟩:=gg (eq_of_beq h0)
 cases h1 : decide ((W.length : Int) > 40)
 rotate_left
 ·rw [show jZ n P L p W = 2 by unfold jZ;rw [h0];dsimp only;rw [h1]]
  repeat' ((conv => whnf);first | apply And.intro | (intro h9;try (have h8 : (_ : Bool) = _:=h9;clear h8;revert h9;subst_vars;intro h9;exact aq h9 (by assumption))))
  all_goals try (conv => whnf)
  all_goals try first | (apply Tk.mk <;> kernel_rfl) | exact ⟨ah rfl⟩ | exact ⟨rfl⟩ | exact ⟨trivial⟩
  all_goals subst_vars
  all_goals try first | rfl | contradiction | (apply Ob.mk;first | (simp only [ag,ak,aa.ae];omega) | ((try simp only [aa.ae]);(try dsimp only);omega))
  all_goals first
   | exact ⟨hl⟩
 cases h2 : cK L W == 0
 ·have e2 : (cK L W != 0) = true:=by unfold bne;rw [h2];rfl
  rw [show jZ n P L p W = cK L W by unfold jZ;rw [h0];dsimp only;rw [h1];dsimp only;rw [h2]]
  repeat' ((conv => whnf);first | apply And.intro | (intro h9;try (have h8 : (_ : Bool) = _:=h9;clear h8;revert h9;subst_vars;intro h9;exact aq h9 (by assumption))))
  all_goals try (conv => whnf)
  all_goals try first | (apply Tk.mk <;> kernel_rfl) | exact ⟨ah rfl⟩ | exact ⟨rfl⟩ | exact ⟨trivial⟩
  all_goals subst_vars
  all_goals try first | rfl | contradiction | (apply Ob.mk;first | (simp only [ag,ak,aa.ae];omega) | ((try simp only [aa.ae]);(try dsimp only);omega))
  all_goals first
   | exact ⟨hl⟩
   | exact ⟨hW⟩
   | exact ⟨hv⟩
 have e2 : (cK L W != 0) = false:=by unfold bne;rw [h2];rfl
 rw [show jZ n P L p W = abz n L p W by unfold jZ;rw [h0];dsimp only;rw [h1];dsimp only;rw [h2]]
 have gT:=tv (eq_of_beq h2)
 have R8 : W.length <= 40:=by have:=of_decide_eq_false h1;omega
 have s0 : ag2 L p (W.take 0) = []:=by unfold ag2;rfl
 repeat' ((conv => whnf);first | apply And.intro | (intro h9;try (have h8 : (_ : Bool) = _:=h9;clear h8;revert h9;subst_vars;intro h9;exact aq h9 (by assumption))))
 all_goals try (conv => whnf)
 all_goals try first | (apply Tk.mk <;> kernel_rfl) | exact ⟨ah rfl⟩ | exact ⟨rfl⟩ | exact ⟨trivial⟩
 all_goals subst_vars
 all_goals try first | rfl | contradiction | (apply Ob.mk;first | (simp only [ag,ak,aa.ae];omega) | ((try simp only [aa.ae]);(try dsimp only);omega))
 all_goals try first
  | exact ⟨hl⟩
  | exact ⟨hW⟩
  | exact ⟨hv⟩
 refine ⟨Nat,fun i => i <= W.length /\ W.all (qK L p) = (W.drop i).all (qK L p),fun i => ⟨aI 61 [1,3,9,29,30,31] [.a (vI p),.a (.p 2 [] 0 0),.a (.sl 3 [] 0 (ag2 L p (W.take i)).length),.a (.sl 1 [] 0 W.length),.a (vI W.length),.a (vI i)],[],[.arr 46 kW L false false,.arr 49 kT W false false,.box true [vI n,vI P,.sl 0 [] 0 L.length],.arr 48 kG (ag2 L p (W.take i)) true true]⟩,fun i => W.length - i,0,[0,1,2,1000],⟨Nat.zero_le _,rfl⟩,?_,?_⟩
 ·repeat' ((conv => whnf);(first | apply And.intro | intro _))
  all_goals first | rfl | trivial | exact ah rfl | exact aS ‹_› rfl | exact aT ‹_› rfl | ((repeat' first | rfl | constructor);done) | exact s0 | (rw [s0];rfl)
 rintro i ⟨hi,hf⟩
 by_cases hi1 : i < W.length
 ·have p0 : decide ((i : Int) < (W.length : Int)) = true:=decide_eq_true (by omega)
  have gr:=wV W i
  have hm : bh W i ∈ W:=by rw [gr];exact AA hi1
  have gv : (bh W i).length <= 1000000:=hv _ hm
  have gs:=(gT _ hm).1
  have dZ:=D8 (L:=L) (p:=p) (Nat.le_of_lt hi1)
  have DJ:=ag3 (L:=L) (p:=p) hi1
  rw [<- gr] at DJ
  have PS:=congrArg List.length DJ
  rw [List.length_append,List.length_singleton] at PS
  cases hok : (bj L (p,0,false) (bh W i)).2
  ·have q1 : (!(bj L (p,0,false) (bh W i)).2) = true:=by rw [hok];rfl
   rw [show abz n L p W = 8 by unfold abz;rw [hf.trans (zw hi1 (d:=[]) (by
    have e : W.getD i [] = bh W i:=gr.symm
    rw [e];unfold qK;rw [hok];rfl))]]
   repeat' ((conv => whnf);first | apply And.intro | (intro h9;try (have h8 : (_ : Bool) = _:=h9;clear h8;revert h9;subst_vars;intro h9;exact aq h9 (by assumption))))
   all_goals try (conv => whnf)
   all_goals try first | (apply Tk.mk <;> kernel_rfl) | exact ⟨ah rfl⟩ | exact ⟨rfl⟩ | exact ⟨trivial⟩
   all_goals subst_vars
   all_goals try first | rfl | contradiction | (apply Ob.mk;first | (simp only [ag,ak,aa.ae];omega) | ((try simp only [aa.ae]);(try dsimp only);omega))
   all_goals first
    | exact ⟨hw⟩
    | exact ⟨hl⟩
    | exact ⟨gv⟩
    | exact ⟨gs⟩
    | exact ⟨show 0 + Int.toNat (i : Int) < W.length by omega⟩
  have q1 : (!(bj L (p,0,false) (bh W i)).2) = false:=by rw [hok];rfl
  cases aai : (bj L (p,0,false) (bh W i)).1.1 == p
  ·have q2 : ((bj L (p,0,false) (bh W i)).1.1 != p) = true:=by unfold bne;rw [aai];rfl
   rw [show abz n L p W = 8 by unfold abz;rw [hf.trans (zw hi1 (d:=[]) (by
    have e : W.getD i [] = bh W i:=gr.symm
    rw [e];unfold qK;rw [hok,aai];rfl))]]
   repeat' ((conv => whnf);first | apply And.intro | (intro h9;try (have h8 : (_ : Bool) = _:=h9;clear h8;revert h9;subst_vars;intro h9;exact aq h9 (by assumption))))
   all_goals try (conv => whnf)
   all_goals try first | (apply Tk.mk <;> kernel_rfl) | exact ⟨ah rfl⟩ | exact ⟨rfl⟩ | exact ⟨trivial⟩
   all_goals subst_vars
   all_goals try first | rfl | contradiction | (apply Ob.mk;first | (simp only [ag,ak,aa.ae];omega) | ((try simp only [aa.ae]);(try dsimp only);omega))
   all_goals first
    | exact ⟨hw⟩
    | exact ⟨hl⟩
    | exact ⟨gv⟩
    | exact ⟨gs⟩
    | exact ⟨show 0 + Int.toNat (i : Int) < W.length by omega⟩
  have q2 : ((bj L (p,0,false) (bh W i)).1.1 != p) = false:=by unfold bne;rw [aai];rfl
  have jH:=hf.trans (C7 hi1 (d:=[]) (by
    have e : W.getD i [] = bh W i:=gr.symm
    rw [e];unfold qK;rw [hok,aai];rfl))
  repeat' ((conv => whnf);first | apply And.intro | (intro h9;try (have h8 : (_ : Bool) = _:=h9;clear h8;revert h9;subst_vars;intro h9;exact aq h9 (by assumption))))
  all_goals try (conv => whnf)
  all_goals try first | (apply Tk.mk <;> kernel_rfl) | exact ⟨ah rfl⟩ | exact ⟨rfl⟩ | exact ⟨trivial⟩
  all_goals subst_vars
  all_goals try first | rfl | contradiction | (apply Ob.mk;first | (simp only [ag,ak,aa.ae];omega) | ((try simp only [aa.ae]);(try dsimp only);omega))
  all_goals try first
   | exact ⟨hw⟩
   | exact ⟨hl⟩
   | exact ⟨gv⟩
   | exact ⟨gs⟩
   | exact ⟨Nat.zero_add _⟩
   | exact ⟨show ((ag2 L p (W.take i)).length + 1) * 2 <= 1099511627776 by omega⟩
   | exact ⟨show 0 + Int.toNat (i : Int) < W.length by omega⟩
  refine ⟨i + 1,[0,1,2,3],⟨hi1,jH⟩,?_,by show W.length - (i + 1) < W.length - i;omega⟩
  repeat' ((conv => whnf);(first | apply And.intro | intro _))
  all_goals first | rfl | trivial | exact ah rfl | exact aS ‹_› rfl | exact aT ‹_› rfl | ((repeat' first | rfl | constructor);done) | exact PS.symm | exact ⟨rfl,rfl,DJ.symm⟩
 have p0 : decide ((i : Int) < (W.length : Int)) = false:=decide_eq_false (by omega)
 obtain rfl : i = W.length:=by omega
 have hall:=hf.trans (C6 (Nat.le_refl _))
 have htk : W.take W.length = W:=List.take_length
 have Q7:=HZ (cW.1 hw) (fun w hw' => (gT w hw').1) hall
 have aae : ∀ g ∈ ag2 L p (W.take W.length),0 <= g.1 /\ g.1 <= 7:=fun g hg => rT (cW.1 hw) (Q7 g (by rw [htk] at hg;exact hg))
 have aad : (ag2 L p (W.take W.length)).length <= 1000000:=by
  have:=D8 (L:=L) (p:=p) (W:=W) (Nat.le_refl _)
  omega
 cases hb : eH n (ag2 L p W)
 ·have q3 : (!eH n (ag2 L p (W.take W.length))) = true:=by rw [htk,hb];rfl
  rw [show abz n L p W = 8 by unfold abz;rw [hall];dsimp only;rw [hb]]
  repeat' ((conv => whnf);first | apply And.intro | (intro h9;try (have h8 : (_ : Bool) = _:=h9;clear h8;revert h9;subst_vars;intro h9;exact aq h9 (by assumption))))
  all_goals try (conv => whnf)
  all_goals try first | (apply Tk.mk <;> kernel_rfl) | exact ⟨ah rfl⟩ | exact ⟨rfl⟩ | exact ⟨trivial⟩
  all_goals subst_vars
  all_goals try first | rfl | contradiction | (apply Ob.mk;first | (simp only [ag,ak,aa.ae];omega) | ((try simp only [aa.ae]);(try dsimp only);omega))
  all_goals first
   | exact ⟨aae⟩
   | exact ⟨aad⟩
 have q3 : (!eH n (ag2 L p (W.take W.length))) = false:=by rw [htk,hb];rfl
 rw [show abz n L p W = 0 by unfold abz;rw [hall];dsimp only;rw [hb]]
 repeat' ((conv => whnf);first | apply And.intro | (intro h9;try (have h8 : (_ : Bool) = _:=h9;clear h8;revert h9;subst_vars;intro h9;exact aq h9 (by assumption))))
 all_goals try (conv => whnf)
 all_goals try first | (apply Tk.mk <;> kernel_rfl) | exact ⟨ah rfl⟩ | exact ⟨rfl⟩ | exact ⟨trivial⟩
 all_goals subst_vars
 all_goals try first | rfl | contradiction | (apply Ob.mk;first | (simp only [ag,ak,aa.ae];omega) | ((try simp only [aa.ae]);(try dsimp only);omega))
 all_goals first
  | exact ⟨aae⟩
  | exact ⟨aad⟩)
end Go.Proofs.YthejmgnkenokpaaGreatDoor
end
