/-
  Texts of the claims on chapter 3: Yk6c. No condition: lemmas and contracts.
-/
import Derived.Test.YthejmgnkenokpaaGreatDoorYk5c
import Derived.Test.YthejmgnkenokpaaGreatDoorYk3c
import Derived.Test.YthejmgnkenokpaaGreatDoorYk4c
import Derived.Test.YthejmgnkenokpaaGreatDoorPl1c
set_option linter.all false
set_option maxRecDepth 100000
set_option maxHeartbeats 4000000
section
namespace Go.Proofs.YthejmgnkenokpaaGreatDoor
open Go Go.Sy Go.bK
variable {Γ : bn}
theorem ahx {s : ByteArray} (h : gy s.size s (0,0,[]) = none) : pB s = false:=by
 cases hb : pB s with
 | false => rfl
 | true => rw [ahL (D1.1 hb) (Nat.le_refl _)] at h;cases h
structure Kz (p : Prop) : Prop where
 h : p
theorem ahz {B G : Prop} (h : Kz B -> G) (b : B) : G:=h ⟨b⟩
abbrev gN (W : List ByteArray) (k : Nat) : ByteArray:=@Ar.get ⟨9,kS,W⟩ k
theorem aid (W : List ByteArray) (k : Nat) : gN W k = W.getD k ByteArray.empty:=rfl
def JI (ns : List Int) (w : List ByteArray) : Option (List Int):=match D0 w with | some l => some (ns ++ l) | none => none
theorem ahM (w : List ByteArray) : JI [] w = D0 w:=by unfold JI;cases D0 w <;> rfl
theorem tail_at (W : List ByteArray) (i : Nat) : W.tail.getD i ByteArray.empty = gN W (1 + Int.toNat (i : Int)):=by
 rw [aid,show 1 + Int.toNat (i : Int) = i + 1 by omega]
 cases W <;> simp
theorem drop_at {W : List ByteArray} {i : Nat} (h : i < W.length - 1) : W.tail.drop i = W.tail.getD i ByteArray.empty :: W.tail.drop (i + 1):=by
 have hl : i < W.tail.length:=by simpa using h
 rw [List.drop_eq_getElem_cons hl]
 congr 1
 rw [List.getD_eq_getElem?_getD,List.getElem?_eq_getElem hl];rfl
theorem aiN {W : List ByteArray} {i : Nat} {ns : List Int} {x : ByteArray} {o : Option (List Int)} (h : i < W.length - 1) (hx : W.tail.getD i ByteArray.empty = x) (hn : o = JI ns (W.tail.drop i)) :
  (∀ n,Lib.atoiAll x.data.toList = .ok n -> o = JI (ns ++ [n]) (W.tail.drop (i + 1))) /\ ((∀ n,Lib.atoiAll x.data.toList ≠ .ok n) -> o = none):=by
 rw [drop_at h,hx] at hn
 constructor
 ·intro n ha
  rw [hn]
  unfold JI
  rw [D0,ha]
  dsimp only
  cases D0 (W.tail.drop (i + 1)) <;> simp
 ·intro ha
  rw [hn]
  unfold JI
  rw [D0]
  cases hb : Lib.atoiAll x.data.toList with
  | ok n => exact absurd hb (ha n)
  | range => rfl
  | _ => rfl
theorem ajq (s : ByteArray) (k : Nat) : ((bt s).getD k ByteArray.empty).size <= s.size:=by
 have key : ∀ (c : Nat) (s : ByteArray),∀ x ∈ Lib.splitB o5 0 c s,x.size <= s.size:=by
  intro c
  induction c with
  | zero => intro s x hx;rw [Lib.splitB_zero] at hx;rw [List.mem_singleton.1 hx];exact Nat.le_refl _
  | succ c ih =>
    intro s x hx
    rw [Lib.splitB] at hx
    split at hx
    ·rw [List.mem_singleton.1 hx];exact Nat.le_refl _
    ·rcases List.mem_cons.1 hx with rfl | hx
     ·rw [ByteArray.size_extract];omega
     ·have:=ih _ x hx
      rw [ByteArray.size_extract] at this
      omega
 by_cases hk : k < (bt s).length
 ·rw [List.getD_eq_getElem?_getD,List.getElem?_eq_getElem hk]
  exact key _ s _ (List.getElem_mem hk)
 ·rw [List.getD_eq_getElem?_getD,List.getElem?_eq_none (by omega)]
  exact Nat.zero_le _
theorem ai0 (r : ByteArray) (h : 0 < r.size) : (ey r).size <= r.size /\ (n9 r).size < r.size:=by
 unfold ey n9
 cases q : decide (fk r >= 0) with
 | true =>
   have:=of_decide_eq_true q
   dsimp only
   rw [ByteArray.size_extract,ByteArray.size_extract]
   omega
 | false => exact ⟨Nat.le_refl _,h⟩
theorem ajK (s : ByteArray) : (ez s).size <= s.size:=by
 unfold ez
 rw [Wy]
 have e : s.data.toList.length = s.size:=Array.length_toList
 rw [<- e]
 unfold Lib.trimSuffix
 split
 ·rw [List.length_take];omega
 ·exact Nat.le_refl _
theorem ajC {r : ByteArray} (h : 0 <= fk r) : fk r < r.size:=by
 have key : ∀ (l : List UInt8),Lib.indexByte l 10 < (l.length : Int):=by
  intro l
  induction l with
  | nil => show (-1 : Int) < 0;omega
  | cons a l ih =>
    rw [Lib.indexByte]
    split
    ·simp
    ·split
     ·simp;omega
     ·simp only [List.length_cons];omega
 have:=key r.data.toList
 have e : r.data.toList.length = r.size:=Array.length_toList
 unfold fk
 omega
noncomputable def ajG (s : ByteArray) : cM:=match pB s with | true => ahG (eY s) (vI 0) | false => w8 (vI 7)
noncomputable def aje : au:=ah3 (fun s => [(aa.of (s.size <= 1000))]) ajG
noncomputable def aiF : List (Nat × au):=[(109,ahj),(72,ahf),(71,aik),(73,aiH),(32,Dd)]
theorem aiG : aR Tryz.prog aha aiF:=(((((aR.nil.cons (aj Tryz.func32 rfl rfl).fn EF).cons (aj Tryz.func73 rfl rfl).fn aiI).cons (aj Tryz.func71 rfl rfl).fn aiz).cons (aj Tryz.func72 rfl rfl).fn ahr).cons (aj Tryz.func109 rfl rfl).fn ahC)
noncomputable def aij : List (Nat × Body):=[(70,bo Tryz.f70),(108,bo Tryz.f108)]
theorem aix : bq Tryz.prog aij:=((bq.nil.cons (cg Tryz.func108 rfl rfl)).cons (cg Tryz.func70 rfl rfl))
noncomputable def ah1 : Env:={ jV.env aiF aij false 0 with aht:=fun t => Nat.beq t 119 }
theorem E1 : aL Tryz.prog aha ah1:=(aP aiG aix false 0).ajY _ (fun t h => by
 obtain rfl:=Nat.eq_of_beq_eq_true h
 kernel_rfl)
def ajp (id : Nat) : Option OT:=match Nat.beq id 16 with | true => some (.take 0 (.take 1 (.take 3 (.take 4 (.alt 2 (.take 6 (.alt 5 (.alt 7 (.take 8 (.alt 9 .fin .fin)) .fin) (.alt 7 (.alt 5 (.take 8 (.alt 9 .fin .fin)) .fin) .fin))) (.alt 5 (.alt 2 (.take 6 (.alt 7 (.take 8 (.alt 9 .fin .fin)) .fin)) .fin) .fin)))))) | false => none
noncomputable def ajf : Env:={ ah1 with tree:=ajp }
theorem aiB : aL Tryz.prog aha ajf:=aL.mk E1.mixed E1.fn E1.inl { E1.env with }
attribute [local irreducible] pB bD bA ld ez bt fk
theorem aiy : au.Ok Tryz.prog aha 33 aje:=ail (d:=4) aiB (aj Tryz.func33 rfl rfl) (by
 intro s K ⟨hz,_⟩ hK
 simp only [aa.ae] at hz
 unfold ajG at hK
 repeat' ((conv => whnf);first | apply And.intro | (intro h9;try (have h8 : (_ : Bool) = _:=h9;clear h8;revert h9;subst_vars;intro h9;exact aq h9 (by assumption))))
 all_goals try (conv => whnf)
 all_goals try first | (apply Tk.mk <;> kernel_rfl) | exact ⟨ah rfl⟩ | exact ⟨rfl⟩ | exact ⟨trivial⟩
 all_goals subst_vars
 all_goals try first | rfl | contradiction | (apply Ob.mk;first | (simp only [ag,ak,aa.ae];omega) | ((try simp only [aa.ae]);(try dsimp only);omega))
 all_goals try first
  | exact True.intro
  | exact ⟨show 0 <= (fk r + 1).toNat from Nat.zero_le _⟩
  | exact ⟨show (fk r + 1).toNat <= r.size by omega⟩
  | exact ⟨rfl⟩
  | exact ⟨o1⟩
  | exact ⟨o2⟩
  | exact ⟨o3⟩
  | exact ⟨hxs⟩
  | exact ⟨show 0 <= (0 : Int) /\ (0 : Int) < ((bt (ez (ey r))).length : Int) by omega⟩
  | exact ⟨show 0 + Int.toNat (0 : Int) < (bt (ez (ey r))).length by omega⟩
  | exact ⟨show 0 <= (0 : Int) /\ (0 : Int) < (ns.length : Int) by omega⟩
  | exact ⟨show 0 + Int.toNat (0 : Int) < ns.length by omega⟩
  | exact ⟨show 0 <= (1 : Int) /\ (1 : Int) < (ns.length : Int) by omega⟩
  | exact ⟨show 0 + Int.toNat (1 : Int) < ns.length by omega⟩
  | exact ⟨show 0 <= (2 : Int) /\ (2 : Int) < (ns.length : Int) by omega⟩
  | exact ⟨show 0 + Int.toNat (2 : Int) < ns.length by omega⟩
  | exact ⟨show (t.2.2.length + 1) * 3 <= 1099511627776 by omega⟩
  | exact ⟨show t.2.2.length <= 1000000 by omega⟩
  | (refine bu.base ⟨_,[],hK,trivial,rfl,?_⟩;(repeat' ((conv => whnf);(first | apply And.intro | intro _)));all_goals first | rfl | trivial)
  | exact ⟨Nat.zero_add _⟩
  | exact ⟨show (ns.length + 1) * 1 <= 1099511627776 by omega⟩
  | exact ⟨show 0 <= (i : Int) /\ (i : Int) < (((bt (ez (ey r))).length - 1 : Nat) : Int) by omega⟩
  | exact ⟨show 1 + Int.toNat (i : Int) < (bt (ez (ey r))).length by omega⟩
  | exact ⟨show 1 <= (bt _).length by omega⟩
  | exact ⟨Nat.zero_add _⟩
  | exact hK
  | (apply Ob.mk;show (ag .i64 _).p;simp only [ag,ak,aa.ae];omega)
 rename_i l fn T
 rename Nat => dd
 refine ⟨ByteArray × Sh,fun x => (∃ f,x.1.size <= f /\ gy s.size s (0,0,[]) = gy f x.1 x.2) /\ x.2.2.2.length + x.1.size <= s.size,fun x => ⟨aI 25 [0,1] [.a (.yl 4),.a (.p 3 [] 0 0)],[aI 98 [0,2,3,4] [.a (.v (.string s)),.a (.p 0 [] 0 0),.a (.p 1 [] 0 0),.a (.p 2 [] 0 0)]],[.box true [vI 0,vI 0,.v (.slice none 0 0)],.box true [vI 0],.box true [vI x.2.1,vI x.2.2.1,.sl 5 [] 0 x.2.2.2.length],.box true [.v (.string x.1)],.lp l (aI 98 [0,2,3,4] [.a (.v (.string s)),.a (.p 0 [] 0 0),.a (.p 1 [] 0 0),.a (.p 2 [] 0 0)]) (ac5 Tryz.f33 0 fn T dd) .ready none,.arr 46 kW x.2.2.2 true true]⟩,fun x => x.1.size,(s,(0,0,[])),[0,1,2,3,4,1000],⟨⟨s.size,Nat.le_refl _,rfl⟩,by simp⟩,?_,?_⟩
 ·repeat' ((conv => whnf);(first | apply And.intro | intro _))
  all_goals first | rfl | trivial | exact ah rfl | exact aS ‹_› rfl | exact aT ‹_› rfl | ((repeat' first | rfl | constructor);done)
 rintro ⟨r,t⟩ ⟨⟨f,hf,hfo⟩,hlen⟩
 dsimp only at hf hfo hlen
 by_cases hr : 0 < r.size
 ·have p0 : decide ((r.size : Int) > 0) = true:=decide_eq_true (by omega)
  have hts:=ajK
  apply ahz
  case h =>
   intro key
   obtain q1 | q1 : decide (fk r >= 0) = true \/ decide (fk r >= 0) = false:=by cases decide (fk r >= 0) <;> simp
   ·have e1 : r.extract 0 (fk r + 1).toNat = ey r:=by unfold ey;rw [q1]
    have e2 : r.extract (fk r + 1).toNat r.size = n9 r:=by unfold n9;rw [q1]
    have hb:=ajC (r:=r) (of_decide_eq_true q1)
    have hq:=of_decide_eq_true q1
    have o1 : (fk r + 1).toNat <= r.size:=by omega
    have o2 : (r.extract 0 (fk r + 1).toNat).size <= 1000000:=by rw [ByteArray.size_extract];omega
    have o3 : (ez (r.extract 0 (fk r + 1).toNat)).size <= 1000000:=Nat.le_trans (hts _) o2
    have o4:=ag9 (ez (r.extract 0 (fk r + 1).toNat))
    have wE : bt (ez (r.extract 0 (fk r + 1).toNat)) = (bt (ez (ey r))):=by rw [e1]
    have wL:=congrArg List.length wE
    repeat' ((conv => whnf);first | apply And.intro | (intro h9;try (have h8 : (_ : Bool) = _:=h9;clear h8;revert h9;subst_vars;intro h9;exact aq h9 (by assumption))))
    all_goals try (conv => whnf)
    all_goals try first | (apply Tk.mk <;> kernel_rfl) | exact ⟨ah rfl⟩ | exact ⟨rfl⟩ | exact ⟨trivial⟩
    all_goals subst_vars
    all_goals try first | rfl | contradiction | (apply Ob.mk;first | (simp only [ag,ak,aa.ae];omega) | ((try simp only [aa.ae]);(try dsimp only);omega))
    all_goals try first
     | exact True.intro
     | exact ⟨show 0 <= (fk r + 1).toNat from Nat.zero_le _⟩
     | exact ⟨show (fk r + 1).toNat <= r.size by omega⟩
     | exact ⟨rfl⟩
     | exact ⟨o1⟩
     | exact ⟨o2⟩
     | exact ⟨o3⟩
     | exact ⟨hxs⟩
     | exact ⟨show 0 <= (0 : Int) /\ (0 : Int) < ((bt (ez (ey r))).length : Int) by omega⟩
     | exact ⟨show 0 + Int.toNat (0 : Int) < (bt (ez (ey r))).length by omega⟩
     | exact ⟨show 0 <= (0 : Int) /\ (0 : Int) < (ns.length : Int) by omega⟩
     | exact ⟨show 0 + Int.toNat (0 : Int) < ns.length by omega⟩
     | exact ⟨show 0 <= (1 : Int) /\ (1 : Int) < (ns.length : Int) by omega⟩
     | exact ⟨show 0 + Int.toNat (1 : Int) < ns.length by omega⟩
     | exact ⟨show 0 <= (2 : Int) /\ (2 : Int) < (ns.length : Int) by omega⟩
     | exact ⟨show 0 + Int.toNat (2 : Int) < ns.length by omega⟩
     | exact ⟨show (t.2.2.length + 1) * 3 <= 1099511627776 by omega⟩
     | exact ⟨show t.2.2.length <= 1000000 by omega⟩
     | (refine bu.base ⟨_,[],hK,trivial,rfl,?_⟩;(repeat' ((conv => whnf);(first | apply And.intro | intro _)));all_goals first | rfl | trivial)
     | exact ⟨Nat.zero_add _⟩
     | exact ⟨show (ns.length + 1) * 1 <= 1099511627776 by omega⟩
     | exact ⟨show 0 <= (i : Int) /\ (i : Int) < (((bt (ez (ey r))).length - 1 : Nat) : Int) by omega⟩
     | exact ⟨show 1 + Int.toNat (i : Int) < (bt (ez (ey r))).length by omega⟩
     | exact ⟨show 1 <= (bt _).length by omega⟩
     | exact ⟨Nat.zero_add _⟩
     | exact hK
     | (apply Ob.mk;show (ag .i64 _).p;simp only [ag,ak,aa.ae];omega)
    refine ⟨Nat × List Int,fun x => x.1 <= (bt (ez (ey r))).length - 1 /\ x.2.length <= x.1 /\ x.1 <= x.2.length /\ D0 (bt (ez (ey r))).tail = JI x.2 ((bt (ez (ey r))).tail.drop x.1),fun x => ⟨aI 98 [0,2,3,4,6,7,21,22,23] [.a (.v (.string s)),.a (.p 0 [] 0 0),.a (.p 1 [] 0 0),.a (.p 2 [] 0 0),.a (.sl 6 [] 0 (bt (ez (ey r))).length),.a (.sl 7 [] 0 x.2.length),.a (.sl 6 [] 1 ((bt (ez (ey r))).length - 1)),.a (vI (((bt (ez (ey r))).length - 1 : Nat) : Int)),.a (vI x.1)],[aI 25 [0,1] [.a (.yl 4),.a (.p 3 [] 0 0)],aI 98 [0,2,3,4] [.a (.v (.string s)),.a (.p 0 [] 0 0),.a (.p 1 [] 0 0),.a (.p 2 [] 0 0)]],[.box true [vI 0,vI 0,.v (.slice none 0 0)],.box true [vI 0],.box true [vI t.1,vI t.2.1,.sl 5 [] 0 t.2.2.length],.box true [.v (.string (n9 r))],.lp l (aI 98 [0,2,3,4] [.a (.v (.string s)),.a (.p 0 [] 0 0),.a (.p 1 [] 0 0),.a (.p 2 [] 0 0)]) (ac5 Tryz.f33 0 fn T dd) .busy none,.arr 46 kW t.2.2 true true,.arr 9 kS (bt (ez (ey r))) true true,.arr 3 kI x.2 true true]⟩,fun x => (bt (ez (ey r))).length - 1 - x.1,(0,[]),[0,1,2,3,4,5,6,1000],⟨Nat.zero_le _,Nat.le_refl _,Nat.le_refl _,(ahM _).symm⟩,?_,key.h⟩
    repeat' ((conv => whnf);(first | apply And.intro | intro _))
    all_goals first | rfl | trivial | exact ah rfl | exact aS ‹_› rfl | exact aT ‹_› rfl | ((repeat' first | rfl | constructor);done) | exact wL | exact congrArg (· - 1) wL | exact congrArg (fun x : Nat => ((x - 1 : Nat) : Int)) wL | exact ⟨rfl,rfl,wE⟩ | exact congrArg Value.string e2 | exact e2
   have e1 : r = ey r:=by unfold ey;rw [q1]
   have e2 : ({ data:=#[] } : ByteArray) = n9 r:=by unfold n9;rw [q1]
   have o2 : r.size <= 1000000:=by omega
   have o3 : (ez r).size <= 1000000:=Nat.le_trans (hts _) o2
   have o4:=ag9 (ez r)
   have wE : bt (ez r) = (bt (ez (ey r))):=by rw [<- e1]
   have wL:=congrArg List.length wE
   clear e1
   repeat' ((conv => whnf);first | apply And.intro | (intro h9;try (have h8 : (_ : Bool) = _:=h9;clear h8;revert h9;subst_vars;intro h9;exact aq h9 (by assumption))))
   all_goals try (conv => whnf)
   all_goals try first | (apply Tk.mk <;> kernel_rfl) | exact ⟨ah rfl⟩ | exact ⟨rfl⟩ | exact ⟨trivial⟩
   all_goals subst_vars
   all_goals try first | rfl | contradiction | (apply Ob.mk;first | (simp only [ag,ak,aa.ae];omega) | ((try simp only [aa.ae]);(try dsimp only);omega))
   all_goals try first
    | exact True.intro
    | exact ⟨show 0 <= (fk r + 1).toNat from Nat.zero_le _⟩
    | exact ⟨show (fk r + 1).toNat <= r.size by omega⟩
    | exact ⟨rfl⟩
    | exact ⟨o1⟩
    | exact ⟨o2⟩
    | exact ⟨o3⟩
    | exact ⟨hxs⟩
    | exact ⟨show 0 <= (0 : Int) /\ (0 : Int) < ((bt (ez (ey r))).length : Int) by omega⟩
    | exact ⟨show 0 + Int.toNat (0 : Int) < (bt (ez (ey r))).length by omega⟩
    | exact ⟨show 0 <= (0 : Int) /\ (0 : Int) < (ns.length : Int) by omega⟩
    | exact ⟨show 0 + Int.toNat (0 : Int) < ns.length by omega⟩
    | exact ⟨show 0 <= (1 : Int) /\ (1 : Int) < (ns.length : Int) by omega⟩
    | exact ⟨show 0 + Int.toNat (1 : Int) < ns.length by omega⟩
    | exact ⟨show 0 <= (2 : Int) /\ (2 : Int) < (ns.length : Int) by omega⟩
    | exact ⟨show 0 + Int.toNat (2 : Int) < ns.length by omega⟩
    | exact ⟨show (t.2.2.length + 1) * 3 <= 1099511627776 by omega⟩
    | exact ⟨show t.2.2.length <= 1000000 by omega⟩
    | (refine bu.base ⟨_,[],hK,trivial,rfl,?_⟩;(repeat' ((conv => whnf);(first | apply And.intro | intro _)));all_goals first | rfl | trivial)
    | exact ⟨Nat.zero_add _⟩
    | exact ⟨show (ns.length + 1) * 1 <= 1099511627776 by omega⟩
    | exact ⟨show 0 <= (i : Int) /\ (i : Int) < (((bt (ez (ey r))).length - 1 : Nat) : Int) by omega⟩
    | exact ⟨show 1 + Int.toNat (i : Int) < (bt (ez (ey r))).length by omega⟩
    | exact ⟨show 1 <= (bt _).length by omega⟩
    | exact ⟨Nat.zero_add _⟩
    | exact hK
    | (apply Ob.mk;show (ag .i64 _).p;simp only [ag,ak,aa.ae];omega)
   refine ⟨Nat × List Int,fun x => x.1 <= (bt (ez (ey r))).length - 1 /\ x.2.length <= x.1 /\ x.1 <= x.2.length /\ D0 (bt (ez (ey r))).tail = JI x.2 ((bt (ez (ey r))).tail.drop x.1),fun x => ⟨aI 98 [0,2,3,4,6,7,21,22,23] [.a (.v (.string s)),.a (.p 0 [] 0 0),.a (.p 1 [] 0 0),.a (.p 2 [] 0 0),.a (.sl 6 [] 0 (bt (ez (ey r))).length),.a (.sl 7 [] 0 x.2.length),.a (.sl 6 [] 1 ((bt (ez (ey r))).length - 1)),.a (vI (((bt (ez (ey r))).length - 1 : Nat) : Int)),.a (vI x.1)],[aI 25 [0,1] [.a (.yl 4),.a (.p 3 [] 0 0)],aI 98 [0,2,3,4] [.a (.v (.string s)),.a (.p 0 [] 0 0),.a (.p 1 [] 0 0),.a (.p 2 [] 0 0)]],[.box true [vI 0,vI 0,.v (.slice none 0 0)],.box true [vI 0],.box true [vI t.1,vI t.2.1,.sl 5 [] 0 t.2.2.length],.box true [.v (.string (n9 r))],.lp l (aI 98 [0,2,3,4] [.a (.v (.string s)),.a (.p 0 [] 0 0),.a (.p 1 [] 0 0),.a (.p 2 [] 0 0)]) (ac5 Tryz.f33 0 fn T dd) .busy none,.arr 46 kW t.2.2 true true,.arr 9 kS (bt (ez (ey r))) true true,.arr 3 kI x.2 true true]⟩,fun x => (bt (ez (ey r))).length - 1 - x.1,(0,[]),[0,1,2,3,4,5,6,1000],⟨Nat.zero_le _,Nat.le_refl _,Nat.le_refl _,(ahM _).symm⟩,?_,key.h⟩
   repeat' ((conv => whnf);(first | apply And.intro | intro _))
   all_goals first | rfl | trivial | exact ah rfl | exact aS ‹_› rfl | exact aT ‹_› rfl | ((repeat' first | rfl | constructor);done) | exact wL | exact congrArg (· - 1) wL | exact congrArg (fun x : Nat => ((x - 1 : Nat) : Int)) wL | exact ⟨rfl,rfl,wE⟩ | exact congrArg Value.string e2 | exact e2
  case b =>
   rintro ⟨i,ns⟩ ⟨hi,hnl,ajW,ai6⟩
   dsimp only at hi hnl ajW ai6
   have aj3 : 1 <= (bt (ez (ey r))).length:=by rw [ag9];omega
   have hls:=ai0 r hr
   have aj4 : (bt (ez (ey r))).length <= 1001:=by have:=aiT (ez (ey r));have:=hts (ey r);omega
   obtain ⟨f,rfl⟩ : ∃ g,f = g + 1:=⟨f - 1,by omega⟩
   have hst : gy (f + 1) r t = match ahA t (ey r) with | none => none | some t' => gy f (n9 r) t':=by rw [gy,p0];rfl
   by_cases hi1 : i < (bt (ez (ey r))).length - 1
   ·have p1 : decide ((i : Int) < (((bt (ez (ey r))).length - 1 : Nat) : Int)) = true:=decide_eq_true (by omega)
    have ex:=tail_at (bt (ez (ey r))) i
    have hxs : (gN (bt (ez (ey r))) (1 + Int.toNat (i : Int))).size <= 1000000:=by
     rw [aid,show 1 + Int.toNat (i : Int) = 1 + i by omega]
     have:=ajq (ez (ey r)) (1 + i)
     have:=hts (ey r)
     omega
    have ab5:=aiN hi1 ex ai6
    repeat' ((conv => whnf);first | apply And.intro | (intro h9;try (have h8 : (_ : Bool) = _:=h9;clear h8;revert h9;subst_vars;intro h9;exact aq h9 (by assumption))))
    all_goals try (conv => whnf)
    all_goals try first | (apply Tk.mk <;> kernel_rfl) | exact ⟨ah rfl⟩ | exact ⟨rfl⟩ | exact ⟨trivial⟩
    all_goals subst_vars
    all_goals try first | rfl | contradiction | (apply Ob.mk;first | (simp only [ag,ak,aa.ae];omega) | ((try simp only [aa.ae]);(try dsimp only);omega))
    all_goals try first
     | exact True.intro
     | exact ⟨show 0 <= (fk r + 1).toNat from Nat.zero_le _⟩
     | exact ⟨show (fk r + 1).toNat <= r.size by omega⟩
     | exact ⟨rfl⟩
     | exact ⟨o1⟩
     | exact ⟨o2⟩
     | exact ⟨o3⟩
     | exact ⟨hxs⟩
     | exact ⟨show 0 <= (0 : Int) /\ (0 : Int) < ((bt (ez (ey r))).length : Int) by omega⟩
     | exact ⟨show 0 + Int.toNat (0 : Int) < (bt (ez (ey r))).length by omega⟩
     | exact ⟨show 0 <= (0 : Int) /\ (0 : Int) < (ns.length : Int) by omega⟩
     | exact ⟨show 0 + Int.toNat (0 : Int) < ns.length by omega⟩
     | exact ⟨show 0 <= (1 : Int) /\ (1 : Int) < (ns.length : Int) by omega⟩
     | exact ⟨show 0 + Int.toNat (1 : Int) < ns.length by omega⟩
     | exact ⟨show 0 <= (2 : Int) /\ (2 : Int) < (ns.length : Int) by omega⟩
     | exact ⟨show 0 + Int.toNat (2 : Int) < ns.length by omega⟩
     | exact ⟨show (t.2.2.length + 1) * 3 <= 1099511627776 by omega⟩
     | exact ⟨show t.2.2.length <= 1000000 by omega⟩
     | (refine bu.base ⟨_,[],hK,trivial,rfl,?_⟩;(repeat' ((conv => whnf);(first | apply And.intro | intro _)));all_goals first | rfl | trivial)
     | exact ⟨Nat.zero_add _⟩
     | exact ⟨show (ns.length + 1) * 1 <= 1099511627776 by omega⟩
     | exact ⟨show 0 <= (i : Int) /\ (i : Int) < (((bt (ez (ey r))).length - 1 : Nat) : Int) by omega⟩
     | exact ⟨show 1 + Int.toNat (i : Int) < (bt (ez (ey r))).length by omega⟩
     | exact ⟨show 1 <= (bt _).length by omega⟩
     | exact ⟨Nat.zero_add _⟩
     | exact hK
     | (apply Ob.mk;show (ag .i64 _).p;simp only [ag,ak,aa.ae];omega)
    ·rename Int => n
     have lg : Lib.atoiAll (gN (bt (ez (ey r))) (1 + Int.toNat (i : Int))).data.toList = .ok n:=by assumption
     have ajX:=ab5.1 n lg
     have dZ : ns.length + 1 = (ns ++ [n]).length:=by rw [List.length_append,List.length_singleton]
     refine ⟨(i + 1,ns ++ [n]),[0,1,2,3,4,5,6,7],⟨by show i + 1 <= _;omega,by show (ns ++ [n]).length <= i + 1;omega,by show i + 1 <= (ns ++ [n]).length;omega,ajX⟩,?_,by show (bt (ez (ey r))).length - 1 - (i + 1) < (bt (ez (ey r))).length - 1 - i;omega⟩
     repeat' ((conv => whnf);(first | apply And.intro | intro _))
     all_goals first | rfl | trivial | exact ah rfl | exact aS ‹_› rfl | exact aT ‹_› rfl | ((repeat' first | rfl | constructor);done) | exact dZ | exact dZ.symm
    ·have aj2 : ∀ n,Lib.atoiAll (gN (bt (ez (ey r))) (1 + Int.toNat (i : Int))).data.toList ≠ .ok n:=by assumption
     have hn:=ab5.2 aj2
     have hfn : gy s.size s (0,0,[]) = none:=by
      rw [hfo,hst];unfold ahA ahB;rw [hn]
     have hb : pB s = false:=ahx hfn
     rw [hb] at hK
     dsimp only [w8] at hK
     refine bu.base ⟨_,[],hK,trivial,rfl,?_⟩
     repeat' ((conv => whnf);(first | apply And.intro | intro _))
     all_goals first | rfl | trivial
   have p1 : decide ((i : Int) < (((bt (ez (ey r))).length - 1 : Nat) : Int)) = false:=decide_eq_false (by omega)
   have ajz : D0 (bt (ez (ey r))).tail = some ns:=by
    rw [ai6,List.drop_of_length_le (by simp;omega)]
    unfold JI D0;simp
   have ahm : ahA t (ey r) = ag7 t (ahs (bt (ez (ey r)))) ns:=by unfold ahA ahB;rw [ajz]
   have h0 : ahs (bt (ez (ey r))) = (gN (bt (ez (ey r))) (0 + Int.toNat (0 : Int))):=rfl
   have i0 : av ns 0 = g3 ns 0:=rfl
   have i1 : av ns 1 = g3 ns 1:=rfl
   have i2 : av ns 2 = g3 ns 2:=rfl
   clear ai6 ajz hi1 hi
   obtain a1 | a1 : ((gN (bt (ez (ey r))) (0 + Int.toNat (0 : Int))).toList == ({ data:=#[115,104,111,112] } : ByteArray).toList) = false \/ ((gN (bt (ez (ey r))) (0 + Int.toNat (0 : Int))).toList == ({ data:=#[115,104,111,112] } : ByteArray).toList) = true:=by cases ((gN (bt (ez (ey r))) (0 + Int.toNat (0 : Int))).toList == ({ data:=#[115,104,111,112] } : ByteArray).toList) <;> simp
   ·have a3 : (((gN (bt (ez (ey r))) (0 + Int.toNat (0 : Int))).toList == aic.toList) && decide (ns.length = 2)) = false:=by rw [show ((gN (bt (ez (ey r))) (0 + Int.toNat (0 : Int))).toList == aic.toList) = false from a1];rfl
    obtain b1 | b1 : ((gN (bt (ez (ey r))) (0 + Int.toNat (0 : Int))).toList == ({ data:=#[119,111,114,107] } : ByteArray).toList) = false \/ ((gN (bt (ez (ey r))) (0 + Int.toNat (0 : Int))).toList == ({ data:=#[119,111,114,107] } : ByteArray).toList) = true:=by cases ((gN (bt (ez (ey r))) (0 + Int.toNat (0 : Int))).toList == ({ data:=#[119,111,114,107] } : ByteArray).toList) <;> simp
    ·have hfn : gy s.size s (0,0,[]) = none:=by rw [hfo,hst,ahm];unfold ag7;rw [h0,a3];dsimp only;rw [show (((gN (bt (ez (ey r))) (0 + Int.toNat (0 : Int))).toList == ahN.toList) && decide (ns.length = 3)) = false by rw [show ((gN (bt (ez (ey r))) (0 + Int.toNat (0 : Int))).toList == ahN.toList) = false from b1];rfl]
     have hb : pB s = false:=ahx hfn
     rw [hb] at hK
     dsimp only [w8] at hK
     repeat' ((conv => whnf);first | apply And.intro | (intro h9;try (have h8 : (_ : Bool) = _:=h9;clear h8;revert h9;subst_vars;intro h9;exact aq h9 (by assumption))))
     all_goals try (conv => whnf)
     all_goals try first | (apply Tk.mk <;> kernel_rfl) | exact ⟨ah rfl⟩ | exact ⟨rfl⟩ | exact ⟨trivial⟩
     all_goals subst_vars
     all_goals try first | rfl | contradiction | (apply Ob.mk;first | (simp only [ag,ak,aa.ae];omega) | ((try simp only [aa.ae]);(try dsimp only);omega))
     all_goals first
      | trivial
      | exact True.intro
      | exact ⟨show 0 <= (fk r + 1).toNat from Nat.zero_le _⟩
      | exact ⟨show (fk r + 1).toNat <= r.size by omega⟩
      | exact ⟨rfl⟩
      | exact ⟨o1⟩
      | exact ⟨o2⟩
      | exact ⟨o3⟩
      | exact ⟨hxs⟩
      | exact ⟨show 0 <= (0 : Int) /\ (0 : Int) < ((bt (ez (ey r))).length : Int) by omega⟩
      | exact ⟨show 0 + Int.toNat (0 : Int) < (bt (ez (ey r))).length by omega⟩
      | exact ⟨show 0 <= (0 : Int) /\ (0 : Int) < (ns.length : Int) by omega⟩
      | exact ⟨show 0 + Int.toNat (0 : Int) < ns.length by omega⟩
      | exact ⟨show 0 <= (1 : Int) /\ (1 : Int) < (ns.length : Int) by omega⟩
      | exact ⟨show 0 + Int.toNat (1 : Int) < ns.length by omega⟩
      | exact ⟨show 0 <= (2 : Int) /\ (2 : Int) < (ns.length : Int) by omega⟩
      | exact ⟨show 0 + Int.toNat (2 : Int) < ns.length by omega⟩
      | exact ⟨show (t.2.2.length + 1) * 3 <= 1099511627776 by omega⟩
      | exact ⟨show t.2.2.length <= 1000000 by omega⟩
      | (refine bu.base ⟨_,[],hK,trivial,rfl,?_⟩;(repeat' ((conv => whnf);(first | apply And.intro | intro _)));all_goals first | rfl | trivial)
      | exact ⟨Nat.zero_add _⟩
      | exact ⟨show (ns.length + 1) * 1 <= 1099511627776 by omega⟩
      | exact ⟨show 0 <= (i : Int) /\ (i : Int) < (((bt (ez (ey r))).length - 1 : Nat) : Int) by omega⟩
      | exact ⟨show 1 + Int.toNat (i : Int) < (bt (ez (ey r))).length by omega⟩
      | exact ⟨show 1 <= (bt _).length by omega⟩
      | exact ⟨Nat.zero_add _⟩
      | exact hK
      | (apply Ob.mk;show (ag .i64 _).p;simp only [ag,ak,aa.ae];omega)
    obtain b2 | b2 : ((ns.length : Int) == 3) = false \/ ((ns.length : Int) == 3) = true:=by cases ((ns.length : Int) == 3) <;> simp
    ·have b3 : decide (ns.length = 3) = false:=decide_eq_false (fun h => by rw [h] at b2;cases b2)
     have hfn : gy s.size s (0,0,[]) = none:=by rw [hfo,hst,ahm];unfold ag7;rw [h0,a3];dsimp only;rw [b3,Bool.and_false]
     have hb : pB s = false:=ahx hfn
     rw [hb] at hK
     dsimp only [w8] at hK
     repeat' ((conv => whnf);first | apply And.intro | (intro h9;try (have h8 : (_ : Bool) = _:=h9;clear h8;revert h9;subst_vars;intro h9;exact aq h9 (by assumption))))
     all_goals try (conv => whnf)
     all_goals try first | (apply Tk.mk <;> kernel_rfl) | exact ⟨ah rfl⟩ | exact ⟨rfl⟩ | exact ⟨trivial⟩
     all_goals subst_vars
     all_goals try first | rfl | contradiction | (apply Ob.mk;first | (simp only [ag,ak,aa.ae];omega) | ((try simp only [aa.ae]);(try dsimp only);omega))
     all_goals first
      | trivial
      | exact True.intro
      | exact ⟨show 0 <= (fk r + 1).toNat from Nat.zero_le _⟩
      | exact ⟨show (fk r + 1).toNat <= r.size by omega⟩
      | exact ⟨rfl⟩
      | exact ⟨o1⟩
      | exact ⟨o2⟩
      | exact ⟨o3⟩
      | exact ⟨hxs⟩
      | exact ⟨show 0 <= (0 : Int) /\ (0 : Int) < ((bt (ez (ey r))).length : Int) by omega⟩
      | exact ⟨show 0 + Int.toNat (0 : Int) < (bt (ez (ey r))).length by omega⟩
      | exact ⟨show 0 <= (0 : Int) /\ (0 : Int) < (ns.length : Int) by omega⟩
      | exact ⟨show 0 + Int.toNat (0 : Int) < ns.length by omega⟩
      | exact ⟨show 0 <= (1 : Int) /\ (1 : Int) < (ns.length : Int) by omega⟩
      | exact ⟨show 0 + Int.toNat (1 : Int) < ns.length by omega⟩
      | exact ⟨show 0 <= (2 : Int) /\ (2 : Int) < (ns.length : Int) by omega⟩
      | exact ⟨show 0 + Int.toNat (2 : Int) < ns.length by omega⟩
      | exact ⟨show (t.2.2.length + 1) * 3 <= 1099511627776 by omega⟩
      | exact ⟨show t.2.2.length <= 1000000 by omega⟩
      | (refine bu.base ⟨_,[],hK,trivial,rfl,?_⟩;(repeat' ((conv => whnf);(first | apply And.intro | intro _)));all_goals first | rfl | trivial)
      | exact ⟨Nat.zero_add _⟩
      | exact ⟨show (ns.length + 1) * 1 <= 1099511627776 by omega⟩
      | exact ⟨show 0 <= (i : Int) /\ (i : Int) < (((bt (ez (ey r))).length - 1 : Nat) : Int) by omega⟩
      | exact ⟨show 1 + Int.toNat (i : Int) < (bt (ez (ey r))).length by omega⟩
      | exact ⟨show 1 <= (bt _).length by omega⟩
      | exact ⟨Nat.zero_add _⟩
      | exact hK
      | (apply Ob.mk;show (ag .i64 _).p;simp only [ag,ak,aa.ae];omega)
    have b4 : ns.length = 3:=by have:=eq_of_beq b2;omega
    have b3 : decide (ns.length = 3) = true:=decide_eq_true b4
    have hsw : ag7 t (ahs (bt (ez (ey r)))) ns = some (t.1,t.2.1,t.2.2 ++ [(g3 ns 0,g3 ns 1,g3 ns 2)]):=by unfold ag7;rw [h0,a3];dsimp only;rw [b3,Bool.and_true,show ((gN (bt (ez (ey r))) (0 + Int.toNat (0 : Int))).toList == ahN.toList) = true from b1]
    have ah5 : gy s.size s (0,0,[]) = gy f (n9 r) (t.1,t.2.1,t.2.2 ++ [(g3 ns 0,g3 ns 1,g3 ns 2)]):=by rw [hfo,hst,ahm,hsw]
    have ZR : (t.2.2 ++ [(g3 ns 0,g3 ns 1,g3 ns 2)]).length + (n9 r).size <= s.size:=by rw [List.length_append,List.length_singleton];omega
    have aby : t.2.2.length + 1 = (t.2.2 ++ [(g3 ns 0,g3 ns 1,g3 ns 2)]).length:=by rw [List.length_append,List.length_singleton]
    have aaN : t.2.2 ++ [((av ns 0,av ns 1,av ns 2) : Wk)] = t.2.2 ++ [(g3 ns 0,g3 ns 1,g3 ns 2)]:=by rw [i0,i1,i2]
    repeat' ((conv => whnf);first | apply And.intro | (intro h9;try (have h8 : (_ : Bool) = _:=h9;clear h8;revert h9;subst_vars;intro h9;exact aq h9 (by assumption))))
    all_goals try (conv => whnf)
    all_goals try first | (apply Tk.mk <;> kernel_rfl) | exact ⟨ah rfl⟩ | exact ⟨rfl⟩ | exact ⟨trivial⟩
    all_goals subst_vars
    all_goals try first | rfl | contradiction | (apply Ob.mk;first | (simp only [ag,ak,aa.ae];omega) | ((try simp only [aa.ae]);(try dsimp only);omega))
    all_goals try first
     | exact True.intro
     | exact ⟨show 0 <= (fk r + 1).toNat from Nat.zero_le _⟩
     | exact ⟨show (fk r + 1).toNat <= r.size by omega⟩
     | exact ⟨rfl⟩
     | exact ⟨o1⟩
     | exact ⟨o2⟩
     | exact ⟨o3⟩
     | exact ⟨hxs⟩
     | exact ⟨show 0 <= (0 : Int) /\ (0 : Int) < ((bt (ez (ey r))).length : Int) by omega⟩
     | exact ⟨show 0 + Int.toNat (0 : Int) < (bt (ez (ey r))).length by omega⟩
     | exact ⟨show 0 <= (0 : Int) /\ (0 : Int) < (ns.length : Int) by omega⟩
     | exact ⟨show 0 + Int.toNat (0 : Int) < ns.length by omega⟩
     | exact ⟨show 0 <= (1 : Int) /\ (1 : Int) < (ns.length : Int) by omega⟩
     | exact ⟨show 0 + Int.toNat (1 : Int) < ns.length by omega⟩
     | exact ⟨show 0 <= (2 : Int) /\ (2 : Int) < (ns.length : Int) by omega⟩
     | exact ⟨show 0 + Int.toNat (2 : Int) < ns.length by omega⟩
     | exact ⟨show (t.2.2.length + 1) * 3 <= 1099511627776 by omega⟩
     | exact ⟨show t.2.2.length <= 1000000 by omega⟩
     | (refine bu.base ⟨_,[],hK,trivial,rfl,?_⟩;(repeat' ((conv => whnf);(first | apply And.intro | intro _)));all_goals first | rfl | trivial)
     | exact ⟨Nat.zero_add _⟩
     | exact ⟨show (ns.length + 1) * 1 <= 1099511627776 by omega⟩
     | exact ⟨show 0 <= (i : Int) /\ (i : Int) < (((bt (ez (ey r))).length - 1 : Nat) : Int) by omega⟩
     | exact ⟨show 1 + Int.toNat (i : Int) < (bt (ez (ey r))).length by omega⟩
     | exact ⟨show 1 <= (bt _).length by omega⟩
     | exact ⟨Nat.zero_add _⟩
     | exact hK
     | (apply Ob.mk;show (ag .i64 _).p;simp only [ag,ak,aa.ae];omega)
    refine ⟨(n9 r,(t.1,t.2.1,t.2.2 ++ [(g3 ns 0,g3 ns 1,g3 ns 2)])),[0,1,2,3,4,5],⟨⟨f,by show (n9 r).size <= f;have:=hls.2;omega,ah5⟩,ZR⟩,?_,hls.2⟩
    repeat' ((conv => whnf);(first | apply And.intro | intro _))
    all_goals first | rfl | trivial | exact ah rfl | exact aS ‹_› rfl | exact aT ‹_› rfl | ((repeat' first | rfl | constructor);done) | exact i0 | exact i1 | exact i0.symm | exact i1.symm | exact aby | exact ⟨rfl,rfl,aaN⟩
   obtain a2 | a2 : ((ns.length : Int) == 2) = false \/ ((ns.length : Int) == 2) = true:=by cases ((ns.length : Int) == 2) <;> simp
   ·have a3 : (((gN (bt (ez (ey r))) (0 + Int.toNat (0 : Int))).toList == aic.toList) && decide (ns.length = 2)) = false:=by rw [decide_eq_false (fun h => by rw [h] at a2;cases a2),Bool.and_false]
    obtain b1 | b1 : ((gN (bt (ez (ey r))) (0 + Int.toNat (0 : Int))).toList == ({ data:=#[119,111,114,107] } : ByteArray).toList) = false \/ ((gN (bt (ez (ey r))) (0 + Int.toNat (0 : Int))).toList == ({ data:=#[119,111,114,107] } : ByteArray).toList) = true:=by cases ((gN (bt (ez (ey r))) (0 + Int.toNat (0 : Int))).toList == ({ data:=#[119,111,114,107] } : ByteArray).toList) <;> simp
    ·have hfn : gy s.size s (0,0,[]) = none:=by rw [hfo,hst,ahm];unfold ag7;rw [h0,a3];dsimp only;rw [show (((gN (bt (ez (ey r))) (0 + Int.toNat (0 : Int))).toList == ahN.toList) && decide (ns.length = 3)) = false by rw [show ((gN (bt (ez (ey r))) (0 + Int.toNat (0 : Int))).toList == ahN.toList) = false from b1];rfl]
     have hb : pB s = false:=ahx hfn
     rw [hb] at hK
     dsimp only [w8] at hK
     repeat' ((conv => whnf);first | apply And.intro | (intro h9;try (have h8 : (_ : Bool) = _:=h9;clear h8;revert h9;subst_vars;intro h9;exact aq h9 (by assumption))))
     all_goals try (conv => whnf)
     all_goals try first | (apply Tk.mk <;> kernel_rfl) | exact ⟨ah rfl⟩ | exact ⟨rfl⟩ | exact ⟨trivial⟩
     all_goals subst_vars
     all_goals try first | rfl | contradiction | (apply Ob.mk;first | (simp only [ag,ak,aa.ae];omega) | ((try simp only [aa.ae]);(try dsimp only);omega))
     all_goals first
      | trivial
      | exact True.intro
      | exact ⟨show 0 <= (fk r + 1).toNat from Nat.zero_le _⟩
      | exact ⟨show (fk r + 1).toNat <= r.size by omega⟩
      | exact ⟨rfl⟩
      | exact ⟨o1⟩
      | exact ⟨o2⟩
      | exact ⟨o3⟩
      | exact ⟨hxs⟩
      | exact ⟨show 0 <= (0 : Int) /\ (0 : Int) < ((bt (ez (ey r))).length : Int) by omega⟩
      | exact ⟨show 0 + Int.toNat (0 : Int) < (bt (ez (ey r))).length by omega⟩
      | exact ⟨show 0 <= (0 : Int) /\ (0 : Int) < (ns.length : Int) by omega⟩
      | exact ⟨show 0 + Int.toNat (0 : Int) < ns.length by omega⟩
      | exact ⟨show 0 <= (1 : Int) /\ (1 : Int) < (ns.length : Int) by omega⟩
      | exact ⟨show 0 + Int.toNat (1 : Int) < ns.length by omega⟩
      | exact ⟨show 0 <= (2 : Int) /\ (2 : Int) < (ns.length : Int) by omega⟩
      | exact ⟨show 0 + Int.toNat (2 : Int) < ns.length by omega⟩
      | exact ⟨show (t.2.2.length + 1) * 3 <= 1099511627776 by omega⟩
      | exact ⟨show t.2.2.length <= 1000000 by omega⟩
      | (refine bu.base ⟨_,[],hK,trivial,rfl,?_⟩;(repeat' ((conv => whnf);(first | apply And.intro | intro _)));all_goals first | rfl | trivial)
      | exact ⟨Nat.zero_add _⟩
      | exact ⟨show (ns.length + 1) * 1 <= 1099511627776 by omega⟩
      | exact ⟨show 0 <= (i : Int) /\ (i : Int) < (((bt (ez (ey r))).length - 1 : Nat) : Int) by omega⟩
      | exact ⟨show 1 + Int.toNat (i : Int) < (bt (ez (ey r))).length by omega⟩
      | exact ⟨show 1 <= (bt _).length by omega⟩
      | exact ⟨Nat.zero_add _⟩
      | exact hK
      | (apply Ob.mk;show (ag .i64 _).p;simp only [ag,ak,aa.ae];omega)
    obtain b2 | b2 : ((ns.length : Int) == 3) = false \/ ((ns.length : Int) == 3) = true:=by cases ((ns.length : Int) == 3) <;> simp
    ·have b3 : decide (ns.length = 3) = false:=decide_eq_false (fun h => by rw [h] at b2;cases b2)
     have hfn : gy s.size s (0,0,[]) = none:=by rw [hfo,hst,ahm];unfold ag7;rw [h0,a3];dsimp only;rw [b3,Bool.and_false]
     have hb : pB s = false:=ahx hfn
     rw [hb] at hK
     dsimp only [w8] at hK
     repeat' ((conv => whnf);first | apply And.intro | (intro h9;try (have h8 : (_ : Bool) = _:=h9;clear h8;revert h9;subst_vars;intro h9;exact aq h9 (by assumption))))
     all_goals try (conv => whnf)
     all_goals try first | (apply Tk.mk <;> kernel_rfl) | exact ⟨ah rfl⟩ | exact ⟨rfl⟩ | exact ⟨trivial⟩
     all_goals subst_vars
     all_goals try first | rfl | contradiction | (apply Ob.mk;first | (simp only [ag,ak,aa.ae];omega) | ((try simp only [aa.ae]);(try dsimp only);omega))
     all_goals first
      | trivial
      | exact True.intro
      | exact ⟨show 0 <= (fk r + 1).toNat from Nat.zero_le _⟩
      | exact ⟨show (fk r + 1).toNat <= r.size by omega⟩
      | exact ⟨rfl⟩
      | exact ⟨o1⟩
      | exact ⟨o2⟩
      | exact ⟨o3⟩
      | exact ⟨hxs⟩
      | exact ⟨show 0 <= (0 : Int) /\ (0 : Int) < ((bt (ez (ey r))).length : Int) by omega⟩
      | exact ⟨show 0 + Int.toNat (0 : Int) < (bt (ez (ey r))).length by omega⟩
      | exact ⟨show 0 <= (0 : Int) /\ (0 : Int) < (ns.length : Int) by omega⟩
      | exact ⟨show 0 + Int.toNat (0 : Int) < ns.length by omega⟩
      | exact ⟨show 0 <= (1 : Int) /\ (1 : Int) < (ns.length : Int) by omega⟩
      | exact ⟨show 0 + Int.toNat (1 : Int) < ns.length by omega⟩
      | exact ⟨show 0 <= (2 : Int) /\ (2 : Int) < (ns.length : Int) by omega⟩
      | exact ⟨show 0 + Int.toNat (2 : Int) < ns.length by omega⟩
      | exact ⟨show (t.2.2.length + 1) * 3 <= 1099511627776 by omega⟩
      | exact ⟨show t.2.2.length <= 1000000 by omega⟩
      | (refine bu.base ⟨_,[],hK,trivial,rfl,?_⟩;(repeat' ((conv => whnf);(first | apply And.intro | intro _)));all_goals first | rfl | trivial)
      | exact ⟨Nat.zero_add _⟩
      | exact ⟨show (ns.length + 1) * 1 <= 1099511627776 by omega⟩
      | exact ⟨show 0 <= (i : Int) /\ (i : Int) < (((bt (ez (ey r))).length - 1 : Nat) : Int) by omega⟩
      | exact ⟨show 1 + Int.toNat (i : Int) < (bt (ez (ey r))).length by omega⟩
      | exact ⟨show 1 <= (bt _).length by omega⟩
      | exact ⟨Nat.zero_add _⟩
      | exact hK
      | (apply Ob.mk;show (ag .i64 _).p;simp only [ag,ak,aa.ae];omega)
    have b4 : ns.length = 3:=by have:=eq_of_beq b2;omega
    have b3 : decide (ns.length = 3) = true:=decide_eq_true b4
    have hsw : ag7 t (ahs (bt (ez (ey r)))) ns = some (t.1,t.2.1,t.2.2 ++ [(g3 ns 0,g3 ns 1,g3 ns 2)]):=by unfold ag7;rw [h0,a3];dsimp only;rw [b3,Bool.and_true,show ((gN (bt (ez (ey r))) (0 + Int.toNat (0 : Int))).toList == ahN.toList) = true from b1]
    have ah5 : gy s.size s (0,0,[]) = gy f (n9 r) (t.1,t.2.1,t.2.2 ++ [(g3 ns 0,g3 ns 1,g3 ns 2)]):=by rw [hfo,hst,ahm,hsw]
    have ZR : (t.2.2 ++ [(g3 ns 0,g3 ns 1,g3 ns 2)]).length + (n9 r).size <= s.size:=by rw [List.length_append,List.length_singleton];omega
    have aby : t.2.2.length + 1 = (t.2.2 ++ [(g3 ns 0,g3 ns 1,g3 ns 2)]).length:=by rw [List.length_append,List.length_singleton]
    have aaN : t.2.2 ++ [((av ns 0,av ns 1,av ns 2) : Wk)] = t.2.2 ++ [(g3 ns 0,g3 ns 1,g3 ns 2)]:=by rw [i0,i1,i2]
    repeat' ((conv => whnf);first | apply And.intro | (intro h9;try (have h8 : (_ : Bool) = _:=h9;clear h8;revert h9;subst_vars;intro h9;exact aq h9 (by assumption))))
    all_goals try (conv => whnf)
    all_goals try first | (apply Tk.mk <;> kernel_rfl) | exact ⟨ah rfl⟩ | exact ⟨rfl⟩ | exact ⟨trivial⟩
    all_goals subst_vars
    all_goals try first | rfl | contradiction | (apply Ob.mk;first | (simp only [ag,ak,aa.ae];omega) | ((try simp only [aa.ae]);(try dsimp only);omega))
    all_goals try first
     | exact True.intro
     | exact ⟨show 0 <= (fk r + 1).toNat from Nat.zero_le _⟩
     | exact ⟨show (fk r + 1).toNat <= r.size by omega⟩
     | exact ⟨rfl⟩
     | exact ⟨o1⟩
     | exact ⟨o2⟩
     | exact ⟨o3⟩
     | exact ⟨hxs⟩
     | exact ⟨show 0 <= (0 : Int) /\ (0 : Int) < ((bt (ez (ey r))).length : Int) by omega⟩
     | exact ⟨show 0 + Int.toNat (0 : Int) < (bt (ez (ey r))).length by omega⟩
     | exact ⟨show 0 <= (0 : Int) /\ (0 : Int) < (ns.length : Int) by omega⟩
     | exact ⟨show 0 + Int.toNat (0 : Int) < ns.length by omega⟩
     | exact ⟨show 0 <= (1 : Int) /\ (1 : Int) < (ns.length : Int) by omega⟩
     | exact ⟨show 0 + Int.toNat (1 : Int) < ns.length by omega⟩
     | exact ⟨show 0 <= (2 : Int) /\ (2 : Int) < (ns.length : Int) by omega⟩
     | exact ⟨show 0 + Int.toNat (2 : Int) < ns.length by omega⟩
     | exact ⟨show (t.2.2.length + 1) * 3 <= 1099511627776 by omega⟩
     | exact ⟨show t.2.2.length <= 1000000 by omega⟩
     | (refine bu.base ⟨_,[],hK,trivial,rfl,?_⟩;(repeat' ((conv => whnf);(first | apply And.intro | intro _)));all_goals first | rfl | trivial)
     | exact ⟨Nat.zero_add _⟩
     | exact ⟨show (ns.length + 1) * 1 <= 1099511627776 by omega⟩
     | exact ⟨show 0 <= (i : Int) /\ (i : Int) < (((bt (ez (ey r))).length - 1 : Nat) : Int) by omega⟩
     | exact ⟨show 1 + Int.toNat (i : Int) < (bt (ez (ey r))).length by omega⟩
     | exact ⟨show 1 <= (bt _).length by omega⟩
     | exact ⟨Nat.zero_add _⟩
     | exact hK
     | (apply Ob.mk;show (ag .i64 _).p;simp only [ag,ak,aa.ae];omega)
    refine ⟨(n9 r,(t.1,t.2.1,t.2.2 ++ [(g3 ns 0,g3 ns 1,g3 ns 2)])),[0,1,2,3,4,5],⟨⟨f,by show (n9 r).size <= f;have:=hls.2;omega,ah5⟩,ZR⟩,?_,hls.2⟩
    repeat' ((conv => whnf);(first | apply And.intro | intro _))
    all_goals first | rfl | trivial | exact ah rfl | exact aS ‹_› rfl | exact aT ‹_› rfl | ((repeat' first | rfl | constructor);done) | exact i0 | exact i1 | exact i0.symm | exact i1.symm | exact aby | exact ⟨rfl,rfl,aaN⟩
   have b4 : ns.length = 2:=by have:=eq_of_beq a2;omega
   have hsw : ag7 t (ahs (bt (ez (ey r)))) ns = some (g3 ns 0,g3 ns 1,t.2.2):=by unfold ag7;rw [h0,decide_eq_true b4,Bool.and_true,show ((gN (bt (ez (ey r))) (0 + Int.toNat (0 : Int))).toList == aic.toList) = true from a1]
   have ah5 : gy s.size s (0,0,[]) = gy f (n9 r) (g3 ns 0,g3 ns 1,t.2.2):=by rw [hfo,hst,ahm,hsw]
   have ZR : t.2.2.length + (n9 r).size <= s.size:=by omega
   have aby : True:=trivial
   have aaN : t.2.2 = t.2.2:=rfl
   repeat' ((conv => whnf);first | apply And.intro | (intro h9;try (have h8 : (_ : Bool) = _:=h9;clear h8;revert h9;subst_vars;intro h9;exact aq h9 (by assumption))))
   all_goals try (conv => whnf)
   all_goals try first | (apply Tk.mk <;> kernel_rfl) | exact ⟨ah rfl⟩ | exact ⟨rfl⟩ | exact ⟨trivial⟩
   all_goals subst_vars
   all_goals try first | rfl | contradiction | (apply Ob.mk;first | (simp only [ag,ak,aa.ae];omega) | ((try simp only [aa.ae]);(try dsimp only);omega))
   all_goals try first
    | exact True.intro
    | exact ⟨show 0 <= (fk r + 1).toNat from Nat.zero_le _⟩
    | exact ⟨show (fk r + 1).toNat <= r.size by omega⟩
    | exact ⟨rfl⟩
    | exact ⟨o1⟩
    | exact ⟨o2⟩
    | exact ⟨o3⟩
    | exact ⟨hxs⟩
    | exact ⟨show 0 <= (0 : Int) /\ (0 : Int) < ((bt (ez (ey r))).length : Int) by omega⟩
    | exact ⟨show 0 + Int.toNat (0 : Int) < (bt (ez (ey r))).length by omega⟩
    | exact ⟨show 0 <= (0 : Int) /\ (0 : Int) < (ns.length : Int) by omega⟩
    | exact ⟨show 0 + Int.toNat (0 : Int) < ns.length by omega⟩
    | exact ⟨show 0 <= (1 : Int) /\ (1 : Int) < (ns.length : Int) by omega⟩
    | exact ⟨show 0 + Int.toNat (1 : Int) < ns.length by omega⟩
    | exact ⟨show 0 <= (2 : Int) /\ (2 : Int) < (ns.length : Int) by omega⟩
    | exact ⟨show 0 + Int.toNat (2 : Int) < ns.length by omega⟩
    | exact ⟨show (t.2.2.length + 1) * 3 <= 1099511627776 by omega⟩
    | exact ⟨show t.2.2.length <= 1000000 by omega⟩
    | (refine bu.base ⟨_,[],hK,trivial,rfl,?_⟩;(repeat' ((conv => whnf);(first | apply And.intro | intro _)));all_goals first | rfl | trivial)
    | exact ⟨Nat.zero_add _⟩
    | exact ⟨show (ns.length + 1) * 1 <= 1099511627776 by omega⟩
    | exact ⟨show 0 <= (i : Int) /\ (i : Int) < (((bt (ez (ey r))).length - 1 : Nat) : Int) by omega⟩
    | exact ⟨show 1 + Int.toNat (i : Int) < (bt (ez (ey r))).length by omega⟩
    | exact ⟨show 1 <= (bt _).length by omega⟩
    | exact ⟨Nat.zero_add _⟩
    | exact hK
    | (apply Ob.mk;show (ag .i64 _).p;simp only [ag,ak,aa.ae];omega)
   all_goals
    refine ⟨(n9 r,(g3 ns 0,g3 ns 1,t.2.2)),[0,1,2,3,4,5],⟨⟨f,by show (n9 r).size <= f;have:=hls.2;omega,ah5⟩,ZR⟩,?_,hls.2⟩
    repeat' ((conv => whnf);(first | apply And.intro | intro _))
    all_goals first | rfl | trivial | exact ah rfl | exact aS ‹_› rfl | exact aT ‹_› rfl | ((repeat' first | rfl | constructor);done) | exact i0 | exact i1 | exact i0.symm | exact i1.symm | exact aby | exact ⟨rfl,rfl,aaN⟩
 have p0 : decide ((r.size : Int) > 0) = false:=decide_eq_false (by omega)
 have ajV : gy s.size s (0,0,[]) = some t:=by
  rw [hfo]
  cases f with
  | zero => rfl
  | succ f => rw [gy,p0]
 have hun : pB s = true -> eY s = t:=fun h => by
  have:=ahL (D1.1 h) (Nat.le_refl _)
  rw [ajV] at this;exact (Option.some.inj this).symm
 obtain c1 | c1 : (bD t.1 t.2.1 t.2.2 == 0) = false \/ (bD t.1 t.2.1 t.2.2 == 0) = true:=by cases (bD t.1 t.2.1 t.2.2 == 0) <;> simp
 ·have c2 : (bD t.1 t.2.1 t.2.2 != 0) = true:=by unfold bne;rw [c1];rfl
  have hb : pB s = false:=by
   cases hb : pB s with
   | false => rfl
   | true => have h1:=(D1.1 hb).1;rw [hun hb] at h1;rw [h1] at c1;cases c1
  rw [hb] at hK
  dsimp only [w8] at hK
  repeat' ((conv => whnf);first | apply And.intro | (intro h9;try (have h8 : (_ : Bool) = _:=h9;clear h8;revert h9;subst_vars;intro h9;exact aq h9 (by assumption))))
  all_goals try (conv => whnf)
  all_goals try first | (apply Tk.mk <;> kernel_rfl) | exact ⟨ah rfl⟩ | exact ⟨rfl⟩ | exact ⟨trivial⟩
  all_goals subst_vars
  all_goals try first | rfl | contradiction | (apply Ob.mk;first | (simp only [ag,ak,aa.ae];omega) | ((try simp only [aa.ae]);(try dsimp only);omega))
  all_goals first
   | trivial
   | exact True.intro
   | exact ⟨show 0 <= (fk r + 1).toNat from Nat.zero_le _⟩
   | exact ⟨show (fk r + 1).toNat <= r.size by omega⟩
   | exact ⟨rfl⟩
   | exact ⟨o1⟩
   | exact ⟨o2⟩
   | exact ⟨o3⟩
   | exact ⟨hxs⟩
   | exact ⟨show 0 <= (0 : Int) /\ (0 : Int) < ((bt (ez (ey r))).length : Int) by omega⟩
   | exact ⟨show 0 + Int.toNat (0 : Int) < (bt (ez (ey r))).length by omega⟩
   | exact ⟨show 0 <= (0 : Int) /\ (0 : Int) < (ns.length : Int) by omega⟩
   | exact ⟨show 0 + Int.toNat (0 : Int) < ns.length by omega⟩
   | exact ⟨show 0 <= (1 : Int) /\ (1 : Int) < (ns.length : Int) by omega⟩
   | exact ⟨show 0 + Int.toNat (1 : Int) < ns.length by omega⟩
   | exact ⟨show 0 <= (2 : Int) /\ (2 : Int) < (ns.length : Int) by omega⟩
   | exact ⟨show 0 + Int.toNat (2 : Int) < ns.length by omega⟩
   | exact ⟨show (t.2.2.length + 1) * 3 <= 1099511627776 by omega⟩
   | exact ⟨show t.2.2.length <= 1000000 by omega⟩
   | (refine bu.base ⟨_,[],hK,trivial,rfl,?_⟩;(repeat' ((conv => whnf);(first | apply And.intro | intro _)));all_goals first | rfl | trivial)
   | exact ⟨Nat.zero_add _⟩
   | exact ⟨show (ns.length + 1) * 1 <= 1099511627776 by omega⟩
   | exact ⟨show 0 <= (i : Int) /\ (i : Int) < (((bt (ez (ey r))).length - 1 : Nat) : Int) by omega⟩
   | exact ⟨show 1 + Int.toNat (i : Int) < (bt (ez (ey r))).length by omega⟩
   | exact ⟨show 1 <= (bt _).length by omega⟩
   | exact ⟨Nat.zero_add _⟩
   | exact hK
   | (apply Ob.mk;show (ag .i64 _).p;simp only [ag,ak,aa.ae];omega)
 have c2 : (bD t.1 t.2.1 t.2.2 != 0) = false:=by unfold bne;rw [c1];rfl
 have hpf : vF t.1 t.2.1 t.2.2 = bA (ld t.1 t.2.1 t.2.2):=by unfold vF;rw [c1];exact ai8 (oe.1 (eq_of_beq c1))
 obtain d1 | d1 : ((vF t.1 t.2.1 t.2.2).toList == s.toList) = false \/ ((vF t.1 t.2.1 t.2.2).toList == s.toList) = true:=by cases ((vF t.1 t.2.1 t.2.2).toList == s.toList) <;> simp
 ·have d2 : (!((vF t.1 t.2.1 t.2.2).toList == s.toList)) = true:=by rw [d1];rfl
  have hb : pB s = false:=by
   cases hb : pB s with
   | false => rfl
   | true => have h1:=(D1.1 hb).2;rw [hun hb,<- hpf] at h1;rw [<- h1,beq_self_eq_true] at d1;cases d1
  rw [hb] at hK
  dsimp only [w8] at hK
  clear hpf
  repeat' ((conv => whnf);first | apply And.intro | (intro h9;try (have h8 : (_ : Bool) = _:=h9;clear h8;revert h9;subst_vars;intro h9;exact aq h9 (by assumption))))
  all_goals try (conv => whnf)
  all_goals try first | (apply Tk.mk <;> kernel_rfl) | exact ⟨ah rfl⟩ | exact ⟨rfl⟩ | exact ⟨trivial⟩
  all_goals subst_vars
  all_goals try first | rfl | contradiction | (apply Ob.mk;first | (simp only [ag,ak,aa.ae];omega) | ((try simp only [aa.ae]);(try dsimp only);omega))
  all_goals first
   | trivial
   | exact True.intro
   | exact ⟨show 0 <= (fk r + 1).toNat from Nat.zero_le _⟩
   | exact ⟨show (fk r + 1).toNat <= r.size by omega⟩
   | exact ⟨rfl⟩
   | exact ⟨o1⟩
   | exact ⟨o2⟩
   | exact ⟨o3⟩
   | exact ⟨hxs⟩
   | exact ⟨show 0 <= (0 : Int) /\ (0 : Int) < ((bt (ez (ey r))).length : Int) by omega⟩
   | exact ⟨show 0 + Int.toNat (0 : Int) < (bt (ez (ey r))).length by omega⟩
   | exact ⟨show 0 <= (0 : Int) /\ (0 : Int) < (ns.length : Int) by omega⟩
   | exact ⟨show 0 + Int.toNat (0 : Int) < ns.length by omega⟩
   | exact ⟨show 0 <= (1 : Int) /\ (1 : Int) < (ns.length : Int) by omega⟩
   | exact ⟨show 0 + Int.toNat (1 : Int) < ns.length by omega⟩
   | exact ⟨show 0 <= (2 : Int) /\ (2 : Int) < (ns.length : Int) by omega⟩
   | exact ⟨show 0 + Int.toNat (2 : Int) < ns.length by omega⟩
   | exact ⟨show (t.2.2.length + 1) * 3 <= 1099511627776 by omega⟩
   | exact ⟨show t.2.2.length <= 1000000 by omega⟩
   | (refine bu.base ⟨_,[],hK,trivial,rfl,?_⟩;(repeat' ((conv => whnf);(first | apply And.intro | intro _)));all_goals first | rfl | trivial)
   | exact ⟨Nat.zero_add _⟩
   | exact ⟨show (ns.length + 1) * 1 <= 1099511627776 by omega⟩
   | exact ⟨show 0 <= (i : Int) /\ (i : Int) < (((bt (ez (ey r))).length - 1 : Nat) : Int) by omega⟩
   | exact ⟨show 1 + Int.toNat (i : Int) < (bt (ez (ey r))).length by omega⟩
   | exact ⟨show 1 <= (bt _).length by omega⟩
   | exact ⟨Nat.zero_add _⟩
   | exact hK
   | (apply Ob.mk;show (ag .i64 _).p;simp only [ag,ak,aa.ae];omega)
 have d2 : (!((vF t.1 t.2.1 t.2.2).toList == s.toList)) = false:=by rw [d1];rfl
 have hB:=aiK (s:=s) (t:=t) ⟨eq_of_beq c1,by
  rw [<- hpf]
  refine (ag6 ?_).symm
  rw [<- ByteArray.toList_eq,<- ByteArray.toList_eq]
  exact eq_of_beq d1⟩
 rw [hB.1,hB.2] at hK
 dsimp only [ahG] at hK
 clear hpf hB hun
 repeat' ((conv => whnf);first | apply And.intro | (intro h9;try (have h8 : (_ : Bool) = _:=h9;clear h8;revert h9;subst_vars;intro h9;exact aq h9 (by assumption))))
 all_goals try (conv => whnf)
 all_goals try first | (apply Tk.mk <;> kernel_rfl) | exact ⟨ah rfl⟩ | exact ⟨rfl⟩ | exact ⟨trivial⟩
 all_goals subst_vars
 all_goals try first | rfl | contradiction | (apply Ob.mk;first | (simp only [ag,ak,aa.ae];omega) | ((try simp only [aa.ae]);(try dsimp only);omega))
 all_goals try first
  | exact True.intro
  | exact ⟨show 0 <= (fk r + 1).toNat from Nat.zero_le _⟩
  | exact ⟨show (fk r + 1).toNat <= r.size by omega⟩
  | exact ⟨rfl⟩
  | exact ⟨o1⟩
  | exact ⟨o2⟩
  | exact ⟨o3⟩
  | exact ⟨hxs⟩
  | exact ⟨show 0 <= (0 : Int) /\ (0 : Int) < ((bt (ez (ey r))).length : Int) by omega⟩
  | exact ⟨show 0 + Int.toNat (0 : Int) < (bt (ez (ey r))).length by omega⟩
  | exact ⟨show 0 <= (0 : Int) /\ (0 : Int) < (ns.length : Int) by omega⟩
  | exact ⟨show 0 + Int.toNat (0 : Int) < ns.length by omega⟩
  | exact ⟨show 0 <= (1 : Int) /\ (1 : Int) < (ns.length : Int) by omega⟩
  | exact ⟨show 0 + Int.toNat (1 : Int) < ns.length by omega⟩
  | exact ⟨show 0 <= (2 : Int) /\ (2 : Int) < (ns.length : Int) by omega⟩
  | exact ⟨show 0 + Int.toNat (2 : Int) < ns.length by omega⟩
  | exact ⟨show (t.2.2.length + 1) * 3 <= 1099511627776 by omega⟩
  | exact ⟨show t.2.2.length <= 1000000 by omega⟩
  | (refine bu.base ⟨_,[],hK,trivial,rfl,?_⟩;(repeat' ((conv => whnf);(first | apply And.intro | intro _)));all_goals first | rfl | trivial)
  | exact ⟨Nat.zero_add _⟩
  | exact ⟨show (ns.length + 1) * 1 <= 1099511627776 by omega⟩
  | exact ⟨show 0 <= (i : Int) /\ (i : Int) < (((bt (ez (ey r))).length - 1 : Nat) : Int) by omega⟩
  | exact ⟨show 1 + Int.toNat (i : Int) < (bt (ez (ey r))).length by omega⟩
  | exact ⟨show 1 <= (bt _).length by omega⟩
  | exact ⟨Nat.zero_add _⟩
  | exact hK
  | (apply Ob.mk;show (ag .i64 _).p;simp only [ag,ak,aa.ae];omega)
 refine bu.base ⟨_,[5],hK,⟨rfl,rfl,by simp,trivial⟩,rfl,?_⟩
 repeat' ((conv => whnf);(first | apply And.intro | intro _))
 all_goals first | rfl | trivial)
end Go.Proofs.YthejmgnkenokpaaGreatDoor
end
section
namespace Go.Proofs.YthejmgnkenokpaaGreatDoor
open Go Go.Sy Go.bK
variable {Γ : bn}
def bp : List Wk:=[(0,1,0),(1,2,0),(2,0,4)]
def Dg : au:=.new fun args rg K => match args with
 | [] => K ⟨[.arr 46 kW bp true true],.agg [vI 2,vI 3,.sl 0 [] 0 3]⟩
 | _ => False
theorem EK : au.Ok Tryz.prog Γ 38 Dg:=au.fM (d:=0) (aP aR.nil bq.nil false 0) (aj Tryz.func38 rfl rfl) (by
 intro args rg K hC
 split at hC
 next =>
  have hK:=hC
  refine ⟨[],[],[],⟨trivial,fun r g hg => by cases hg⟩,bu K,?_,fun x st h => h⟩
  clear hC
  repeat' ((conv => whnf);first | apply And.intro | (intro h9;try (have h8 : (_ : Bool) = _:=h9;clear h8;revert h9;subst_vars;intro h9;exact aq h9 (by assumption))))
  all_goals try (conv => whnf)
  all_goals try first | (apply Tk.mk <;> kernel_rfl) | exact ⟨ah rfl⟩ | exact ⟨rfl⟩ | exact ⟨trivial⟩
  all_goals subst_vars
  all_goals try first | rfl | contradiction | (apply Ob.mk;first | (simp only [ag,ak,aa.ae];omega) | ((try simp only [aa.ae]);(try dsimp only);omega))
  all_goals first
   | (refine bu.base ⟨_,[1],hK,⟨rfl,rfl,by simp,trivial⟩,rfl,?_⟩;(repeat' ((conv => whnf);(first | apply And.intro | intro _)));all_goals first | rfl | trivial)
 next => exact hC.elim)
end Go.Proofs.YthejmgnkenokpaaGreatDoor
end
section
namespace Go.Proofs.YthejmgnkenokpaaGreatDoor
open Go Go.Sy Go.bK
variable {Γ : bn}
abbrev J0 (L : List Bool) (i : Int) : Bool:=@Ar.get ⟨4,kB,L⟩ (0 + Int.toNat i)
theorem Mm (L : List Bool) (i : Int) : J0 L i = gb L i:=by unfold J0 gb;rw [Nat.zero_add];rfl
theorem Lu (w : List Int) (i : Int) : av w i = gi w i:=by unfold av gi;rw [Nat.zero_add];rfl
noncomputable def Gm : au:=.fn fun args rg => match args with
 | [.a (.p r [] 0 0),.a (.v (.int .i64 x))] => (match rg.getD r .dead with
   | .box _ [a,b,_] => (match ac1 3 kI rg a,ac1 4 kB rg b with
     | some (q0,U),some (q1,Pa) => some (q0 ++ (q1 ++ [OV (akh U Pa x)]),.bF [.a (vI (cm U Pa x).1),.a (.v (.bool (cm U Pa x).2))])
     | _,_ => none)
   | _ => none)
 | _ => none
attribute [local irreducible] cm
theorem Gn : au.Ok Tryz.prog Γ 91 Gm:=au.er (d:=0) (aP aR.nil bq.nil false 0) (aj Tryz.func91 rfl rfl) (by
 intro args rg q t hF hq
 split at hF
 next r x =>
  split at hF
  next o a b c hg =>
   split at hF
   next q0 U q1 Pa h0 h1 =>
    obtain ⟨rfl,rfl⟩:=Prod.mk.inj (Option.some.inj hF);clear hF
    rw [aH,aH] at hq
    obtain ⟨dm,gk,hD,_⟩:=hq
    have Vo : rg[r]? = some (.box o [a,b,c]):=bg (st:=⟨⟨0,.nil⟩,[],rg⟩) hg (by simp)
    obtain ⟨e0,Vn⟩:=bP (by simp) h0 dm
    obtain ⟨e1,iO⟩:=bP (by simp) h1 gk
    obtain ⟨p0,r0⟩:=Vn [some (r,[]),e0,e1] 1 3 rfl (by omega)
    obtain ⟨p1,r1⟩:=iO [some (r,[]),e0,e1] 2 3 rfl (by omega)
    refine ⟨rfl,[some (r,[]),e0,e1],[.a (.p 0 [] 0 0),.a (vI x)],[.box false [.sl 1 [] 0 U.length,.sl 2 [] 0 Pa.length,.any],.arr 3 kI U false false,.arr 4 kB Pa false false],⟨⟨⟨r,[],rfl,by simp,rfl⟩,rfl,trivial⟩,fun r' g lh => ?_⟩,?_⟩
    ·match r',lh with
     | 0,lh => obtain rfl:=Option.some.inj lh;exact ⟨rfl,r,o,[a,b,c],rfl,Vo,p0,p1,trivial,trivial⟩
     | 1,lh => obtain rfl:=Option.some.inj lh;exact r0
     | 2,lh => obtain rfl:=Option.some.inj lh;exact r1
    ·obtain ⟨n,R,Q,rk,hr,hx,j4⟩ : akh U Pa x:=hD
     rw [rH hr hx j4]
     have ny:=hx
     unfold aM at ny
     have Ko : U.length = (n * n).toNat:=hr.lu
     have PO : Pa.length = (n * n).toNat:=hr.lp
     repeat' ((conv => whnf);first | apply And.intro | (intro h9;try (have h8 : (_ : Bool) = _:=h9;clear h8;revert h9;subst_vars;intro h9;exact aq h9 (by assumption))))
     all_goals try (conv => whnf)
     all_goals try first | (apply Tk.mk <;> kernel_rfl) | exact ⟨ah rfl⟩ | exact ⟨rfl⟩ | exact ⟨trivial⟩
     all_goals subst_vars
     all_goals try first | rfl | contradiction | (apply Ob.mk;first | (simp only [ag,ak,aa.ae];omega) | ((try simp only [aa.ae]);(try dsimp only);omega))
     refine ⟨Int × Bool,fun s => aM n s.1 /\ R s.1 = R x /\ (s.2 != Q s.1) = Q x,fun s => ⟨aI 34 [0,1,6] [.a (.p 0 [] 0 0),.a (vI s.1),.a (.v (.bool s.2))],[],[.box false [.sl 1 [] 0 U.length,.sl 2 [] 0 Pa.length,.any],.arr 3 kI U false false,.arr 4 kB Pa false false]⟩,fun s => rk s.1,(x,false),[],⟨hx,rfl,EW _⟩,?_,?_⟩
     ·repeat' ((conv => whnf);(first | apply And.intro | intro _))
      all_goals first | rfl | trivial | exact ah rfl | exact aS ‹_› rfl | exact aT ‹_› rfl | ((repeat' first | rfl | constructor);done)
     rintro ⟨v,b⟩ ⟨hv,Vp,xY⟩
     dsimp only at hv Vp xY
     have iz : 0 <= v /\ v < (U.length : Int):=by unfold aM at hv;omega
     have iy : 0 <= v /\ v < (Pa.length : Int):=by omega
     have iS : 0 + Int.toNat v < U.length:=by omega
     have iR : 0 + Int.toNat v < Pa.length:=by omega
     have Dp:=Lu U v
     have QV:=Mm Pa v
     by_cases Ks : gi U v = v
     rotate_left
     ·have q1 : (av U v != v) = true:=by rw [Dp,bne_iff_ne];exact Ks
      obtain ⟨s1,s2,s3⟩:=hr.step v hv Ks
      repeat' ((conv => whnf);first | apply And.intro | (intro h9;try (have h8 : (_ : Bool) = _:=h9;clear h8;revert h9;subst_vars;intro h9;exact aq h9 (by assumption))))
      all_goals try (conv => whnf)
      all_goals try first | (apply Tk.mk <;> kernel_rfl) | exact ⟨ah rfl⟩ | exact ⟨rfl⟩ | exact ⟨trivial⟩
      all_goals subst_vars
      all_goals try first | rfl | contradiction | (apply Ob.mk;first | (simp only [ag,ak,aa.ae];omega) | ((try simp only [aa.ae]);(try dsimp only);omega))
      refine ⟨(av U v,!(b == J0 Pa v)),[],⟨by show aM n (av U v);rw [Dp];exact hr.cell v hv,by show R (av U v) = _;rw [Dp,s1];exact Vp,?_⟩,?_,by show rk (av U v) < rk v;rw [Dp];exact s3⟩
      ·show ((b != J0 Pa v) != Q (av U v)) = _
       rw [Dp,QV,xor_assoc,<- s2];exact xY
      repeat' ((conv => whnf);(first | apply And.intro | intro _))
      all_goals first | rfl | trivial | exact ah rfl | exact aS ‹_› rfl | exact aT ‹_› rfl | ((repeat' first | rfl | constructor);done) | exact ⟨rfl,rfl,rfl⟩
     have q1 : (av U v != v) = false:=by rw [Dp,Ks];exact bne_self_eq_false _
     obtain ⟨s1,s2⟩:=hr.root v hv Ks
     rw [s1] at Vp
     rw [s2,J1] at xY
     subst xY
     rw [<- Vp]
     repeat' ((conv => whnf);first | apply And.intro | (intro h9;try (have h8 : (_ : Bool) = _:=h9;clear h8;revert h9;subst_vars;intro h9;exact aq h9 (by assumption))))
     all_goals try (conv => whnf)
     all_goals try first | (apply Tk.mk <;> kernel_rfl) | exact ⟨ah rfl⟩ | exact ⟨rfl⟩ | exact ⟨trivial⟩
     all_goals subst_vars
     all_goals try first | rfl | contradiction | (apply Ob.mk;first | (simp only [ag,ak,aa.ae];omega) | ((try simp only [aa.ae]);(try dsimp only);omega))
     all_goals first
      | trivial
   next => cases hF
  next => cases hF
 next => cases hF)
end Go.Proofs.YthejmgnkenokpaaGreatDoor
end
