/-
  Texts of the claims on chapter 3: Yk6. No condition: lemmas and contracts.
-/
import Derived.Test.YthejmgnkenokpaaGreatDoorYk4
import Derived.Test.YthejmgnkenokpaaGreatDoorYk3
import Derived.Test.YthejmgnkenokpaaGreatDoorYk5
import Derived.Test.YthejmgnkenokpaaGreatDoorPl1
import Derived.Test.YthejmgnkenokpaaGreatDoorYk1
import Derived.Test.YthejmgnkenokpaaGreatDoorQ18
import Derived.Test.YthejmgnkenokpaaGreatDoorYk2
set_option linter.all false
set_option maxRecDepth 100000
set_option maxHeartbeats 4000000
section
namespace Go.Proofs.YthejmgnkenokpaaGreatDoor
open Go Go.Sy Go.bK
variable {Γ : bn}
abbrev kV : List CK:=[.int .i64,.int .i64,.bool,.sl 3 kI]
abbrev Wy:=Int × Int × Bool × List Int
def wq (e : bR) : Wy:=(e.1.1,e.1.2.1,e.1.2.2,e.2)
def cy (E : List bR) : List Wy:=E.map wq
theorem I3 (E : List bR) : (cy E).length = E.length:=List.length_map _
theorem aaZ (E : List bR) (e : bR) : cy (E ++ [e]) = cy E ++ [wq e]:=List.map_append
abbrev cf (E : List bR) (i : Int) : Wy:=@Ar.get ⟨109,kV,cy E⟩ (0 + Int.toNat i)
theorem aaL {α β : Type} {f : α -> β} {l : List α} {i : Nat} {d : β} {d' : α} (h : i < l.length) : (l.map f).getD i d = f (l.getD i d'):=by simp [h]
theorem vz {E : List bR} {i : Nat} (h : i < E.length) : cf E i = wq (E.getD i aG):=by
 unfold cf Ar.get cy
 rw [Nat.zero_add,Int.toNat_natCast]
 exact aaL h
theorem aaW {α : Type} (l : List α) (v : α) : l.length + 1 = (l ++ [v]).length:=by simp
def aaH : au:=tG (fun _ P L p => [(aa.of (dY P L = true)),(aa.of (P <= 6)),(aa.of (L.length <= 1000000)),(aa.of (0 <= p /\ p <= P - 1))]) (fun _ _ L p => ⟨[.arr 109 kV (cy (ag5 L p)) true true],.a (.sl 0 [] 0 (ag5 L p).length)⟩)
def dr (E : List bR) (x : Sp) (b : Bool) : Nat -> Bool
 | 0 => b
 | k + 1 => match dr E x b k with | true => !((cf E k).1 == x.1 && ((cf E k).2.1 == x.2.1 && ((cf E k).2.2.1 == x.2.2 && true))) | false => false
theorem agS (E : List bR) (x : Sp) (b : Bool) (k : Nat) : dr E x b (k + 1) = match dr E x b k with | true => !((cf E k).1 == x.1 && ((cf E k).2.1 == x.2.1 && ((cf E k).2.2.1 == x.2.2 && true))) | false => false:=rfl
theorem aaP (e : bR) (x : Sp) : ((wq e).1 == x.1 && ((wq e).2.1 == x.2.1 && ((wq e).2.2.1 == x.2.2 && true))) = (e.1 == x):=by
 obtain ⟨⟨a,b,c⟩,w⟩:=e
 obtain ⟨d,f,g⟩:=x
 rw [Bool.eq_iff_iff];simp [wq]
theorem z8 {E : List bR} {x : Sp} {b : Bool} : ∀ k,k <= E.length -> (dr E x b k = true <-> b = true /\ ∀ j,j < k -> (E.getD j aG).1 ≠ x)
 | 0,_ => ⟨fun h => ⟨h,fun j hj => absurd hj (Nat.not_lt_zero j)⟩,fun h => h.1⟩
 | k + 1,hk => by
   have ih:=z8 (E:=E) (x:=x) (b:=b) k (by omega)
   rw [agS]
   cases hb : dr E x b k <;> dsimp only
   ·rw [hb] at ih
    refine ⟨fun h => (by cases h),fun h => ?_⟩
    exact absurd (ih.2 ⟨h.1,fun j hj => h.2 j (by omega)⟩) (by simp)
   ·obtain ⟨i1,i2⟩:=ih.1 hb
    rw [vz (by omega),aaP,Bool.not_eq_true',beq_eq_false_iff_ne]
    refine ⟨fun h => ⟨i1,fun j hj => ?_⟩,fun h => h.2 k (by omega)⟩
    rcases Nat.lt_or_ge j k with h1 | h1
    ·exact i2 j h1
    ·obtain rfl : j = k:=by omega
     exact h
theorem z7 {E : List bR} {x : Sp} {b : Bool} : dr E x b E.length = (b && !dh E x):=by
 rw [Bool.eq_iff_iff,z8 _ (Nat.le_refl _),Bool.and_eq_true,Bool.not_eq_true']
 refine and_congr_right fun _ => ?_
 constructor
 ·intro h
  cases hb : dh E x
  ·rfl
  ·obtain ⟨j,hj,e⟩:=LN hb
   exact absurd e (h j hj)
 ·intro h j hj e
  have : dh E x = true:=kC.2 (List.mem_map.2 ⟨E.getD j aG,pc hj,e⟩)
  rw [h] at this;cases this
theorem abe {L : List Wk} {h : Nat} {E : List bR} {s : Int} (hk : dr E (bw L (E.getD h aG).1 s) (bM L (E.getD h aG).1 s) E.length = true) : bM L (E.getD h aG).1 s = true /\ dh E (bw L (E.getD h aG).1 s) = false:=by
 rw [z7,Bool.and_eq_true,Bool.not_eq_true'] at hk;exact hk
theorem add_not {L : List Wk} {h : Nat} {E : List bR} {s : Int} (hk : dr E (bw L (E.getD h aG).1 s) (bM L (E.getD h aG).1 s) E.length = false) : j9 L h E s = E:=by
 rw [z7] at hk
 unfold j9;rw [hk]
noncomputable def aa1 : List (Nat × au):=[(105,Gd)]
theorem aaQ : aR Tryz.prog Γ aa1:=(aR.nil.cons (aj Tryz.func105 rfl rfl).fn Ge)
def abk (id : Nat) : Option OT:=match Nat.beq id 14 with | true => some (.take 0 (.take 3 (.take 4 (.take 5 (.take 6 (.take 9 (.alt 1 (.alt 2 (.alt 7 (.alt 8 (.alt 10 (.alt 11 (.take 12 (.alt 13 (.alt 14 (.take 15 .fin) .fin) .fin)) .fin) .fin) (.alt 10 (.alt 8 (.alt 11 (.take 12 (.alt 13 (.alt 14 (.take 15 .fin) .fin) .fin)) .fin) .fin) .fin)) (.alt 10 (.alt 7 (.alt 8 (.alt 11 (.take 12 (.alt 13 (.alt 14 (.take 15 .fin) .fin) .fin)) .fin) .fin) .fin) .fin)) (.alt 7 (.alt 2 (.alt 8 (.alt 10 (.alt 11 (.take 12 (.alt 13 (.alt 14 (.take 15 .fin) .fin) .fin)) .fin) .fin) (.alt 10 (.alt 8 (.alt 11 (.take 12 (.alt 13 (.alt 14 (.take 15 .fin) .fin) .fin)) .fin) .fin) .fin)) (.alt 10 (.alt 2 (.alt 8 (.alt 11 (.take 12 (.alt 13 (.alt 14 (.take 15 .fin) .fin) .fin)) .fin) .fin) .fin) .fin)) (.alt 10 (.alt 2 (.alt 7 (.alt 8 (.alt 11 (.take 12 (.alt 13 (.alt 14 (.take 15 .fin) .fin) .fin)) .fin) .fin) .fin) (.alt 7 (.alt 2 (.alt 8 (.alt 11 (.take 12 (.alt 13 (.alt 14 (.take 15 .fin) .fin) .fin)) .fin) .fin) .fin) .fin)) .fin))) (.alt 2 (.alt 1 (.alt 7 (.alt 8 (.alt 10 (.alt 11 (.take 12 (.alt 13 (.alt 14 (.take 15 .fin) .fin) .fin)) .fin) .fin) (.alt 10 (.alt 8 (.alt 11 (.take 12 (.alt 13 (.alt 14 (.take 15 .fin) .fin) .fin)) .fin) .fin) .fin)) (.alt 10 (.alt 7 (.alt 8 (.alt 11 (.take 12 (.alt 13 (.alt 14 (.take 15 .fin) .fin) .fin)) .fin) .fin) .fin) .fin)) (.alt 7 (.alt 1 (.alt 8 (.alt 10 (.alt 11 (.take 12 (.alt 13 (.alt 14 (.take 15 .fin) .fin) .fin)) .fin) .fin) (.alt 10 (.alt 8 (.alt 11 (.take 12 (.alt 13 (.alt 14 (.take 15 .fin) .fin) .fin)) .fin) .fin) .fin)) (.alt 8 (.alt 1 (.alt 10 (.alt 11 (.take 12 (.alt 13 (.alt 14 (.take 15 .fin) .fin) .fin)) .fin) .fin) (.alt 10 (.alt 1 (.alt 11 (.take 12 (.alt 13 (.alt 14 (.take 15 .fin) .fin) .fin)) .fin) (.alt 11 (.alt 1 (.take 12 (.alt 13 (.alt 14 (.take 15 .fin) .fin) .fin)) .fin) .fin)) .fin)) (.alt 10 (.alt 1 (.alt 8 (.alt 11 (.take 12 (.alt 13 (.alt 14 (.take 15 .fin) .fin) .fin)) .fin) .fin) (.alt 8 (.alt 1 (.alt 11 (.take 12 (.alt 13 (.alt 14 (.take 15 .fin) .fin) .fin)) .fin) (.alt 11 (.alt 1 (.take 12 (.alt 13 (.alt 14 (.take 15 .fin) .fin) .fin)) .fin) .fin)) .fin)) .fin))) (.alt 10 (.alt 1 (.alt 7 (.alt 8 (.alt 11 (.take 12 (.alt 13 (.alt 14 (.take 15 .fin) .fin) .fin)) .fin) .fin) .fin) (.alt 7 (.alt 1 (.alt 8 (.alt 11 (.take 12 (.alt 13 (.alt 14 (.take 15 .fin) .fin) .fin)) .fin) .fin) (.alt 8 (.alt 1 (.alt 11 (.take 12 (.alt 13 (.alt 14 (.take 15 .fin) .fin) .fin)) .fin) (.alt 11 (.alt 1 (.take 12 (.alt 13 (.alt 14 (.take 15 .fin) .fin) .fin)) .fin) .fin)) .fin)) .fin)) .fin))) (.alt 7 (.alt 1 (.alt 2 (.alt 8 (.alt 10 (.alt 11 (.take 12 (.alt 13 (.alt 14 (.take 15 .fin) .fin) .fin)) .fin) .fin) (.alt 10 (.alt 8 (.alt 11 (.take 12 (.alt 13 (.alt 14 (.take 15 .fin) .fin) .fin)) .fin) .fin) .fin)) (.alt 10 (.alt 2 (.alt 8 (.alt 11 (.take 12 (.alt 13 (.alt 14 (.take 15 .fin) .fin) .fin)) .fin) .fin) .fin) .fin)) (.alt 2 (.alt 1 (.alt 8 (.alt 10 (.alt 11 (.take 12 (.alt 13 (.alt 14 (.take 15 .fin) .fin) .fin)) .fin) .fin) (.alt 10 (.alt 8 (.alt 11 (.take 12 (.alt 13 (.alt 14 (.take 15 .fin) .fin) .fin)) .fin) .fin) .fin)) (.alt 8 (.alt 1 (.alt 10 (.alt 11 (.take 12 (.alt 13 (.alt 14 (.take 15 .fin) .fin) .fin)) .fin) .fin) (.alt 10 (.alt 1 (.alt 11 (.take 12 (.alt 13 (.alt 14 (.take 15 .fin) .fin) .fin)) .fin) (.alt 11 (.alt 1 (.take 12 (.alt 13 (.alt 14 (.take 15 .fin) .fin) .fin)) .fin) .fin)) .fin)) (.alt 10 (.alt 1 (.alt 8 (.alt 11 (.take 12 (.alt 13 (.alt 14 (.take 15 .fin) .fin) .fin)) .fin) .fin) (.alt 8 (.alt 1 (.alt 11 (.take 12 (.alt 13 (.alt 14 (.take 15 .fin) .fin) .fin)) .fin) (.alt 11 (.alt 1 (.take 12 (.alt 13 (.alt 14 (.take 15 .fin) .fin) .fin)) .fin) .fin)) .fin)) .fin))) (.alt 10 (.alt 1 (.alt 2 (.alt 8 (.alt 11 (.take 12 (.alt 13 (.alt 14 (.take 15 .fin) .fin) .fin)) .fin) .fin) .fin) (.alt 2 (.alt 1 (.alt 8 (.alt 11 (.take 12 (.alt 13 (.alt 14 (.take 15 .fin) .fin) .fin)) .fin) .fin) (.alt 8 (.alt 1 (.alt 11 (.take 12 (.alt 13 (.alt 14 (.take 15 .fin) .fin) .fin)) .fin) (.alt 11 (.alt 1 (.take 12 (.alt 13 (.alt 14 (.take 15 .fin) .fin) .fin)) .fin) .fin)) .fin)) .fin)) .fin))) (.alt 10 (.alt 1 (.alt 2 (.alt 7 (.alt 8 (.alt 11 (.take 12 (.alt 13 (.alt 14 (.take 15 .fin) .fin) .fin)) .fin) .fin) .fin) (.alt 7 (.alt 2 (.alt 8 (.alt 11 (.take 12 (.alt 13 (.alt 14 (.take 15 .fin) .fin) .fin)) .fin) .fin) .fin) .fin)) (.alt 2 (.alt 1 (.alt 7 (.alt 8 (.alt 11 (.take 12 (.alt 13 (.alt 14 (.take 15 .fin) .fin) .fin)) .fin) .fin) .fin) (.alt 7 (.alt 1 (.alt 8 (.alt 11 (.take 12 (.alt 13 (.alt 14 (.take 15 .fin) .fin) .fin)) .fin) .fin) (.alt 8 (.alt 1 (.alt 11 (.take 12 (.alt 13 (.alt 14 (.take 15 .fin) .fin) .fin)) .fin) (.alt 11 (.alt 1 (.take 12 (.alt 13 (.alt 14 (.take 15 .fin) .fin) .fin)) .fin) .fin)) .fin)) .fin)) (.alt 7 (.alt 1 (.alt 2 (.alt 8 (.alt 11 (.take 12 (.alt 13 (.alt 14 (.take 15 .fin) .fin) .fin)) .fin) .fin) .fin) (.alt 2 (.alt 1 (.alt 8 (.alt 11 (.take 12 (.alt 13 (.alt 14 (.take 15 .fin) .fin) .fin)) .fin) .fin) (.alt 8 (.alt 1 (.alt 11 (.take 12 (.alt 13 (.alt 14 (.take 15 .fin) .fin) .fin)) .fin) (.alt 11 (.alt 1 (.take 12 (.alt 13 (.alt 14 (.take 15 .fin) .fin) .fin)) .fin) .fin)) .fin)) .fin)) .fin))) .fin)))))))))) | false => match Nat.beq id 8 with | true => some (.take 1 (.take 2 (.take 3 (.take 4 (.take 6 (.alt 0 (.alt 5 (.alt 7 (.take 8 (.take 9 (.take 10 (.alt 11 (.alt 12 (.take 13 .fin) .fin) .fin)))) (.alt 11 (.alt 7 (.take 8 (.take 9 (.take 10 (.alt 12 (.take 13 .fin) .fin)))) .fin) .fin)) (.alt 11 (.alt 5 (.alt 7 (.take 8 (.take 9 (.take 10 (.alt 12 (.take 13 .fin) .fin)))) .fin) .fin) .fin)) (.alt 5 (.alt 0 (.alt 7 (.take 8 (.take 9 (.take 10 (.alt 11 (.alt 12 (.take 13 .fin) .fin) .fin)))) (.alt 11 (.alt 7 (.take 8 (.take 9 (.take 10 (.alt 12 (.take 13 .fin) .fin)))) .fin) .fin)) (.alt 11 (.alt 0 (.alt 7 (.take 8 (.take 9 (.take 10 (.alt 12 (.take 13 .fin) .fin)))) .fin) .fin) .fin)) (.alt 11 (.alt 0 (.alt 5 (.alt 7 (.take 8 (.take 9 (.take 10 (.alt 12 (.take 13 .fin) .fin)))) .fin) .fin) (.alt 5 (.alt 0 (.alt 7 (.take 8 (.take 9 (.take 10 (.alt 12 (.take 13 .fin) .fin)))) .fin) .fin) .fin)) .fin)))))))) | false => none
noncomputable def aa7 : Env:={ jV.env aa1 [] false 0 with tree:=abk }
noncomputable def abg : Env:={ aa7 with cut:=fun t => Nat.beq t 2008 }
theorem aaJ : aL Tryz.prog Γ abg:=((aP aaQ bq.nil false 0).vU _).wy _
attribute [local irreducible] bM bw gC iv dr cy
theorem aaI : au.Ok Tryz.prog Γ 67 aaH:=sa (d:=0) aaJ (aj Tryz.func67 rfl rfl) (by
 intro n P L p K ⟨hw,hP,hl,hp,_⟩ hK
 simp only [aa.ae] at hw hP hl hp
 have w0 : [((p,0,false,[]) : Wy)] = cy [((p,0,false),[])]:=by unfold cy;rfl
 repeat' ((conv => whnf);first | apply And.intro | (intro h9;try (have h8 : (_ : Bool) = _:=h9;clear h8;revert h9;subst_vars;intro h9;exact aq h9 (by assumption))))
 all_goals try (conv => whnf)
 all_goals try first | (apply Tk.mk <;> kernel_rfl) | exact ⟨ah rfl⟩ | exact ⟨rfl⟩ | exact ⟨trivial⟩
 all_goals subst_vars
 all_goals try first | rfl | contradiction | (apply Ob.mk;first | (simp only [ag,ak,aa.ae];omega) | ((try simp only [aa.ae]);(try dsimp only);omega))
 refine ⟨Nat × List bR,fun x => x.1 <= x.2.length /\ da P L x.2 /\ ag5 L p = iv L (97 - x.1) x.1 x.2,fun x => ⟨aI 76 [2,5,6] [.a (.p 1 [] 0 0),.a (.sl 2 [] 0 x.2.length),.a (vI x.1)],[],[.arr 46 kW L false false,.box true [vI n,vI P,.sl 0 [] 0 L.length],.arr 109 kV (cy x.2) true true]⟩,fun x => 97 - x.1,(0,[((p,0,false),[])]),[],⟨Nat.zero_le _,da.one hp,rfl⟩,?_,?_⟩
 ·repeat' ((conv => whnf);(first | apply And.intro | intro _))
  all_goals first | rfl | trivial | exact ah rfl | exact aS ‹_› rfl | exact aT ‹_› rfl | ((repeat' first | rfl | constructor);done) | exact ⟨rfl,rfl,w0⟩
 rintro ⟨h,E⟩ ⟨hh,hE,hf⟩
 dsimp only at hh hE hf
 have Sa:=hE.Kg hP
 by_cases xU : h < E.length
 ·have p0 : decide ((h : Int) < (E.length : Int)) = true:=decide_eq_true (by omega)
  repeat' ((conv => whnf);first | apply And.intro | (intro h9;try (have h8 : (_ : Bool) = _:=h9;clear h8;revert h9;subst_vars;intro h9;exact aq h9 (by assumption))))
  all_goals try (conv => whnf)
  all_goals try first | (apply Tk.mk <;> kernel_rfl) | exact ⟨ah rfl⟩ | exact ⟨rfl⟩ | exact ⟨trivial⟩
  all_goals subst_vars
  all_goals try first | rfl | contradiction | (apply Ob.mk;first | (simp only [ag,ak,aa.ae];omega) | ((try simp only [aa.ae]);(try dsimp only);omega))
  refine ⟨Nat × List bR,fun y => y.1 <= 2 * L.length /\ da P L y.2 /\ h < y.2.length /\ gC L h (2 * L.length) E = gC L h y.1 y.2,fun y => ⟨aI 76 [2,5,6,7] [.a (.p 1 [] 0 0),.a (.sl 2 [] 0 y.2.length),.a (vI h),.a (vI ((L.length : Int) - (y.1 : Nat)))],[],[.arr 46 kW L false false,.box true [vI n,vI P,.sl 0 [] 0 L.length],.arr 109 kV (cy y.2) true true]⟩,fun y => y.1,(2 * L.length,E),[],⟨Nat.le_refl _,hE,xU,rfl⟩,?_,?_⟩
  ·repeat' ((conv => whnf);(first | apply And.intro | intro _))
   all_goals first | rfl | trivial | exact ah rfl | exact aS ‹_› rfl | exact aT ‹_› rfl | ((repeat' first | rfl | constructor);done) | exact QK L.length
  rintro ⟨k,E2⟩ ⟨hk,xP,s5,hr⟩
  dsimp only at hk xP s5 hr
  cases k with
  | zero =>
    have p1 : decide (((L.length : Int) - ((0 : Nat) : Int)) < (L.length : Int)) = false:=decide_eq_false (by omega)
    have c6:=hr.trans (JG L h E2)
    have jH : ag5 L p = iv L (97 - (h + 1)) (h + 1) E2:=by
     rw [hf,show 97 - h = (97 - (h + 1)) + 1 by omega,yB xU,c6]
    clear c6
    repeat' ((conv => whnf);first | apply And.intro | (intro h9;try (have h8 : (_ : Bool) = _:=h9;clear h8;revert h9;subst_vars;intro h9;exact aq h9 (by assumption))))
    all_goals try (conv => whnf)
    all_goals try first | (apply Tk.mk <;> kernel_rfl) | exact ⟨ah rfl⟩ | exact ⟨rfl⟩ | exact ⟨trivial⟩
    all_goals subst_vars
    all_goals try first | rfl | contradiction | (apply Ob.mk;first | (simp only [ag,ak,aa.ae];omega) | ((try simp only [aa.ae]);(try dsimp only);omega))
    refine ⟨(h + 1,E2),[],⟨s5,xP,jH⟩,?_,by show 97 - (h + 1) < 97 - h;omega⟩
    repeat' ((conv => whnf);(first | apply And.intro | intro _))
    all_goals first | rfl | trivial | exact ah rfl | exact aS ‹_› rfl | exact aT ‹_› rfl | ((repeat' first | rfl | constructor);done)
  | succ k =>
    have p1 : decide (((L.length : Int) - ((k + 1 : Nat) : Int)) < (L.length : Int)) = true:=decide_eq_true (by omega)
    have hs : -(L.length : Int) <= ((L.length : Int) - ((k + 1 : Nat) : Int)) /\ ((L.length : Int) - ((k + 1 : Nat) : Int)) < (L.length : Int):=by omega
    have ea:=vz s5
    have hc:=(xP.at s5).2
    have R4:=xP.Kg hP
    have el:=I3 E2
    have e1 : (cf E2 h).1 = (E2.getD h aG).1.1:=by rw [ea];rfl
    have e2 : (cf E2 h).2.1 = (E2.getD h aG).1.2.1:=by rw [ea];rfl
    have e3 : (cf E2 h).2.2.1 = (E2.getD h aG).1.2.2:=by rw [ea];rfl
    have e4 : (cf E2 h).2.2.2 = (E2.getD h aG).2:=by rw [ea];rfl
    have xS : 0 <= (cf E2 h).2.1 /\ (cf E2 h).2.1 <= 7:=by rw [e2];exact hc
    have eX : (((cf E2 h).1,(cf E2 h).2.1,(cf E2 h).2.2.1) : Sp) = (E2.getD h aG).1:=by rw [ea];rfl
    have gN : bw L ((cf E2 h).1,(cf E2 h).2.1,(cf E2 h).2.2.1) ((L.length : Int) - ((k + 1 : Nat) : Int)) = (bw L (E2.getD h aG).1 ((L.length : Int) - ((k + 1 : Nat) : Int))):=by rw [eX]
    have gF : bM L ((cf E2 h).1,(cf E2 h).2.1,(cf E2 h).2.2.1) ((L.length : Int) - ((k + 1 : Nat) : Int)) = (bM L (E2.getD h aG).1 ((L.length : Int) - ((k + 1 : Nat) : Int))):=by rw [eX]
    have abp:=congrArg (fun x : Sp => x.1) gN
    have abq:=congrArg (fun x : Sp => x.2.1) gN
    have abr:=congrArg (fun x : Sp => x.2.2) gN
    repeat' ((conv => whnf);first | apply And.intro | (intro h9;try (have h8 : (_ : Bool) = _:=h9;clear h8;revert h9;subst_vars;intro h9;exact aq h9 (by assumption))))
    all_goals try (conv => whnf)
    all_goals try first | (apply Tk.mk <;> kernel_rfl) | exact ⟨ah rfl⟩ | exact ⟨rfl⟩ | exact ⟨trivial⟩
    all_goals subst_vars
    all_goals try first | rfl | contradiction | (apply Ob.mk;first | (simp only [ag,ak,aa.ae];omega) | ((try simp only [aa.ae]);(try dsimp only);omega))
    refine ⟨Unit,fun _ => True,fun _ => ⟨aI 76 [2,5,6,7,8,9] [.a (.p 1 [] 0 0),.a (.sl 2 [] 0 E2.length),.a (vI h),.a (vI ((L.length : Int) - ((k + 1 : Nat) : Int))),.a (.p 3 [] 0 0),.a (.v (.bool (bM L (E2.getD h aG).1 ((L.length : Int) - ((k + 1 : Nat) : Int)))))],[],[.arr 46 kW L false false,.box true [vI n,vI P,.sl 0 [] 0 L.length],.arr 109 kV (cy E2) true true,.box true [vI (bw L (E2.getD h aG).1 ((L.length : Int) - ((k + 1 : Nat) : Int))).1,vI (bw L (E2.getD h aG).1 ((L.length : Int) - ((k + 1 : Nat) : Int))).2.1,.v (.bool (bw L (E2.getD h aG).1 ((L.length : Int) - ((k + 1 : Nat) : Int))).2.2)]]⟩,?_,?_⟩
    ·repeat' ((conv => whnf);first | apply And.intro | (intro h9;try (have h8 : (_ : Bool) = _:=h9;clear h8;revert h9;subst_vars;intro h9;exact aq h9 (by assumption))))
     all_goals try (conv => whnf)
     all_goals try first | (apply Tk.mk <;> kernel_rfl) | exact ⟨ah rfl⟩ | exact ⟨rfl⟩ | exact ⟨trivial⟩
     all_goals subst_vars
     all_goals try first | rfl | contradiction | (apply Ob.mk;first | (simp only [ag,ak,aa.ae];omega) | ((try simp only [aa.ae]);(try dsimp only);omega))
     all_goals try first
      | exact True.intro
      | exact ⟨hw⟩
      | exact ⟨hl⟩
      | exact ⟨hs⟩
      | exact ⟨show 0 + Int.toNat (h : Int) < (cy E2).length by omega⟩
     all_goals
      refine ⟨(),[],trivial,?_⟩
      repeat' ((conv => whnf);(first | apply And.intro | intro _))
      all_goals first | rfl | trivial | exact ah rfl | exact aS ‹_› rfl | exact aT ‹_› rfl | ((repeat' first | rfl | constructor);done) | exact abp | exact abq | exact abr | exact gF
    clear gN abp abq abr gF
    rintro ⟨⟩ -
    repeat' ((conv => whnf);first | apply And.intro | (intro h9;try (have h8 : (_ : Bool) = _:=h9;clear h8;revert h9;subst_vars;intro h9;exact aq h9 (by assumption))))
    all_goals try (conv => whnf)
    all_goals try first | (apply Tk.mk <;> kernel_rfl) | exact ⟨ah rfl⟩ | exact ⟨rfl⟩ | exact ⟨trivial⟩
    all_goals subst_vars
    all_goals try first | rfl | contradiction | (apply Ob.mk;first | (simp only [ag,ak,aa.ae];omega) | ((try simp only [aa.ae]);(try dsimp only);omega))
    refine ⟨Nat,fun i => i <= E2.length,fun i => ⟨aI 76 [2,5,6,7,8,9,10] [.a (.p 1 [] 0 0),.a (.sl 2 [] 0 E2.length),.a (vI h),.a (vI ((L.length : Int) - ((k + 1 : Nat) : Int))),.a (.p 3 [] 0 0),.a (.v (.bool (dr E2 (bw L (E2.getD h aG).1 ((L.length : Int) - ((k + 1 : Nat) : Int))) (bM L (E2.getD h aG).1 ((L.length : Int) - ((k + 1 : Nat) : Int))) i))),.a (vI i)],[],[.arr 46 kW L false false,.box true [vI n,vI P,.sl 0 [] 0 L.length],.arr 109 kV (cy E2) true true,.box true [vI (bw L (E2.getD h aG).1 ((L.length : Int) - ((k + 1 : Nat) : Int))).1,vI (bw L (E2.getD h aG).1 ((L.length : Int) - ((k + 1 : Nat) : Int))).2.1,.v (.bool (bw L (E2.getD h aG).1 ((L.length : Int) - ((k + 1 : Nat) : Int))).2.2)]]⟩,fun i => E2.length - i,0,[],Nat.zero_le _,?_,?_⟩
    ·have o0 : dr E2 (bw L (E2.getD h aG).1 ((L.length : Int) - ((k + 1 : Nat) : Int))) (bM L (E2.getD h aG).1 ((L.length : Int) - ((k + 1 : Nat) : Int))) 0 = (bM L (E2.getD h aG).1 ((L.length : Int) - ((k + 1 : Nat) : Int))):=by unfold dr;rfl
     repeat' ((conv => whnf);(first | apply And.intro | intro _))
     all_goals first | rfl | trivial | exact ah rfl | exact aS ‹_› rfl | exact aT ‹_› rfl | ((repeat' first | rfl | constructor);done) | exact o0.symm
    rintro i hi
    by_cases hi1 : i < E2.length
    ·have p2 : decide ((i : Int) < (E2.length : Int)) = true:=decide_eq_true (by omega)
     have ot : dr E2 (bw L (E2.getD h aG).1 ((L.length : Int) - ((k + 1 : Nat) : Int))) (bM L (E2.getD h aG).1 ((L.length : Int) - ((k + 1 : Nat) : Int))) i = true -> (!((cf E2 i).1 == (bw L (E2.getD h aG).1 ((L.length : Int) - ((k + 1 : Nat) : Int))).1 && ((cf E2 i).2.1 == (bw L (E2.getD h aG).1 ((L.length : Int) - ((k + 1 : Nat) : Int))).2.1 && ((cf E2 i).2.2.1 == (bw L (E2.getD h aG).1 ((L.length : Int) - ((k + 1 : Nat) : Int))).2.2 && true)))) = dr E2 (bw L (E2.getD h aG).1 ((L.length : Int) - ((k + 1 : Nat) : Int))) (bM L (E2.getD h aG).1 ((L.length : Int) - ((k + 1 : Nat) : Int))) (i + 1):=fun h => by rw [agS,h]
     have of : dr E2 (bw L (E2.getD h aG).1 ((L.length : Int) - ((k + 1 : Nat) : Int))) (bM L (E2.getD h aG).1 ((L.length : Int) - ((k + 1 : Nat) : Int))) i = false -> false = dr E2 (bw L (E2.getD h aG).1 ((L.length : Int) - ((k + 1 : Nat) : Int))) (bM L (E2.getD h aG).1 ((L.length : Int) - ((k + 1 : Nat) : Int))) (i + 1):=fun h => by rw [agS,h]
     repeat' ((conv => whnf);first | apply And.intro | (intro h9;try (have h8 : (_ : Bool) = _:=h9;clear h8;revert h9;subst_vars;intro h9;exact aq h9 (by assumption))))
     all_goals try (conv => whnf)
     all_goals try first | (apply Tk.mk <;> kernel_rfl) | exact ⟨ah rfl⟩ | exact ⟨rfl⟩ | exact ⟨trivial⟩
     all_goals subst_vars
     all_goals try first | rfl | contradiction | (apply Ob.mk;first | (simp only [ag,ak,aa.ae];omega) | ((try simp only [aa.ae]);(try dsimp only);omega))
     all_goals try first
      | exact ⟨show 0 + Int.toNat (i : Int) < (cy E2).length by omega⟩
     all_goals
      refine ⟨i + 1,[],hi1,?_,by show E2.length - (i + 1) < E2.length - i;omega⟩
      repeat' ((conv => whnf);(first | apply And.intro | intro _))
      all_goals first | rfl | trivial | exact ah rfl | exact aS ‹_› rfl | exact aT ‹_› rfl | ((repeat' first | rfl | constructor);done) | exact ot (by assumption) | exact of (by assumption) | exact (of (by assumption)).symm
    have p2 : decide ((i : Int) < (E2.length : Int)) = false:=decide_eq_false (by omega)
    obtain rfl : i = E2.length:=by omega
    clear hi hi1
    obtain o1 | o1 : dr E2 (bw L (E2.getD h aG).1 ((L.length : Int) - ((k + 1 : Nat) : Int))) (bM L (E2.getD h aG).1 ((L.length : Int) - ((k + 1 : Nat) : Int))) E2.length = false \/ dr E2 (bw L (E2.getD h aG).1 ((L.length : Int) - ((k + 1 : Nat) : Int))) (bM L (E2.getD h aG).1 ((L.length : Int) - ((k + 1 : Nat) : Int))) E2.length = true:=by cases dr E2 (bw L (E2.getD h aG).1 ((L.length : Int) - ((k + 1 : Nat) : Int))) (bM L (E2.getD h aG).1 ((L.length : Int) - ((k + 1 : Nat) : Int))) E2.length <;> simp
    ·have c6:=(hr.trans (tX ..)).trans (congrArg (gC L h k) (add_not o1))
     repeat' ((conv => whnf);first | apply And.intro | (intro h9;try (have h8 : (_ : Bool) = _:=h9;clear h8;revert h9;subst_vars;intro h9;exact aq h9 (by assumption))))
     all_goals try (conv => whnf)
     all_goals try first | (apply Tk.mk <;> kernel_rfl) | exact ⟨ah rfl⟩ | exact ⟨rfl⟩ | exact ⟨trivial⟩
     all_goals subst_vars
     all_goals try first | rfl | contradiction | (apply Ob.mk;first | (simp only [ag,ak,aa.ae];omega) | ((try simp only [aa.ae]);(try dsimp only);omega))
     refine ⟨(k,E2),[],⟨Nat.le_of_succ_le hk,xP,s5,c6⟩,?_,Nat.lt_succ_self k⟩
     repeat' ((conv => whnf);(first | apply And.intro | intro _))
     all_goals first | rfl | trivial | exact ah rfl | exact aS ‹_› rfl | exact aT ‹_› rfl | ((repeat' first | rfl | constructor);done) | exact sub_succ L.length k
    obtain ⟨o2,o3⟩:=abe o1
    have c6:=(hr.trans (tX ..)).trans (congrArg (gC L h k) (me o2 o3))
    have hvl : (cf E2 h).2.2.2.length <= 96:=by rw [e4];have:=xP.len h s5;omega
    have PS:=aaZ E2 ((bw L (E2.getD h aG).1 ((L.length : Int) - ((k + 1 : Nat) : Int))),(E2.getD h aG).2 ++ [((L.length : Int) - ((k + 1 : Nat) : Int))])
    have abu : List.drop 0 (cy E2) ++ [(((bw L (E2.getD h aG).1 ((L.length : Int) - ((k + 1 : Nat) : Int))).1,(bw L (E2.getD h aG).1 ((L.length : Int) - ((k + 1 : Nat) : Int))).2.1,(bw L (E2.getD h aG).1 ((L.length : Int) - ((k + 1 : Nat) : Int))).2.2,List.drop 0 (List.take (cf E2 h).2.2.2.length (List.drop 0 (cf E2 h).2.2.2)) ++ List.take 1 (List.drop 0 [((L.length : Int) - ((k + 1 : Nat) : Int))])) : Wy)] = cy (E2 ++ [((bw L (E2.getD h aG).1 ((L.length : Int) - ((k + 1 : Nat) : Int))),(E2.getD h aG).2 ++ [((L.length : Int) - ((k + 1 : Nat) : Int))])]):=by
     rw [PS,List.drop_zero,List.drop_zero,List.drop_zero,List.drop_zero,List.take_length,e4];rfl
    have dZ : E2.length + 1 = (E2 ++ [((bw L (E2.getD h aG).1 ((L.length : Int) - ((k + 1 : Nat) : Int))),(E2.getD h aG).2 ++ [((L.length : Int) - ((k + 1 : Nat) : Int))])]).length:=aaW _ _
    repeat' ((conv => whnf);first | apply And.intro | (intro h9;try (have h8 : (_ : Bool) = _:=h9;clear h8;revert h9;subst_vars;intro h9;exact aq h9 (by assumption))))
    all_goals try (conv => whnf)
    all_goals try first | (apply Tk.mk <;> kernel_rfl) | exact ⟨ah rfl⟩ | exact ⟨rfl⟩ | exact ⟨trivial⟩
    all_goals subst_vars
    all_goals try first | rfl | contradiction | (apply Ob.mk;first | (simp only [ag,ak,aa.ae];omega) | ((try simp only [aa.ae]);(try dsimp only);omega))
    all_goals try first
     | exact True.intro
     | exact ⟨show 0 + E2.length = (cy E2).length by omega⟩
     | exact ⟨show (E2.length + 1) * 4 <= 1099511627776 by omega⟩
     | exact ⟨show (cf E2 h).2.2.2.length + 1 = (List.drop 0 (List.take (cf E2 h).2.2.2.length (List.drop 0 (cf E2 h).2.2.2)) ++ List.take 1 (List.drop 0 [((L.length : Int) - ((k + 1 : Nat) : Int))])).length by simp⟩
     | exact ⟨show (cf E2 h).2.2.2.length * 1 <= 1099511627776 by omega⟩
     | exact ⟨show ((cf E2 h).2.2.2.length + 1) * 1 <= 1099511627776 by omega⟩
     | exact ⟨show 0 + (cf E2 h).2.2.2.length = (List.take (cf E2 h).2.2.2.length (List.drop 0 (cf E2 h).2.2.2)).length by simp⟩
     | exact ⟨show 0 + Int.toNat (h : Int) < (cy E2).length by omega⟩
    all_goals
     refine ⟨(k,E2 ++ [((bw L (E2.getD h aG).1 ((L.length : Int) - ((k + 1 : Nat) : Int))),(E2.getD h aG).2 ++ [((L.length : Int) - ((k + 1 : Nat) : Int))])]),[0,1,2],⟨Nat.le_of_succ_le hk,xP.snoc (cW.1 hw) s5 hs o3,by show h < (E2 ++ _).length;rw [List.length_append];omega,c6⟩,?_,Nat.lt_succ_self k⟩
     repeat' ((conv => whnf);(first | apply And.intro | intro _))
     all_goals first | rfl | trivial | exact ah rfl | exact aS ‹_› rfl | exact aT ‹_› rfl | ((repeat' first | rfl | constructor);done) | exact sub_succ L.length k | exact dZ | exact ⟨rfl,rfl,abu⟩
 have p0 : decide ((h : Int) < (E.length : Int)) = false:=decide_eq_false (by omega)
 rw [hf.trans (Cc (by omega))] at hK
 repeat' ((conv => whnf);first | apply And.intro | (intro h9;try (have h8 : (_ : Bool) = _:=h9;clear h8;revert h9;subst_vars;intro h9;exact aq h9 (by assumption))))
 all_goals try (conv => whnf)
 all_goals try first | (apply Tk.mk <;> kernel_rfl) | exact ⟨ah rfl⟩ | exact ⟨rfl⟩ | exact ⟨trivial⟩
 all_goals subst_vars
 all_goals try first | rfl | contradiction | (apply Ob.mk;first | (simp only [ag,ak,aa.ae];omega) | ((try simp only [aa.ae]);(try dsimp only);omega))
 refine bu.base ⟨_,[2],hK,⟨rfl,rfl,by simp,trivial⟩,rfl,?_⟩
 repeat' ((conv => whnf);(first | apply And.intro | intro _))
 all_goals first | rfl | trivial)
end Go.Proofs.YthejmgnkenokpaaGreatDoor
end
section
namespace Go.Proofs.YthejmgnkenokpaaGreatDoor
open Go Go.Sy Go.bK
variable {Γ : bn}
def aa4 (D : Int -> List Sg -> List aa) (R : Int -> List Sg -> cM) : au:=.new fun args rg K => match args with
 | [.a (.v (.int .i64 n0)),.a x0] => (match ac1 48 kG rg x0 with | some (q0,L0) => bk false (q0 ++ (D n0 L0)) (K (R n0 L0)) | _ => False)
 | _ => False
theorem aaV {f : FuncId} {b : Body} {E : Env} {d : Nat} (hP : aL Tryz.prog Γ E) (hb : bQ Tryz.prog f b) {D : Int -> List Sg -> List aa} {R : Int -> List Sg -> cM}
  (H : ∀ (n0 : Int) (L0 : List Sg) (K : cM -> Prop),bW (D n0 L0) -> K (R n0 L0) -> cQ E d b [.a (vI n0),.a (.sl 0 [] 0 L0.length)] [.arr 48 kG L0 false false] (bu K)) : au.Ok Tryz.prog Γ f (aa4 D R):=au.fM (d:=d) hP hb (by
 intro args rg K hF
 split at hF
 next n0 x0 =>
  split at hF
  next q0 L0 hx0 =>
   rw [aV,aH] at hF
   obtain ⟨⟨dm,hD⟩,hK⟩:=hF
   obtain ⟨e0,Vn⟩:=bP (by simp [kG]) hx0 dm
   obtain ⟨p0,r0⟩:=Vn [e0] 0 1 rfl (by omega)
   refine ⟨[e0],[.a (vI n0),.a (.sl 0 [] 0 L0.length)],[.arr 48 kG L0 false false],⟨⟨rfl,p0,trivial⟩,fun r g hg => ?_⟩,bu K,H _ _ K hD hK,fun x st h => h⟩
   match r,hg with
   | 0,hg => obtain rfl:=Option.some.inj hg;exact r0
  next => exact hF.elim
 next => exact hF.elim)
def cI (n : Int) (G : List Sg) (x : Nat) : List Int:=(List.range x).map fun y => aK n G (y : Nat)
def cN (n : Int) (G : List Sg) (x : Nat) : List Int:=(List.range x).map fun y => fO n G (y : Nat)
theorem aaX (n : Int) (G : List Sg) (x : Nat) : cI n G (x + 1) = cI n G x ++ [aK n G (x : Nat)]:=by unfold cI;rw [List.range_succ,List.map_append];rfl
theorem aa0 (n : Int) (G : List Sg) (x : Nat) : cN n G (x + 1) = cN n G x ++ [fO n G (x : Nat)]:=by unfold cN;rw [List.range_succ,List.map_append];rfl
theorem tx (n : Int) (G : List Sg) (x : Nat) : (cI n G x).length = x:=by simp [cI]
theorem u5 (n : Int) (G : List Sg) (x : Nat) : (cN n G x).length = x:=by simp [cN]
def dl (n : Int) (G : List Sg) (x : Int) : Nat -> Bool
 | 0 => false
 | i + 1 => dl n G x i || (aX n (sg G i).1 x == x && (sg G i).2)
def ef (n : Int) (G : List Sg) (x : Int) : Nat -> Int
 | 0 => -1
 | j + 1 => match aX n (sg G j).1 (aK n G x) == x && !(sg G j).2 with | true => 1 | false => ef n G x j
theorem I1 {n : Int} {G : List Sg} {x : Int} : ∀ k,dl n G x k = true <-> ∃ i,i < k /\ aX n (sg G i).1 x = x /\ (sg G i).2 = true
 | 0 => by
   refine ⟨fun h => (by cases h),?_⟩
   rintro ⟨i,hi,_⟩
   exact absurd hi (Nat.not_lt_zero _)
 | k + 1 => by
   rw [dl,Bool.or_eq_true,I1 k,Bool.and_eq_true,beq_iff_eq]
   constructor
   ·rintro (⟨i,hi,h⟩ | h)
    ·exact ⟨i,by omega,h⟩
    ·exact ⟨k,by omega,h⟩
   ·rintro ⟨i,hi,h⟩
    rcases Nat.lt_or_ge i k with h1 | h1
    ·exact .inl ⟨i,h1,h⟩
    ·obtain rfl : i = k:=by omega
     exact .inr h
theorem aa9 (n : Int) (G : List Sg) (x : Int) : dl n G x G.length = eV n G x:=by
 rw [Bool.eq_iff_iff,I1,kw]
 constructor
 ·rintro ⟨i,hi,h1,h2⟩;exact ⟨_,aaq hi,h2,h1⟩
 ·rintro ⟨g,hg,h1,h2⟩
  obtain ⟨i,hi,rfl⟩:=vO hg
  exact ⟨i,hi,h2,h1⟩
theorem aaO {n : Int} {G : List Sg} {x : Int} : ∀ k,ef n G x k = if ∃ i,i < k /\ aX n (sg G i).1 (aK n G x) = x /\ (sg G i).2 = false then 1 else -1
 | 0 => by
   rw [ef,if_neg]
   rintro ⟨i,hi,_⟩
   exact absurd hi (Nat.not_lt_zero _)
 | k + 1 => by
   rw [ef]
   cases hb : (aX n (sg G k).1 (aK n G x) == x && !(sg G k).2) <;> dsimp only
   ·rw [aaO k]
    by_cases h : ∃ i,i < k /\ aX n (sg G i).1 (aK n G x) = x /\ (sg G i).2 = false
    ·rw [if_pos h,if_pos]
     obtain ⟨i,hi,h⟩:=h
     exact ⟨i,by omega,h⟩
    ·rw [if_neg h,if_neg]
     rintro ⟨i,hi,h1,h2⟩
     rcases Nat.lt_or_ge i k with h3 | h3
     ·exact h ⟨i,h3,h1,h2⟩
     ·obtain rfl : i = k:=by omega
      rw [h1,h2] at hb;simp at hb
   ·rw [if_pos]
    simp only [Bool.and_eq_true,beq_iff_eq,Bool.not_eq_true'] at hb
    exact ⟨k,by omega,hb⟩
theorem aba (n : Int) (G : List Sg) (x : Int) : (if dl n G x G.length = true then 0 else ef n G x G.length) = fO n G x:=by
 rw [aa9,aaO]
 unfold fO
 cases hp : eV n G x
 ·rw [if_neg (by simp)]
  dsimp only
  by_cases h : ∃ i,i < G.length /\ aX n (sg G i).1 (aK n G x) = x /\ (sg G i).2 = false
  ·rw [if_pos h]
   obtain ⟨i,hi,h1,h2⟩:=h
   rw [tL.2 ⟨_,aaq hi,h2,h1⟩]
  ·rw [if_neg h]
   cases hk : q7 n G x
   ·rfl
   ·obtain ⟨g,hg,h1,h2⟩:=tL.1 hk
    obtain ⟨i,hi,rfl⟩:=vO hg
    exact absurd ⟨i,hi,h2,h1⟩ h
 ·rw [if_pos rfl]
theorem nn (n : Int) (G : List Sg) (x : Int) (i : Nat) : dl n G x (i + 1) = (dl n G x i || (aX n (sg G i).1 x == x && (sg G i).2)):=rfl
theorem ac0 (n : Int) (G : List Sg) (x : Int) (j : Nat) : ef n G x (j + 1) = match aX n (sg G j).1 (aK n G x) == x && !(sg G j).2 with | true => 1 | false => ef n G x j:=rfl
theorem u7 (n : Int) (G : List Sg) (x : Int) (k : Nat) : cU n G x (k + 1) = if oP n G k x < cU n G x k then oP n G k x else cU n G x k:=rfl
theorem vm (n : Int) (G : List Sg) (x : Int) : dl n G x 0 = false:=rfl
theorem wl (n : Int) (G : List Sg) (x : Int) : ef n G x 0 = -1:=rfl
theorem u6 {n : Int} {G : List Sg} (hn : bz n) (hg : ∀ g ∈ G,0 <= g.1 /\ g.1 <= 7) {x : Int} (hx : aM n x) : ∀ k,k <= G.length -> aM n (cU n G x k)
 | 0,_ => hx
 | k + 1,hk => by
   rw [u7]
   split
   ·exact ng hn (hg _ (aaq hk)) hx
   ·exact u6 hn hg hx k (by omega)
def ei : au:=aa4 (fun n G => [(aa.of (1 <= n /\ n <= 6)),(aa.of (G.length <= 1000000)),(aa.of (∀ g ∈ G,0 <= g.1 /\ g.1 <= 7))]) (fun n G => ⟨[.arr 3 kI (cI n G (n * n).toNat) true true,.arr 3 kI (cN n G (n * n).toNat) true true],.agg [.sl 0 [] 0 (cI n G (n * n).toNat).length,.sl 1 [] 0 (cN n G (n * n).toNat).length]⟩)
noncomputable def w5 : List (Nat × au):=[(63,nQ)]
theorem r4 : aR Tryz.prog Γ w5:=(aR.nil.cons (aj Tryz.func63 rfl rfl).fn Z2)
attribute [local irreducible] cI cN dl ef cU aX fO
theorem acE : au.Ok Tryz.prog Γ 57 ei:=aaV (d:=0) (aP r4 bq.nil false 0) (aj Tryz.func57 rfl rfl) (by
 intro n G K ⟨hn,hG,hg,_⟩ hK
 simp only [aa.ae] at hn hG hg
 have j4 : 1 <= n * n /\ n * n <= 36:=sJ hn
 have l0 : cI n G 0 = []:=by unfold cI;rfl
 have w0 : cN n G 0 = []:=by unfold cN;rfl
 repeat' ((conv => whnf);first | apply And.intro | (intro h9;try (have h8 : (_ : Bool) = _:=h9;clear h8;revert h9;subst_vars;intro h9;exact aq h9 (by assumption))))
 all_goals try (conv => whnf)
 all_goals try first | (apply Tk.mk <;> kernel_rfl) | exact ⟨ah rfl⟩ | exact ⟨rfl⟩ | exact ⟨trivial⟩
 all_goals subst_vars
 all_goals try first | rfl | contradiction | (apply Ob.mk;first | (simp only [ag,ak,aa.ae];omega) | ((try simp only [aa.ae]);(try dsimp only);omega))
 refine ⟨Nat,fun x => x <= (n * n).toNat,fun x => ⟨aI 89 [0,1,4,5,6] [.a (vI n),.a (.sl 0 [] 0 G.length),.a (.p 1 [] 0 0),.a (.p 2 [] 0 0),.a (vI x)],[],[.arr 48 kG G false false,.box true [.any,.any],.box true [.sl 3 [] 0 (cI n G x).length,.sl 4 [] 0 (cN n G x).length],.arr 3 kI (cI n G x) true true,.arr 3 kI (cN n G x) true true]⟩,fun x => (n * n).toNat - x,0,[0,1,2,1000,1001],Nat.zero_le _,?_,?_⟩
 ·repeat' ((conv => whnf);(first | apply And.intro | intro _))
  all_goals first | rfl | trivial | exact ah rfl | exact aS ‹_› rfl | exact aT ‹_› rfl | ((repeat' first | rfl | constructor);done) | exact l0 | exact w0 | (rw [l0];rfl) | (rw [w0];rfl)
 rintro x hx
 have Np:=tx n G x
 have aby:=u5 n G x
 by_cases cO : x < (n * n).toNat
 ·have p0 : decide ((x : Int) < n * n) = true:=decide_eq_true (by omega)
  have gR : aM n (x : Int):=⟨by omega,by omega⟩
  have cq : 0 <= (x : Int) /\ (x : Int) < n * n:=gR
  repeat' ((conv => whnf);first | apply And.intro | (intro h9;try (have h8 : (_ : Bool) = _:=h9;clear h8;revert h9;subst_vars;intro h9;exact aq h9 (by assumption))))
  all_goals try (conv => whnf)
  all_goals try first | (apply Tk.mk <;> kernel_rfl) | exact ⟨ah rfl⟩ | exact ⟨rfl⟩ | exact ⟨trivial⟩
  all_goals subst_vars
  all_goals try first | rfl | contradiction | (apply Ob.mk;first | (simp only [ag,ak,aa.ae];omega) | ((try simp only [aa.ae]);(try dsimp only);omega))
  refine ⟨Nat,fun i => i <= G.length,fun i => ⟨aI 89 [0,1,4,5,6,7,8,9] [.a (vI n),.a (.sl 0 [] 0 G.length),.a (.p 1 [] 0 0),.a (.p 2 [] 0 0),.a (vI x),.a (vI (cU n G x i)),.a (.v (.bool (dl n G x i))),.a (vI i)],[],[.arr 48 kG G false false,.box true [.any,.any],.box true [.sl 3 [] 0 (cI n G x).length,.sl 4 [] 0 (cN n G x).length],.arr 3 kI (cI n G x) true true,.arr 3 kI (cN n G x) true true]⟩,fun i => G.length - i,0,[],Nat.zero_le _,?_,?_⟩
  ·repeat' ((conv => whnf);(first | apply And.intro | intro _))
   all_goals first | rfl | trivial | exact ah rfl | exact aS ‹_› rfl | exact aT ‹_› rfl | ((repeat' first | rfl | constructor);done) | exact (vm n G x).symm | exact vm n G x | (unfold cU;rfl)
  rintro i hi
  by_cases hi1 : i < G.length
  ·have p1 : decide ((i : Int) < (G.length : Int)) = true:=decide_eq_true (by omega)
   have es:=rL G i
   have dI : 0 <= (bI G i).1 /\ (bI G i).1 <= 7:=by rw [es];exact hg _ (aaq hi1)
   have hls : (if aX n (bI G i).1 x < cU n G x i then aX n (bI G i).1 x else cU n G x i) = cU n G x (i + 1):=by rw [u7,es];rfl
   have hpt : dl n G x i = true -> true = dl n G x (i + 1):=fun h => by rw [nn,h];rfl
   have hpf : dl n G x i = false -> (aX n (bI G i).1 x == (x : Int)) = false -> false = dl n G x (i + 1):=fun h h2 => by rw [nn,h,<- es,h2];rfl
   have abx : dl n G x i = false -> (aX n (bI G i).1 x == (x : Int)) = true -> (bI G i).2 = dl n G x (i + 1):=fun h h2 => by rw [nn,h,<- es,h2];rfl
   repeat' ((conv => whnf);first | apply And.intro | (intro h9;try (have h8 : (_ : Bool) = _:=h9;clear h8;revert h9;subst_vars;intro h9;exact aq h9 (by assumption))))
   all_goals try (conv => whnf)
   all_goals try first | (apply Tk.mk <;> kernel_rfl) | exact ⟨ah rfl⟩ | exact ⟨rfl⟩ | exact ⟨trivial⟩
   all_goals subst_vars
   all_goals try first | rfl | contradiction | (apply Ob.mk;first | (simp only [ag,ak,aa.ae];omega) | ((try simp only [aa.ae]);(try dsimp only);omega))
   all_goals try first
    | exact ⟨show 0 + Int.toNat (i : Int) < G.length by omega⟩
   all_goals
    refine ⟨i + 1,[],hi1,?_,by show G.length - (i + 1) < G.length - i;omega⟩
    repeat' ((conv => whnf);(first | apply And.intro | intro _))
    all_goals first | rfl | trivial | exact ah rfl | exact aS ‹_› rfl | exact aT ‹_› rfl | ((repeat' first | rfl | constructor);done) | exact hls | exact hpt (by assumption) | exact (hpt (by assumption)).symm | exact hpf (by assumption) (by assumption) | exact (hpf (by assumption) (by assumption)).symm | exact abx (by assumption) (by assumption)
  have p1 : decide ((i : Int) < (G.length : Int)) = false:=decide_eq_false (by omega)
  obtain rfl : i = G.length:=by omega
  clear hi hi1
  repeat' ((conv => whnf);first | apply And.intro | (intro h9;try (have h8 : (_ : Bool) = _:=h9;clear h8;revert h9;subst_vars;intro h9;exact aq h9 (by assumption))))
  all_goals try (conv => whnf)
  all_goals try first | (apply Tk.mk <;> kernel_rfl) | exact ⟨ah rfl⟩ | exact ⟨rfl⟩ | exact ⟨trivial⟩
  all_goals subst_vars
  all_goals try first | rfl | contradiction | (apply Ob.mk;first | (simp only [ag,ak,aa.ae];omega) | ((try simp only [aa.ae]);(try dsimp only);omega))
  refine ⟨Nat,fun j => j <= G.length,fun j => ⟨aI 89 [0,1,4,5,6,7,8,11,12] [.a (vI n),.a (.sl 0 [] 0 G.length),.a (.p 1 [] 0 0),.a (.p 2 [] 0 0),.a (vI x),.a (vI (cU n G x G.length)),.a (.v (.bool (dl n G x G.length))),.a (vI (ef n G x j)),.a (vI j)],[],[.arr 48 kG G false false,.box true [.any,.any],.box true [.sl 3 [] 0 (cI n G x).length,.sl 4 [] 0 (cN n G x).length],.arr 3 kI (cI n G x) true true,.arr 3 kI (cN n G x) true true]⟩,fun j => G.length - j,0,[],Nat.zero_le _,?_,?_⟩
  ·repeat' ((conv => whnf);(first | apply And.intro | intro _))
   all_goals first | rfl | trivial | exact ah rfl | exact aS ‹_› rfl | exact aT ‹_› rfl | ((repeat' first | rfl | constructor);done) | exact (wl n G x).symm | exact wl n G x
  clear p1
  rintro j hj
  by_cases Ho : j < G.length
  ·have p1 : decide ((j : Int) < (G.length : Int)) = true:=decide_eq_true (by omega)
   have es:=rL G j
   have dI : 0 <= (bI G j).1 /\ (bI G j).1 <= 7:=by rw [es];exact hg _ (aaq Ho)
   have AF:=u6 hn hg gR G.length (Nat.le_refl _)
   have Sq : 0 <= cU n G x G.length /\ cU n G x G.length < n * n:=AF
   have abh : aK n G x = cU n G x G.length:=rfl
   have mL : (aX n (bI G j).1 (cU n G x G.length) == (x : Int)) = false -> ef n G x j = ef n G x (j + 1):=fun h => by rw [ac0,abh,<- es,h];rfl
   have lS : (aX n (bI G j).1 (cU n G x G.length) == (x : Int)) = true -> (!(bI G j).2) = false -> ef n G x j = ef n G x (j + 1):=fun h h2 => by rw [ac0,abh,<- es,h,h2];rfl
   have aaN : (aX n (bI G j).1 (cU n G x G.length) == (x : Int)) = true -> (!(bI G j).2) = true -> 1 = ef n G x (j + 1):=fun h h2 => by rw [ac0,abh,<- es,h,h2];rfl
   repeat' ((conv => whnf);first | apply And.intro | (intro h9;try (have h8 : (_ : Bool) = _:=h9;clear h8;revert h9;subst_vars;intro h9;exact aq h9 (by assumption))))
   all_goals try (conv => whnf)
   all_goals try first | (apply Tk.mk <;> kernel_rfl) | exact ⟨ah rfl⟩ | exact ⟨rfl⟩ | exact ⟨trivial⟩
   all_goals subst_vars
   all_goals try first | rfl | contradiction | (apply Ob.mk;first | (simp only [ag,ak,aa.ae];omega) | ((try simp only [aa.ae]);(try dsimp only);omega))
   all_goals try first
    | exact ⟨show 0 + Int.toNat (j : Int) < G.length by omega⟩
   all_goals
    refine ⟨j + 1,[],Ho,?_,by show G.length - (j + 1) < G.length - j;omega⟩
    repeat' ((conv => whnf);(first | apply And.intro | intro _))
    all_goals first | rfl | trivial | exact ah rfl | exact aS ‹_› rfl | exact aT ‹_› rfl | ((repeat' first | rfl | constructor);done) | exact mL (by assumption) | exact lS (by assumption) (by assumption) | exact aaN (by assumption) (by assumption)
  have p1 : decide ((j : Int) < (G.length : Int)) = false:=decide_eq_false (by omega)
  obtain rfl : j = G.length:=by omega
  clear hj Ho
  have aaA:=aba n G x
  have agM:=aaX n G x
  have mL:=aa0 n G x
  have jJ : List.drop 0 (cI n G x) ++ List.take 1 (List.drop 0 [cU n G x G.length]) = cI n G (x + 1):=by rw [agM];rfl
  have oz:=congrArg List.length agM
  have aaN:=congrArg List.length mL
  rw [List.length_append,List.length_singleton] at oz aaN
  obtain hp | hp : dl n G x G.length = false \/ dl n G x G.length = true:=by cases dl n G x G.length <;> simp
  ·rw [hp,if_neg (by simp)] at aaA
   have lS : List.drop 0 (cN n G x) ++ List.take 1 (List.drop 0 [ef n G x G.length]) = cN n G (x + 1):=by rw [mL,aaA];rfl
   repeat' ((conv => whnf);first | apply And.intro | (intro h9;try (have h8 : (_ : Bool) = _:=h9;clear h8;revert h9;subst_vars;intro h9;exact aq h9 (by assumption))))
   all_goals try (conv => whnf)
   all_goals try first | (apply Tk.mk <;> kernel_rfl) | exact ⟨ah rfl⟩ | exact ⟨rfl⟩ | exact ⟨trivial⟩
   all_goals subst_vars
   all_goals try first | rfl | contradiction | (apply Ob.mk;first | (simp only [ag,ak,aa.ae];omega) | ((try simp only [aa.ae]);(try dsimp only);omega))
   all_goals try first
    | exact ⟨Nat.zero_add _⟩
    | exact ⟨show ((cI n G x).length + 1) * 1 <= 1099511627776 by omega⟩
    | exact ⟨show ((cN n G x).length + 1) * 1 <= 1099511627776 by omega⟩
   all_goals
    refine ⟨x + 1,[0,1,2,3,4],cO,?_,by show (n * n).toNat - (x + 1) < (n * n).toNat - x;omega⟩
    repeat' ((conv => whnf);(first | apply And.intro | intro _))
    all_goals first | rfl | trivial | exact ah rfl | exact aS ‹_› rfl | exact aT ‹_› rfl | ((repeat' first | rfl | constructor);done) | exact oz.symm | exact aaN.symm | exact ⟨rfl,rfl,jJ⟩ | exact ⟨rfl,rfl,lS⟩
  rw [hp,if_pos rfl] at aaA
  have lS : List.drop 0 (cN n G x) ++ List.take 1 (List.drop 0 [(0 : Int)]) = cN n G (x + 1):=by rw [mL,<- aaA];rfl
  repeat' ((conv => whnf);first | apply And.intro | (intro h9;try (have h8 : (_ : Bool) = _:=h9;clear h8;revert h9;subst_vars;intro h9;exact aq h9 (by assumption))))
  all_goals try (conv => whnf)
  all_goals try first | (apply Tk.mk <;> kernel_rfl) | exact ⟨ah rfl⟩ | exact ⟨rfl⟩ | exact ⟨trivial⟩
  all_goals subst_vars
  all_goals try first | rfl | contradiction | (apply Ob.mk;first | (simp only [ag,ak,aa.ae];omega) | ((try simp only [aa.ae]);(try dsimp only);omega))
  all_goals try first
   | exact ⟨Nat.zero_add _⟩
   | exact ⟨show ((cI n G x).length + 1) * 1 <= 1099511627776 by omega⟩
   | exact ⟨show ((cN n G x).length + 1) * 1 <= 1099511627776 by omega⟩
  all_goals
   refine ⟨x + 1,[0,1,2,3,4],cO,?_,by show (n * n).toNat - (x + 1) < (n * n).toNat - x;omega⟩
   repeat' ((conv => whnf);(first | apply And.intro | intro _))
   all_goals first | rfl | trivial | exact ah rfl | exact aS ‹_› rfl | exact aT ‹_› rfl | ((repeat' first | rfl | constructor);done) | exact oz.symm | exact aaN.symm | exact ⟨rfl,rfl,jJ⟩ | exact ⟨rfl,rfl,lS⟩
 have p0 : decide ((x : Int) < n * n) = false:=decide_eq_false (by omega)
 obtain rfl : x = (n * n).toNat:=by omega
 repeat' ((conv => whnf);first | apply And.intro | (intro h9;try (have h8 : (_ : Bool) = _:=h9;clear h8;revert h9;subst_vars;intro h9;exact aq h9 (by assumption))))
 all_goals try (conv => whnf)
 all_goals try first | (apply Tk.mk <;> kernel_rfl) | exact ⟨ah rfl⟩ | exact ⟨rfl⟩ | exact ⟨trivial⟩
 all_goals subst_vars
 all_goals try first | rfl | contradiction | (apply Ob.mk;first | (simp only [ag,ak,aa.ae];omega) | ((try simp only [aa.ae]);(try dsimp only);omega))
 refine bu.base ⟨_,[3,4],hK,⟨rfl,rfl,by simp,rfl,rfl,by simp,trivial⟩,rfl,?_⟩
 repeat' ((conv => whnf);(first | apply And.intro | intro _))
 all_goals first | rfl | trivial)
end Go.Proofs.YthejmgnkenokpaaGreatDoor
end
section
namespace Go.Proofs.YthejmgnkenokpaaGreatDoor
open Go Go.Sy Go.bK
variable {Γ : bn}
def aa2 (D : List Int -> List Int -> List aa) (R : List Int -> List Int -> cM) : au:=.new fun args rg K => match args with
 | [.agg [x0,x1]] => (match ac1 3 kI rg x0,ac1 3 kI rg x1 with | some (q0,L0),some (q1,L1) => bk false (q0 ++ (q1 ++ (D L0 L1))) (K (R L0 L1)) | _,_ => False)
 | _ => False
theorem aaT {f : FuncId} {b : Body} {E : Env} {d : Nat} (hP : aL Tryz.prog Γ E) (hb : bQ Tryz.prog f b) {D : List Int -> List Int -> List aa} {R : List Int -> List Int -> cM}
  (H : ∀ (L0 : List Int) (L1 : List Int) (K : cM -> Prop),bW (D L0 L1) -> K (R L0 L1) -> cQ E d b [.agg [.sl 0 [] 0 L0.length,.sl 1 [] 0 L1.length]] [.arr 3 kI L0 false false,.arr 3 kI L1 false false] (bu K)) : au.Ok Tryz.prog Γ f (aa2 D R):=au.fM (d:=d) hP hb (by
 intro args rg K hF
 split at hF
 next x0 x1 =>
  split at hF
  next q0 L0 q1 L1 hx0 cO =>
   rw [aV,aH,aH] at hF
   obtain ⟨⟨dm,gk,hD⟩,hK⟩:=hF
   obtain ⟨e0,Vn⟩:=bP (by simp [kI]) hx0 dm
   obtain ⟨e1,iO⟩:=bP (by simp [kI]) cO gk
   obtain ⟨p0,r0⟩:=Vn [e0,e1] 0 2 rfl (by omega)
   obtain ⟨p1,r1⟩:=iO [e0,e1] 1 2 rfl (by omega)
   refine ⟨[e0,e1],[.agg [.sl 0 [] 0 L0.length,.sl 1 [] 0 L1.length]],[.arr 3 kI L0 false false,.arr 3 kI L1 false false],⟨⟨⟨p0,p1,trivial⟩,trivial⟩,fun r g hg => ?_⟩,bu K,H _ _ K hD hK,fun x st h => h⟩
   match r,hg with
   | 0,hg => obtain rfl:=Option.some.inj hg;exact r0
   | 1,hg => obtain rfl:=Option.some.inj hg;exact r1
  next => exact hF.elim
 next => exact hF.elim)
theorem Yh (k : Nat) : ((Int.tdiv (k : Int) 2,Int.tmod (k : Int) 2 == 1) : Sg) = fA k:=by
 unfold fA
 have h1 : Int.tdiv (k : Int) 2 = ((k / 2 : Nat) : Int):=(Int.ofNat_tdiv k 2).symm
 have h2 : Int.tmod (k : Int) 2 = ((k % 2 : Nat) : Int):=(Int.ofNat_tmod k 2).symm
 rw [h1,h2]
 refine Prod.ext rfl ?_
 show (((k % 2 : Nat) : Int) == 1) = (k % 2 == 1)
 rw [Bool.eq_iff_iff,beq_iff_eq,beq_iff_eq];omega
def c5 (E : List bR) (p : Int) (k : Nat) : Nat -> List Sg
 | 0 => ee E p k
 | i + 1 => match (cf E i).1 == p && ((cf E i).2.1 == (Int.tdiv (k : Int) 2) && ((cf E i).2.2.1 == (Int.tmod (k : Int) 2 == 1) && true)) with | true => c5 E p k i ++ [((Int.tdiv (k : Int) 2),(Int.tmod (k : Int) 2 == 1))] | false => c5 E p k i
theorem mi (E : List bR) (p : Int) (k i : Nat) : c5 E p k (i + 1) = match (cf E i).1 == p && ((cf E i).2.1 == (Int.tdiv (k : Int) 2) && ((cf E i).2.2.1 == (Int.tmod (k : Int) 2 == 1) && true)) with | true => c5 E p k i ++ [((Int.tdiv (k : Int) 2),(Int.tmod (k : Int) 2 == 1))] | false => c5 E p k i:=rfl
theorem aaM {E : List bR} (hd : (E.map (·.1)).Nodup) (p : Int) (k : Nat) : ∀ i,i <= E.length -> c5 E p k i = if (∃ j,j < i /\ (E.getD j aG).1 = (p,fA k)) then ee E p k ++ [fA k] else ee E p k
 | 0,_ => by
   rw [if_neg (fun ⟨j,h,_⟩ => Nat.not_lt_zero j h)];rfl
 | i + 1,hi => by
   have ih:=aaM hd p k i (by omega)
   have e1 : ((cf E i).1 == p && ((cf E i).2.1 == (Int.tdiv (k : Int) 2) && ((cf E i).2.2.1 == (Int.tmod (k : Int) 2 == 1) && true))) = ((E.getD i aG).1 == (p,fA k)):=by
    rw [vz (by omega),<- Yh];exact aaP _ (p,(Int.tdiv (k : Int) 2),(Int.tmod (k : Int) 2 == 1))
   rw [mi,e1]
   cases hb : ((E.getD i aG).1 == (p,fA k)) <;> dsimp only
   ·rw [ih]
    by_cases h : ∃ j,j < i /\ (E.getD j aG).1 = (p,fA k)
    ·rw [if_pos h,if_pos]
     obtain ⟨j,h1,h2⟩:=h
     exact ⟨j,by omega,h2⟩
    ·rw [if_neg h,if_neg]
     rintro ⟨j,h1,h2⟩
     rcases Nat.lt_or_ge j i with h3 | h3
     ·exact h ⟨j,h3,h2⟩
     ·obtain rfl : j = i:=by omega
      rw [h2] at hb;simp at hb
   ·have hb:=eq_of_beq hb
    have hno : ¬ ∃ j,j < i /\ (E.getD j aG).1 = (p,fA k):=by
     rintro ⟨j,h1,h2⟩
     have hj : j < E.length:=by omega
     rw [List.getD_eq_getElem?_getD,List.getElem?_eq_getElem hj] at h2
     rw [List.getD_eq_getElem?_getD,List.getElem?_eq_getElem (by omega)] at hb
     simp only [Option.getD_some] at h2 hb
     have h3 : (E.map (·.1))[j]'(by rw [List.length_map];exact hj) = (E.map (·.1))[i]'(by rw [List.length_map];omega):=by
      rw [List.getElem_map,List.getElem_map,h2,hb]
     have:=(List.getElem_inj hd).1 h3
     omega
    rw [ih,if_neg hno,if_pos ⟨i,by omega,hb⟩,Yh]
theorem aa8 {E : List bR} (hd : (E.map (·.1)).Nodup) (p : Int) (k : Nat) : c5 E p k E.length = ee E p (k + 1):=by
 rw [aaM hd p k _ (Nat.le_refl _),ee]
 have e : (∃ j,j < E.length /\ (E.getD j aG).1 = (p,fA k)) <-> l9 E p (fA k) = true:=by
  unfold l9
  constructor
  ·rintro ⟨j,h1,h2⟩
   exact kC.2 (List.mem_map.2 ⟨_,pc h1,h2⟩)
  ·intro h;exact LN h
 cases hb : l9 E p (fA k) <;> rw [hb] at e
 ·rw [if_neg (fun h => by have:=e.1 h;cases this)]
 ·rw [if_pos (e.2 rfl)]
theorem z6 (E : List bR) (p : Int) (k : Nat) : ∀ i,(c5 E p k i).length <= k + i
 | 0 => oK _ _ _
 | i + 1 => by
   have:=z6 E p k i
   rw [mi]
   split
   ·rw [List.length_append,List.length_singleton];omega
   ·omega
def kx : au:=tG (fun _ P L p => [(aa.of (dY P L = true)),(aa.of (P <= 6)),(aa.of (L.length <= 1000000)),(aa.of (0 <= p /\ p <= P - 1))]) (fun _ _ L p => ⟨[.arr 48 kG (af L p) true true],.a (.sl 0 [] 0 (af L p).length)⟩)
noncomputable def aa6 : List (Nat × au):=[(67,aaH)]
theorem L2 : aR Tryz.prog Γ aa6:=(aR.nil.cons (aj Tryz.func67 rfl rfl).fn aaI)
attribute [local irreducible] ag5 c5 cy
theorem k8 : au.Ok Tryz.prog Γ 29 kx:=sa (d:=0) (aP L2 bq.nil false 0) (aj Tryz.func29 rfl rfl) (by
 intro n P L p K ⟨hw,hP,hl,hp,_⟩ hK
 simp only [aa.ae] at hw hP hl hp
 have hE:=xh (cW.1 hw) hP hp
 have Sa:=hE.Kg hP
 have el:=I3 (ag5 L p)
 repeat' ((conv => whnf);first | apply And.intro | (intro h9;try (have h8 : (_ : Bool) = _:=h9;clear h8;revert h9;subst_vars;intro h9;exact aq h9 (by assumption))))
 all_goals try (conv => whnf)
 all_goals try first | (apply Tk.mk <;> kernel_rfl) | exact ⟨ah rfl⟩ | exact ⟨rfl⟩ | exact ⟨trivial⟩
 all_goals subst_vars
 all_goals try first | rfl | contradiction | (apply Ob.mk;first | (simp only [ag,ak,aa.ae];omega) | ((try simp only [aa.ae]);(try dsimp only);omega))
 all_goals try first
  | exact ⟨hw⟩
  | exact ⟨hl⟩
 refine ⟨Nat,fun k => k <= 16,fun k => ⟨aI 52 [1,5,6,7] [.a (vI p),.a (.sl 2 [] 0 (ag5 L p).length),.a (.sl 3 [] 0 (ee (ag5 L p) p k).length),.a (vI k)],[],[.arr 46 kW L false false,.box true [vI n,vI P,.sl 0 [] 0 L.length],.arr 109 kV (cy (ag5 L p)) true true,.arr 48 kG (ee (ag5 L p) p k) true true]⟩,fun k => 16 - k,0,[0,1,2,1000],Nat.zero_le _,?_,?_⟩
 ·repeat' ((conv => whnf);(first | apply And.intro | intro _))
  all_goals first | rfl | trivial | exact ah rfl | exact aS ‹_› rfl | exact aT ‹_› rfl | ((repeat' first | rfl | constructor);done)
 rintro k hk
 by_cases cB : k < 16
 ·have p0 : decide ((k : Int) < 16) = true:=decide_eq_true (by omega)
  have hT : cT (Int.tdiv (k : Int) 2):=by have:=YL cB;rw [<- Yh] at this;exact this
  have o1 : (ag .i64 (Int.tdiv (k : Int) 2)).p:=by show ak .i64 _;unfold cT at hT;unfold ak;omega
  repeat' ((conv => whnf);first | apply And.intro | (intro h9;try (have h8 : (_ : Bool) = _:=h9;clear h8;revert h9;subst_vars;intro h9;exact aq h9 (by assumption))))
  all_goals try (conv => whnf)
  all_goals try first | (apply Tk.mk <;> kernel_rfl) | exact ⟨ah rfl⟩ | exact ⟨rfl⟩ | exact ⟨trivial⟩
  all_goals subst_vars
  all_goals try first | rfl | contradiction | (apply Ob.mk;first | (simp only [ag,ak,aa.ae];omega) | ((try simp only [aa.ae]);(try dsimp only);omega))
  refine ⟨Nat,fun i => i <= (ag5 L p).length,fun i => ⟨aI 52 [1,5,6,7,8,9] [.a (vI p),.a (.sl 2 [] 0 (ag5 L p).length),.a (.sl 3 [] 0 (c5 (ag5 L p) p k i).length),.a (vI k),.a (.p 4 [] 0 0),.a (vI i)],[],[.arr 46 kW L false false,.box true [vI n,vI P,.sl 0 [] 0 L.length],.arr 109 kV (cy (ag5 L p)) true true,.arr 48 kG (c5 (ag5 L p) p k i) true true,.box true [vI (Int.tdiv (k : Int) 2),.v (.bool (Int.tmod (k : Int) 2 == 1))]]⟩,fun i => (ag5 L p).length - i,0,[0,1,2,3,4],Nat.zero_le _,?_,?_⟩
  ·have h0 : c5 (ag5 L p) p k 0 = ee (ag5 L p) p k:=by unfold c5;rfl
   have abw:=congrArg List.length h0
   repeat' ((conv => whnf);(first | apply And.intro | intro _))
   all_goals first | rfl | trivial | exact ah rfl | exact aS ‹_› rfl | exact aT ‹_› rfl | ((repeat' first | rfl | constructor);done) | exact abw.symm | exact ⟨rfl,rfl,h0.symm⟩
  rintro i hi
  by_cases hi1 : i < (ag5 L p).length
  ·have p1 : decide ((i : Int) < ((ag5 L p).length : Int)) = true:=decide_eq_true (by omega)
   have hs:=mi (ag5 L p) p k i
   have Np:=z6 (ag5 L p) p k i
   obtain a1 | a1 : ((cf (ag5 L p) i).1 == p) = false \/ ((cf (ag5 L p) i).1 == p) = true:=by cases ((cf (ag5 L p) i).1 == p) <;> simp
   ·rw [a1] at hs
    have pT : c5 (ag5 L p) p k i = c5 (ag5 L p) p k (i + 1):=hs.symm
    have eE:=congrArg List.length pT
    repeat' ((conv => whnf);first | apply And.intro | (intro h9;try (have h8 : (_ : Bool) = _:=h9;clear h8;revert h9;subst_vars;intro h9;exact aq h9 (by assumption))))
    all_goals try (conv => whnf)
    all_goals try first | (apply Tk.mk <;> kernel_rfl) | exact ⟨ah rfl⟩ | exact ⟨rfl⟩ | exact ⟨trivial⟩
    all_goals subst_vars
    all_goals try first | rfl | contradiction | (apply Ob.mk;first | (simp only [ag,ak,aa.ae];omega) | ((try simp only [aa.ae]);(try dsimp only);omega))
    all_goals try first
     | exact ⟨show 0 + Int.toNat (i : Int) < (cy (ag5 L p)).length by omega⟩
    refine ⟨i + 1,[],hi1,?_,by show (ag5 L p).length - (i + 1) < (ag5 L p).length - i;omega⟩
    repeat' ((conv => whnf);(first | apply And.intro | intro _))
    all_goals first | rfl | trivial | exact ah rfl | exact aS ‹_› rfl | exact aT ‹_› rfl | ((repeat' first | rfl | constructor);done) | exact eE | exact ⟨rfl,rfl,pT⟩
   obtain b1 | b1 : ((cf (ag5 L p) i).2.1 == (Int.tdiv (k : Int) 2) && ((cf (ag5 L p) i).2.2.1 == (Int.tmod (k : Int) 2 == 1) && true)) = false \/ ((cf (ag5 L p) i).2.1 == (Int.tdiv (k : Int) 2) && ((cf (ag5 L p) i).2.2.1 == (Int.tmod (k : Int) 2 == 1) && true)) = true:=by cases ((cf (ag5 L p) i).2.1 == (Int.tdiv (k : Int) 2) && ((cf (ag5 L p) i).2.2.1 == (Int.tmod (k : Int) 2 == 1) && true)) <;> simp
   ·rw [a1,b1] at hs
    have pT : c5 (ag5 L p) p k i = c5 (ag5 L p) p k (i + 1):=hs.symm
    have eE:=congrArg List.length pT
    repeat' ((conv => whnf);first | apply And.intro | (intro h9;try (have h8 : (_ : Bool) = _:=h9;clear h8;revert h9;subst_vars;intro h9;exact aq h9 (by assumption))))
    all_goals try (conv => whnf)
    all_goals try first | (apply Tk.mk <;> kernel_rfl) | exact ⟨ah rfl⟩ | exact ⟨rfl⟩ | exact ⟨trivial⟩
    all_goals subst_vars
    all_goals try first | rfl | contradiction | (apply Ob.mk;first | (simp only [ag,ak,aa.ae];omega) | ((try simp only [aa.ae]);(try dsimp only);omega))
    all_goals try first
     | exact ⟨show 0 + Int.toNat (i : Int) < (cy (ag5 L p)).length by omega⟩
    refine ⟨i + 1,[],hi1,?_,by show (ag5 L p).length - (i + 1) < (ag5 L p).length - i;omega⟩
    repeat' ((conv => whnf);(first | apply And.intro | intro _))
    all_goals first | rfl | trivial | exact ah rfl | exact aS ‹_› rfl | exact aT ‹_› rfl | ((repeat' first | rfl | constructor);done) | exact eE | exact ⟨rfl,rfl,pT⟩
   rw [a1,b1] at hs
   have pT : c5 (ag5 L p) p k i ++ [((Int.tdiv (k : Int) 2),(Int.tmod (k : Int) 2 == 1))] = c5 (ag5 L p) p k (i + 1):=hs.symm
   have eE:=congrArg List.length pT
   rw [List.length_append,List.length_singleton] at eE
   repeat' ((conv => whnf);first | apply And.intro | (intro h9;try (have h8 : (_ : Bool) = _:=h9;clear h8;revert h9;subst_vars;intro h9;exact aq h9 (by assumption))))
   all_goals try (conv => whnf)
   all_goals try first | (apply Tk.mk <;> kernel_rfl) | exact ⟨ah rfl⟩ | exact ⟨rfl⟩ | exact ⟨trivial⟩
   all_goals subst_vars
   all_goals try first | rfl | contradiction | (apply Ob.mk;first | (simp only [ag,ak,aa.ae];omega) | ((try simp only [aa.ae]);(try dsimp only);omega))
   all_goals try first
    | exact ⟨Nat.zero_add _⟩
    | exact ⟨show 0 + Int.toNat (i : Int) < (cy (ag5 L p)).length by omega⟩
    | exact ⟨show ((c5 (ag5 L p) p k i).length + 1) * 2 <= 1099511627776 by omega⟩
   refine ⟨i + 1,[],hi1,?_,by show (ag5 L p).length - (i + 1) < (ag5 L p).length - i;omega⟩
   repeat' ((conv => whnf);(first | apply And.intro | intro _))
   all_goals first | rfl | trivial | exact ah rfl | exact aS ‹_› rfl | exact aT ‹_› rfl | ((repeat' first | rfl | constructor);done) | exact eE | exact ⟨rfl,rfl,pT⟩
  have p1 : decide ((i : Int) < ((ag5 L p).length : Int)) = false:=decide_eq_false (by omega)
  obtain rfl : i = (ag5 L p).length:=by omega
  have pT:=aa8 hE.nd p k
  have eE:=congrArg List.length pT
  repeat' ((conv => whnf);first | apply And.intro | (intro h9;try (have h8 : (_ : Bool) = _:=h9;clear h8;revert h9;subst_vars;intro h9;exact aq h9 (by assumption))))
  all_goals try (conv => whnf)
  all_goals try first | (apply Tk.mk <;> kernel_rfl) | exact ⟨ah rfl⟩ | exact ⟨rfl⟩ | exact ⟨trivial⟩
  all_goals subst_vars
  all_goals try first | rfl | contradiction | (apply Ob.mk;first | (simp only [ag,ak,aa.ae];omega) | ((try simp only [aa.ae]);(try dsimp only);omega))
  refine ⟨k + 1,[0,1,2,3],cB,?_,by show 16 - (k + 1) < 16 - k;omega⟩
  repeat' ((conv => whnf);(first | apply And.intro | intro _))
  all_goals first | rfl | trivial | exact ah rfl | exact aS ‹_› rfl | exact aT ‹_› rfl | ((repeat' first | rfl | constructor);done) | exact eE | exact ⟨rfl,rfl,pT⟩
 have p0 : decide ((k : Int) < 16) = false:=decide_eq_false (by omega)
 obtain rfl : k = 16:=by omega
 repeat' ((conv => whnf);first | apply And.intro | (intro h9;try (have h8 : (_ : Bool) = _:=h9;clear h8;revert h9;subst_vars;intro h9;exact aq h9 (by assumption))))
 all_goals try (conv => whnf)
 all_goals try first | (apply Tk.mk <;> kernel_rfl) | exact ⟨ah rfl⟩ | exact ⟨rfl⟩ | exact ⟨trivial⟩
 all_goals subst_vars
 all_goals try first | rfl | contradiction | (apply Ob.mk;first | (simp only [ag,ak,aa.ae];omega) | ((try simp only [aa.ae]);(try dsimp only);omega))
 refine bu.base ⟨_,[3],hK,⟨rfl,rfl,by simp,trivial⟩,rfl,?_⟩
 repeat' ((conv => whnf);(first | apply And.intro | intro _))
 all_goals first | rfl | trivial | (unfold af;rfl) | exact ⟨rfl,rfl,(by unfold af;rfl)⟩)
def aaF : au:=aa2 (fun A S => [(aa.of (A.length <= 1000000)),(aa.of (A.length = S.length))]) (fun A S => ⟨[.arr 3 kI (eR A S A.length) true true],.a (.sl 0 [] 0 (eR A S A.length).length)⟩)
theorem abi {A S : List Int} {x : Nat} : uQ A S x = ((av A x == (x : Int)) && (av S x != 0)):=by unfold uQ;rw [dP,dP];rfl
attribute [local irreducible] eR
theorem aaG : au.Ok Tryz.prog Γ 56 aaF:=aaT (d:=0) (aP aR.nil bq.nil false 0) (aj Tryz.func56 rfl rfl) (by
 intro A S K ⟨hA,hS,_⟩ hK
 simp only [aa.ae] at hA hS
 have e0 : eR A S 0 = []:=by unfold eR;rfl
 repeat' ((conv => whnf);first | apply And.intro | (intro h9;try (have h8 : (_ : Bool) = _:=h9;clear h8;revert h9;subst_vars;intro h9;exact aq h9 (by assumption))))
 all_goals try (conv => whnf)
 all_goals try first | (apply Tk.mk <;> kernel_rfl) | exact ⟨ah rfl⟩ | exact ⟨rfl⟩ | exact ⟨trivial⟩
 all_goals subst_vars
 all_goals try first | rfl | contradiction | (apply Ob.mk;first | (simp only [ag,ak,aa.ae];omega) | ((try simp only [aa.ae]);(try dsimp only);omega))
 refine ⟨Nat,fun x => x <= A.length,fun x => ⟨aI 32 [1,3,4] [.a (.p 2 [] 0 0),.a (.sl 3 [] 0 (eR A S x).length),.a (vI x)],[],[.arr 3 kI A false false,.arr 3 kI S false false,.box true [.sl 0 [] 0 A.length,.sl 1 [] 0 S.length],.arr 3 kI (eR A S x) true true]⟩,fun x => A.length - x,0,[0,1,2,1000],Nat.zero_le _,?_,?_⟩
 ·repeat' ((conv => whnf);(first | apply And.intro | intro _))
  all_goals first | rfl | trivial | exact ah rfl | exact aS ‹_› rfl | exact aT ‹_› rfl | ((repeat' first | rfl | constructor);done) | exact e0 | (rw [e0];rfl)
 rintro x hx
 by_cases cO : x < A.length
 ·have p0 : decide ((x : Int) < (A.length : Int)) = true:=decide_eq_true (by omega)
  have Np:=r9 A S x
  have eb:=abi (A:=A) (S:=S) (x:=x)
  obtain a1 | a1 : (av A x == (x : Int)) = false \/ (av A x == (x : Int)) = true:=by cases (av A x == (x : Int)) <;> simp
  ·rw [a1] at eb
   have pT:=GK eb
   have eE:=congrArg List.length pT
   repeat' ((conv => whnf);first | apply And.intro | (intro h9;try (have h8 : (_ : Bool) = _:=h9;clear h8;revert h9;subst_vars;intro h9;exact aq h9 (by assumption))))
   all_goals try (conv => whnf)
   all_goals try first | (apply Tk.mk <;> kernel_rfl) | exact ⟨ah rfl⟩ | exact ⟨rfl⟩ | exact ⟨trivial⟩
   all_goals subst_vars
   all_goals try first | rfl | contradiction | (apply Ob.mk;first | (simp only [ag,ak,aa.ae];omega) | ((try simp only [aa.ae]);(try dsimp only);omega))
   all_goals try first
    | exact ⟨show 0 + Int.toNat (x : Int) < A.length by omega⟩
   refine ⟨x + 1,[],cO,?_,by show A.length - (x + 1) < A.length - x;omega⟩
   repeat' ((conv => whnf);(first | apply And.intro | intro _))
   all_goals first | rfl | trivial | exact ah rfl | exact aS ‹_› rfl | exact aT ‹_› rfl | ((repeat' first | rfl | constructor);done) | exact eE.symm | exact ⟨rfl,rfl,pT.symm⟩
  obtain b1 | b1 : (av S x != 0) = false \/ (av S x != 0) = true:=by cases (av S x != 0) <;> simp
  ·rw [a1,b1] at eb
   have pT:=GK eb
   have eE:=congrArg List.length pT
   repeat' ((conv => whnf);first | apply And.intro | (intro h9;try (have h8 : (_ : Bool) = _:=h9;clear h8;revert h9;subst_vars;intro h9;exact aq h9 (by assumption))))
   all_goals try (conv => whnf)
   all_goals try first | (apply Tk.mk <;> kernel_rfl) | exact ⟨ah rfl⟩ | exact ⟨rfl⟩ | exact ⟨trivial⟩
   all_goals subst_vars
   all_goals try first | rfl | contradiction | (apply Ob.mk;first | (simp only [ag,ak,aa.ae];omega) | ((try simp only [aa.ae]);(try dsimp only);omega))
   all_goals try first
    | exact ⟨show 0 + Int.toNat (x : Int) < A.length by omega⟩
    | exact ⟨show 0 + Int.toNat (x : Int) < S.length by omega⟩
   refine ⟨x + 1,[],cO,?_,by show A.length - (x + 1) < A.length - x;omega⟩
   repeat' ((conv => whnf);(first | apply And.intro | intro _))
   all_goals first | rfl | trivial | exact ah rfl | exact aS ‹_› rfl | exact aT ‹_› rfl | ((repeat' first | rfl | constructor);done) | exact eE.symm | exact ⟨rfl,rfl,pT.symm⟩
  rw [a1,b1] at eb
  have pT:=Lf eb
  have eE:=congrArg List.length pT
  rw [List.length_append,List.length_singleton] at eE
  repeat' ((conv => whnf);first | apply And.intro | (intro h9;try (have h8 : (_ : Bool) = _:=h9;clear h8;revert h9;subst_vars;intro h9;exact aq h9 (by assumption))))
  all_goals try (conv => whnf)
  all_goals try first | (apply Tk.mk <;> kernel_rfl) | exact ⟨ah rfl⟩ | exact ⟨rfl⟩ | exact ⟨trivial⟩
  all_goals subst_vars
  all_goals try first | rfl | contradiction | (apply Ob.mk;first | (simp only [ag,ak,aa.ae];omega) | ((try simp only [aa.ae]);(try dsimp only);omega))
  all_goals try first
   | exact ⟨Nat.zero_add _⟩
   | exact ⟨show ((eR A S x).length + 1) * 1 <= 1099511627776 by omega⟩
   | exact ⟨show 0 + Int.toNat (x : Int) < A.length by omega⟩
   | exact ⟨show 0 + Int.toNat (x : Int) < S.length by omega⟩
  refine ⟨x + 1,[],cO,?_,by show A.length - (x + 1) < A.length - x;omega⟩
  repeat' ((conv => whnf);(first | apply And.intro | intro _))
  all_goals first | rfl | trivial | exact ah rfl | exact aS ‹_› rfl | exact aT ‹_› rfl | ((repeat' first | rfl | constructor);done) | exact eE.symm | exact ⟨rfl,rfl,pT.symm⟩
 have p0 : decide ((x : Int) < (A.length : Int)) = false:=decide_eq_false (by omega)
 obtain rfl : x = A.length:=by omega
 repeat' ((conv => whnf);first | apply And.intro | (intro h9;try (have h8 : (_ : Bool) = _:=h9;clear h8;revert h9;subst_vars;intro h9;exact aq h9 (by assumption))))
 all_goals try (conv => whnf)
 all_goals try first | (apply Tk.mk <;> kernel_rfl) | exact ⟨ah rfl⟩ | exact ⟨rfl⟩ | exact ⟨trivial⟩
 all_goals subst_vars
 all_goals try first | rfl | contradiction | (apply Ob.mk;first | (simp only [ag,ak,aa.ae];omega) | ((try simp only [aa.ae]);(try dsimp only);omega))
 refine bu.base ⟨_,[3],hK,⟨rfl,rfl,by simp,trivial⟩,rfl,?_⟩
 repeat' ((conv => whnf);(first | apply And.intro | intro _))
 all_goals first | rfl | trivial)
end Go.Proofs.YthejmgnkenokpaaGreatDoor
end
section
namespace Go.Proofs.YthejmgnkenokpaaGreatDoor
open Go Go.Sy Go.bK
variable {Γ : bn}
def bp : List Wk:=[(0,1,0),(1,2,0),(2,0,4)]
def Dg : au:=.new fun args rg K => match args with
 | [] => K ⟨[.arr 46 kW bp true true],.agg [vI 2,vI 3,.sl 0 [] 0 3]⟩
 | _ => False
theorem EK : au.Ok Tryz.prog Γ 38 Dg:=au.fM (d:=0) (aP aR.nil bq.nil false 0) (aj Tryz.func38 rfl rfl) (by
 intro args rg K hC
 split at hC
 next =>
  have hK:=hC
  refine ⟨[],[],[],⟨trivial,fun r g hg => by cases hg⟩,bu K,?_,fun x st h => h⟩
  clear hC
  repeat' ((conv => whnf);first | apply And.intro | (intro h9;try (have h8 : (_ : Bool) = _:=h9;clear h8;revert h9;subst_vars;intro h9;exact aq h9 (by assumption))))
  all_goals try (conv => whnf)
  all_goals try first | (apply Tk.mk <;> kernel_rfl) | exact ⟨ah rfl⟩ | exact ⟨rfl⟩ | exact ⟨trivial⟩
  all_goals subst_vars
  all_goals try first | rfl | contradiction | (apply Ob.mk;first | (simp only [ag,ak,aa.ae];omega) | ((try simp only [aa.ae]);(try dsimp only);omega))
  all_goals first
   | (refine bu.base ⟨_,[1],hK,⟨rfl,rfl,by simp,trivial⟩,rfl,?_⟩;(repeat' ((conv => whnf);(first | apply And.intro | intro _)));all_goals first | rfl | trivial)
 next => exact hC.elim)
end Go.Proofs.YthejmgnkenokpaaGreatDoor
end
