/-
  Texts of the claims on chapter 3: Yk4b. No condition: lemmas and contracts.
-/
import Derived.Test.YthejmgnkenokpaaGreatDoorYk2b
import Derived.Test.YthejmgnkenokpaaGreatDoorYk3b
import Derived.Test.YthejmgnkenokpaaGreatDoorPl1b
import Derived.Test.YthejmgnkenokpaaGreatDoorYk1b
import Derived.Test.YthejmgnkenokpaaGreatDoorQ18b
set_option linter.all false
set_option maxRecDepth 100000
set_option maxHeartbeats 4000000
section
namespace Go.Proofs.YthejmgnkenokpaaGreatDoor
open Go Go.Sy Go.bK
variable {Γ : bn}
abbrev kV : List CK:=[.int .i64,.int .i64,.bool,.sl 3 kI]
abbrev Wy:=Int × Int × Bool × List Int
def wq (e : bR) : Wy:=(e.1.1,e.1.2.1,e.1.2.2,e.2)
def cy (E : List bR) : List Wy:=E.map wq
theorem I3 (E : List bR) : (cy E).length = E.length:=List.length_map _
theorem aaZ (E : List bR) (e : bR) : cy (E ++ [e]) = cy E ++ [wq e]:=List.map_append
abbrev cf (E : List bR) (i : Int) : Wy:=@Ar.get ⟨109,kV,cy E⟩ (0 + Int.toNat i)
theorem aaL {α β : Type} {f : α -> β} {l : List α} {i : Nat} {d : β} {d' : α} (h : i < l.length) : (l.map f).getD i d = f (l.getD i d'):=by simp [h]
theorem vz {E : List bR} {i : Nat} (h : i < E.length) : cf E i = wq (E.getD i aG):=by
 unfold cf Ar.get cy
 rw [Nat.zero_add,Int.toNat_natCast]
 exact aaL h
theorem aaW {α : Type} (l : List α) (v : α) : l.length + 1 = (l ++ [v]).length:=by simp
def aaH : au:=tG (fun _ P L p => [(aa.of (dY P L = true)),(aa.of (P <= 6)),(aa.of (L.length <= 1000000)),(aa.of (0 <= p /\ p <= P - 1))]) (fun _ _ L p => ⟨[.arr 109 kV (cy (ag5 L p)) true true],.a (.sl 0 [] 0 (ag5 L p).length)⟩)
def dr (E : List bR) (x : Sp) (b : Bool) : Nat -> Bool
 | 0 => b
 | k + 1 => match dr E x b k with | true => !((cf E k).1 == x.1 && ((cf E k).2.1 == x.2.1 && ((cf E k).2.2.1 == x.2.2 && true))) | false => false
theorem agS (E : List bR) (x : Sp) (b : Bool) (k : Nat) : dr E x b (k + 1) = match dr E x b k with | true => !((cf E k).1 == x.1 && ((cf E k).2.1 == x.2.1 && ((cf E k).2.2.1 == x.2.2 && true))) | false => false:=rfl
theorem aaP (e : bR) (x : Sp) : ((wq e).1 == x.1 && ((wq e).2.1 == x.2.1 && ((wq e).2.2.1 == x.2.2 && true))) = (e.1 == x):=by
 obtain ⟨⟨a,b,c⟩,w⟩:=e
 obtain ⟨d,f,g⟩:=x
 rw [Bool.eq_iff_iff];simp [wq]
theorem z8 {E : List bR} {x : Sp} {b : Bool} : ∀ k,k <= E.length -> (dr E x b k = true <-> b = true /\ ∀ j,j < k -> (E.getD j aG).1 ≠ x)
 | 0,_ => ⟨fun h => ⟨h,fun j hj => absurd hj (Nat.not_lt_zero j)⟩,fun h => h.1⟩
 | k + 1,hk => by
   have ih:=z8 (E:=E) (x:=x) (b:=b) k (by omega)
   rw [agS]
   cases hb : dr E x b k <;> dsimp only
   ·rw [hb] at ih
    refine ⟨fun h => (by cases h),fun h => ?_⟩
    exact absurd (ih.2 ⟨h.1,fun j hj => h.2 j (by omega)⟩) (by simp)
   ·obtain ⟨i1,i2⟩:=ih.1 hb
    rw [vz (by omega),aaP,Bool.not_eq_true',beq_eq_false_iff_ne]
    refine ⟨fun h => ⟨i1,fun j hj => ?_⟩,fun h => h.2 k (by omega)⟩
    rcases Nat.lt_or_ge j k with h1 | h1
    ·exact i2 j h1
    ·obtain rfl : j = k:=by omega
     exact h
theorem z7 {E : List bR} {x : Sp} {b : Bool} : dr E x b E.length = (b && !dh E x):=by
 rw [Bool.eq_iff_iff,z8 _ (Nat.le_refl _),Bool.and_eq_true,Bool.not_eq_true']
 refine and_congr_right fun _ => ?_
 constructor
 ·intro h
  cases hb : dh E x
  ·rfl
  ·obtain ⟨j,hj,e⟩:=LN hb
   exact absurd e (h j hj)
 ·intro h j hj e
  have : dh E x = true:=kC.2 (List.mem_map.2 ⟨E.getD j aG,pc hj,e⟩)
  rw [h] at this;cases this
theorem abe {L : List Wk} {h : Nat} {E : List bR} {s : Int} (hk : dr E (bw L (E.getD h aG).1 s) (bM L (E.getD h aG).1 s) E.length = true) : bM L (E.getD h aG).1 s = true /\ dh E (bw L (E.getD h aG).1 s) = false:=by
 rw [z7,Bool.and_eq_true,Bool.not_eq_true'] at hk;exact hk
theorem add_not {L : List Wk} {h : Nat} {E : List bR} {s : Int} (hk : dr E (bw L (E.getD h aG).1 s) (bM L (E.getD h aG).1 s) E.length = false) : j9 L h E s = E:=by
 rw [z7] at hk
 unfold j9;rw [hk]
noncomputable def aa1 : List (Nat × au):=[(105,Gd)]
theorem aaQ : aR Tryz.prog Γ aa1:=(aR.nil.cons (aj Tryz.func105 rfl rfl).fn Ge)
def abk (id : Nat) : Option OT:=match Nat.beq id 14 with | true => some (.take 0 (.take 3 (.take 4 (.take 5 (.take 6 (.take 9 (.alt 1 (.alt 2 (.alt 7 (.alt 8 (.alt 10 (.alt 11 (.take 12 (.alt 13 (.alt 14 (.take 15 .fin) .fin) .fin)) .fin) .fin) (.alt 10 (.alt 8 (.alt 11 (.take 12 (.alt 13 (.alt 14 (.take 15 .fin) .fin) .fin)) .fin) .fin) .fin)) (.alt 10 (.alt 7 (.alt 8 (.alt 11 (.take 12 (.alt 13 (.alt 14 (.take 15 .fin) .fin) .fin)) .fin) .fin) .fin) .fin)) (.alt 7 (.alt 2 (.alt 8 (.alt 10 (.alt 11 (.take 12 (.alt 13 (.alt 14 (.take 15 .fin) .fin) .fin)) .fin) .fin) (.alt 10 (.alt 8 (.alt 11 (.take 12 (.alt 13 (.alt 14 (.take 15 .fin) .fin) .fin)) .fin) .fin) .fin)) (.alt 10 (.alt 2 (.alt 8 (.alt 11 (.take 12 (.alt 13 (.alt 14 (.take 15 .fin) .fin) .fin)) .fin) .fin) .fin) .fin)) (.alt 10 (.alt 2 (.alt 7 (.alt 8 (.alt 11 (.take 12 (.alt 13 (.alt 14 (.take 15 .fin) .fin) .fin)) .fin) .fin) .fin) (.alt 7 (.alt 2 (.alt 8 (.alt 11 (.take 12 (.alt 13 (.alt 14 (.take 15 .fin) .fin) .fin)) .fin) .fin) .fin) .fin)) .fin))) (.alt 2 (.alt 1 (.alt 7 (.alt 8 (.alt 10 (.alt 11 (.take 12 (.alt 13 (.alt 14 (.take 15 .fin) .fin) .fin)) .fin) .fin) (.alt 10 (.alt 8 (.alt 11 (.take 12 (.alt 13 (.alt 14 (.take 15 .fin) .fin) .fin)) .fin) .fin) .fin)) (.alt 10 (.alt 7 (.alt 8 (.alt 11 (.take 12 (.alt 13 (.alt 14 (.take 15 .fin) .fin) .fin)) .fin) .fin) .fin) .fin)) (.alt 7 (.alt 1 (.alt 8 (.alt 10 (.alt 11 (.take 12 (.alt 13 (.alt 14 (.take 15 .fin) .fin) .fin)) .fin) .fin) (.alt 10 (.alt 8 (.alt 11 (.take 12 (.alt 13 (.alt 14 (.take 15 .fin) .fin) .fin)) .fin) .fin) .fin)) (.alt 8 (.alt 1 (.alt 10 (.alt 11 (.take 12 (.alt 13 (.alt 14 (.take 15 .fin) .fin) .fin)) .fin) .fin) (.alt 10 (.alt 1 (.alt 11 (.take 12 (.alt 13 (.alt 14 (.take 15 .fin) .fin) .fin)) .fin) (.alt 11 (.alt 1 (.take 12 (.alt 13 (.alt 14 (.take 15 .fin) .fin) .fin)) .fin) .fin)) .fin)) (.alt 10 (.alt 1 (.alt 8 (.alt 11 (.take 12 (.alt 13 (.alt 14 (.take 15 .fin) .fin) .fin)) .fin) .fin) (.alt 8 (.alt 1 (.alt 11 (.take 12 (.alt 13 (.alt 14 (.take 15 .fin) .fin) .fin)) .fin) (.alt 11 (.alt 1 (.take 12 (.alt 13 (.alt 14 (.take 15 .fin) .fin) .fin)) .fin) .fin)) .fin)) .fin))) (.alt 10 (.alt 1 (.alt 7 (.alt 8 (.alt 11 (.take 12 (.alt 13 (.alt 14 (.take 15 .fin) .fin) .fin)) .fin) .fin) .fin) (.alt 7 (.alt 1 (.alt 8 (.alt 11 (.take 12 (.alt 13 (.alt 14 (.take 15 .fin) .fin) .fin)) .fin) .fin) (.alt 8 (.alt 1 (.alt 11 (.take 12 (.alt 13 (.alt 14 (.take 15 .fin) .fin) .fin)) .fin) (.alt 11 (.alt 1 (.take 12 (.alt 13 (.alt 14 (.take 15 .fin) .fin) .fin)) .fin) .fin)) .fin)) .fin)) .fin))) (.alt 7 (.alt 1 (.alt 2 (.alt 8 (.alt 10 (.alt 11 (.take 12 (.alt 13 (.alt 14 (.take 15 .fin) .fin) .fin)) .fin) .fin) (.alt 10 (.alt 8 (.alt 11 (.take 12 (.alt 13 (.alt 14 (.take 15 .fin) .fin) .fin)) .fin) .fin) .fin)) (.alt 10 (.alt 2 (.alt 8 (.alt 11 (.take 12 (.alt 13 (.alt 14 (.take 15 .fin) .fin) .fin)) .fin) .fin) .fin) .fin)) (.alt 2 (.alt 1 (.alt 8 (.alt 10 (.alt 11 (.take 12 (.alt 13 (.alt 14 (.take 15 .fin) .fin) .fin)) .fin) .fin) (.alt 10 (.alt 8 (.alt 11 (.take 12 (.alt 13 (.alt 14 (.take 15 .fin) .fin) .fin)) .fin) .fin) .fin)) (.alt 8 (.alt 1 (.alt 10 (.alt 11 (.take 12 (.alt 13 (.alt 14 (.take 15 .fin) .fin) .fin)) .fin) .fin) (.alt 10 (.alt 1 (.alt 11 (.take 12 (.alt 13 (.alt 14 (.take 15 .fin) .fin) .fin)) .fin) (.alt 11 (.alt 1 (.take 12 (.alt 13 (.alt 14 (.take 15 .fin) .fin) .fin)) .fin) .fin)) .fin)) (.alt 10 (.alt 1 (.alt 8 (.alt 11 (.take 12 (.alt 13 (.alt 14 (.take 15 .fin) .fin) .fin)) .fin) .fin) (.alt 8 (.alt 1 (.alt 11 (.take 12 (.alt 13 (.alt 14 (.take 15 .fin) .fin) .fin)) .fin) (.alt 11 (.alt 1 (.take 12 (.alt 13 (.alt 14 (.take 15 .fin) .fin) .fin)) .fin) .fin)) .fin)) .fin))) (.alt 10 (.alt 1 (.alt 2 (.alt 8 (.alt 11 (.take 12 (.alt 13 (.alt 14 (.take 15 .fin) .fin) .fin)) .fin) .fin) .fin) (.alt 2 (.alt 1 (.alt 8 (.alt 11 (.take 12 (.alt 13 (.alt 14 (.take 15 .fin) .fin) .fin)) .fin) .fin) (.alt 8 (.alt 1 (.alt 11 (.take 12 (.alt 13 (.alt 14 (.take 15 .fin) .fin) .fin)) .fin) (.alt 11 (.alt 1 (.take 12 (.alt 13 (.alt 14 (.take 15 .fin) .fin) .fin)) .fin) .fin)) .fin)) .fin)) .fin))) (.alt 10 (.alt 1 (.alt 2 (.alt 7 (.alt 8 (.alt 11 (.take 12 (.alt 13 (.alt 14 (.take 15 .fin) .fin) .fin)) .fin) .fin) .fin) (.alt 7 (.alt 2 (.alt 8 (.alt 11 (.take 12 (.alt 13 (.alt 14 (.take 15 .fin) .fin) .fin)) .fin) .fin) .fin) .fin)) (.alt 2 (.alt 1 (.alt 7 (.alt 8 (.alt 11 (.take 12 (.alt 13 (.alt 14 (.take 15 .fin) .fin) .fin)) .fin) .fin) .fin) (.alt 7 (.alt 1 (.alt 8 (.alt 11 (.take 12 (.alt 13 (.alt 14 (.take 15 .fin) .fin) .fin)) .fin) .fin) (.alt 8 (.alt 1 (.alt 11 (.take 12 (.alt 13 (.alt 14 (.take 15 .fin) .fin) .fin)) .fin) (.alt 11 (.alt 1 (.take 12 (.alt 13 (.alt 14 (.take 15 .fin) .fin) .fin)) .fin) .fin)) .fin)) .fin)) (.alt 7 (.alt 1 (.alt 2 (.alt 8 (.alt 11 (.take 12 (.alt 13 (.alt 14 (.take 15 .fin) .fin) .fin)) .fin) .fin) .fin) (.alt 2 (.alt 1 (.alt 8 (.alt 11 (.take 12 (.alt 13 (.alt 14 (.take 15 .fin) .fin) .fin)) .fin) .fin) (.alt 8 (.alt 1 (.alt 11 (.take 12 (.alt 13 (.alt 14 (.take 15 .fin) .fin) .fin)) .fin) (.alt 11 (.alt 1 (.take 12 (.alt 13 (.alt 14 (.take 15 .fin) .fin) .fin)) .fin) .fin)) .fin)) .fin)) .fin))) .fin)))))))))) | false => match Nat.beq id 8 with | true => some (.take 1 (.take 2 (.take 3 (.take 4 (.take 6 (.alt 0 (.alt 5 (.alt 7 (.take 8 (.take 9 (.take 10 (.alt 11 (.alt 12 (.take 13 .fin) .fin) .fin)))) (.alt 11 (.alt 7 (.take 8 (.take 9 (.take 10 (.alt 12 (.take 13 .fin) .fin)))) .fin) .fin)) (.alt 11 (.alt 5 (.alt 7 (.take 8 (.take 9 (.take 10 (.alt 12 (.take 13 .fin) .fin)))) .fin) .fin) .fin)) (.alt 5 (.alt 0 (.alt 7 (.take 8 (.take 9 (.take 10 (.alt 11 (.alt 12 (.take 13 .fin) .fin) .fin)))) (.alt 11 (.alt 7 (.take 8 (.take 9 (.take 10 (.alt 12 (.take 13 .fin) .fin)))) .fin) .fin)) (.alt 11 (.alt 0 (.alt 7 (.take 8 (.take 9 (.take 10 (.alt 12 (.take 13 .fin) .fin)))) .fin) .fin) .fin)) (.alt 11 (.alt 0 (.alt 5 (.alt 7 (.take 8 (.take 9 (.take 10 (.alt 12 (.take 13 .fin) .fin)))) .fin) .fin) (.alt 5 (.alt 0 (.alt 7 (.take 8 (.take 9 (.take 10 (.alt 12 (.take 13 .fin) .fin)))) .fin) .fin) .fin)) .fin)))))))) | false => none
noncomputable def aa7 : Env:={ jV.env aa1 [] false 0 with tree:=abk }
noncomputable def abg : Env:={ aa7 with cut:=fun t => Nat.beq t 2008 }
theorem aaJ : aL Tryz.prog Γ abg:=((aP aaQ bq.nil false 0).vU _).wy _
attribute [local irreducible] bM bw gC iv dr cy
theorem aaI : au.Ok Tryz.prog Γ 67 aaH:=sa (d:=0) aaJ (aj Tryz.func67 rfl rfl) (by
 intro n P L p K ⟨hw,hP,hl,hp,_⟩ hK
 simp only [aa.ae] at hw hP hl hp
 have w0 : [((p,0,false,[]) : Wy)] = cy [((p,0,false),[])]:=by unfold cy;rfl
 repeat' ((conv => whnf);first | apply And.intro | (intro h9;try (have h8 : (_ : Bool) = _:=h9;clear h8;revert h9;subst_vars;intro h9;exact aq h9 (by assumption))))
 all_goals try (conv => whnf)
 all_goals try first | (apply Tk.mk <;> kernel_rfl) | exact ⟨ah rfl⟩ | exact ⟨rfl⟩ | exact ⟨trivial⟩
 all_goals subst_vars
 all_goals try first | rfl | contradiction | (apply Ob.mk;first | (simp only [ag,ak,aa.ae];omega) | ((try simp only [aa.ae]);(try dsimp only);omega))
 refine ⟨Nat × List bR,fun x => x.1 <= x.2.length /\ da P L x.2 /\ ag5 L p = iv L (97 - x.1) x.1 x.2,fun x => ⟨aI 76 [2,5,6] [.a (.p 1 [] 0 0),.a (.sl 2 [] 0 x.2.length),.a (vI x.1)],[],[.arr 46 kW L false false,.box true [vI n,vI P,.sl 0 [] 0 L.length],.arr 109 kV (cy x.2) true true]⟩,fun x => 97 - x.1,(0,[((p,0,false),[])]),[],⟨Nat.zero_le _,da.one hp,rfl⟩,?_,?_⟩
 ·repeat' ((conv => whnf);(first | apply And.intro | intro _))
  all_goals first | rfl | trivial | exact ah rfl | exact aS ‹_› rfl | exact aT ‹_› rfl | ((repeat' first | rfl | constructor);done) | exact ⟨rfl,rfl,w0⟩
 rintro ⟨h,E⟩ ⟨hh,hE,hf⟩
 dsimp only at hh hE hf
 have Sa:=hE.Kg hP
 by_cases xU : h < E.length
 ·have p0 : decide ((h : Int) < (E.length : Int)) = true:=decide_eq_true (by omega)
  repeat' ((conv => whnf);first | apply And.intro | (intro h9;try (have h8 : (_ : Bool) = _:=h9;clear h8;revert h9;subst_vars;intro h9;exact aq h9 (by assumption))))
  all_goals try (conv => whnf)
  all_goals try first | (apply Tk.mk <;> kernel_rfl) | exact ⟨ah rfl⟩ | exact ⟨rfl⟩ | exact ⟨trivial⟩
  all_goals subst_vars
  all_goals try first | rfl | contradiction | (apply Ob.mk;first | (simp only [ag,ak,aa.ae];omega) | ((try simp only [aa.ae]);(try dsimp only);omega))
  refine ⟨Nat × List bR,fun y => y.1 <= 2 * L.length /\ da P L y.2 /\ h < y.2.length /\ gC L h (2 * L.length) E = gC L h y.1 y.2,fun y => ⟨aI 76 [2,5,6,7] [.a (.p 1 [] 0 0),.a (.sl 2 [] 0 y.2.length),.a (vI h),.a (vI ((L.length : Int) - (y.1 : Nat)))],[],[.arr 46 kW L false false,.box true [vI n,vI P,.sl 0 [] 0 L.length],.arr 109 kV (cy y.2) true true]⟩,fun y => y.1,(2 * L.length,E),[],⟨Nat.le_refl _,hE,xU,rfl⟩,?_,?_⟩
  ·repeat' ((conv => whnf);(first | apply And.intro | intro _))
   all_goals first | rfl | trivial | exact ah rfl | exact aS ‹_› rfl | exact aT ‹_› rfl | ((repeat' first | rfl | constructor);done) | exact QK L.length
  rintro ⟨k,E2⟩ ⟨hk,xP,s5,hr⟩
  dsimp only at hk xP s5 hr
  cases k with
  | zero =>
    have p1 : decide (((L.length : Int) - ((0 : Nat) : Int)) < (L.length : Int)) = false:=decide_eq_false (by omega)
    have c6:=hr.trans (JG L h E2)
    have jH : ag5 L p = iv L (97 - (h + 1)) (h + 1) E2:=by
     rw [hf,show 97 - h = (97 - (h + 1)) + 1 by omega,yB xU,c6]
    clear c6
    repeat' ((conv => whnf);first | apply And.intro | (intro h9;try (have h8 : (_ : Bool) = _:=h9;clear h8;revert h9;subst_vars;intro h9;exact aq h9 (by assumption))))
    all_goals try (conv => whnf)
    all_goals try first | (apply Tk.mk <;> kernel_rfl) | exact ⟨ah rfl⟩ | exact ⟨rfl⟩ | exact ⟨trivial⟩
    all_goals subst_vars
    all_goals try first | rfl | contradiction | (apply Ob.mk;first | (simp only [ag,ak,aa.ae];omega) | ((try simp only [aa.ae]);(try dsimp only);omega))
    refine ⟨(h + 1,E2),[],⟨s5,xP,jH⟩,?_,by show 97 - (h + 1) < 97 - h;omega⟩
    repeat' ((conv => whnf);(first | apply And.intro | intro _))
    all_goals first | rfl | trivial | exact ah rfl | exact aS ‹_› rfl | exact aT ‹_› rfl | ((repeat' first | rfl | constructor);done)
  | succ k =>
    have p1 : decide (((L.length : Int) - ((k + 1 : Nat) : Int)) < (L.length : Int)) = true:=decide_eq_true (by omega)
    have hs : -(L.length : Int) <= ((L.length : Int) - ((k + 1 : Nat) : Int)) /\ ((L.length : Int) - ((k + 1 : Nat) : Int)) < (L.length : Int):=by omega
    have ea:=vz s5
    have hc:=(xP.at s5).2
    have R4:=xP.Kg hP
    have el:=I3 E2
    have e1 : (cf E2 h).1 = (E2.getD h aG).1.1:=by rw [ea];rfl
    have e2 : (cf E2 h).2.1 = (E2.getD h aG).1.2.1:=by rw [ea];rfl
    have e3 : (cf E2 h).2.2.1 = (E2.getD h aG).1.2.2:=by rw [ea];rfl
    have e4 : (cf E2 h).2.2.2 = (E2.getD h aG).2:=by rw [ea];rfl
    have xS : 0 <= (cf E2 h).2.1 /\ (cf E2 h).2.1 <= 7:=by rw [e2];exact hc
    have eX : (((cf E2 h).1,(cf E2 h).2.1,(cf E2 h).2.2.1) : Sp) = (E2.getD h aG).1:=by rw [ea];rfl
    have gN : bw L ((cf E2 h).1,(cf E2 h).2.1,(cf E2 h).2.2.1) ((L.length : Int) - ((k + 1 : Nat) : Int)) = (bw L (E2.getD h aG).1 ((L.length : Int) - ((k + 1 : Nat) : Int))):=by rw [eX]
    have gF : bM L ((cf E2 h).1,(cf E2 h).2.1,(cf E2 h).2.2.1) ((L.length : Int) - ((k + 1 : Nat) : Int)) = (bM L (E2.getD h aG).1 ((L.length : Int) - ((k + 1 : Nat) : Int))):=by rw [eX]
    have abp:=congrArg (fun x : Sp => x.1) gN
    have abq:=congrArg (fun x : Sp => x.2.1) gN
    have abr:=congrArg (fun x : Sp => x.2.2) gN
    repeat' ((conv => whnf);first | apply And.intro | (intro h9;try (have h8 : (_ : Bool) = _:=h9;clear h8;revert h9;subst_vars;intro h9;exact aq h9 (by assumption))))
    all_goals try (conv => whnf)
    all_goals try first | (apply Tk.mk <;> kernel_rfl) | exact ⟨ah rfl⟩ | exact ⟨rfl⟩ | exact ⟨trivial⟩
    all_goals subst_vars
    all_goals try first | rfl | contradiction | (apply Ob.mk;first | (simp only [ag,ak,aa.ae];omega) | ((try simp only [aa.ae]);(try dsimp only);omega))
    refine ⟨Unit,fun _ => True,fun _ => ⟨aI 76 [2,5,6,7,8,9] [.a (.p 1 [] 0 0),.a (.sl 2 [] 0 E2.length),.a (vI h),.a (vI ((L.length : Int) - ((k + 1 : Nat) : Int))),.a (.p 3 [] 0 0),.a (.v (.bool (bM L (E2.getD h aG).1 ((L.length : Int) - ((k + 1 : Nat) : Int)))))],[],[.arr 46 kW L false false,.box true [vI n,vI P,.sl 0 [] 0 L.length],.arr 109 kV (cy E2) true true,.box true [vI (bw L (E2.getD h aG).1 ((L.length : Int) - ((k + 1 : Nat) : Int))).1,vI (bw L (E2.getD h aG).1 ((L.length : Int) - ((k + 1 : Nat) : Int))).2.1,.v (.bool (bw L (E2.getD h aG).1 ((L.length : Int) - ((k + 1 : Nat) : Int))).2.2)]]⟩,?_,?_⟩
    ·repeat' ((conv => whnf);first | apply And.intro | (intro h9;try (have h8 : (_ : Bool) = _:=h9;clear h8;revert h9;subst_vars;intro h9;exact aq h9 (by assumption))))
     all_goals try (conv => whnf)
     all_goals try first | (apply Tk.mk <;> kernel_rfl) | exact ⟨ah rfl⟩ | exact ⟨rfl⟩ | exact ⟨trivial⟩
     all_goals subst_vars
     all_goals try first | rfl | contradiction | (apply Ob.mk;first | (simp only [ag,ak,aa.ae];omega) | ((try simp only [aa.ae]);(try dsimp only);omega))
     all_goals try first
      | exact True.intro
      | exact ⟨hw⟩
      | exact ⟨hl⟩
      | exact ⟨hs⟩
      | exact ⟨show 0 + Int.toNat (h : Int) < (cy E2).length by omega⟩
     all_goals
      refine ⟨(),[],trivial,?_⟩
      repeat' ((conv => whnf);(first | apply And.intro | intro _))
      all_goals first | rfl | trivial | exact ah rfl | exact aS ‹_› rfl | exact aT ‹_› rfl | ((repeat' first | rfl | constructor);done) | exact abp | exact abq | exact abr | exact gF
    clear gN abp abq abr gF
    rintro ⟨⟩ -
    repeat' ((conv => whnf);first | apply And.intro | (intro h9;try (have h8 : (_ : Bool) = _:=h9;clear h8;revert h9;subst_vars;intro h9;exact aq h9 (by assumption))))
    all_goals try (conv => whnf)
    all_goals try first | (apply Tk.mk <;> kernel_rfl) | exact ⟨ah rfl⟩ | exact ⟨rfl⟩ | exact ⟨trivial⟩
    all_goals subst_vars
    all_goals try first | rfl | contradiction | (apply Ob.mk;first | (simp only [ag,ak,aa.ae];omega) | ((try simp only [aa.ae]);(try dsimp only);omega))
    refine ⟨Nat,fun i => i <= E2.length,fun i => ⟨aI 76 [2,5,6,7,8,9,10] [.a (.p 1 [] 0 0),.a (.sl 2 [] 0 E2.length),.a (vI h),.a (vI ((L.length : Int) - ((k + 1 : Nat) : Int))),.a (.p 3 [] 0 0),.a (.v (.bool (dr E2 (bw L (E2.getD h aG).1 ((L.length : Int) - ((k + 1 : Nat) : Int))) (bM L (E2.getD h aG).1 ((L.length : Int) - ((k + 1 : Nat) : Int))) i))),.a (vI i)],[],[.arr 46 kW L false false,.box true [vI n,vI P,.sl 0 [] 0 L.length],.arr 109 kV (cy E2) true true,.box true [vI (bw L (E2.getD h aG).1 ((L.length : Int) - ((k + 1 : Nat) : Int))).1,vI (bw L (E2.getD h aG).1 ((L.length : Int) - ((k + 1 : Nat) : Int))).2.1,.v (.bool (bw L (E2.getD h aG).1 ((L.length : Int) - ((k + 1 : Nat) : Int))).2.2)]]⟩,fun i => E2.length - i,0,[],Nat.zero_le _,?_,?_⟩
    ·have o0 : dr E2 (bw L (E2.getD h aG).1 ((L.length : Int) - ((k + 1 : Nat) : Int))) (bM L (E2.getD h aG).1 ((L.length : Int) - ((k + 1 : Nat) : Int))) 0 = (bM L (E2.getD h aG).1 ((L.length : Int) - ((k + 1 : Nat) : Int))):=by unfold dr;rfl
     repeat' ((conv => whnf);(first | apply And.intro | intro _))
     all_goals first | rfl | trivial | exact ah rfl | exact aS ‹_› rfl | exact aT ‹_› rfl | ((repeat' first | rfl | constructor);done) | exact o0.symm
    rintro i hi
    by_cases hi1 : i < E2.length
    ·have p2 : decide ((i : Int) < (E2.length : Int)) = true:=decide_eq_true (by omega)
     have ot : dr E2 (bw L (E2.getD h aG).1 ((L.length : Int) - ((k + 1 : Nat) : Int))) (bM L (E2.getD h aG).1 ((L.length : Int) - ((k + 1 : Nat) : Int))) i = true -> (!((cf E2 i).1 == (bw L (E2.getD h aG).1 ((L.length : Int) - ((k + 1 : Nat) : Int))).1 && ((cf E2 i).2.1 == (bw L (E2.getD h aG).1 ((L.length : Int) - ((k + 1 : Nat) : Int))).2.1 && ((cf E2 i).2.2.1 == (bw L (E2.getD h aG).1 ((L.length : Int) - ((k + 1 : Nat) : Int))).2.2 && true)))) = dr E2 (bw L (E2.getD h aG).1 ((L.length : Int) - ((k + 1 : Nat) : Int))) (bM L (E2.getD h aG).1 ((L.length : Int) - ((k + 1 : Nat) : Int))) (i + 1):=fun h => by rw [agS,h]
     have of : dr E2 (bw L (E2.getD h aG).1 ((L.length : Int) - ((k + 1 : Nat) : Int))) (bM L (E2.getD h aG).1 ((L.length : Int) - ((k + 1 : Nat) : Int))) i = false -> false = dr E2 (bw L (E2.getD h aG).1 ((L.length : Int) - ((k + 1 : Nat) : Int))) (bM L (E2.getD h aG).1 ((L.length : Int) - ((k + 1 : Nat) : Int))) (i + 1):=fun h => by rw [agS,h]
     repeat' ((conv => whnf);first | apply And.intro | (intro h9;try (have h8 : (_ : Bool) = _:=h9;clear h8;revert h9;subst_vars;intro h9;exact aq h9 (by assumption))))
     all_goals try (conv => whnf)
     all_goals try first | (apply Tk.mk <;> kernel_rfl) | exact ⟨ah rfl⟩ | exact ⟨rfl⟩ | exact ⟨trivial⟩
     all_goals subst_vars
     all_goals try first | rfl | contradiction | (apply Ob.mk;first | (simp only [ag,ak,aa.ae];omega) | ((try simp only [aa.ae]);(try dsimp only);omega))
     all_goals try first
      | exact ⟨show 0 + Int.toNat (i : Int) < (cy E2).length by omega⟩
     all_goals
      refine ⟨i + 1,[],hi1,?_,by show E2.length - (i + 1) < E2.length - i;omega⟩
      repeat' ((conv => whnf);(first | apply And.intro | intro _))
      all_goals first | rfl | trivial | exact ah rfl | exact aS ‹_› rfl | exact aT ‹_› rfl | ((repeat' first | rfl | constructor);done) | exact ot (by assumption) | exact of (by assumption) | exact (of (by assumption)).symm
    have p2 : decide ((i : Int) < (E2.length : Int)) = false:=decide_eq_false (by omega)
    obtain rfl : i = E2.length:=by omega
    clear hi hi1
    obtain o1 | o1 : dr E2 (bw L (E2.getD h aG).1 ((L.length : Int) - ((k + 1 : Nat) : Int))) (bM L (E2.getD h aG).1 ((L.length : Int) - ((k + 1 : Nat) : Int))) E2.length = false \/ dr E2 (bw L (E2.getD h aG).1 ((L.length : Int) - ((k + 1 : Nat) : Int))) (bM L (E2.getD h aG).1 ((L.length : Int) - ((k + 1 : Nat) : Int))) E2.length = true:=by cases dr E2 (bw L (E2.getD h aG).1 ((L.length : Int) - ((k + 1 : Nat) : Int))) (bM L (E2.getD h aG).1 ((L.length : Int) - ((k + 1 : Nat) : Int))) E2.length <;> simp
    ·have c6:=(hr.trans (tX ..)).trans (congrArg (gC L h k) (add_not o1))
     repeat' ((conv => whnf);first | apply And.intro | (intro h9;try (have h8 : (_ : Bool) = _:=h9;clear h8;revert h9;subst_vars;intro h9;exact aq h9 (by assumption))))
     all_goals try (conv => whnf)
     all_goals try first | (apply Tk.mk <;> kernel_rfl) | exact ⟨ah rfl⟩ | exact ⟨rfl⟩ | exact ⟨trivial⟩
     all_goals subst_vars
     all_goals try first | rfl | contradiction | (apply Ob.mk;first | (simp only [ag,ak,aa.ae];omega) | ((try simp only [aa.ae]);(try dsimp only);omega))
     refine ⟨(k,E2),[],⟨Nat.le_of_succ_le hk,xP,s5,c6⟩,?_,Nat.lt_succ_self k⟩
     repeat' ((conv => whnf);(first | apply And.intro | intro _))
     all_goals first | rfl | trivial | exact ah rfl | exact aS ‹_› rfl | exact aT ‹_› rfl | ((repeat' first | rfl | constructor);done) | exact sub_succ L.length k
    obtain ⟨o2,o3⟩:=abe o1
    have c6:=(hr.trans (tX ..)).trans (congrArg (gC L h k) (me o2 o3))
    have hvl : (cf E2 h).2.2.2.length <= 96:=by rw [e4];have:=xP.len h s5;omega
    have PS:=aaZ E2 ((bw L (E2.getD h aG).1 ((L.length : Int) - ((k + 1 : Nat) : Int))),(E2.getD h aG).2 ++ [((L.length : Int) - ((k + 1 : Nat) : Int))])
    have abu : List.drop 0 (cy E2) ++ [(((bw L (E2.getD h aG).1 ((L.length : Int) - ((k + 1 : Nat) : Int))).1,(bw L (E2.getD h aG).1 ((L.length : Int) - ((k + 1 : Nat) : Int))).2.1,(bw L (E2.getD h aG).1 ((L.length : Int) - ((k + 1 : Nat) : Int))).2.2,List.drop 0 (List.take (cf E2 h).2.2.2.length (List.drop 0 (cf E2 h).2.2.2)) ++ List.take 1 (List.drop 0 [((L.length : Int) - ((k + 1 : Nat) : Int))])) : Wy)] = cy (E2 ++ [((bw L (E2.getD h aG).1 ((L.length : Int) - ((k + 1 : Nat) : Int))),(E2.getD h aG).2 ++ [((L.length : Int) - ((k + 1 : Nat) : Int))])]):=by
     rw [PS,List.drop_zero,List.drop_zero,List.drop_zero,List.drop_zero,List.take_length,e4];rfl
    have dZ : E2.length + 1 = (E2 ++ [((bw L (E2.getD h aG).1 ((L.length : Int) - ((k + 1 : Nat) : Int))),(E2.getD h aG).2 ++ [((L.length : Int) - ((k + 1 : Nat) : Int))])]).length:=aaW _ _
    repeat' ((conv => whnf);first | apply And.intro | (intro h9;try (have h8 : (_ : Bool) = _:=h9;clear h8;revert h9;subst_vars;intro h9;exact aq h9 (by assumption))))
    all_goals try (conv => whnf)
    all_goals try first | (apply Tk.mk <;> kernel_rfl) | exact ⟨ah rfl⟩ | exact ⟨rfl⟩ | exact ⟨trivial⟩
    all_goals subst_vars
    all_goals try first | rfl | contradiction | (apply Ob.mk;first | (simp only [ag,ak,aa.ae];omega) | ((try simp only [aa.ae]);(try dsimp only);omega))
    all_goals try first
     | exact True.intro
     | exact ⟨show 0 + E2.length = (cy E2).length by omega⟩
     | exact ⟨show (E2.length + 1) * 4 <= 1099511627776 by omega⟩
     | exact ⟨show (cf E2 h).2.2.2.length + 1 = (List.drop 0 (List.take (cf E2 h).2.2.2.length (List.drop 0 (cf E2 h).2.2.2)) ++ List.take 1 (List.drop 0 [((L.length : Int) - ((k + 1 : Nat) : Int))])).length by simp⟩
     | exact ⟨show (cf E2 h).2.2.2.length * 1 <= 1099511627776 by omega⟩
     | exact ⟨show ((cf E2 h).2.2.2.length + 1) * 1 <= 1099511627776 by omega⟩
     | exact ⟨show 0 + (cf E2 h).2.2.2.length = (List.take (cf E2 h).2.2.2.length (List.drop 0 (cf E2 h).2.2.2)).length by simp⟩
     | exact ⟨show 0 + Int.toNat (h : Int) < (cy E2).length by omega⟩
    all_goals
     refine ⟨(k,E2 ++ [((bw L (E2.getD h aG).1 ((L.length : Int) - ((k + 1 : Nat) : Int))),(E2.getD h aG).2 ++ [((L.length : Int) - ((k + 1 : Nat) : Int))])]),[0,1,2],⟨Nat.le_of_succ_le hk,xP.snoc (cW.1 hw) s5 hs o3,by show h < (E2 ++ _).length;rw [List.length_append];omega,c6⟩,?_,Nat.lt_succ_self k⟩
     repeat' ((conv => whnf);(first | apply And.intro | intro _))
     all_goals first | rfl | trivial | exact ah rfl | exact aS ‹_› rfl | exact aT ‹_› rfl | ((repeat' first | rfl | constructor);done) | exact sub_succ L.length k | exact dZ | exact ⟨rfl,rfl,abu⟩
 have p0 : decide ((h : Int) < (E.length : Int)) = false:=decide_eq_false (by omega)
 rw [hf.trans (Cc (by omega))] at hK
 repeat' ((conv => whnf);first | apply And.intro | (intro h9;try (have h8 : (_ : Bool) = _:=h9;clear h8;revert h9;subst_vars;intro h9;exact aq h9 (by assumption))))
 all_goals try (conv => whnf)
 all_goals try first | (apply Tk.mk <;> kernel_rfl) | exact ⟨ah rfl⟩ | exact ⟨rfl⟩ | exact ⟨trivial⟩
 all_goals subst_vars
 all_goals try first | rfl | contradiction | (apply Ob.mk;first | (simp only [ag,ak,aa.ae];omega) | ((try simp only [aa.ae]);(try dsimp only);omega))
 refine bu.base ⟨_,[2],hK,⟨rfl,rfl,by simp,trivial⟩,rfl,?_⟩
 repeat' ((conv => whnf);(first | apply And.intro | intro _))
 all_goals first | rfl | trivial)
end Go.Proofs.YthejmgnkenokpaaGreatDoor
end
section
namespace Go.Proofs.YthejmgnkenokpaaGreatDoor
open Go Go.Sy Go.bK
variable {Γ : bn}
attribute [local irreducible] cU aX fO
end Go.Proofs.YthejmgnkenokpaaGreatDoor
end
section
namespace Go.Proofs.YthejmgnkenokpaaGreatDoor
open Go Go.Sy Go.bK
variable {Γ : bn}
end Go.Proofs.YthejmgnkenokpaaGreatDoor
end
section
namespace Go.Proofs.YthejmgnkenokpaaGreatDoor
open Go Go.Sy Go.bK
variable {Γ : bn}
theorem Yh (k : Nat) : ((Int.tdiv (k : Int) 2,Int.tmod (k : Int) 2 == 1) : Sg) = fA k:=by
 unfold fA
 have h1 : Int.tdiv (k : Int) 2 = ((k / 2 : Nat) : Int):=(Int.ofNat_tdiv k 2).symm
 have h2 : Int.tmod (k : Int) 2 = ((k % 2 : Nat) : Int):=(Int.ofNat_tmod k 2).symm
 rw [h1,h2]
 refine Prod.ext rfl ?_
 show (((k % 2 : Nat) : Int) == 1) = (k % 2 == 1)
 rw [Bool.eq_iff_iff,beq_iff_eq,beq_iff_eq];omega
def c5 (E : List bR) (p : Int) (k : Nat) : Nat -> List Sg
 | 0 => ee E p k
 | i + 1 => match (cf E i).1 == p && ((cf E i).2.1 == (Int.tdiv (k : Int) 2) && ((cf E i).2.2.1 == (Int.tmod (k : Int) 2 == 1) && true)) with | true => c5 E p k i ++ [((Int.tdiv (k : Int) 2),(Int.tmod (k : Int) 2 == 1))] | false => c5 E p k i
theorem mi (E : List bR) (p : Int) (k i : Nat) : c5 E p k (i + 1) = match (cf E i).1 == p && ((cf E i).2.1 == (Int.tdiv (k : Int) 2) && ((cf E i).2.2.1 == (Int.tmod (k : Int) 2 == 1) && true)) with | true => c5 E p k i ++ [((Int.tdiv (k : Int) 2),(Int.tmod (k : Int) 2 == 1))] | false => c5 E p k i:=rfl
theorem aaM {E : List bR} (hd : (E.map (·.1)).Nodup) (p : Int) (k : Nat) : ∀ i,i <= E.length -> c5 E p k i = if (∃ j,j < i /\ (E.getD j aG).1 = (p,fA k)) then ee E p k ++ [fA k] else ee E p k
 | 0,_ => by
   rw [if_neg (fun ⟨j,h,_⟩ => Nat.not_lt_zero j h)];rfl
 | i + 1,hi => by
   have ih:=aaM hd p k i (by omega)
   have e1 : ((cf E i).1 == p && ((cf E i).2.1 == (Int.tdiv (k : Int) 2) && ((cf E i).2.2.1 == (Int.tmod (k : Int) 2 == 1) && true))) = ((E.getD i aG).1 == (p,fA k)):=by
    rw [vz (by omega),<- Yh];exact aaP _ (p,(Int.tdiv (k : Int) 2),(Int.tmod (k : Int) 2 == 1))
   rw [mi,e1]
   cases hb : ((E.getD i aG).1 == (p,fA k)) <;> dsimp only
   ·rw [ih]
    by_cases h : ∃ j,j < i /\ (E.getD j aG).1 = (p,fA k)
    ·rw [if_pos h,if_pos]
     obtain ⟨j,h1,h2⟩:=h
     exact ⟨j,by omega,h2⟩
    ·rw [if_neg h,if_neg]
     rintro ⟨j,h1,h2⟩
     rcases Nat.lt_or_ge j i with h3 | h3
     ·exact h ⟨j,h3,h2⟩
     ·obtain rfl : j = i:=by omega
      rw [h2] at hb;simp at hb
   ·have hb:=eq_of_beq hb
    have hno : ¬ ∃ j,j < i /\ (E.getD j aG).1 = (p,fA k):=by
     rintro ⟨j,h1,h2⟩
     have hj : j < E.length:=by omega
     rw [List.getD_eq_getElem?_getD,List.getElem?_eq_getElem hj] at h2
     rw [List.getD_eq_getElem?_getD,List.getElem?_eq_getElem (by omega)] at hb
     simp only [Option.getD_some] at h2 hb
     have h3 : (E.map (·.1))[j]'(by rw [List.length_map];exact hj) = (E.map (·.1))[i]'(by rw [List.length_map];omega):=by
      rw [List.getElem_map,List.getElem_map,h2,hb]
     have:=(List.getElem_inj hd).1 h3
     omega
    rw [ih,if_neg hno,if_pos ⟨i,by omega,hb⟩,Yh]
theorem aa8 {E : List bR} (hd : (E.map (·.1)).Nodup) (p : Int) (k : Nat) : c5 E p k E.length = ee E p (k + 1):=by
 rw [aaM hd p k _ (Nat.le_refl _),ee]
 have e : (∃ j,j < E.length /\ (E.getD j aG).1 = (p,fA k)) <-> l9 E p (fA k) = true:=by
  unfold l9
  constructor
  ·rintro ⟨j,h1,h2⟩
   exact kC.2 (List.mem_map.2 ⟨_,pc h1,h2⟩)
  ·intro h;exact LN h
 cases hb : l9 E p (fA k) <;> rw [hb] at e
 ·rw [if_neg (fun h => by have:=e.1 h;cases this)]
 ·rw [if_pos (e.2 rfl)]
theorem z6 (E : List bR) (p : Int) (k : Nat) : ∀ i,(c5 E p k i).length <= k + i
 | 0 => oK _ _ _
 | i + 1 => by
   have:=z6 E p k i
   rw [mi]
   split
   ·rw [List.length_append,List.length_singleton];omega
   ·omega
def kx : au:=tG (fun _ P L p => [(aa.of (dY P L = true)),(aa.of (P <= 6)),(aa.of (L.length <= 1000000)),(aa.of (0 <= p /\ p <= P - 1))]) (fun _ _ L p => ⟨[.arr 48 kG (af L p) true true],.a (.sl 0 [] 0 (af L p).length)⟩)
noncomputable def aa6 : List (Nat × au):=[(67,aaH)]
theorem L2 : aR Tryz.prog Γ aa6:=(aR.nil.cons (aj Tryz.func67 rfl rfl).fn aaI)
attribute [local irreducible] ag5 c5 cy
theorem k8 : au.Ok Tryz.prog Γ 29 kx:=sa (d:=0) (aP L2 bq.nil false 0) (aj Tryz.func29 rfl rfl) (by
 intro n P L p K ⟨hw,hP,hl,hp,_⟩ hK
 simp only [aa.ae] at hw hP hl hp
 have hE:=xh (cW.1 hw) hP hp
 have Sa:=hE.Kg hP
 have el:=I3 (ag5 L p)
 repeat' ((conv => whnf);first | apply And.intro | (intro h9;try (have h8 : (_ : Bool) = _:=h9;clear h8;revert h9;subst_vars;intro h9;exact aq h9 (by assumption))))
 all_goals try (conv => whnf)
 all_goals try first | (apply Tk.mk <;> kernel_rfl) | exact ⟨ah rfl⟩ | exact ⟨rfl⟩ | exact ⟨trivial⟩
 all_goals subst_vars
 all_goals try first | rfl | contradiction | (apply Ob.mk;first | (simp only [ag,ak,aa.ae];omega) | ((try simp only [aa.ae]);(try dsimp only);omega))
 all_goals try first
  | exact ⟨hw⟩
  | exact ⟨hl⟩
 refine ⟨Nat,fun k => k <= 16,fun k => ⟨aI 52 [1,5,6,7] [.a (vI p),.a (.sl 2 [] 0 (ag5 L p).length),.a (.sl 3 [] 0 (ee (ag5 L p) p k).length),.a (vI k)],[],[.arr 46 kW L false false,.box true [vI n,vI P,.sl 0 [] 0 L.length],.arr 109 kV (cy (ag5 L p)) true true,.arr 48 kG (ee (ag5 L p) p k) true true]⟩,fun k => 16 - k,0,[0,1,2,1000],Nat.zero_le _,?_,?_⟩
 ·repeat' ((conv => whnf);(first | apply And.intro | intro _))
  all_goals first | rfl | trivial | exact ah rfl | exact aS ‹_› rfl | exact aT ‹_› rfl | ((repeat' first | rfl | constructor);done)
 rintro k hk
 by_cases cB : k < 16
 ·have p0 : decide ((k : Int) < 16) = true:=decide_eq_true (by omega)
  have hT : cT (Int.tdiv (k : Int) 2):=by have:=YL cB;rw [<- Yh] at this;exact this
  have o1 : (ag .i64 (Int.tdiv (k : Int) 2)).p:=by show ak .i64 _;unfold cT at hT;unfold ak;omega
  repeat' ((conv => whnf);first | apply And.intro | (intro h9;try (have h8 : (_ : Bool) = _:=h9;clear h8;revert h9;subst_vars;intro h9;exact aq h9 (by assumption))))
  all_goals try (conv => whnf)
  all_goals try first | (apply Tk.mk <;> kernel_rfl) | exact ⟨ah rfl⟩ | exact ⟨rfl⟩ | exact ⟨trivial⟩
  all_goals subst_vars
  all_goals try first | rfl | contradiction | (apply Ob.mk;first | (simp only [ag,ak,aa.ae];omega) | ((try simp only [aa.ae]);(try dsimp only);omega))
  refine ⟨Nat,fun i => i <= (ag5 L p).length,fun i => ⟨aI 52 [1,5,6,7,8,9] [.a (vI p),.a (.sl 2 [] 0 (ag5 L p).length),.a (.sl 3 [] 0 (c5 (ag5 L p) p k i).length),.a (vI k),.a (.p 4 [] 0 0),.a (vI i)],[],[.arr 46 kW L false false,.box true [vI n,vI P,.sl 0 [] 0 L.length],.arr 109 kV (cy (ag5 L p)) true true,.arr 48 kG (c5 (ag5 L p) p k i) true true,.box true [vI (Int.tdiv (k : Int) 2),.v (.bool (Int.tmod (k : Int) 2 == 1))]]⟩,fun i => (ag5 L p).length - i,0,[0,1,2,3,4],Nat.zero_le _,?_,?_⟩
  ·have h0 : c5 (ag5 L p) p k 0 = ee (ag5 L p) p k:=by unfold c5;rfl
   have abw:=congrArg List.length h0
   repeat' ((conv => whnf);(first | apply And.intro | intro _))
   all_goals first | rfl | trivial | exact ah rfl | exact aS ‹_› rfl | exact aT ‹_› rfl | ((repeat' first | rfl | constructor);done) | exact abw.symm | exact ⟨rfl,rfl,h0.symm⟩
  rintro i hi
  by_cases hi1 : i < (ag5 L p).length
  ·have p1 : decide ((i : Int) < ((ag5 L p).length : Int)) = true:=decide_eq_true (by omega)
   have hs:=mi (ag5 L p) p k i
   have Np:=z6 (ag5 L p) p k i
   obtain a1 | a1 : ((cf (ag5 L p) i).1 == p) = false \/ ((cf (ag5 L p) i).1 == p) = true:=by cases ((cf (ag5 L p) i).1 == p) <;> simp
   ·rw [a1] at hs
    have pT : c5 (ag5 L p) p k i = c5 (ag5 L p) p k (i + 1):=hs.symm
    have eE:=congrArg List.length pT
    repeat' ((conv => whnf);first | apply And.intro | (intro h9;try (have h8 : (_ : Bool) = _:=h9;clear h8;revert h9;subst_vars;intro h9;exact aq h9 (by assumption))))
    all_goals try (conv => whnf)
    all_goals try first | (apply Tk.mk <;> kernel_rfl) | exact ⟨ah rfl⟩ | exact ⟨rfl⟩ | exact ⟨trivial⟩
    all_goals subst_vars
    all_goals try first | rfl | contradiction | (apply Ob.mk;first | (simp only [ag,ak,aa.ae];omega) | ((try simp only [aa.ae]);(try dsimp only);omega))
    all_goals try first
     | exact ⟨show 0 + Int.toNat (i : Int) < (cy (ag5 L p)).length by omega⟩
    refine ⟨i + 1,[],hi1,?_,by show (ag5 L p).length - (i + 1) < (ag5 L p).length - i;omega⟩
    repeat' ((conv => whnf);(first | apply And.intro | intro _))
    all_goals first | rfl | trivial | exact ah rfl | exact aS ‹_› rfl | exact aT ‹_› rfl | ((repeat' first | rfl | constructor);done) | exact eE | exact ⟨rfl,rfl,pT⟩
   obtain b1 | b1 : ((cf (ag5 L p) i).2.1 == (Int.tdiv (k : Int) 2) && ((cf (ag5 L p) i).2.2.1 == (Int.tmod (k : Int) 2 == 1) && true)) = false \/ ((cf (ag5 L p) i).2.1 == (Int.tdiv (k : Int) 2) && ((cf (ag5 L p) i).2.2.1 == (Int.tmod (k : Int) 2 == 1) && true)) = true:=by cases ((cf (ag5 L p) i).2.1 == (Int.tdiv (k : Int) 2) && ((cf (ag5 L p) i).2.2.1 == (Int.tmod (k : Int) 2 == 1) && true)) <;> simp
   ·rw [a1,b1] at hs
    have pT : c5 (ag5 L p) p k i = c5 (ag5 L p) p k (i + 1):=hs.symm
    have eE:=congrArg List.length pT
    repeat' ((conv => whnf);first | apply And.intro | (intro h9;try (have h8 : (_ : Bool) = _:=h9;clear h8;revert h9;subst_vars;intro h9;exact aq h9 (by assumption))))
    all_goals try (conv => whnf)
    all_goals try first | (apply Tk.mk <;> kernel_rfl) | exact ⟨ah rfl⟩ | exact ⟨rfl⟩ | exact ⟨trivial⟩
    all_goals subst_vars
    all_goals try first | rfl | contradiction | (apply Ob.mk;first | (simp only [ag,ak,aa.ae];omega) | ((try simp only [aa.ae]);(try dsimp only);omega))
    all_goals try first
     | exact ⟨show 0 + Int.toNat (i : Int) < (cy (ag5 L p)).length by omega⟩
    refine ⟨i + 1,[],hi1,?_,by show (ag5 L p).length - (i + 1) < (ag5 L p).length - i;omega⟩
    repeat' ((conv => whnf);(first | apply And.intro | intro _))
    all_goals first | rfl | trivial | exact ah rfl | exact aS ‹_› rfl | exact aT ‹_› rfl | ((repeat' first | rfl | constructor);done) | exact eE | exact ⟨rfl,rfl,pT⟩
   rw [a1,b1] at hs
   have pT : c5 (ag5 L p) p k i ++ [((Int.tdiv (k : Int) 2),(Int.tmod (k : Int) 2 == 1))] = c5 (ag5 L p) p k (i + 1):=hs.symm
   have eE:=congrArg List.length pT
   rw [List.length_append,List.length_singleton] at eE
   repeat' ((conv => whnf);first | apply And.intro | (intro h9;try (have h8 : (_ : Bool) = _:=h9;clear h8;revert h9;subst_vars;intro h9;exact aq h9 (by assumption))))
   all_goals try (conv => whnf)
   all_goals try first | (apply Tk.mk <;> kernel_rfl) | exact ⟨ah rfl⟩ | exact ⟨rfl⟩ | exact ⟨trivial⟩
   all_goals subst_vars
   all_goals try first | rfl | contradiction | (apply Ob.mk;first | (simp only [ag,ak,aa.ae];omega) | ((try simp only [aa.ae]);(try dsimp only);omega))
   all_goals try first
    | exact ⟨Nat.zero_add _⟩
    | exact ⟨show 0 + Int.toNat (i : Int) < (cy (ag5 L p)).length by omega⟩
    | exact ⟨show ((c5 (ag5 L p) p k i).length + 1) * 2 <= 1099511627776 by omega⟩
   refine ⟨i + 1,[],hi1,?_,by show (ag5 L p).length - (i + 1) < (ag5 L p).length - i;omega⟩
   repeat' ((conv => whnf);(first | apply And.intro | intro _))
   all_goals first | rfl | trivial | exact ah rfl | exact aS ‹_› rfl | exact aT ‹_› rfl | ((repeat' first | rfl | constructor);done) | exact eE | exact ⟨rfl,rfl,pT⟩
  have p1 : decide ((i : Int) < ((ag5 L p).length : Int)) = false:=decide_eq_false (by omega)
  obtain rfl : i = (ag5 L p).length:=by omega
  have pT:=aa8 hE.nd p k
  have eE:=congrArg List.length pT
  repeat' ((conv => whnf);first | apply And.intro | (intro h9;try (have h8 : (_ : Bool) = _:=h9;clear h8;revert h9;subst_vars;intro h9;exact aq h9 (by assumption))))
  all_goals try (conv => whnf)
  all_goals try first | (apply Tk.mk <;> kernel_rfl) | exact ⟨ah rfl⟩ | exact ⟨rfl⟩ | exact ⟨trivial⟩
  all_goals subst_vars
  all_goals try first | rfl | contradiction | (apply Ob.mk;first | (simp only [ag,ak,aa.ae];omega) | ((try simp only [aa.ae]);(try dsimp only);omega))
  refine ⟨k + 1,[0,1,2,3],cB,?_,by show 16 - (k + 1) < 16 - k;omega⟩
  repeat' ((conv => whnf);(first | apply And.intro | intro _))
  all_goals first | rfl | trivial | exact ah rfl | exact aS ‹_› rfl | exact aT ‹_› rfl | ((repeat' first | rfl | constructor);done) | exact eE | exact ⟨rfl,rfl,pT⟩
 have p0 : decide ((k : Int) < 16) = false:=decide_eq_false (by omega)
 obtain rfl : k = 16:=by omega
 repeat' ((conv => whnf);first | apply And.intro | (intro h9;try (have h8 : (_ : Bool) = _:=h9;clear h8;revert h9;subst_vars;intro h9;exact aq h9 (by assumption))))
 all_goals try (conv => whnf)
 all_goals try first | (apply Tk.mk <;> kernel_rfl) | exact ⟨ah rfl⟩ | exact ⟨rfl⟩ | exact ⟨trivial⟩
 all_goals subst_vars
 all_goals try first | rfl | contradiction | (apply Ob.mk;first | (simp only [ag,ak,aa.ae];omega) | ((try simp only [aa.ae]);(try dsimp only);omega))
 refine bu.base ⟨_,[3],hK,⟨rfl,rfl,by simp,trivial⟩,rfl,?_⟩
 repeat' ((conv => whnf);(first | apply And.intro | intro _))
 all_goals first | rfl | trivial | (unfold af;rfl) | exact ⟨rfl,rfl,(by unfold af;rfl)⟩)
attribute [local irreducible] eR
end Go.Proofs.YthejmgnkenokpaaGreatDoor
end
