/-
  Texts of the claims on chapter 3: Yk11. No condition: lemmas and contracts.
-/
import Derived.Test.YthejmgnkenokpaaDoorYk8
import Derived.Test.YthejmgnkenokpaaDoorQ22
set_option linter.all false
set_option maxRecDepth 100000
set_option maxHeartbeats 4000000
section
namespace Go.Proofs.YthejmgnkenokpaaDoor
open Go Go.Sy Go.bK
variable {Γ : bn}
theorem Tj {n P : Int} {L : List Wk} {p : Int} (h : bD n P L = 0) (hp : 0 <= p /\ p <= P - 1) : bf n P L p = 0:=by unfold bf;rw [if_pos h,if_pos (bA.2 hp)]
theorem Te {n P : Int} {L : List Wk} {p : Int} (h : bD n P L = 0) (hp : 0 <= p /\ p <= P - 1) : o6 n P L p = (zb n (af L p) == 0):=by
 have hs:=oe.1 h
 unfold o6;rw [Tj h hp]
 show (lP n (af L p) == 0) = _
 rw [Ax (nK (fun w hw => hs.w w hw) hs.p.2 hp) hs.n]
theorem Ut {n P : Int} {L : List Wk} {p : Int} (h : bD n P L = 0) (hp : 0 <= p /\ p <= P - 1) : pb n P L p = zb n (af L p):=by
 have hs:=oe.1 h
 unfold pb;rw [Tj h hp]
 show lP n (af L p) = _
 rw [Ax (nK (fun w hw => hs.w w hw) hs.p.2 hp) hs.n]
def TG : au:=GO (fun _ _ _ _ => []) (fun _ _ _ _ => bl true)
noncomputable def Ve : List (Nat × au):=[(31,qm),(32,xx),(36,Hz),(19,F9),(18,xw),(16,tC)]
theorem UP : aR Tryd.prog Γ Ve:=((((((aR.nil.cons (aj Tryd.func16 rfl rfl).fn sW).cons (aj Tryd.func18 rfl rfl).fn zI).cons (aj Tryd.func19 rfl rfl).fn Ga).cons (aj Tryd.func36 rfl rfl).fn HA).cons (aj Tryd.func32 rfl rfl).fn zJ).cons (aj Tryd.func31 rfl rfl).fn qn)
attribute [local irreducible] aY cr aQ bJ cD aX bD bf o6 pb
theorem Tl : au.Ok Tryd.prog Γ 7 TG:=GP (d:=0) (aP UP bq.nil false 0) (aj Tryd.func7 rfl rfl) (fun _ _ _ _ => rfl) (by
 intro n a b l _
 obtain h1 | h1 : aQ a 0 7 = false \/ aQ a 0 7 = true:=by cases aQ a 0 7 <;> simp
 ·have z1 : ((aY a b).2 != 0) = true:=by rw [jA (.inl h1)];rfl
  repeat' ((conv => whnf);first | apply And.intro | (intro h9;try (have h8 : (_ : Bool) = _:=h9;clear h8;revert h9;subst_vars;intro h9;exact aq h9 (by assumption))))
  all_goals try (conv => whnf)
  all_goals try first | (apply Tk.mk <;> kernel_rfl) | exact ⟨ah rfl⟩ | exact ⟨rfl⟩ | exact ⟨trivial⟩
  all_goals subst_vars
  all_goals try first | rfl | contradiction | (apply Ob.mk;first | (simp only [ag,ak,aa.ae];omega) | ((try simp only [aa.ae]);(try dsimp only);omega))
  all_goals first
   | trivial
   | (apply Ob.mk;show (ag .i64 _).p;simp only [ag,ak,aa.ae];omega)
 obtain h2 | h2 : aQ b 0 7 = false \/ aQ b 0 7 = true:=by cases aQ b 0 7 <;> simp
 ·have z1 : ((aY a b).2 != 0) = true:=by rw [jA (.inr h2)];rfl
  repeat' ((conv => whnf);first | apply And.intro | (intro h9;try (have h8 : (_ : Bool) = _:=h9;clear h8;revert h9;subst_vars;intro h9;exact aq h9 (by assumption))))
  all_goals try (conv => whnf)
  all_goals try first | (apply Tk.mk <;> kernel_rfl) | exact ⟨ah rfl⟩ | exact ⟨rfl⟩ | exact ⟨trivial⟩
  all_goals subst_vars
  all_goals try first | rfl | contradiction | (apply Ob.mk;first | (simp only [ag,ak,aa.ae];omega) | ((try simp only [aa.ae]);(try dsimp only);omega))
  all_goals first
   | trivial
   | (apply Ob.mk;show (ag .i64 _).p;simp only [ag,ak,aa.ae];omega)
 have z1 : ((aY a b).2 != 0) = false:=by rw [di h1 h2];rfl
 have Ku:=uL h1 h2
 have kb:=Fa Ku
 have k1 : aQ 1 0 7 = true:=by unfold aQ;rfl
 have z2 : ((cr (aY a b).1).2 != 0) = false:=by rw [di h1 h2,lq Ku];rfl
 obtain h3 | h3 : aQ l 0 7 = false \/ aQ l 0 7 = true:=by cases aQ l 0 7 <;> simp
 ·have z3 : ((aY (cr (aY a b).1).1 l).2 != 0) = true:=by rw [jA (.inr h3)];rfl
  repeat' ((conv => whnf);first | apply And.intro | (intro h9;try (have h8 : (_ : Bool) = _:=h9;clear h8;revert h9;subst_vars;intro h9;exact aq h9 (by assumption))))
  all_goals try (conv => whnf)
  all_goals try first | (apply Tk.mk <;> kernel_rfl) | exact ⟨ah rfl⟩ | exact ⟨rfl⟩ | exact ⟨trivial⟩
  all_goals subst_vars
  all_goals try first | rfl | contradiction | (apply Ob.mk;first | (simp only [ag,ak,aa.ae];omega) | ((try simp only [aa.ae]);(try dsimp only);omega))
  all_goals first
   | trivial
   | (apply Ob.mk;show (ag .i64 _).p;simp only [ag,ak,aa.ae];omega)
 have z3 : ((aY (cr (aY a b).1).1 l).2 != 0) = false:=by rw [di h1 h2,lq Ku,di kb h3];rfl
 have z4 : ((aY a 1).2 != 0) = false:=by rw [di h1 k1];rfl
 obtain h4 | h4 : decide (n < 1) = true \/ decide (n < 1) = false:=by cases decide (n < 1) <;> simp
 ·repeat' ((conv => whnf);first | apply And.intro | (intro h9;try (have h8 : (_ : Bool) = _:=h9;clear h8;revert h9;subst_vars;intro h9;exact aq h9 (by assumption))))
  all_goals try (conv => whnf)
  all_goals try first | (apply Tk.mk <;> kernel_rfl) | exact ⟨ah rfl⟩ | exact ⟨rfl⟩ | exact ⟨trivial⟩
  all_goals subst_vars
  all_goals try first | rfl | contradiction | (apply Ob.mk;first | (simp only [ag,ak,aa.ae];omega) | ((try simp only [aa.ae]);(try dsimp only);omega))
  all_goals first
   | trivial
   | (apply Ob.mk;show (ag .i64 _).p;simp only [ag,ak,aa.ae];omega)
 obtain h5 | h5 : decide (n > 6) = true \/ decide (n > 6) = false:=by cases decide (n > 6) <;> simp
 ·repeat' ((conv => whnf);first | apply And.intro | (intro h9;try (have h8 : (_ : Bool) = _:=h9;clear h8;revert h9;subst_vars;intro h9;exact aq h9 (by assumption))))
  all_goals try (conv => whnf)
  all_goals try first | (apply Tk.mk <;> kernel_rfl) | exact ⟨ah rfl⟩ | exact ⟨rfl⟩ | exact ⟨trivial⟩
  all_goals subst_vars
  all_goals try first | rfl | contradiction | (apply Ob.mk;first | (simp only [ag,ak,aa.ae];omega) | ((try simp only [aa.ae]);(try dsimp only);omega))
  all_goals first
   | trivial
   | (apply Ob.mk;show (ag .i64 _).p;simp only [ag,ak,aa.ae];omega)
 have hn : bz n:=by have:=of_decide_eq_false h4;have:=of_decide_eq_false h5;unfold bz;omega
 have ha : cT a:=bA.1 h1
 have hb : cT b:=bA.1 h2
 have hl : cT l:=bA.1 h3
 have e3 : [(0,1,a),(1,2,b),(2,0,(aY (cr (aY a b).1).1 l).1)] = SL a b l:=by rw [di h1 h2,lq Ku,di kb h3];rfl
 have e4 : ([(0,1,a),(1,2,b),(2,0,(aY (cr (aY a b).1).1 l).1)] ++ [(0,1,(aY a 1).1)]) = S3 a b l:=by rw [e3,di h1 k1];rfl
 have q3 : bD n 3 [(0,1,a),(1,2,b),(2,0,(aY (cr (aY a b).1).1 l).1)] = 0:=by rw [e3];exact oe.2 ⟨hn,by omega,by simp [SL],S2 ha hb hl⟩
 have q4 : bD n 3 ([(0,1,a),(1,2,b),(2,0,(aY (cr (aY a b).1).1 l).1)] ++ [(0,1,(aY a 1).1)]) = 0:=by rw [e4];exact oe.2 ⟨hn,by omega,by simp [S3,SL],Ta ha hb hl⟩
 have z5 : (bD n 3 [(0,1,a),(1,2,b),(2,0,(aY (cr (aY a b).1).1 l).1)] == 0) = true:=by rw [q3];rfl
 have z6 : (bD n 3 ([(0,1,a),(1,2,b),(2,0,(aY (cr (aY a b).1).1 l).1)] ++ [(0,1,(aY a 1).1)]) == 0) = true:=by rw [q4];rfl
 have PX : l = 0 -> ∀ p : Int,0 <= p /\ p <= 3 - 1 -> o6 n 3 [(0,1,a),(1,2,b),(2,0,(aY (cr (aY a b).1).1 l).1)] p = true:=fun h p hp => by
  rw [Te q3 hp,e3,h,UN ha hb hn hp];rfl
 have S7 : 4 <= l -> 2 <= n -> ∀ p : Int,0 <= p /\ p <= 3 - 1 -> o6 n 3 [(0,1,a),(1,2,b),(2,0,(aY (cr (aY a b).1).1 l).1)] p = false:=fun h h2 p hp => by
  rw [Te q3 hp,e3];exact beq_false_of_ne (Ux ha hb hl h hn h2 hp)
 have Td : 4 <= l -> n <= 3 -> ∀ p : Int,0 <= p /\ p <= 3 - 1 -> o6 n 3 ([(0,1,a),(1,2,b),(2,0,(aY (cr (aY a b).1).1 l).1)] ++ [(0,1,(aY a 1).1)]) p = true:=fun h h2 p hp => by
  rw [Te q4 hp,e4,(TW ha hb hl h hn hp).1 h2];rfl
 have To : 4 <= l -> n = 4 -> ∀ p : Int,0 <= p /\ p <= 3 - 1 -> pb n 3 ([(0,1,a),(1,2,b),(2,0,(aY (cr (aY a b).1).1 l).1)] ++ [(0,1,(aY a 1).1)]) p = 1:=fun h h2 p hp => by
  rw [Ut q4 hp,e4,(TW ha hb hl h hn hp).2 h2]
 clear e3 e4
 repeat' ((conv => whnf);first | apply And.intro | (intro h9;try (have h8 : (_ : Bool) = _:=h9;clear h8;revert h9;subst_vars;intro h9;exact aq h9 (by assumption))))
 all_goals try (conv => whnf)
 all_goals try first | (apply Tk.mk <;> kernel_rfl) | exact ⟨ah rfl⟩ | exact ⟨rfl⟩ | exact ⟨trivial⟩
 all_goals subst_vars
 all_goals try first | rfl | contradiction | (apply Ob.mk;first | (simp only [ag,ak,aa.ae];omega) | ((try simp only [aa.ae]);(try dsimp only);omega))
 all_goals try first
  | (apply Ob.mk;show (ag .i64 _).p;simp only [ag,ak,aa.ae];omega)
 refine ⟨Nat,fun i => i <= 3,fun i => ⟨aI 158 [0,3,17,18,20] [.a (vI n),.a (vI l),.a (.p 1 [] 0 0),.a (.p 3 [] 0 0),.a (vI i)],[],[.arr 60 kW ([(0,1,a),(1,2,b),(2,0,(aY (cr (aY a b).1).1 l).1)] : List Wk) true true,.box true [vI n,vI 3,.sl 0 [] 0 3],.arr 60 kW (([(0,1,a),(1,2,b),(2,0,(aY (cr (aY a b).1).1 l).1)] ++ [(0,1,(aY a 1).1)]) : List Wk) true true,.box true [vI n,vI 3,.sl 2 [] 0 4]]⟩,fun i => 3 - i,0,[],Nat.zero_le _,?_,?_⟩
 ·repeat' ((conv => whnf);(first | apply And.intro | intro _))
  all_goals first | rfl | trivial | exact ah rfl | exact aS ‹_› rfl | exact aT ‹_› rfl | ((repeat' first | rfl | constructor);done)
 rintro i hi
 by_cases hi1 : i < 3
 ·have p0 : decide ((i : Int) < 3) = true:=decide_eq_true (by omega)
  have hp : 0 <= (i : Int) /\ (i : Int) <= 3 - 1:=by omega
  have y1 : (bf n 3 [(0,1,a),(1,2,b),(2,0,(aY (cr (aY a b).1).1 l).1)] i != 0) = false:=by rw [Tj q3 hp];rfl
  have y2 : (bf n 3 ([(0,1,a),(1,2,b),(2,0,(aY (cr (aY a b).1).1 l).1)] ++ [(0,1,(aY a 1).1)]) i != 0) = false:=by rw [Tj q4 hp];rfl
  have PX:=fun h => PX h i hp
  have S7:=fun h h2 => S7 h h2 i hp
  have Td:=fun h h2 => Td h h2 i hp
  have To:=fun h h2 => To h h2 i hp
  by_cases c0 : l = 0
  ·have f1 : (l == 0) = true:=by rw [c0];rfl
   have f2 : decide (l >= 4) = false:=decide_eq_false (by omega)
   have f3 : (!o6 n 3 [(0,1,a),(1,2,b),(2,0,(aY (cr (aY a b).1).1 l).1)] i) = false:=by rw [PX c0];rfl
   clear PX S7 Td To
   repeat' ((conv => whnf);first | apply And.intro | (intro h9;try (have h8 : (_ : Bool) = _:=h9;clear h8;revert h9;subst_vars;intro h9;exact aq h9 (by assumption))))
   all_goals try (conv => whnf)
   all_goals try first | (apply Tk.mk <;> kernel_rfl) | exact ⟨ah rfl⟩ | exact ⟨rfl⟩ | exact ⟨trivial⟩
   all_goals subst_vars
   all_goals try first | rfl | contradiction | (apply Ob.mk;first | (simp only [ag,ak,aa.ae];omega) | ((try simp only [aa.ae]);(try dsimp only);omega))
   all_goals try first
    | (apply Ob.mk;show (ag .i64 _).p;simp only [ag,ak,aa.ae];omega)
   refine ⟨i + 1,[],hi1,?_,by show 3 - (i + 1) < 3 - i;omega⟩
   repeat' ((conv => whnf);(first | apply And.intro | intro _))
   all_goals first | rfl | trivial | exact ah rfl | exact aS ‹_› rfl | exact aT ‹_› rfl | ((repeat' first | rfl | constructor);done)
  have f1 : (l == 0) = false:=beq_false_of_ne c0
  by_cases c1 : 4 <= l
  ·have f2 : decide (l >= 4) = true:=decide_eq_true c1
   by_cases c2 : 2 <= n
   ·have f3 : decide (n >= 2) = true:=decide_eq_true c2
    have f4 : o6 n 3 [(0,1,a),(1,2,b),(2,0,(aY (cr (aY a b).1).1 l).1)] i = false:=S7 c1 c2
    by_cases c3 : n <= 3
    ·have f5 : decide (n <= 3) = true:=decide_eq_true c3
     have f6 : (!o6 n 3 ([(0,1,a),(1,2,b),(2,0,(aY (cr (aY a b).1).1 l).1)] ++ [(0,1,(aY a 1).1)]) i) = false:=by rw [Td c1 c3];rfl
     have f7 : (n == 4) = false:=beq_false_of_ne (by omega)
     clear PX S7 Td To
     repeat' ((conv => whnf);first | apply And.intro | (intro h9;try (have h8 : (_ : Bool) = _:=h9;clear h8;revert h9;subst_vars;intro h9;exact aq h9 (by assumption))))
     all_goals try (conv => whnf)
     all_goals try first | (apply Tk.mk <;> kernel_rfl) | exact ⟨ah rfl⟩ | exact ⟨rfl⟩ | exact ⟨trivial⟩
     all_goals subst_vars
     all_goals try first | rfl | contradiction | (apply Ob.mk;first | (simp only [ag,ak,aa.ae];omega) | ((try simp only [aa.ae]);(try dsimp only);omega))
     all_goals try first
      | (apply Ob.mk;show (ag .i64 _).p;simp only [ag,ak,aa.ae];omega)
     refine ⟨i + 1,[],hi1,?_,by show 3 - (i + 1) < 3 - i;omega⟩
     repeat' ((conv => whnf);(first | apply And.intro | intro _))
     all_goals first | rfl | trivial | exact ah rfl | exact aS ‹_› rfl | exact aT ‹_› rfl | ((repeat' first | rfl | constructor);done)
    have f5 : decide (n <= 3) = false:=decide_eq_false c3
    by_cases c4 : n = 4
    ·have f7 : (n == 4) = true:=by rw [c4];rfl
     have f8 : (pb n 3 ([(0,1,a),(1,2,b),(2,0,(aY (cr (aY a b).1).1 l).1)] ++ [(0,1,(aY a 1).1)]) i != 1) = false:=by rw [To c1 c4];rfl
     clear c4
     clear PX S7 Td To
     repeat' ((conv => whnf);first | apply And.intro | (intro h9;try (have h8 : (_ : Bool) = _:=h9;clear h8;revert h9;subst_vars;intro h9;exact aq h9 (by assumption))))
     all_goals try (conv => whnf)
     all_goals try first | (apply Tk.mk <;> kernel_rfl) | exact ⟨ah rfl⟩ | exact ⟨rfl⟩ | exact ⟨trivial⟩
     all_goals subst_vars
     all_goals try first | rfl | contradiction | (apply Ob.mk;first | (simp only [ag,ak,aa.ae];omega) | ((try simp only [aa.ae]);(try dsimp only);omega))
     all_goals try first
      | (apply Ob.mk;show (ag .i64 _).p;simp only [ag,ak,aa.ae];omega)
     refine ⟨i + 1,[],hi1,?_,by show 3 - (i + 1) < 3 - i;omega⟩
     repeat' ((conv => whnf);(first | apply And.intro | intro _))
     all_goals first | rfl | trivial | exact ah rfl | exact aS ‹_› rfl | exact aT ‹_› rfl | ((repeat' first | rfl | constructor);done)
    have f7 : (n == 4) = false:=beq_false_of_ne c4
    clear PX S7 Td To
    repeat' ((conv => whnf);first | apply And.intro | (intro h9;try (have h8 : (_ : Bool) = _:=h9;clear h8;revert h9;subst_vars;intro h9;exact aq h9 (by assumption))))
    all_goals try (conv => whnf)
    all_goals try first | (apply Tk.mk <;> kernel_rfl) | exact ⟨ah rfl⟩ | exact ⟨rfl⟩ | exact ⟨trivial⟩
    all_goals subst_vars
    all_goals try first | rfl | contradiction | (apply Ob.mk;first | (simp only [ag,ak,aa.ae];omega) | ((try simp only [aa.ae]);(try dsimp only);omega))
    all_goals try first
     | (apply Ob.mk;show (ag .i64 _).p;simp only [ag,ak,aa.ae];omega)
    refine ⟨i + 1,[],hi1,?_,by show 3 - (i + 1) < 3 - i;omega⟩
    repeat' ((conv => whnf);(first | apply And.intro | intro _))
    all_goals first | rfl | trivial | exact ah rfl | exact aS ‹_› rfl | exact aT ‹_› rfl | ((repeat' first | rfl | constructor);done)
   have f3 : decide (n >= 2) = false:=decide_eq_false c2
   have f5 : decide (n <= 3) = true:=decide_eq_true (by omega)
   have f6 : (!o6 n 3 ([(0,1,a),(1,2,b),(2,0,(aY (cr (aY a b).1).1 l).1)] ++ [(0,1,(aY a 1).1)]) i) = false:=by rw [Td c1 (by omega)];rfl
   have f7 : (n == 4) = false:=beq_false_of_ne (by omega)
   clear PX S7 Td To
   repeat' ((conv => whnf);first | apply And.intro | (intro h9;try (have h8 : (_ : Bool) = _:=h9;clear h8;revert h9;subst_vars;intro h9;exact aq h9 (by assumption))))
   all_goals try (conv => whnf)
   all_goals try first | (apply Tk.mk <;> kernel_rfl) | exact ⟨ah rfl⟩ | exact ⟨rfl⟩ | exact ⟨trivial⟩
   all_goals subst_vars
   all_goals try first | rfl | contradiction | (apply Ob.mk;first | (simp only [ag,ak,aa.ae];omega) | ((try simp only [aa.ae]);(try dsimp only);omega))
   all_goals try first
    | (apply Ob.mk;show (ag .i64 _).p;simp only [ag,ak,aa.ae];omega)
   refine ⟨i + 1,[],hi1,?_,by show 3 - (i + 1) < 3 - i;omega⟩
   repeat' ((conv => whnf);(first | apply And.intro | intro _))
   all_goals first | rfl | trivial | exact ah rfl | exact aS ‹_› rfl | exact aT ‹_› rfl | ((repeat' first | rfl | constructor);done)
  have f2 : decide (l >= 4) = false:=decide_eq_false (by omega)
  clear PX S7 Td To
  repeat' ((conv => whnf);first | apply And.intro | (intro h9;try (have h8 : (_ : Bool) = _:=h9;clear h8;revert h9;subst_vars;intro h9;exact aq h9 (by assumption))))
  all_goals try (conv => whnf)
  all_goals try first | (apply Tk.mk <;> kernel_rfl) | exact ⟨ah rfl⟩ | exact ⟨rfl⟩ | exact ⟨trivial⟩
  all_goals subst_vars
  all_goals try first | rfl | contradiction | (apply Ob.mk;first | (simp only [ag,ak,aa.ae];omega) | ((try simp only [aa.ae]);(try dsimp only);omega))
  all_goals try first
   | (apply Ob.mk;show (ag .i64 _).p;simp only [ag,ak,aa.ae];omega)
  refine ⟨i + 1,[],hi1,?_,by show 3 - (i + 1) < 3 - i;omega⟩
  repeat' ((conv => whnf);(first | apply And.intro | intro _))
  all_goals first | rfl | trivial | exact ah rfl | exact aS ‹_› rfl | exact aT ‹_› rfl | ((repeat' first | rfl | constructor);done)
 have p0 : decide ((i : Int) < 3) = false:=decide_eq_false (by omega)
 repeat' ((conv => whnf);first | apply And.intro | (intro h9;try (have h8 : (_ : Bool) = _:=h9;clear h8;revert h9;subst_vars;intro h9;exact aq h9 (by assumption))))
 all_goals try (conv => whnf)
 all_goals try first | (apply Tk.mk <;> kernel_rfl) | exact ⟨ah rfl⟩ | exact ⟨rfl⟩ | exact ⟨trivial⟩
 all_goals subst_vars
 all_goals try first | rfl | contradiction | (apply Ob.mk;first | (simp only [ag,ak,aa.ae];omega) | ((try simp only [aa.ae]);(try dsimp only);omega))
 all_goals first
  | trivial
  | (apply Ob.mk;show (ag .i64 _).p;simp only [ag,ak,aa.ae];omega))
end Go.Proofs.YthejmgnkenokpaaDoor
end
