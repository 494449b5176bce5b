/-
  Texts of the claims on chapter 3: Yk3c. No condition: lemmas and contracts.
-/
import Derived.Test.YthejmgnkenokpaaGreatDoorYk1c
set_option linter.all false
set_option maxRecDepth 100000
set_option maxHeartbeats 4000000
section
namespace Go.Proofs.YthejmgnkenokpaaGreatDoor
open Go Go.Sy Go.bK
variable {Γ : bn}
def J2 : au:=ja (fun n0 n1 n2 => [(aa.of (-1000 <= n0 /\ n0 <= 1000)),(aa.of (-1000 <= n1 /\ n1 <= 1000)),(aa.of (-1000 <= n2 /\ n2 <= 1000))]) (fun n0 n1 n2 => .bF [.a (vI (n1)),.a (vI (n2))])
theorem IJ : au.Ok Tryz.prog Γ 147 J2:=ep (d:=0) (aP aR.nil bq.nil false 0) (aj Tryz.func147 rfl rfl) (fun _ _ _ => rfl) (by
 intro n0 n1 n2 ⟨h0,h1,h2,_⟩
 simp only [aa.ae] at h0 h1 h2
 repeat' ((conv => whnf);first | apply And.intro | (intro h9;try (have h8 : (_ : Bool) = _:=h9;clear h8;revert h9;subst_vars;intro h9;exact aq h9 (by assumption))))
 all_goals try (conv => whnf)
 all_goals try first | (apply Tk.mk <;> kernel_rfl) | exact ⟨ah rfl⟩ | exact ⟨rfl⟩ | exact ⟨trivial⟩
 all_goals subst_vars
 all_goals try first | rfl | contradiction | (apply Ob.mk;first | (simp only [ag,ak,aa.ae];omega) | ((try simp only [aa.ae]);(try dsimp only);omega))
 all_goals first
  | trivial)
def J3 : au:=ja (fun n0 n1 n2 => [(aa.of (-1000 <= n0 /\ n0 <= 1000)),(aa.of (-1000 <= n1 /\ n1 <= 1000)),(aa.of (-1000 <= n2 /\ n2 <= 1000))]) (fun n0 n1 n2 => .bF [.a (vI (n2)),.a (vI (n0 - 1 - n1))])
theorem IK : au.Ok Tryz.prog Γ 148 J3:=ep (d:=0) (aP aR.nil bq.nil false 0) (aj Tryz.func148 rfl rfl) (fun _ _ _ => rfl) (by
 intro n0 n1 n2 ⟨h0,h1,h2,_⟩
 simp only [aa.ae] at h0 h1 h2
 repeat' ((conv => whnf);first | apply And.intro | (intro h9;try (have h8 : (_ : Bool) = _:=h9;clear h8;revert h9;subst_vars;intro h9;exact aq h9 (by assumption))))
 all_goals try (conv => whnf)
 all_goals try first | (apply Tk.mk <;> kernel_rfl) | exact ⟨ah rfl⟩ | exact ⟨rfl⟩ | exact ⟨trivial⟩
 all_goals subst_vars
 all_goals try first | rfl | contradiction | (apply Ob.mk;first | (simp only [ag,ak,aa.ae];omega) | ((try simp only [aa.ae]);(try dsimp only);omega))
 all_goals first
  | trivial)
def J4 : au:=ja (fun n0 n1 n2 => [(aa.of (-1000 <= n0 /\ n0 <= 1000)),(aa.of (-1000 <= n1 /\ n1 <= 1000)),(aa.of (-1000 <= n2 /\ n2 <= 1000))]) (fun n0 n1 n2 => .bF [.a (vI (n0 - 1 - n1)),.a (vI (n0 - 1 - n2))])
theorem IL : au.Ok Tryz.prog Γ 149 J4:=ep (d:=0) (aP aR.nil bq.nil false 0) (aj Tryz.func149 rfl rfl) (fun _ _ _ => rfl) (by
 intro n0 n1 n2 ⟨h0,h1,h2,_⟩
 simp only [aa.ae] at h0 h1 h2
 repeat' ((conv => whnf);first | apply And.intro | (intro h9;try (have h8 : (_ : Bool) = _:=h9;clear h8;revert h9;subst_vars;intro h9;exact aq h9 (by assumption))))
 all_goals try (conv => whnf)
 all_goals try first | (apply Tk.mk <;> kernel_rfl) | exact ⟨ah rfl⟩ | exact ⟨rfl⟩ | exact ⟨trivial⟩
 all_goals subst_vars
 all_goals try first | rfl | contradiction | (apply Ob.mk;first | (simp only [ag,ak,aa.ae];omega) | ((try simp only [aa.ae]);(try dsimp only);omega))
 all_goals first
  | trivial)
def J5 : au:=ja (fun n0 n1 n2 => [(aa.of (-1000 <= n0 /\ n0 <= 1000)),(aa.of (-1000 <= n1 /\ n1 <= 1000)),(aa.of (-1000 <= n2 /\ n2 <= 1000))]) (fun n0 n1 n2 => .bF [.a (vI (n0 - 1 - n2)),.a (vI (n1))])
theorem IM : au.Ok Tryz.prog Γ 150 J5:=ep (d:=0) (aP aR.nil bq.nil false 0) (aj Tryz.func150 rfl rfl) (fun _ _ _ => rfl) (by
 intro n0 n1 n2 ⟨h0,h1,h2,_⟩
 simp only [aa.ae] at h0 h1 h2
 repeat' ((conv => whnf);first | apply And.intro | (intro h9;try (have h8 : (_ : Bool) = _:=h9;clear h8;revert h9;subst_vars;intro h9;exact aq h9 (by assumption))))
 all_goals try (conv => whnf)
 all_goals try first | (apply Tk.mk <;> kernel_rfl) | exact ⟨ah rfl⟩ | exact ⟨rfl⟩ | exact ⟨trivial⟩
 all_goals subst_vars
 all_goals try first | rfl | contradiction | (apply Ob.mk;first | (simp only [ag,ak,aa.ae];omega) | ((try simp only [aa.ae]);(try dsimp only);omega))
 all_goals first
  | trivial)
def J6 : au:=ja (fun n0 n1 n2 => [(aa.of (-1000 <= n0 /\ n0 <= 1000)),(aa.of (-1000 <= n1 /\ n1 <= 1000)),(aa.of (-1000 <= n2 /\ n2 <= 1000))]) (fun n0 n1 n2 => .bF [.a (vI (n1)),.a (vI (n0 - 1 - n2))])
theorem IN : au.Ok Tryz.prog Γ 151 J6:=ep (d:=0) (aP aR.nil bq.nil false 0) (aj Tryz.func151 rfl rfl) (fun _ _ _ => rfl) (by
 intro n0 n1 n2 ⟨h0,h1,h2,_⟩
 simp only [aa.ae] at h0 h1 h2
 repeat' ((conv => whnf);first | apply And.intro | (intro h9;try (have h8 : (_ : Bool) = _:=h9;clear h8;revert h9;subst_vars;intro h9;exact aq h9 (by assumption))))
 all_goals try (conv => whnf)
 all_goals try first | (apply Tk.mk <;> kernel_rfl) | exact ⟨ah rfl⟩ | exact ⟨rfl⟩ | exact ⟨trivial⟩
 all_goals subst_vars
 all_goals try first | rfl | contradiction | (apply Ob.mk;first | (simp only [ag,ak,aa.ae];omega) | ((try simp only [aa.ae]);(try dsimp only);omega))
 all_goals first
  | trivial)
def J7 : au:=ja (fun n0 n1 n2 => [(aa.of (-1000 <= n0 /\ n0 <= 1000)),(aa.of (-1000 <= n1 /\ n1 <= 1000)),(aa.of (-1000 <= n2 /\ n2 <= 1000))]) (fun n0 n1 n2 => .bF [.a (vI (n2)),.a (vI (n1))])
theorem IP : au.Ok Tryz.prog Γ 152 J7:=ep (d:=0) (aP aR.nil bq.nil false 0) (aj Tryz.func152 rfl rfl) (fun _ _ _ => rfl) (by
 intro n0 n1 n2 ⟨h0,h1,h2,_⟩
 simp only [aa.ae] at h0 h1 h2
 repeat' ((conv => whnf);first | apply And.intro | (intro h9;try (have h8 : (_ : Bool) = _:=h9;clear h8;revert h9;subst_vars;intro h9;exact aq h9 (by assumption))))
 all_goals try (conv => whnf)
 all_goals try first | (apply Tk.mk <;> kernel_rfl) | exact ⟨ah rfl⟩ | exact ⟨rfl⟩ | exact ⟨trivial⟩
 all_goals subst_vars
 all_goals try first | rfl | contradiction | (apply Ob.mk;first | (simp only [ag,ak,aa.ae];omega) | ((try simp only [aa.ae]);(try dsimp only);omega))
 all_goals first
  | trivial)
def J8 : au:=ja (fun n0 n1 n2 => [(aa.of (-1000 <= n0 /\ n0 <= 1000)),(aa.of (-1000 <= n1 /\ n1 <= 1000)),(aa.of (-1000 <= n2 /\ n2 <= 1000))]) (fun n0 n1 n2 => .bF [.a (vI (n0 - 1 - n1)),.a (vI (n2))])
theorem IQ : au.Ok Tryz.prog Γ 153 J8:=ep (d:=0) (aP aR.nil bq.nil false 0) (aj Tryz.func153 rfl rfl) (fun _ _ _ => rfl) (by
 intro n0 n1 n2 ⟨h0,h1,h2,_⟩
 simp only [aa.ae] at h0 h1 h2
 repeat' ((conv => whnf);first | apply And.intro | (intro h9;try (have h8 : (_ : Bool) = _:=h9;clear h8;revert h9;subst_vars;intro h9;exact aq h9 (by assumption))))
 all_goals try (conv => whnf)
 all_goals try first | (apply Tk.mk <;> kernel_rfl) | exact ⟨ah rfl⟩ | exact ⟨rfl⟩ | exact ⟨trivial⟩
 all_goals subst_vars
 all_goals try first | rfl | contradiction | (apply Ob.mk;first | (simp only [ag,ak,aa.ae];omega) | ((try simp only [aa.ae]);(try dsimp only);omega))
 all_goals first
  | trivial)
def J9 : au:=ja (fun n0 n1 n2 => [(aa.of (-1000 <= n0 /\ n0 <= 1000)),(aa.of (-1000 <= n1 /\ n1 <= 1000)),(aa.of (-1000 <= n2 /\ n2 <= 1000))]) (fun n0 n1 n2 => .bF [.a (vI (n0 - 1 - n2)),.a (vI (n0 - 1 - n1))])
theorem IR : au.Ok Tryz.prog Γ 154 J9:=ep (d:=0) (aP aR.nil bq.nil false 0) (aj Tryz.func154 rfl rfl) (fun _ _ _ => rfl) (by
 intro n0 n1 n2 ⟨h0,h1,h2,_⟩
 simp only [aa.ae] at h0 h1 h2
 repeat' ((conv => whnf);first | apply And.intro | (intro h9;try (have h8 : (_ : Bool) = _:=h9;clear h8;revert h9;subst_vars;intro h9;exact aq h9 (by assumption))))
 all_goals try (conv => whnf)
 all_goals try first | (apply Tk.mk <;> kernel_rfl) | exact ⟨ah rfl⟩ | exact ⟨rfl⟩ | exact ⟨trivial⟩
 all_goals subst_vars
 all_goals try first | rfl | contradiction | (apply Ob.mk;first | (simp only [ag,ak,aa.ae];omega) | ((try simp only [aa.ae]);(try dsimp only);omega))
 all_goals first
  | trivial)
def uG : au:=.new fun args _ K => match args with
 | [] => K ⟨[],.agg [.fn 147 [],.fn 148 [],.fn 149 [],.fn 150 [],.fn 151 [],.fn 152 [],.fn 153 [],.fn 154 []]⟩
 | _ => False
theorem yJ : au.Ok Tryz.prog Γ 118 uG:=au.fM (d:=0) (aP aR.nil bq.nil false 0) (aj Tryz.func118 rfl rfl) (by
 intro args rg K hC
 split at hC
 next =>
  refine ⟨[],[],[],⟨trivial,fun r g hg => by cases hg⟩,bu K,?_,fun x st h => h⟩
  repeat' ((conv => whnf);(first | apply And.intro | intro _))
  all_goals try (conv => whnf)
  all_goals exact .base ⟨_,[],hC,trivial,rfl,⟨⟨rfl,rfl⟩,⟨rfl,rfl⟩,⟨rfl,rfl⟩,⟨rfl,rfl⟩,⟨rfl,rfl⟩,⟨rfl,rfl⟩,⟨rfl,rfl⟩,⟨rfl,rfl⟩,trivial⟩⟩
 next => exact hC.elim)
end Go.Proofs.YthejmgnkenokpaaGreatDoor
end
section
namespace Go.Proofs.YthejmgnkenokpaaGreatDoor
open Go Go.Sy Go.bK
variable {Γ : bn}
noncomputable def C5 : List (Nat × au):=[(118,uG),(147,J2),(148,J3),(149,J4),(150,J5),(151,J6),(152,J7),(153,J8),(154,J9)]
theorem Eo : aR Tryz.prog Γ C5:=(((((((((aR.nil.cons (aj Tryz.func154 rfl rfl).fn IR).cons (aj Tryz.func153 rfl rfl).fn IQ).cons (aj Tryz.func152 rfl rfl).fn IP).cons (aj Tryz.func151 rfl rfl).fn IN).cons (aj Tryz.func150 rfl rfl).fn IM).cons (aj Tryz.func149 rfl rfl).fn IL).cons (aj Tryz.func148 rfl rfl).fn IK).cons (aj Tryz.func147 rfl rfl).fn IJ).cons (aj Tryz.func118 rfl rfl).fn yJ)
def Js (id : Nat) : Option (List Nat):=match Nat.beq id 1 with | true => some [1,4,5,6,7,8,9,10,0,2,3,11,12,13,14,15,16] | false => none
noncomputable def IY : Env:={ jV.env C5 [] false 0 with ord:=Js }
theorem CJ : aL Tryz.prog Γ IY:=(aP Eo bq.nil false 0).Ju _
theorem gw (n t x : Nat) : aX n t x = (((lW n t (x / n) (x % n)).1 * n + (lW n t (x / n) (x % n)).2 : Nat) : Int):=rfl
def ke : au:=ja (fun n t x => [(aa.of (1 <= n /\ n <= 6)),(aa.of (0 <= t /\ t <= 7)),(aa.of (0 <= x /\ x < n * n))]) (fun n t x => .a (vI (aX n t x)))
theorem iK : au.Ok Tryz.prog Γ 83 ke:=ep (d:=0) CJ (aj Tryz.func83 rfl rfl) (fun _ _ _ => rfl) (by
 intro n t x ⟨hn,ht,hx,_⟩
 simp only [aa.ae] at hn ht hx
 have en : n = 1 \/ n = 2 \/ n = 3 \/ n = 4 \/ n = 5 \/ n = 6:=by omega
 have et : t = 0 \/ t = 1 \/ t = 2 \/ t = 3 \/ t = 4 \/ t = 5 \/ t = 6 \/ t = 7:=by omega
 obtain ⟨k,rfl⟩ : ∃ k : Nat,x = (k : Int):=⟨x.toNat,by omega⟩
 rcases en with rfl | rfl | rfl | rfl | rfl | rfl
 ·have f1 : (k : Int).tdiv 1 = ((k / 1 : Nat) : Int):=Int.ofNat_tdiv k 1
  have f2 : (k : Int).tmod 1 = ((k % 1 : Nat) : Int):=Int.ofNat_tmod k 1
  rcases et with rfl | rfl | rfl | rfl | rfl | rfl | rfl | rfl
  all_goals
   repeat' ((conv => whnf);first | apply And.intro | (intro h9;try (have h8 : (_ : Bool) = _:=h9;clear h8;revert h9;subst_vars;intro h9;exact aq h9 (by assumption))))
   all_goals try (conv => whnf)
   all_goals try first | (apply Tk.mk <;> kernel_rfl) | exact ⟨ah rfl⟩ | exact ⟨rfl⟩ | exact ⟨trivial⟩
   all_goals subst_vars
   all_goals try first | rfl | contradiction | (apply Ob.mk;first | (simp only [ag,ak,aa.ae];omega) | ((try simp only [aa.ae]);(try dsimp only);omega))
   all_goals first
    | (refine Eq.trans ?_ (gw _ _ _).symm;simp only [lW];omega)
 ·have f1 : (k : Int).tdiv 2 = ((k / 2 : Nat) : Int):=Int.ofNat_tdiv k 2
  have f2 : (k : Int).tmod 2 = ((k % 2 : Nat) : Int):=Int.ofNat_tmod k 2
  rcases et with rfl | rfl | rfl | rfl | rfl | rfl | rfl | rfl
  all_goals
   repeat' ((conv => whnf);first | apply And.intro | (intro h9;try (have h8 : (_ : Bool) = _:=h9;clear h8;revert h9;subst_vars;intro h9;exact aq h9 (by assumption))))
   all_goals try (conv => whnf)
   all_goals try first | (apply Tk.mk <;> kernel_rfl) | exact ⟨ah rfl⟩ | exact ⟨rfl⟩ | exact ⟨trivial⟩
   all_goals subst_vars
   all_goals try first | rfl | contradiction | (apply Ob.mk;first | (simp only [ag,ak,aa.ae];omega) | ((try simp only [aa.ae]);(try dsimp only);omega))
   all_goals first
    | (refine Eq.trans ?_ (gw _ _ _).symm;simp only [lW];omega)
 ·have f1 : (k : Int).tdiv 3 = ((k / 3 : Nat) : Int):=Int.ofNat_tdiv k 3
  have f2 : (k : Int).tmod 3 = ((k % 3 : Nat) : Int):=Int.ofNat_tmod k 3
  rcases et with rfl | rfl | rfl | rfl | rfl | rfl | rfl | rfl
  all_goals
   repeat' ((conv => whnf);first | apply And.intro | (intro h9;try (have h8 : (_ : Bool) = _:=h9;clear h8;revert h9;subst_vars;intro h9;exact aq h9 (by assumption))))
   all_goals try (conv => whnf)
   all_goals try first | (apply Tk.mk <;> kernel_rfl) | exact ⟨ah rfl⟩ | exact ⟨rfl⟩ | exact ⟨trivial⟩
   all_goals subst_vars
   all_goals try first | rfl | contradiction | (apply Ob.mk;first | (simp only [ag,ak,aa.ae];omega) | ((try simp only [aa.ae]);(try dsimp only);omega))
   all_goals first
    | (refine Eq.trans ?_ (gw _ _ _).symm;simp only [lW];omega)
 ·have f1 : (k : Int).tdiv 4 = ((k / 4 : Nat) : Int):=Int.ofNat_tdiv k 4
  have f2 : (k : Int).tmod 4 = ((k % 4 : Nat) : Int):=Int.ofNat_tmod k 4
  rcases et with rfl | rfl | rfl | rfl | rfl | rfl | rfl | rfl
  all_goals
   repeat' ((conv => whnf);first | apply And.intro | (intro h9;try (have h8 : (_ : Bool) = _:=h9;clear h8;revert h9;subst_vars;intro h9;exact aq h9 (by assumption))))
   all_goals try (conv => whnf)
   all_goals try first | (apply Tk.mk <;> kernel_rfl) | exact ⟨ah rfl⟩ | exact ⟨rfl⟩ | exact ⟨trivial⟩
   all_goals subst_vars
   all_goals try first | rfl | contradiction | (apply Ob.mk;first | (simp only [ag,ak,aa.ae];omega) | ((try simp only [aa.ae]);(try dsimp only);omega))
   all_goals first
    | (refine Eq.trans ?_ (gw _ _ _).symm;simp only [lW];omega)
 ·have f1 : (k : Int).tdiv 5 = ((k / 5 : Nat) : Int):=Int.ofNat_tdiv k 5
  have f2 : (k : Int).tmod 5 = ((k % 5 : Nat) : Int):=Int.ofNat_tmod k 5
  rcases et with rfl | rfl | rfl | rfl | rfl | rfl | rfl | rfl
  all_goals
   repeat' ((conv => whnf);first | apply And.intro | (intro h9;try (have h8 : (_ : Bool) = _:=h9;clear h8;revert h9;subst_vars;intro h9;exact aq h9 (by assumption))))
   all_goals try (conv => whnf)
   all_goals try first | (apply Tk.mk <;> kernel_rfl) | exact ⟨ah rfl⟩ | exact ⟨rfl⟩ | exact ⟨trivial⟩
   all_goals subst_vars
   all_goals try first | rfl | contradiction | (apply Ob.mk;first | (simp only [ag,ak,aa.ae];omega) | ((try simp only [aa.ae]);(try dsimp only);omega))
   all_goals first
    | (refine Eq.trans ?_ (gw _ _ _).symm;simp only [lW];omega)
 ·have f1 : (k : Int).tdiv 6 = ((k / 6 : Nat) : Int):=Int.ofNat_tdiv k 6
  have f2 : (k : Int).tmod 6 = ((k % 6 : Nat) : Int):=Int.ofNat_tmod k 6
  rcases et with rfl | rfl | rfl | rfl | rfl | rfl | rfl | rfl
  all_goals
   repeat' ((conv => whnf);first | apply And.intro | (intro h9;try (have h8 : (_ : Bool) = _:=h9;clear h8;revert h9;subst_vars;intro h9;exact aq h9 (by assumption))))
   all_goals try (conv => whnf)
   all_goals try first | (apply Tk.mk <;> kernel_rfl) | exact ⟨ah rfl⟩ | exact ⟨rfl⟩ | exact ⟨trivial⟩
   all_goals subst_vars
   all_goals try first | rfl | contradiction | (apply Ob.mk;first | (simp only [ag,ak,aa.ae];omega) | ((try simp only [aa.ae]);(try dsimp only);omega))
   all_goals first
    | (refine Eq.trans ?_ (gw _ _ _).symm;simp only [lW];omega))
end Go.Proofs.YthejmgnkenokpaaGreatDoor
end
section
namespace Go.Proofs.YthejmgnkenokpaaGreatDoor
open Go Go.Sy Go.bK
variable {Γ : bn}
def cz (n t x : Int) : Int × Int:=if aQ n 1 6 = true /\ aQ t 0 7 = true /\ aQ x 0 (n * n - 1) = true then (aX n t x,0) else (0,1)
theorem mw {n t x : Int} (h : aQ n 1 6 = false \/ aQ t 0 7 = false \/ aQ x 0 (n * n - 1) = false) : cz n t x = (0,1):=by
 unfold cz
 rw [if_neg]
 rintro ⟨h1,h2,h3⟩
 rcases h with h | h | h
 ·rw [h1] at h;cases h
 ·rw [h2] at h;cases h
 ·rw [h3] at h;cases h
theorem BY {n t x : Int} (h1 : aQ n 1 6 = true) (h2 : aQ t 0 7 = true) (h3 : aQ x 0 (n * n - 1) = true) : cz n t x = (aX n t x,0):=if_pos ⟨h1,h2,h3⟩
theorem sJ {n : Int} (h : 1 <= n /\ n <= 6) : 1 <= n * n /\ n * n <= 36:=by
 have en : n = 1 \/ n = 2 \/ n = 3 \/ n = 4 \/ n = 5 \/ n = 6:=by omega
 rcases en with rfl | rfl | rfl | rfl | rfl | rfl <;> exact ⟨by decide,by decide⟩
def gK : au:=ja (fun _ _ _ => []) (fun n lo hi => bl (aQ n lo hi))
theorem fw : au.Ok Tryz.prog Γ 59 gK:=ep (d:=0) (aP aR.nil bq.nil false 0) (aj Tryz.func59 rfl rfl) (fun _ _ _ => rfl) (by
 intro n lo hi _
 repeat' ((conv => whnf);(first | apply And.intro | intro _))
 all_goals try (conv => whnf)
 all_goals try exact Tk.mk (by kernel_rfl)
 all_goals subst_vars
 all_goals (simp_all [aQ] <;> omega))
def mg : au:=ja (fun _ _ _ => []) (fun n lo hi => bl (aQ n lo hi))
theorem jx : au.Ok Tryz.prog Γ 21 mg:=ep (d:=0) (aP aR.nil bq.nil false 0) (aj Tryz.func21 rfl rfl) (fun _ _ _ => rfl) (by
 intro n lo hi _
 repeat' ((conv => whnf);(first | apply And.intro | intro _))
 all_goals try (conv => whnf)
 all_goals try exact Tk.mk (by kernel_rfl)
 all_goals subst_vars
 all_goals (simp_all [aQ] <;> omega))
def mC : au:=fN (fun _ => []) (fun n => bl (aQ n 0 7))
noncomputable def KX : List (Nat × au):=[(59,gK)]
theorem Em : aR Tryz.prog Γ KX:=(aR.nil.cons (aj Tryz.func59 rfl rfl).fn fw)
theorem kE : au.Ok Tryz.prog Γ 66 mC:=y9 (d:=0) (aP Em bq.nil false 0) (aj Tryz.func66 rfl rfl) (fun _ => rfl) (by
 intro n _
 repeat' ((conv => whnf);first | apply And.intro | (intro h9;try (have h8 : (_ : Bool) = _:=h9;clear h8;revert h9;subst_vars;intro h9;exact aq h9 (by assumption))))
 all_goals try (conv => whnf)
 all_goals try first | (apply Tk.mk <;> kernel_rfl) | exact ⟨ah rfl⟩ | exact ⟨rfl⟩ | exact ⟨trivial⟩
 all_goals subst_vars
 all_goals try first | rfl | contradiction | (apply Ob.mk;first | (simp only [ag,ak,aa.ae];omega) | ((try simp only [aa.ae]);(try dsimp only);omega)))
def zN : au:=ja (fun _ _ _ => []) (fun n t x => .bF [.a (vI (cz n t x).1),.a (vI (cz n t x).2)])
noncomputable def ON : List (Nat × au):=[(59,gK),(83,ke),(66,mC)]
theorem Iq : aR Tryz.prog Γ ON:=(((aR.nil.cons (aj Tryz.func66 rfl rfl).fn kE).cons (aj Tryz.func83 rfl rfl).fn iK).cons (aj Tryz.func59 rfl rfl).fn fw)
theorem xy : au.Ok Tryz.prog Γ 43 zN:=ep (d:=0) (aP Iq bq.nil false 0) (aj Tryz.func43 rfl rfl) (fun _ _ _ => rfl) (by
 intro n t x _
 cases h1 : aQ n 1 6
 ·have e1 : (!aQ n 1 6) = true:=by rw [h1];rfl
  rw [mw (.inl h1)]
  repeat' ((conv => whnf);first | apply And.intro | (intro h9;try (have h8 : (_ : Bool) = _:=h9;clear h8;revert h9;subst_vars;intro h9;exact aq h9 (by assumption))))
  all_goals try (conv => whnf)
  all_goals try first | (apply Tk.mk <;> kernel_rfl) | exact ⟨ah rfl⟩ | exact ⟨rfl⟩ | exact ⟨trivial⟩
  all_goals subst_vars
  all_goals try first | rfl | contradiction | (apply Ob.mk;first | (simp only [ag,ak,aa.ae];omega) | ((try simp only [aa.ae]);(try dsimp only);omega))
  all_goals first
   | trivial
 have e1 : (!aQ n 1 6) = false:=by rw [h1];rfl
 have q1:=akk.1 h1
 cases h2 : aQ t 0 7
 ·have e2 : (!aQ t 0 7) = true:=by rw [h2];rfl
  rw [mw (.inr (.inl h2))]
  repeat' ((conv => whnf);first | apply And.intro | (intro h9;try (have h8 : (_ : Bool) = _:=h9;clear h8;revert h9;subst_vars;intro h9;exact aq h9 (by assumption))))
  all_goals try (conv => whnf)
  all_goals try first | (apply Tk.mk <;> kernel_rfl) | exact ⟨ah rfl⟩ | exact ⟨rfl⟩ | exact ⟨trivial⟩
  all_goals subst_vars
  all_goals try first | rfl | contradiction | (apply Ob.mk;first | (simp only [ag,ak,aa.ae];omega) | ((try simp only [aa.ae]);(try dsimp only);omega))
  all_goals first
   | trivial
 have e2 : (!aQ t 0 7) = false:=by rw [h2];rfl
 have q2:=akk.1 h2
 have q4 : 1 <= n * n /\ n * n <= 36:=sJ q1
 cases h3 : aQ x 0 (n * n - 1)
 ·have e3 : (!aQ x 0 (n * n - 1)) = true:=by rw [h3];rfl
  rw [mw (.inr (.inr h3))]
  repeat' ((conv => whnf);first | apply And.intro | (intro h9;try (have h8 : (_ : Bool) = _:=h9;clear h8;revert h9;subst_vars;intro h9;exact aq h9 (by assumption))))
  all_goals try (conv => whnf)
  all_goals try first | (apply Tk.mk <;> kernel_rfl) | exact ⟨ah rfl⟩ | exact ⟨rfl⟩ | exact ⟨trivial⟩
  all_goals subst_vars
  all_goals try first | rfl | contradiction | (apply Ob.mk;first | (simp only [ag,ak,aa.ae];omega) | ((try simp only [aa.ae]);(try dsimp only);omega))
  all_goals first
   | trivial
 have e3 : (!aQ x 0 (n * n - 1)) = false:=by rw [h3];rfl
 have q3:=akk.1 h3
 rw [BY h1 h2 h3]
 repeat' ((conv => whnf);first | apply And.intro | (intro h9;try (have h8 : (_ : Bool) = _:=h9;clear h8;revert h9;subst_vars;intro h9;exact aq h9 (by assumption))))
 all_goals try (conv => whnf)
 all_goals try first | (apply Tk.mk <;> kernel_rfl) | exact ⟨ah rfl⟩ | exact ⟨rfl⟩ | exact ⟨trivial⟩
 all_goals subst_vars
 all_goals try first | rfl | contradiction | (apply Ob.mk;first | (simp only [ag,ak,aa.ae];omega) | ((try simp only [aa.ae]);(try dsimp only);omega))
 all_goals first
  | trivial)
end Go.Proofs.YthejmgnkenokpaaGreatDoor
end
section
namespace Go.Proofs.YthejmgnkenokpaaGreatDoor
open Go Go.Sy Go.bK
variable {Γ : bn}
noncomputable def Mg : List (Nat × au):=[(83,ke)]
theorem KU : aR Tryz.prog Γ Mg:=(aR.nil.cons (aj Tryz.func83 rfl rfl).fn iK)
noncomputable def Da : List (Nat × Body):=[(82,bo Tryz.f82),(117,bo Tryz.f117)]
theorem EA : bq Tryz.prog Da:=((bq.nil.cons (cg Tryz.func117 rfl rfl)).cons (cg Tryz.func82 rfl rfl))
noncomputable def OW : Env:=jV.env Mg Da false 0
theorem IW : aL Tryz.prog Γ OW:=aP KU EA false 0
def gG (a b i k : Nat) : Bool:=dG k fun x => td 3 i x == td 3 b (td 3 a x)
theorem vN {a b i k : Nat} : gG a b i (k + 1) = (gG a b i k && (td 3 i k == td 3 b (td 3 a k))):=by
 unfold gG dG
 rw [List.range_succ,List.all_append]
 simp
theorem K8 {a b i : Nat} (ha : a < 8) (hb : b < 8) (hi : i < 8) (h : gG a b i 9 = true) : (i : Int) = bJ a b:=by
 have h1 : agree a b i = true:=h
 rw [xk ha hb hi] at h1
 have:=eq_of_beq h1
 unfold bJ
 rw [this];rfl
theorem Gs {a b : Nat} (ha : a < 8) (hb : b < 8) (h : ∀ t,t < 8 -> agree a b t = false) : False:=by
 have:=h _ (og ha hb)
 rw [xk ha hb (og ha hb)] at this
 simp at this
theorem Pk {a b i k : Nat} (h : gG a b i k = false) : false = gG a b i (k + 1):=by rw [vN,h];rfl
theorem Pm {a b i k : Nat} (h : gG a b i k = true) : (aX 3 i k == aX 3 b (aX 3 a k)) = gG a b i (k + 1):=by
 rw [vN,h,Bool.true_and]
 have e : aX 3 b (aX 3 a k) = ((td 3 b (td 3 a k) : Nat) : Int):=rfl
 have e2 : aX 3 i k = ((td 3 i k : Nat) : Int):=rfl
 rw [e,e2]
 rw [Bool.eq_iff_iff,beq_iff_eq,beq_iff_eq]
 omega
def nk : au:=Kf (fun a b => [(aa.of (0 <= a /\ a <= 7)),(aa.of (0 <= b /\ b <= 7))]) (fun a b => .a (vI (bJ a b)))
attribute [local irreducible] aX bJ gG agree
theorem mB : au.Ok Tryz.prog Γ 84 nk:=An (d:=3) IW (aj Tryz.func84 rfl rfl) (fun _ _ => rfl) (by
 intro a b ⟨ha,hb,_⟩
 simp only [aa.ae] at ha hb
 obtain ⟨a,rfl⟩ : ∃ k : Nat,a = (k : Int):=⟨a.toNat,by omega⟩
 obtain ⟨b,rfl⟩ : ∃ k : Nat,b = (k : Int):=⟨b.toNat,by omega⟩
 repeat' ((conv => whnf);(first | apply And.intro | intro _))
 all_goals try (conv => whnf)
 refine ⟨Nat,fun i => i <= 8 /\ ∀ t,t < i -> agree a b t = false,fun i => ⟨aI 28 [2,3,8] [.a (.p 0 [] 0 0),.a (.p 1 [] 0 0),.a (vI i)],[],[.box true [vI a],.box true [vI b]]⟩,fun i => 8 - i,0,[],⟨Nat.zero_le _,fun t h => absurd h (Nat.not_lt_zero _)⟩,?_,?_⟩
 ·repeat' ((conv => whnf);(first | apply And.intro | intro _))
  all_goals first | rfl | trivial | exact ah rfl | exact aS ‹_› rfl | exact aT ‹_› rfl | ((repeat' first | rfl | constructor);done)
 rintro i ⟨hi,hno⟩
 by_cases hi1 : i < 8
 ·have p0 : decide ((i : Int) < 8) = true:=decide_eq_true (by omega)
  repeat' ((conv => whnf);first | apply And.intro | (intro h9;try (have h8 : (_ : Bool) = _:=h9;clear h8;revert h9;subst_vars;intro h9;exact aq h9 (by assumption))))
  all_goals try (conv => whnf)
  all_goals try first | (apply Tk.mk <;> kernel_rfl) | exact ⟨ah rfl⟩ | exact ⟨rfl⟩ | exact ⟨trivial⟩
  all_goals subst_vars
  all_goals try first | rfl | contradiction | (apply Ob.mk;first | (simp only [ag,ak,aa.ae];omega) | ((try simp only [aa.ae]);(try dsimp only);omega))
  ·trivial
  rename_i l fn T
  refine ⟨Nat,fun k => k <= 9,fun k => ⟨aI 15 [0,1,6,7] [.a (.yl 5),.a (.p 4 [] 0 0),.a (vI 9),.a (vI k)],[aI 28 [2,3,5,6,8] [.a (.p 0 [] 0 0),.a (.p 1 [] 0 0),.a (.p 2 [] 0 0),.a (.p 3 [] 0 0),.a (vI i)]],[.box true [vI a],.box true [vI b],.box true [vI i],.box true [.v (.bool (gG a b i k))],.box true [vI 3],.lp l (aI 28 [2,3,5,6,8] [.a (.p 0 [] 0 0),.a (.p 1 [] 0 0),.a (.p 2 [] 0 0),.a (.p 3 [] 0 0),.a (vI i)]) (ac5 Tryz.f84 0 fn T h9) .ready none]⟩,fun k => 9 - k,0,[],Nat.zero_le _,?_,?_⟩
  ·repeat' ((conv => whnf);(first | apply And.intro | intro _))
   all_goals first | rfl | trivial | exact ah rfl | exact aS ‹_› rfl | exact aT ‹_› rfl | ((repeat' first | rfl | constructor);done) | exact ⟨rfl,rfl,rfl,rfl,rfl⟩ | (unfold gG;rfl)
  rintro k hk
  by_cases cB : k < 9
  ·have p1 : decide ((k : Int) < 9) = true:=decide_eq_true (by omega)
   have g1 : aX 3 a k = ((td 3 a k : Nat) : Int):=by unfold aX;rfl
   have g2:=FA (n:=3) (a:=a) (x:=k) (by omega) (by omega) cB
   have g3 : aX 3 b (aX 3 a k) = ((td 3 b (td 3 a k) : Nat) : Int):=by unfold aX;rfl
   have n1:=@Pk a b i k
   have n2:=@Pm a b i k
   cases hs : gG a b i k
   ·repeat' ((conv => whnf);first | apply And.intro | (intro h9;try (have h8 : (_ : Bool) = _:=h9;clear h8;revert h9;subst_vars;intro h9;exact aq h9 (by assumption))))
    all_goals try (conv => whnf)
    all_goals try first | (apply Tk.mk <;> kernel_rfl) | exact ⟨ah rfl⟩ | exact ⟨rfl⟩ | exact ⟨trivial⟩
    all_goals subst_vars
    all_goals try first | rfl | contradiction | (apply Ob.mk;first | (simp only [ag,ak,aa.ae];omega) | ((try simp only [aa.ae]);(try dsimp only);omega))
    refine ⟨k + 1,[],cB,?_,by show 9 - (k + 1) < 9 - k;omega⟩
    repeat' ((conv => whnf);(first | apply And.intro | intro _))
    all_goals first | rfl | trivial | exact ah rfl | exact aS ‹_› rfl | exact aT ‹_› rfl | ((repeat' first | rfl | constructor);done) | exact ⟨rfl,rfl,rfl,rfl,rfl⟩ | exact n1 hs | exact (n1 hs).symm | exact n2 hs | exact (n2 hs).symm
   repeat' ((conv => whnf);first | apply And.intro | (intro h9;try (have h8 : (_ : Bool) = _:=h9;clear h8;revert h9;subst_vars;intro h9;exact aq h9 (by assumption))))
   all_goals try (conv => whnf)
   all_goals try first | (apply Tk.mk <;> kernel_rfl) | exact ⟨ah rfl⟩ | exact ⟨rfl⟩ | exact ⟨trivial⟩
   all_goals subst_vars
   all_goals try first | rfl | contradiction | (apply Ob.mk;first | (simp only [ag,ak,aa.ae];omega) | ((try simp only [aa.ae]);(try dsimp only);omega))
   refine ⟨k + 1,[],cB,?_,by show 9 - (k + 1) < 9 - k;omega⟩
   repeat' ((conv => whnf);(first | apply And.intro | intro _))
   all_goals first | rfl | trivial | exact ah rfl | exact aS ‹_› rfl | exact aT ‹_› rfl | ((repeat' first | rfl | constructor);done) | exact ⟨rfl,rfl,rfl,rfl,rfl⟩ | exact n1 hs | exact (n1 hs).symm | exact n2 hs | exact (n2 hs).symm
  have p1 : decide ((k : Int) < 9) = false:=decide_eq_false (by omega)
  obtain rfl : k = 9:=by omega
  cases hs : gG a b i 9
  ·repeat' ((conv => whnf);first | apply And.intro | (intro h9;try (have h8 : (_ : Bool) = _:=h9;clear h8;revert h9;subst_vars;intro h9;exact aq h9 (by assumption))))
   all_goals try (conv => whnf)
   all_goals try first | (apply Tk.mk <;> kernel_rfl) | exact ⟨ah rfl⟩ | exact ⟨rfl⟩ | exact ⟨trivial⟩
   all_goals subst_vars
   all_goals try first | rfl | contradiction | (apply Ob.mk;first | (simp only [ag,ak,aa.ae];omega) | ((try simp only [aa.ae]);(try dsimp only);omega))
   refine ⟨i + 1,[],⟨hi1,fun t ht => (Nat.lt_succ_iff_lt_or_eq.1 ht).elim (hno t) (fun e => e ▸ (show agree a b i = false by unfold agree;unfold gG at hs;exact hs))⟩,?_,by show 8 - (i + 1) < 8 - i;omega⟩
   repeat' ((conv => whnf);(first | apply And.intro | intro _))
   all_goals first | rfl | trivial | exact ah rfl | exact aS ‹_› rfl | exact aT ‹_› rfl | ((repeat' first | rfl | constructor);done)
  repeat' ((conv => whnf);first | apply And.intro | (intro h9;try (have h8 : (_ : Bool) = _:=h9;clear h8;revert h9;subst_vars;intro h9;exact aq h9 (by assumption))))
  all_goals try (conv => whnf)
  all_goals try first | (apply Tk.mk <;> kernel_rfl) | exact ⟨ah rfl⟩ | exact ⟨rfl⟩ | exact ⟨trivial⟩
  all_goals subst_vars
  all_goals try first | rfl | contradiction | (apply Ob.mk;first | (simp only [ag,ak,aa.ae];omega) | ((try simp only [aa.ae]);(try dsimp only);omega))
  exact K8 (by omega) (by omega) hi1 hs
 have p0 : decide ((i : Int) < 8) = false:=decide_eq_false (by omega)
 exact (Gs (a:=a) (b:=b) (by omega) (by omega) fun t ht => hno t (by omega)).elim)
end Go.Proofs.YthejmgnkenokpaaGreatDoor
end
section
namespace Go.Proofs.YthejmgnkenokpaaGreatDoor
open Go Go.Sy Go.bK
variable {Γ : bn}
theorem yb {a : Nat} (ha : a < 8) (h : ∀ t,t < 8 -> (cmp a t == 0) = false) : False:=by
 have:=h _ (gW ha).1
 rw [wK ha (gW ha).1] at this
 simp at this
def aY (a b : Int) : Int × Int:=match aQ a 0 7,aQ b 0 7 with | true,true => (bJ a b,0) | _,_ => (0,1)
attribute [local irreducible] aX bJ cD
def qq : au:=fN (fun a => [(aa.of (0 <= a /\ a <= 7))]) (fun a => .a (vI (cD a)))
noncomputable def Iv : List (Nat × au):=[(84,nk)]
theorem Cu : aR Tryz.prog Γ Iv:=(aR.nil.cons (aj Tryz.func84 rfl rfl).fn mB)
theorem qt : au.Ok Tryz.prog Γ 155 qq:=y9 (d:=0) (aP Cu bq.nil false 0) (aj Tryz.func155 rfl rfl) (fun _ => rfl) (by
 intro a ⟨ha,_⟩
 simp only [aa.ae] at ha
 obtain ⟨a,rfl⟩ : ∃ k : Nat,a = (k : Int):=⟨a.toNat,by omega⟩
 repeat' ((conv => whnf);(first | apply And.intro | intro _))
 all_goals try (conv => whnf)
 refine ⟨Nat,fun i => i <= 8 /\ ∀ t,t < i -> (cmp a t == 0) = false,fun i => ⟨aI 13 [0,4] [.a (vI a),.a (vI i)],[],[]⟩,fun i => 8 - i,0,[],⟨Nat.zero_le _,fun t h => absurd h (Nat.not_lt_zero _)⟩,?_,?_⟩
 ·repeat' ((conv => whnf);(first | apply And.intro | intro _))
  all_goals first | rfl | trivial | exact ah rfl | exact aS ‹_› rfl | exact aT ‹_› rfl | ((repeat' first | rfl | constructor);done)
 rintro i ⟨hi,hno⟩
 by_cases hi1 : i < 8
 ·have p0 : decide ((i : Int) < 8) = true:=decide_eq_true (by omega)
  have g1 : bJ a i = ((cmp a i : Nat) : Int):=by unfold bJ;rfl
  cases hs : cmp a i == 0
  ·have p1 : (bJ a i == 0) = false:=by rw [g1];rw [beq_eq_false_iff_ne] at hs ⊢;omega
   repeat' ((conv => whnf);first | apply And.intro | (intro h9;try (have h8 : (_ : Bool) = _:=h9;clear h8;revert h9;subst_vars;intro h9;exact aq h9 (by assumption))))
   all_goals try (conv => whnf)
   all_goals try first | (apply Tk.mk <;> kernel_rfl) | exact ⟨ah rfl⟩ | exact ⟨rfl⟩ | exact ⟨trivial⟩
   all_goals subst_vars
   all_goals try first | rfl | contradiction | (apply Ob.mk;first | (simp only [ag,ak,aa.ae];omega) | ((try simp only [aa.ae]);(try dsimp only);omega))
   refine ⟨i + 1,[],⟨hi1,fun t ht => (Nat.lt_succ_iff_lt_or_eq.1 ht).elim (hno t) (fun e => e ▸ hs)⟩,?_,by show 8 - (i + 1) < 8 - i;omega⟩
   repeat' ((conv => whnf);(first | apply And.intro | intro _))
   all_goals first | rfl | trivial | exact ah rfl | exact aS ‹_› rfl | exact aT ‹_› rfl | ((repeat' first | rfl | constructor);done)
  have p1 : (bJ a i == 0) = true:=by rw [g1];rw [beq_iff_eq] at hs ⊢;omega
  repeat' ((conv => whnf);first | apply And.intro | (intro h9;try (have h8 : (_ : Bool) = _:=h9;clear h8;revert h9;subst_vars;intro h9;exact aq h9 (by assumption))))
  all_goals try (conv => whnf)
  all_goals try first | (apply Tk.mk <;> kernel_rfl) | exact ⟨ah rfl⟩ | exact ⟨rfl⟩ | exact ⟨trivial⟩
  all_goals subst_vars
  all_goals try first | rfl | contradiction | (apply Ob.mk;first | (simp only [ag,ak,aa.ae];omega) | ((try simp only [aa.ae]);(try dsimp only);omega))
  all_goals (rw [wK (by omega) hi1] at hs;have:=eq_of_beq hs;unfold cD;rw [this];rfl)
 exact (yb (a:=a) (by omega) fun t ht => hno t (by omega)).elim)
def qm : au:=Kf (fun _ _ => []) (fun a b => .bF [.a (vI (aY a b).1),.a (vI (aY a b).2)])
noncomputable def Ik : List (Nat × au):=[(66,mC),(84,nk)]
theorem Cp : aR Tryz.prog Γ Ik:=((aR.nil.cons (aj Tryz.func84 rfl rfl).fn mB).cons (aj Tryz.func66 rfl rfl).fn kE)
theorem qn : au.Ok Tryz.prog Γ 44 qm:=An (d:=0) (aP Cp bq.nil false 0) (aj Tryz.func44 rfl rfl) (fun _ _ => rfl) (by
 intro a b _
 cases h1 : aQ a 0 7
 ·have e1 : (!aQ a 0 7) = true:=by rw [h1];rfl
  rw [show aY a b = (0,1) by unfold aY;rw [h1]]
  repeat' ((conv => whnf);first | apply And.intro | (intro h9;try (have h8 : (_ : Bool) = _:=h9;clear h8;revert h9;subst_vars;intro h9;exact aq h9 (by assumption))))
  all_goals try (conv => whnf)
  all_goals try first | (apply Tk.mk <;> kernel_rfl) | exact ⟨ah rfl⟩ | exact ⟨rfl⟩ | exact ⟨trivial⟩
  all_goals subst_vars
  all_goals try first | rfl | contradiction | (apply Ob.mk;first | (simp only [ag,ak,aa.ae];omega) | ((try simp only [aa.ae]);(try dsimp only);omega))
  all_goals first
   | trivial
 have e1 : (!aQ a 0 7) = false:=by rw [h1];rfl
 have q1:=akk.1 h1
 cases h2 : aQ b 0 7
 ·have e2 : (!aQ b 0 7) = true:=by rw [h2];rfl
  rw [show aY a b = (0,1) by unfold aY;rw [h1,h2]]
  repeat' ((conv => whnf);first | apply And.intro | (intro h9;try (have h8 : (_ : Bool) = _:=h9;clear h8;revert h9;subst_vars;intro h9;exact aq h9 (by assumption))))
  all_goals try (conv => whnf)
  all_goals try first | (apply Tk.mk <;> kernel_rfl) | exact ⟨ah rfl⟩ | exact ⟨rfl⟩ | exact ⟨trivial⟩
  all_goals subst_vars
  all_goals try first | rfl | contradiction | (apply Ob.mk;first | (simp only [ag,ak,aa.ae];omega) | ((try simp only [aa.ae]);(try dsimp only);omega))
  all_goals first
   | trivial
 have e2 : (!aQ b 0 7) = false:=by rw [h2];rfl
 have q2:=akk.1 h2
 rw [show aY a b = (bJ a b,0) by unfold aY;rw [h1,h2]]
 repeat' ((conv => whnf);first | apply And.intro | (intro h9;try (have h8 : (_ : Bool) = _:=h9;clear h8;revert h9;subst_vars;intro h9;exact aq h9 (by assumption))))
 all_goals try (conv => whnf)
 all_goals try first | (apply Tk.mk <;> kernel_rfl) | exact ⟨ah rfl⟩ | exact ⟨rfl⟩ | exact ⟨trivial⟩
 all_goals subst_vars
 all_goals try first | rfl | contradiction | (apply Ob.mk;first | (simp only [ag,ak,aa.ae];omega) | ((try simp only [aa.ae]);(try dsimp only);omega))
 all_goals first
  | trivial)
end Go.Proofs.YthejmgnkenokpaaGreatDoor
end
section
namespace Go.Proofs.YthejmgnkenokpaaGreatDoor
open Go Go.Sy Go.bK
variable {Γ : bn}
attribute [local irreducible] aX
end Go.Proofs.YthejmgnkenokpaaGreatDoor
end
section
namespace Go.Proofs.YthejmgnkenokpaaGreatDoor
open Go Go.Sy Go.bK
variable {Γ : bn}
attribute [local irreducible] aX bJ cD
end Go.Proofs.YthejmgnkenokpaaGreatDoor
end
section
namespace Go.Proofs.YthejmgnkenokpaaGreatDoor
open Go Go.Sy Go.bK
variable {Γ : bn}
def fS (D : Int -> Int -> List Wk -> List aa) (F : Int -> Int -> List Wk -> Tm) : au:=.fn fun args rg => match args with
 | [.agg [.v (.int .i64 n0),.v (.int .i64 n1),x0]] => (match ac1 46 kW rg x0 with | some (q0,L0) => some (q0 ++ (D n0 n1 L0),F n0 n1 L0) | _ => none)
 | _ => none
theorem za {f : FuncId} {b : Body} {E : Env} {d : Nat} (hP : aL Tryz.prog Γ E) (hb : bQ Tryz.prog f b) {D : Int -> Int -> List Wk -> List aa} {F : Int -> Int -> List Wk -> Tm} (hp : ∀ (n0 : Int) (n1 : Int) (L0 : List Wk),(F n0 n1 L0).plain = true)
  (H : ∀ (n0 : Int) (n1 : Int) (L0 : List Wk),bW (D n0 n1 L0) -> cQ E d b [.agg [vI n0,vI n1,.sl 0 [] 0 L0.length]] [.arr 46 kW L0 false false] (fun x _ => iL x (F n0 n1 L0))) : au.Ok Tryz.prog Γ f (fS D F):=au.er (d:=d) hP hb (by
 intro args rg q t hF hq
 split at hF
 next n0 n1 x0 =>
  split at hF
  next q0 L0 hx0 =>
   obtain ⟨rfl,rfl⟩:=Prod.mk.inj (Option.some.inj hF);clear hF
   rw [aH] at hq
   obtain ⟨dm,hD⟩:=hq
   obtain ⟨e0,Vn⟩:=bP (by simp [kW]) hx0 dm
   obtain ⟨p0,r0⟩:=Vn [e0] 0 1 rfl (by omega)
   refine ⟨hp _ _ _,[e0],[.agg [vI n0,vI n1,.sl 0 [] 0 L0.length]],[.arr 46 kW L0 false false],⟨⟨⟨rfl,rfl,p0,trivial⟩,trivial⟩,fun r g hg => ?_⟩,H _ _ _ hD⟩
   match r,hg with
   | 0,hg => obtain rfl:=Option.some.inj hg;exact r0
  next => cases hF
 next => cases hF)
def xL (D : Int -> Int -> List Wk -> Int -> List aa) (F : Int -> Int -> List Wk -> Int -> Tm) : au:=.fn fun args rg => match args with
 | [.agg [.v (.int .i64 n0),.v (.int .i64 n1),x0],.a (.v (.int .i64 n2))] => (match ac1 46 kW rg x0 with | some (q0,L0) => some (q0 ++ (D n0 n1 L0 n2),F n0 n1 L0 n2) | _ => none)
 | _ => none
theorem mG {f : FuncId} {b : Body} {E : Env} {d : Nat} (hP : aL Tryz.prog Γ E) (hb : bQ Tryz.prog f b) {D : Int -> Int -> List Wk -> Int -> List aa} {F : Int -> Int -> List Wk -> Int -> Tm} (hp : ∀ (n0 : Int) (n1 : Int) (L0 : List Wk) (n2 : Int),(F n0 n1 L0 n2).plain = true)
  (H : ∀ (n0 : Int) (n1 : Int) (L0 : List Wk) (n2 : Int),bW (D n0 n1 L0 n2) -> cQ E d b [.agg [vI n0,vI n1,.sl 0 [] 0 L0.length],.a (vI n2)] [.arr 46 kW L0 false false] (fun x _ => iL x (F n0 n1 L0 n2))) : au.Ok Tryz.prog Γ f (xL D F):=au.er (d:=d) hP hb (by
 intro args rg q t hF hq
 split at hF
 next n0 n1 x0 n2 =>
  split at hF
  next q0 L0 hx0 =>
   obtain ⟨rfl,rfl⟩:=Prod.mk.inj (Option.some.inj hF);clear hF
   rw [aH] at hq
   obtain ⟨dm,hD⟩:=hq
   obtain ⟨e0,Vn⟩:=bP (by simp [kW]) hx0 dm
   obtain ⟨p0,r0⟩:=Vn [e0] 0 1 rfl (by omega)
   refine ⟨hp _ _ _ _,[e0],[.agg [vI n0,vI n1,.sl 0 [] 0 L0.length],.a (vI n2)],[.arr 46 kW L0 false false],⟨⟨⟨rfl,rfl,p0,trivial⟩,rfl,trivial⟩,fun r g hg => ?_⟩,H _ _ _ _ hD⟩
   match r,hg with
   | 0,hg => obtain rfl:=Option.some.inj hg;exact r0
  next => cases hF
 next => cases hF)
def PE (D : Int -> Int -> List Wk -> Wk -> List aa) (F : Int -> Int -> List Wk -> Wk -> Tm) : au:=.fn fun args rg => match args with
 | [.agg [.v (.int .i64 n0),.v (.int .i64 n1),x0],.agg l0] => (match ac1 46 kW rg x0,eu kW l0 with | some (q0,L0),some v0 => some (q0 ++ (D n0 n1 L0 v0),F n0 n1 L0 v0) | _,_ => none)
 | _ => none
theorem MP {f : FuncId} {b : Body} {E : Env} {d : Nat} (hP : aL Tryz.prog Γ E) (hb : bQ Tryz.prog f b) {D : Int -> Int -> List Wk -> Wk -> List aa} {F : Int -> Int -> List Wk -> Wk -> Tm} (hp : ∀ (n0 : Int) (n1 : Int) (L0 : List Wk) (v0 : Wk),(F n0 n1 L0 v0).plain = true)
  (H : ∀ (n0 : Int) (n1 : Int) (L0 : List Wk) (v0 : Wk),bW (D n0 n1 L0 v0) -> cQ E d b [.agg [vI n0,vI n1,.sl 0 [] 0 L0.length],.agg (ai.lV kW v0)] [.arr 46 kW L0 false false] (fun x _ => iL x (F n0 n1 L0 v0))) : au.Ok Tryz.prog Γ f (PE D F):=au.er (d:=d) hP hb (by
 intro args rg q t hF hq
 split at hF
 next n0 n1 x0 l0 =>
  split at hF
  next q0 L0 v0 hx0 hc0 =>
   obtain ⟨rfl,rfl⟩:=Prod.mk.inj (Option.some.inj hF);clear hF
   rw [aH] at hq
   obtain ⟨dm,hD⟩:=hq
   obtain ⟨e0,Vn⟩:=bP (by simp [kW]) hx0 dm
   obtain ⟨p0,r0⟩:=Vn [e0] 0 1 rfl (by omega)
   refine ⟨hp _ _ _ _,[e0],[.agg [vI n0,vI n1,.sl 0 [] 0 L0.length],.agg (ai.lV kW v0)],[.arr 46 kW L0 false false],⟨⟨⟨rfl,rfl,p0,trivial⟩,oC hc0,trivial⟩,fun r g hg => ?_⟩,H _ _ _ _ hD⟩
   match r,hg with
   | 0,hg => obtain rfl:=Option.some.inj hg;exact r0
  next => cases hF
 next => cases hF)
abbrev cn (L : List Wk) (i : Int) : Wk:=@Ar.get ⟨46,kW,L⟩ (0 + Int.toNat i)
theorem jX (L : List Wk) (i : Nat) : cn L i = wk L i:=by unfold cn;rw [Nat.zero_add,Int.toNat_natCast];rfl
abbrev w3 (L : List Wk) (i : Int) : Wk:=((cn L i).1,(cn L i).2.1,(cn L i).2.2)
def sS : au:=PE (fun _ P _ _ => [(aa.of (1 <= P /\ P <= 6))]) (fun _ P _ w => bl (eJ P w))
noncomputable def Qn : List (Nat × au):=[(59,gK),(66,mC)]
theorem KY : aR Tryz.prog Γ Qn:=((aR.nil.cons (aj Tryz.func66 rfl rfl).fn kE).cons (aj Tryz.func59 rfl rfl).fn fw)
theorem Z1 : au.Ok Tryz.prog Γ 76 sS:=MP (d:=0) (aP KY bq.nil false 0) (aj Tryz.func76 rfl rfl) (fun _ _ _ _ => rfl) (by
 rintro n P L ⟨a,b,t⟩ ⟨hP,_⟩
 simp only [aa.ae] at hP
 cases h1 : aQ a 0 (P - 1)
 ·rw [show eJ P (a,b,t) = false by simp [eJ,h1]]
  repeat' ((conv => whnf);first | apply And.intro | (intro h9;try (have h8 : (_ : Bool) = _:=h9;clear h8;revert h9;subst_vars;intro h9;exact aq h9 (by assumption))))
  all_goals try (conv => whnf)
  all_goals try first | (apply Tk.mk <;> kernel_rfl) | exact ⟨ah rfl⟩ | exact ⟨rfl⟩ | exact ⟨trivial⟩
  all_goals subst_vars
  all_goals try first | rfl | contradiction | (apply Ob.mk;first | (simp only [ag,ak,aa.ae];omega) | ((try simp only [aa.ae]);(try dsimp only);omega))
 cases h2 : aQ b 0 (P - 1)
 ·rw [show eJ P (a,b,t) = false by simp [eJ,h2]]
  repeat' ((conv => whnf);first | apply And.intro | (intro h9;try (have h8 : (_ : Bool) = _:=h9;clear h8;revert h9;subst_vars;intro h9;exact aq h9 (by assumption))))
  all_goals try (conv => whnf)
  all_goals try first | (apply Tk.mk <;> kernel_rfl) | exact ⟨ah rfl⟩ | exact ⟨rfl⟩ | exact ⟨trivial⟩
  all_goals subst_vars
  all_goals try first | rfl | contradiction | (apply Ob.mk;first | (simp only [ag,ak,aa.ae];omega) | ((try simp only [aa.ae]);(try dsimp only);omega))
 cases h3 : (a != b)
 ·rw [show eJ P (a,b,t) = false by simp [eJ,h3]]
  repeat' ((conv => whnf);first | apply And.intro | (intro h9;try (have h8 : (_ : Bool) = _:=h9;clear h8;revert h9;subst_vars;intro h9;exact aq h9 (by assumption))))
  all_goals try (conv => whnf)
  all_goals try first | (apply Tk.mk <;> kernel_rfl) | exact ⟨ah rfl⟩ | exact ⟨rfl⟩ | exact ⟨trivial⟩
  all_goals subst_vars
  all_goals try first | rfl | contradiction | (apply Ob.mk;first | (simp only [ag,ak,aa.ae];omega) | ((try simp only [aa.ae]);(try dsimp only);omega))
 rw [show eJ P (a,b,t) = aQ t 0 7 by simp [eJ,h1,h2,h3]]
 repeat' ((conv => whnf);first | apply And.intro | (intro h9;try (have h8 : (_ : Bool) = _:=h9;clear h8;revert h9;subst_vars;intro h9;exact aq h9 (by assumption))))
 all_goals try (conv => whnf)
 all_goals try first | (apply Tk.mk <;> kernel_rfl) | exact ⟨ah rfl⟩ | exact ⟨rfl⟩ | exact ⟨trivial⟩
 all_goals subst_vars
 all_goals try first | rfl | contradiction | (apply Ob.mk;first | (simp only [ag,ak,aa.ae];omega) | ((try simp only [aa.ae]);(try dsimp only);omega)))
def rZ : au:=fS (fun _ _ L => [(aa.of (L.length <= 1000000))]) (fun n P L => .a (vI (bD n P L)))
noncomputable def Mb : List (Nat × au):=[(59,gK),(76,sS)]
theorem FN : aR Tryz.prog Γ Mb:=((aR.nil.cons (aj Tryz.func76 rfl rfl).fn Z1).cons (aj Tryz.func59 rfl rfl).fn fw)
noncomputable def K3 : List (Nat × Body):=[(74,bo Tryz.f74),(114,bo Tryz.f114),(75,bo Tryz.f75)]
theorem EB : bq Tryz.prog K3:=(((bq.nil.cons (cg Tryz.func75 rfl rfl)).cons (cg Tryz.func114 rfl rfl)).cons (cg Tryz.func74 rfl rfl))
theorem oS : au.Ok Tryz.prog Γ 35 rZ:=za (d:=4) (aP FN EB false 0) (aj Tryz.func35 rfl rfl) (fun _ _ _ => rfl) (by
 intro n P L ⟨hL,_⟩
 simp only [aa.ae] at hL
 cases h1 : aQ n 1 6
 ·have e1 : (!aQ n 1 6) = true:=by rw [h1];rfl
  rw [show bD n P L = 1 by simp [bD,h1]]
  repeat' ((conv => whnf);first | apply And.intro | (intro h9;try (have h8 : (_ : Bool) = _:=h9;clear h8;revert h9;subst_vars;intro h9;exact aq h9 (by assumption))))
  all_goals try (conv => whnf)
  all_goals try first | (apply Tk.mk <;> kernel_rfl) | exact ⟨ah rfl⟩ | exact ⟨rfl⟩ | exact ⟨trivial⟩
  all_goals subst_vars
  all_goals try first | rfl | contradiction | (apply Ob.mk;first | (simp only [ag,ak,aa.ae];omega) | ((try simp only [aa.ae]);(try dsimp only);omega))
 have e1 : (!aQ n 1 6) = false:=by rw [h1];rfl
 cases h2 : aQ P 1 6
 ·have e2 : (!aQ P 1 6) = true:=by rw [h2];rfl
  rw [show bD n P L = 1 by simp [bD,h2]]
  repeat' ((conv => whnf);first | apply And.intro | (intro h9;try (have h8 : (_ : Bool) = _:=h9;clear h8;revert h9;subst_vars;intro h9;exact aq h9 (by assumption))))
  all_goals try (conv => whnf)
  all_goals try first | (apply Tk.mk <;> kernel_rfl) | exact ⟨ah rfl⟩ | exact ⟨rfl⟩ | exact ⟨trivial⟩
  all_goals subst_vars
  all_goals try first | rfl | contradiction | (apply Ob.mk;first | (simp only [ag,ak,aa.ae];omega) | ((try simp only [aa.ae]);(try dsimp only);omega))
 have e2 : (!aQ P 1 6) = false:=by rw [h2];rfl
 have q2:=akk.1 h2
 by_cases h3 : L.length > 16
 ·have e3 : decide ((L.length : Int) > 16) = true:=decide_eq_true (by omega)
  rw [show bD n P L = 2 by simp [bD,h1,h2,h3]]
  repeat' ((conv => whnf);first | apply And.intro | (intro h9;try (have h8 : (_ : Bool) = _:=h9;clear h8;revert h9;subst_vars;intro h9;exact aq h9 (by assumption))))
  all_goals try (conv => whnf)
  all_goals try first | (apply Tk.mk <;> kernel_rfl) | exact ⟨ah rfl⟩ | exact ⟨rfl⟩ | exact ⟨trivial⟩
  all_goals subst_vars
  all_goals try first | rfl | contradiction | (apply Ob.mk;first | (simp only [ag,ak,aa.ae];omega) | ((try simp only [aa.ae]);(try dsimp only);omega))
 have e3 : decide ((L.length : Int) > 16) = false:=decide_eq_false (by omega)
 rw [show bD n P L = if dY P L = true then 0 else 1 by simp [bD,h1,h2,h3]]
 have m1 : decide ((-1 : Int) >= 0) = false:=rfl
 repeat' ((conv => whnf);first | apply And.intro | (intro h9;try (have h8 : (_ : Bool) = _:=h9;clear h8;revert h9;subst_vars;intro h9;exact aq h9 (by assumption))))
 all_goals try (conv => whnf)
 all_goals try first | (apply Tk.mk <;> kernel_rfl) | exact ⟨ah rfl⟩ | exact ⟨rfl⟩ | exact ⟨trivial⟩
 all_goals subst_vars
 all_goals try first | rfl | contradiction | (apply Ob.mk;first | (simp only [ag,ak,aa.ae];omega) | ((try simp only [aa.ae]);(try dsimp only);omega))
 refine ⟨Nat,fun i => i <= L.length /\ dY P L = dY P (L.drop i),fun i => ⟨aI 19 [0,1,7,8] [.a (.sl 0 [] 0 L.length),.a (.fn 75 [1]),.a (vI L.length),.a (vI i)],[aI 9 [] [],aI 24 [] []],[.arr 46 kW L false false,.box true [vI n,vI P,.sl 0 [] 0 L.length]]⟩,fun i => L.length - i,0,[],⟨Nat.zero_le _,rfl⟩,?_,?_⟩
 ·repeat' ((conv => whnf);(first | apply And.intro | intro _))
  all_goals first | rfl | trivial | exact ah rfl | exact aS ‹_› rfl | exact aT ‹_› rfl | ((repeat' first | rfl | constructor);done)
 rintro i ⟨hi,hv⟩
 have m2 : decide ((i : Int) >= 0) = true:=decide_eq_true (by omega)
 by_cases hi1 : i < L.length
 ·have p0 : decide ((i : Int) < (L.length : Int)) = true:=decide_eq_true (by omega)
  cases hw : eJ P (wk L i)
  ·have e4 : (!eJ P (w3 L i)) = true:=by rw [show w3 L i = wk L i from jX L i,hw];rfl
   rw [hv,rS hi1 hw]
   repeat' ((conv => whnf);first | apply And.intro | (intro h9;try (have h8 : (_ : Bool) = _:=h9;clear h8;revert h9;subst_vars;intro h9;exact aq h9 (by assumption))))
   all_goals try (conv => whnf)
   all_goals try first | (apply Tk.mk <;> kernel_rfl) | exact ⟨ah rfl⟩ | exact ⟨rfl⟩ | exact ⟨trivial⟩
   all_goals subst_vars
   all_goals try first | rfl | contradiction | (apply Ob.mk;first | (simp only [ag,ak,aa.ae];omega) | ((try simp only [aa.ae]);(try dsimp only);omega))
   all_goals first
    | exact ⟨show 0 + Int.toNat (i : Int) < L.length by omega⟩
  have e4 : (!eJ P (w3 L i)) = false:=by rw [show w3 L i = wk L i from jX L i,hw];rfl
  repeat' ((conv => whnf);first | apply And.intro | (intro h9;try (have h8 : (_ : Bool) = _:=h9;clear h8;revert h9;subst_vars;intro h9;exact aq h9 (by assumption))))
  all_goals try (conv => whnf)
  all_goals try first | (apply Tk.mk <;> kernel_rfl) | exact ⟨ah rfl⟩ | exact ⟨rfl⟩ | exact ⟨trivial⟩
  all_goals subst_vars
  all_goals try first | rfl | contradiction | (apply Ob.mk;first | (simp only [ag,ak,aa.ae];omega) | ((try simp only [aa.ae]);(try dsimp only);omega))
  all_goals try first
   | exact ⟨show 0 + Int.toNat (i : Int) < L.length by omega⟩
  all_goals
   refine ⟨i + 1,[],⟨hi1,by rw [hv,Ei hi1 hw]⟩,?_,by show L.length - (i + 1) < L.length - i;omega⟩
   repeat' ((conv => whnf);(first | apply And.intro | intro _))
   all_goals first | rfl | trivial | exact ah rfl | exact aS ‹_› rfl | exact aT ‹_› rfl | ((repeat' first | rfl | constructor);done)
 have p0 : decide ((i : Int) < (L.length : Int)) = false:=decide_eq_false (by omega)
 rw [hv,Eh (by omega)]
 repeat' ((conv => whnf);first | apply And.intro | (intro h9;try (have h8 : (_ : Bool) = _:=h9;clear h8;revert h9;subst_vars;intro h9;exact aq h9 (by assumption))))
 all_goals try (conv => whnf)
 all_goals try first | (apply Tk.mk <;> kernel_rfl) | exact ⟨ah rfl⟩ | exact ⟨rfl⟩ | exact ⟨trivial⟩
 all_goals subst_vars
 all_goals try first | rfl | contradiction | (apply Ob.mk;first | (simp only [ag,ak,aa.ae];omega) | ((try simp only [aa.ae]);(try dsimp only);omega)))
end Go.Proofs.YthejmgnkenokpaaGreatDoor
end
section
namespace Go.Proofs.YthejmgnkenokpaaGreatDoor
open Go Go.Sy Go.bK
variable {Γ : bn}
def uE : au:=fS (fun _ _ L => [(aa.of (L.length <= 1000000))]) (fun n P L => .a (vI (bD n P L)))
noncomputable def FX : List (Nat × au):=[(21,mg)]
theorem zo : aR Tryz.prog Γ FX:=(aR.nil.cons (aj Tryz.func21 rfl rfl).fn jx)
theorem yI : au.Ok Tryz.prog Γ 18 uE:=za (d:=0) (aP zo bq.nil false 0) (aj Tryz.func18 rfl rfl) (fun _ _ _ => rfl) (by
 intro n P L ⟨hL,_⟩
 simp only [aa.ae] at hL
 cases h1 : aQ n 1 6
 ·have e1 : (!aQ n 1 6) = true:=by rw [h1];rfl
  rw [show bD n P L = 1 by simp [bD,h1]]
  repeat' ((conv => whnf);first | apply And.intro | (intro h9;try (have h8 : (_ : Bool) = _:=h9;clear h8;revert h9;subst_vars;intro h9;exact aq h9 (by assumption))))
  all_goals try (conv => whnf)
  all_goals try first | (apply Tk.mk <;> kernel_rfl) | exact ⟨ah rfl⟩ | exact ⟨rfl⟩ | exact ⟨trivial⟩
  all_goals subst_vars
  all_goals try first | rfl | contradiction | (apply Ob.mk;first | (simp only [ag,ak,aa.ae];omega) | ((try simp only [aa.ae]);(try dsimp only);omega))
 have e1 : (!aQ n 1 6) = false:=by rw [h1];rfl
 cases h2 : aQ P 1 6
 ·have e2 : (!aQ P 1 6) = true:=by rw [h2];rfl
  rw [show bD n P L = 1 by simp [bD,h2]]
  repeat' ((conv => whnf);first | apply And.intro | (intro h9;try (have h8 : (_ : Bool) = _:=h9;clear h8;revert h9;subst_vars;intro h9;exact aq h9 (by assumption))))
  all_goals try (conv => whnf)
  all_goals try first | (apply Tk.mk <;> kernel_rfl) | exact ⟨ah rfl⟩ | exact ⟨rfl⟩ | exact ⟨trivial⟩
  all_goals subst_vars
  all_goals try first | rfl | contradiction | (apply Ob.mk;first | (simp only [ag,ak,aa.ae];omega) | ((try simp only [aa.ae]);(try dsimp only);omega))
 have e2 : (!aQ P 1 6) = false:=by rw [h2];rfl
 have q2:=akk.1 h2
 by_cases h3 : L.length > 16
 ·have e3 : decide ((L.length : Int) > 16) = true:=decide_eq_true (by omega)
  rw [show bD n P L = 2 by simp [bD,h1,h2,h3]]
  repeat' ((conv => whnf);first | apply And.intro | (intro h9;try (have h8 : (_ : Bool) = _:=h9;clear h8;revert h9;subst_vars;intro h9;exact aq h9 (by assumption))))
  all_goals try (conv => whnf)
  all_goals try first | (apply Tk.mk <;> kernel_rfl) | exact ⟨ah rfl⟩ | exact ⟨rfl⟩ | exact ⟨trivial⟩
  all_goals subst_vars
  all_goals try first | rfl | contradiction | (apply Ob.mk;first | (simp only [ag,ak,aa.ae];omega) | ((try simp only [aa.ae]);(try dsimp only);omega))
 have e3 : decide ((L.length : Int) > 16) = false:=decide_eq_false (by omega)
 rw [show bD n P L = if dY P L = true then 0 else 1 by simp [bD,h1,h2,h3]]
 repeat' ((conv => whnf);first | apply And.intro | (intro h9;try (have h8 : (_ : Bool) = _:=h9;clear h8;revert h9;subst_vars;intro h9;exact aq h9 (by assumption))))
 all_goals try (conv => whnf)
 all_goals try first | (apply Tk.mk <;> kernel_rfl) | exact ⟨ah rfl⟩ | exact ⟨rfl⟩ | exact ⟨trivial⟩
 all_goals subst_vars
 all_goals try first | rfl | contradiction | (apply Ob.mk;first | (simp only [ag,ak,aa.ae];omega) | ((try simp only [aa.ae]);(try dsimp only);omega))
 refine ⟨Nat,fun i => i <= L.length /\ dY P L = dY P (L.drop i),fun i => ⟨aI 60 [1,3] [.a (.p 1 [] 0 0),.a (vI i)],[],[.arr 46 kW L false false,.box true [vI n,vI P,.sl 0 [] 0 L.length]]⟩,fun i => L.length - i,0,[],⟨Nat.zero_le _,rfl⟩,?_,?_⟩
 ·repeat' ((conv => whnf);(first | apply And.intro | intro _))
  all_goals first | rfl | trivial | exact ah rfl | exact aS ‹_› rfl | exact aT ‹_› rfl | ((repeat' first | rfl | constructor);done)
 rintro i ⟨hi,hv⟩
 by_cases hi1 : i < L.length
 ·have p0 : decide ((i : Int) < (L.length : Int)) = true:=decide_eq_true (by omega)
  have wn : ∀ b,eJ P (wk L i) = b -> eJ P (cn L i) = b:=fun b hb => by rw [jX];exact hb
  cases w1 : aQ (cn L i).1 0 (P - 1)
  ·have f1 : (!aQ (cn L i).1 0 (P - 1)) = true:=by rw [w1];rfl
   have hw : eJ P (wk L i) = false:=by rw [<- jX];simp only [eJ,w1,Bool.false_and]
   rw [hv,rS hi1 hw]
   repeat' ((conv => whnf);first | apply And.intro | (intro h9;try (have h8 : (_ : Bool) = _:=h9;clear h8;revert h9;subst_vars;intro h9;exact aq h9 (by assumption))))
   all_goals try (conv => whnf)
   all_goals try first | (apply Tk.mk <;> kernel_rfl) | exact ⟨ah rfl⟩ | exact ⟨rfl⟩ | exact ⟨trivial⟩
   all_goals subst_vars
   all_goals try first | rfl | contradiction | (apply Ob.mk;first | (simp only [ag,ak,aa.ae];omega) | ((try simp only [aa.ae]);(try dsimp only);omega))
   all_goals first
    | exact ⟨show 0 + Int.toNat (i : Int) < L.length by omega⟩
  have f1 : (!aQ (cn L i).1 0 (P - 1)) = false:=by rw [w1];rfl
  cases w2 : aQ (cn L i).2.1 0 (P - 1)
  ·have f2 : (!aQ (cn L i).2.1 0 (P - 1)) = true:=by rw [w2];rfl
   have hw : eJ P (wk L i) = false:=by rw [<- jX];simp only [eJ,w2,Bool.false_and,Bool.and_false]
   rw [hv,rS hi1 hw]
   repeat' ((conv => whnf);first | apply And.intro | (intro h9;try (have h8 : (_ : Bool) = _:=h9;clear h8;revert h9;subst_vars;intro h9;exact aq h9 (by assumption))))
   all_goals try (conv => whnf)
   all_goals try first | (apply Tk.mk <;> kernel_rfl) | exact ⟨ah rfl⟩ | exact ⟨rfl⟩ | exact ⟨trivial⟩
   all_goals subst_vars
   all_goals try first | rfl | contradiction | (apply Ob.mk;first | (simp only [ag,ak,aa.ae];omega) | ((try simp only [aa.ae]);(try dsimp only);omega))
   all_goals first
    | exact ⟨show 0 + Int.toNat (i : Int) < L.length by omega⟩
  have f2 : (!aQ (cn L i).2.1 0 (P - 1)) = false:=by rw [w2];rfl
  cases Qd : (cn L i).1 == (cn L i).2.1
  ·have g3 : ((cn L i).1 != (cn L i).2.1) = true:=by unfold bne;rw [Qd];rfl
   cases w4 : aQ (cn L i).2.2 0 7
   ·have f4 : (!aQ (cn L i).2.2 0 7) = true:=by rw [w4];rfl
    have hw : eJ P (wk L i) = false:=by rw [<- jX];simp only [eJ,w4,Bool.and_false]
    rw [hv,rS hi1 hw]
    repeat' ((conv => whnf);first | apply And.intro | (intro h9;try (have h8 : (_ : Bool) = _:=h9;clear h8;revert h9;subst_vars;intro h9;exact aq h9 (by assumption))))
    all_goals try (conv => whnf)
    all_goals try first | (apply Tk.mk <;> kernel_rfl) | exact ⟨ah rfl⟩ | exact ⟨rfl⟩ | exact ⟨trivial⟩
    all_goals subst_vars
    all_goals try first | rfl | contradiction | (apply Ob.mk;first | (simp only [ag,ak,aa.ae];omega) | ((try simp only [aa.ae]);(try dsimp only);omega))
    all_goals first
     | exact ⟨show 0 + Int.toNat (i : Int) < L.length by omega⟩
   have f4 : (!aQ (cn L i).2.2 0 7) = false:=by rw [w4];rfl
   have hw : eJ P (wk L i) = true:=by rw [<- jX];simp only [eJ,w1,w2,w4,g3,Bool.and_true]
   repeat' ((conv => whnf);first | apply And.intro | (intro h9;try (have h8 : (_ : Bool) = _:=h9;clear h8;revert h9;subst_vars;intro h9;exact aq h9 (by assumption))))
   all_goals try (conv => whnf)
   all_goals try first | (apply Tk.mk <;> kernel_rfl) | exact ⟨ah rfl⟩ | exact ⟨rfl⟩ | exact ⟨trivial⟩
   all_goals subst_vars
   all_goals try first | rfl | contradiction | (apply Ob.mk;first | (simp only [ag,ak,aa.ae];omega) | ((try simp only [aa.ae]);(try dsimp only);omega))
   all_goals try first
    | exact ⟨show 0 + Int.toNat (i : Int) < L.length by omega⟩
   all_goals
    refine ⟨i + 1,[],⟨hi1,by rw [hv,Ei hi1 hw]⟩,?_,by show L.length - (i + 1) < L.length - i;omega⟩
    repeat' ((conv => whnf);(first | apply And.intro | intro _))
    all_goals first | rfl | trivial | exact ah rfl | exact aS ‹_› rfl | exact aT ‹_› rfl | ((repeat' first | rfl | constructor);done)
  have g3 : ((cn L i).1 != (cn L i).2.1) = false:=by unfold bne;rw [Qd];rfl
  have hw : eJ P (wk L i) = false:=by rw [<- jX];simp only [eJ,g3,Bool.and_false,Bool.false_and]
  rw [hv,rS hi1 hw]
  repeat' ((conv => whnf);first | apply And.intro | (intro h9;try (have h8 : (_ : Bool) = _:=h9;clear h8;revert h9;subst_vars;intro h9;exact aq h9 (by assumption))))
  all_goals try (conv => whnf)
  all_goals try first | (apply Tk.mk <;> kernel_rfl) | exact ⟨ah rfl⟩ | exact ⟨rfl⟩ | exact ⟨trivial⟩
  all_goals subst_vars
  all_goals try first | rfl | contradiction | (apply Ob.mk;first | (simp only [ag,ak,aa.ae];omega) | ((try simp only [aa.ae]);(try dsimp only);omega))
  all_goals first
   | exact ⟨show 0 + Int.toNat (i : Int) < L.length by omega⟩
 have p0 : decide ((i : Int) < (L.length : Int)) = false:=decide_eq_false (by omega)
 rw [hv,Eh (by omega)]
 repeat' ((conv => whnf);first | apply And.intro | (intro h9;try (have h8 : (_ : Bool) = _:=h9;clear h8;revert h9;subst_vars;intro h9;exact aq h9 (by assumption))))
 all_goals try (conv => whnf)
 all_goals try first | (apply Tk.mk <;> kernel_rfl) | exact ⟨ah rfl⟩ | exact ⟨rfl⟩ | exact ⟨trivial⟩
 all_goals subst_vars
 all_goals try first | rfl | contradiction | (apply Ob.mk;first | (simp only [ag,ak,aa.ae];omega) | ((try simp only [aa.ae]);(try dsimp only);omega)))
def bf (n P : Int) (L : List Wk) (p : Int) : Int:=if bD n P L = 0 then (if aQ p 0 (P - 1) = true then 0 else 1) else bD n P L
attribute [local irreducible] bD
def jf : au:=xL (fun _ _ L _ => [(aa.of (L.length <= 1000000))]) (fun n P L p => .a (vI (bf n P L p)))
noncomputable def Mf : List (Nat × au):=[(35,rZ),(59,gK)]
theorem FV : aR Tryz.prog Γ Mf:=((aR.nil.cons (aj Tryz.func59 rfl rfl).fn fw).cons (aj Tryz.func35 rfl rfl).fn oS)
theorem fQ : au.Ok Tryz.prog Γ 45 jf:=mG (d:=0) (aP FV bq.nil false 0) (aj Tryz.func45 rfl rfl) (fun _ _ _ _ => rfl) (by
 intro n P L p ⟨hL,_⟩
 simp only [aa.ae] at hL
 by_cases h0 : bD n P L = 0
 ·have e0 : (bD n P L != 0) = false:=by rw [h0];rfl
  have Mx : (bD n P L == 0) = true:=by rw [h0];rfl
  have sh:=(oe.1 h0).p
  cases h1 : aQ p 0 (P - 1)
  ·have e1 : (!aQ p 0 (P - 1)) = true:=by rw [h1];rfl
   rw [show bf n P L p = 1 by simp [bf,h0,h1]]
   repeat' ((conv => whnf);first | apply And.intro | (intro h9;try (have h8 : (_ : Bool) = _:=h9;clear h8;revert h9;subst_vars;intro h9;exact aq h9 (by assumption))))
   all_goals try (conv => whnf)
   all_goals try first | (apply Tk.mk <;> kernel_rfl) | exact ⟨ah rfl⟩ | exact ⟨rfl⟩ | exact ⟨trivial⟩
   all_goals subst_vars
   all_goals try first | rfl | contradiction | (apply Ob.mk;first | (simp only [ag,ak,aa.ae];omega) | ((try simp only [aa.ae]);(try dsimp only);omega))
   all_goals first
    | exact ⟨hL⟩
  have e1 : (!aQ p 0 (P - 1)) = false:=by rw [h1];rfl
  rw [show bf n P L p = 0 by simp [bf,h0,h1]]
  repeat' ((conv => whnf);first | apply And.intro | (intro h9;try (have h8 : (_ : Bool) = _:=h9;clear h8;revert h9;subst_vars;intro h9;exact aq h9 (by assumption))))
  all_goals try (conv => whnf)
  all_goals try first | (apply Tk.mk <;> kernel_rfl) | exact ⟨ah rfl⟩ | exact ⟨rfl⟩ | exact ⟨trivial⟩
  all_goals subst_vars
  all_goals try first | rfl | contradiction | (apply Ob.mk;first | (simp only [ag,ak,aa.ae];omega) | ((try simp only [aa.ae]);(try dsimp only);omega))
  all_goals first
   | exact ⟨hL⟩
 have e0 : (bD n P L != 0) = true:=by simpa using h0
 have Mx : (bD n P L == 0) = false:=by simpa using h0
 rw [show bf n P L p = bD n P L by simp [bf,h0]]
 repeat' ((conv => whnf);first | apply And.intro | (intro h9;try (have h8 : (_ : Bool) = _:=h9;clear h8;revert h9;subst_vars;intro h9;exact aq h9 (by assumption))))
 all_goals try (conv => whnf)
 all_goals try first | (apply Tk.mk <;> kernel_rfl) | exact ⟨ah rfl⟩ | exact ⟨rfl⟩ | exact ⟨trivial⟩
 all_goals subst_vars
 all_goals try first | rfl | contradiction | (apply Ob.mk;first | (simp only [ag,ak,aa.ae];omega) | ((try simp only [aa.ae]);(try dsimp only);omega))
 all_goals first
  | exact ⟨hL⟩)
end Go.Proofs.YthejmgnkenokpaaGreatDoor
end
section
namespace Go.Proofs.YthejmgnkenokpaaGreatDoor
open Go Go.Sy Go.bK
variable {Γ : bn}
def Px (D : List Int -> List aa) (R : List Int -> cM) : au:=.new fun args rg K => match args with
 | [.a x0] => (match ac1 3 kI rg x0 with | some (q0,L0) => bk false (q0 ++ (D L0)) (K (R L0)) | _ => False)
 | _ => False
theorem MG {f : FuncId} {b : Body} {E : Env} {d : Nat} (hP : aL Tryz.prog Γ E) (hb : bQ Tryz.prog f b) {D : List Int -> List aa} {R : List Int -> cM}
  (H : ∀ (L0 : List Int) (K : cM -> Prop),bW (D L0) -> K (R L0) -> cQ E d b [.a (.sl 0 [] 0 L0.length)] [.arr 3 kI L0 false false] (bu K)) : au.Ok Tryz.prog Γ f (Px D R):=au.fM (d:=d) hP hb (by
 intro args rg K hF
 split at hF
 next x0 =>
  split at hF
  next q0 L0 hx0 =>
   rw [aV,aH] at hF
   obtain ⟨⟨dm,hD⟩,hK⟩:=hF
   obtain ⟨e0,Vn⟩:=bP (by simp [kI]) hx0 dm
   obtain ⟨p0,r0⟩:=Vn [e0] 0 1 rfl (by omega)
   refine ⟨[e0],[.a (.sl 0 [] 0 L0.length)],[.arr 3 kI L0 false false],⟨⟨p0,trivial⟩,fun r g hg => ?_⟩,bu K,H _ K hD hK,fun x st h => h⟩
   match r,hg with
   | 0,hg => obtain rfl:=Option.some.inj hg;exact r0
  next => exact hF.elim
 next => exact hF.elim)
def Py (D : List Wk -> List aa) (R : List Wk -> cM) : au:=.new fun args rg K => match args with
 | [.a x0] => (match ac1 46 kW rg x0 with | some (q0,L0) => bk false (q0 ++ (D L0)) (K (R L0)) | _ => False)
 | _ => False
theorem MH {f : FuncId} {b : Body} {E : Env} {d : Nat} (hP : aL Tryz.prog Γ E) (hb : bQ Tryz.prog f b) {D : List Wk -> List aa} {R : List Wk -> cM}
  (H : ∀ (L0 : List Wk) (K : cM -> Prop),bW (D L0) -> K (R L0) -> cQ E d b [.a (.sl 0 [] 0 L0.length)] [.arr 46 kW L0 false false] (bu K)) : au.Ok Tryz.prog Γ f (Py D R):=au.fM (d:=d) hP hb (by
 intro args rg K hF
 split at hF
 next x0 =>
  split at hF
  next q0 L0 hx0 =>
   rw [aV,aH] at hF
   obtain ⟨⟨dm,hD⟩,hK⟩:=hF
   obtain ⟨e0,Vn⟩:=bP (by simp [kW]) hx0 dm
   obtain ⟨p0,r0⟩:=Vn [e0] 0 1 rfl (by omega)
   refine ⟨[e0],[.a (.sl 0 [] 0 L0.length)],[.arr 46 kW L0 false false],⟨⟨p0,trivial⟩,fun r g hg => ?_⟩,bu K,H _ K hD hK,fun x st h => h⟩
   match r,hg with
   | 0,hg => obtain rfl:=Option.some.inj hg;exact r0
  next => exact hF.elim
 next => exact hF.elim)
def Am (D : Int -> Int -> List Wk -> Wk -> List aa) (R : Int -> Int -> List Wk -> Wk -> cM) : au:=.new fun args rg K => match args with
 | [.agg [.v (.int .i64 n0),.v (.int .i64 n1),x0],.agg l0] => (match ac1 46 kW rg x0,eu kW l0 with | some (q0,L0),some v0 => bk false (q0 ++ (D n0 n1 L0 v0)) (K (R n0 n1 L0 v0)) | _,_ => False)
 | _ => False
theorem Dt {f : FuncId} {b : Body} {E : Env} {d : Nat} (hP : aL Tryz.prog Γ E) (hb : bQ Tryz.prog f b) {D : Int -> Int -> List Wk -> Wk -> List aa} {R : Int -> Int -> List Wk -> Wk -> cM}
  (H : ∀ (n0 : Int) (n1 : Int) (L0 : List Wk) (v0 : Wk) (K : cM -> Prop),bW (D n0 n1 L0 v0) -> K (R n0 n1 L0 v0) -> cQ E d b [.agg [vI n0,vI n1,.sl 0 [] 0 L0.length],.agg (ai.lV kW v0)] [.arr 46 kW L0 false false] (bu K)) : au.Ok Tryz.prog Γ f (Am D R):=au.fM (d:=d) hP hb (by
 intro args rg K hF
 split at hF
 next n0 n1 x0 l0 =>
  split at hF
  next q0 L0 v0 hx0 hc0 =>
   rw [aV,aH] at hF
   obtain ⟨⟨dm,hD⟩,hK⟩:=hF
   obtain ⟨e0,Vn⟩:=bP (by simp [kW]) hx0 dm
   obtain ⟨p0,r0⟩:=Vn [e0] 0 1 rfl (by omega)
   refine ⟨[e0],[.agg [vI n0,vI n1,.sl 0 [] 0 L0.length],.agg (ai.lV kW v0)],[.arr 46 kW L0 false false],⟨⟨⟨rfl,rfl,p0,trivial⟩,oC hc0,trivial⟩,fun r g hg => ?_⟩,bu K,H _ _ _ _ K hD hK,fun x st h => h⟩
   match r,hg with
   | 0,hg => obtain rfl:=Option.some.inj hg;exact r0
  next => exact hF.elim
 next => exact hF.elim)
def zO : au:=Px (fun L => [(aa.of (L.length <= 1000000))]) (fun L => ⟨[.arr 3 kI L true true],.a (.sl 0 [] 0 L.length)⟩)
theorem CD : au.Ok Tryz.prog Γ 88 zO:=MG (d:=0) (aP aR.nil bq.nil false 0) (aj Tryz.func88 rfl rfl) (by
 intro L K ⟨hlen,_⟩ hK
 simp only [aa.ae] at hlen
 repeat' ((conv => whnf);(first | apply And.intro | intro _))
 all_goals try (conv => whnf)
 ·have h0 : L = []:=by
   rcases Nat.eq_zero_or_pos L.length with h | h
   ·exact List.eq_nil_of_length_eq_zero h
   ·rename_i h1 h2;rw [h1 h] at h2;cases h2
  subst h0
  exact bu.aC 3 kI (by simp) (.base ⟨_,[1],hK,⟨rfl,rfl,by simp,trivial⟩,rfl,rfl,rfl,rfl,rfl⟩)
 ·exact ⟨Nat.le_of_eq (Nat.zero_add _)⟩
 ·exact ⟨show L.length * 1 <= 1099511627776 by omega⟩
 ·rename_i ys hys
  obtain rfl : L = ys:=by rw [<- hys];exact List.take_length.symm
  exact .base ⟨_,[1],hK,⟨rfl,rfl,by simp,trivial⟩,rfl,rfl,rfl,rfl,rfl⟩)
def zP : au:=Py (fun L => [(aa.of (L.length <= 1000000))]) (fun L => ⟨[.arr 46 kW L true true],.a (.sl 0 [] 0 L.length)⟩)
theorem CE : au.Ok Tryz.prog Γ 106 zP:=MH (d:=0) (aP aR.nil bq.nil false 0) (aj Tryz.func106 rfl rfl) (by
 intro L K ⟨hlen,_⟩ hK
 simp only [aa.ae] at hlen
 repeat' ((conv => whnf);(first | apply And.intro | intro _))
 all_goals try (conv => whnf)
 ·have h0 : L = []:=by
   rcases Nat.eq_zero_or_pos L.length with h | h
   ·exact List.eq_nil_of_length_eq_zero h
   ·rename_i h1 h2;rw [h1 h] at h2;cases h2
  subst h0
  exact bu.aC 46 kW (by simp) (.base ⟨_,[1],hK,⟨rfl,rfl,by simp,trivial⟩,rfl,rfl,rfl,rfl,rfl⟩)
 ·exact ⟨Nat.le_of_eq (Nat.zero_add _)⟩
 ·exact ⟨show L.length * 3 <= 1099511627776 by omega⟩
 ·rename_i ys hys
  obtain rfl : L = ys:=by rw [<- hys];exact List.take_length.symm
  exact .base ⟨_,[1],hK,⟨rfl,rfl,by simp,trivial⟩,rfl,rfl,rfl,rfl,rfl⟩)
def Gk : au:=Am (fun _ _ L _ => [(aa.of (L.length <= 900000))]) (fun n P L w => ⟨[.arr 46 kW (L ++ [w]) true true],.agg [vI n,vI P,.sl 0 [] 0 (L.length + 1)]⟩)
def Nb (id : Nat) : Option (Nat × OT):=match Nat.beq id 1 with | true => some (5,.take 0 (.take 1 (.take 3 (.alt 2 (.alt 4 .fin .fin) (.alt 4 (.alt 2 .fin .fin) .fin))))) | false => none
noncomputable def JY : List (Nat × au):=[(106,zP)]
theorem Ix : aR Tryz.prog Γ JY:=(aR.nil.cons (aj Tryz.func106 rfl rfl).fn CE)
noncomputable def Mz : Env:={ jV.env JY [] false 0 with htr:=Nb }
theorem Gz : aL Tryz.prog Γ Mz:=(aP Ix bq.nil false 0).NA _
theorem Gl : au.Ok Tryz.prog Γ 68 Gk:=Dt (d:=0) Gz (aj Tryz.func68 rfl rfl) (by
 rintro n P L ⟨a,b,t⟩ K ⟨hl,_⟩ hK
 simp only [aa.ae] at hl
 have jJ : L.length + 1 = (L ++ [(a,b,t)]).length:=by rw [List.length_append,List.length_singleton]
 have agM : (L ++ [(a,b,t)]).length <= 1000000:=by rw [List.length_append,List.length_singleton];omega
 repeat' ((conv => whnf);first | apply And.intro | (intro h9;try (have h8 : (_ : Bool) = _:=h9;clear h8;revert h9;subst_vars;intro h9;exact aq h9 (by assumption))))
 all_goals try (conv => whnf)
 all_goals try first | (apply Tk.mk <;> kernel_rfl) | exact ⟨ah rfl⟩ | exact ⟨rfl⟩ | exact ⟨trivial⟩
 all_goals subst_vars
 all_goals try first | rfl | contradiction | (apply Ob.mk;first | (simp only [ag,ak,aa.ae];omega) | ((try simp only [aa.ae]);(try dsimp only);omega))
 all_goals first
  | trivial
  | exact ⟨show L.length <= 1000000 by omega⟩
  | exact ⟨Nat.zero_add _⟩
  | exact ⟨show (L.length + 1) * 3 <= 1099511627776 by omega⟩
  | (refine bu.base ⟨_,[4],hK,⟨rfl,rfl,by simp,trivial⟩,rfl,?_⟩;(repeat' ((conv => whnf);(first | apply And.intro | intro _)));all_goals first | rfl | trivial)
  | (refine bu.base ⟨_,[5],hK,⟨rfl,rfl,by simp,trivial⟩,rfl,?_⟩;(repeat' ((conv => whnf);(first | apply And.intro | intro _)));all_goals first | rfl | trivial))
def wC (e : Int) : cM:=⟨[],.bF [.agg [vI 0,vI 0,.v (.slice none 0 0)],.a (vI e)]⟩
def nO (n P : Int) (L : List Wk) (w : Wk) : cM:=match bD n P L == 0,bD n P (L ++ [w]) == 0 with
 | true,true => ⟨[.arr 46 kW (L ++ [w]) true true],.bF [.agg [vI n,vI P,.sl 0 [] 0 (L.length + 1)],.a (vI 0)]⟩
 | true,false => wC (bD n P (L ++ [w]))
 | false,_ => wC (bD n P L)
def Mp : au:=Am (fun _ _ L _ => [(aa.of (L.length <= 900000))]) nO
noncomputable def OO : List (Nat × au):=[(35,rZ),(68,Gk)]
theorem Ir : aR Tryz.prog Γ OO:=((aR.nil.cons (aj Tryz.func68 rfl rfl).fn Gl).cons (aj Tryz.func35 rfl rfl).fn oS)
theorem Gf : au.Ok Tryz.prog Γ 31 Mp:=Dt (d:=0) (aP Ir bq.nil false 0) (aj Tryz.func31 rfl rfl) (by
 rintro n P L ⟨a,b,t⟩ K ⟨hl,_⟩ hK
 simp only [aa.ae] at hl
 have jJ : L.length + 1 = (L ++ [(a,b,t)]).length:=by rw [List.length_append,List.length_singleton]
 have agM : (L ++ [(a,b,t)]).length <= 1000000:=by rw [List.length_append,List.length_singleton];omega
 cases h0 : bD n P L == 0
 ·have e0 : (bD n P L != 0) = true:=by unfold bne;rw [h0];rfl
  rw [show nO n P L (a,b,t) = wC (bD n P L) by unfold nO;rw [h0]] at hK
  repeat' ((conv => whnf);first | apply And.intro | (intro h9;try (have h8 : (_ : Bool) = _:=h9;clear h8;revert h9;subst_vars;intro h9;exact aq h9 (by assumption))))
  all_goals try (conv => whnf)
  all_goals try first | (apply Tk.mk <;> kernel_rfl) | exact ⟨ah rfl⟩ | exact ⟨rfl⟩ | exact ⟨trivial⟩
  all_goals subst_vars
  all_goals try first | rfl | contradiction | (apply Ob.mk;first | (simp only [ag,ak,aa.ae];omega) | ((try simp only [aa.ae]);(try dsimp only);omega))
  all_goals first
   | exact ⟨show L.length <= 1000000 by omega⟩
   | (refine bu.base ⟨_,[],hK,trivial,rfl,?_⟩;(repeat' ((conv => whnf);(first | apply And.intro | intro _)));all_goals first | rfl | trivial)
 have e0 : (bD n P L != 0) = false:=by unfold bne;rw [h0];rfl
 cases h1 : bD n P (L ++ [(a,b,t)]) == 0
 ·have e1 : (bD n P (L ++ [(a,b,t)]) != 0) = true:=by unfold bne;rw [h1];rfl
  rw [show nO n P L (a,b,t) = wC (bD n P (L ++ [(a,b,t)])) by unfold nO;rw [h0,h1]] at hK
  repeat' ((conv => whnf);first | apply And.intro | (intro h9;try (have h8 : (_ : Bool) = _:=h9;clear h8;revert h9;subst_vars;intro h9;exact aq h9 (by assumption))))
  all_goals try (conv => whnf)
  all_goals try first | (apply Tk.mk <;> kernel_rfl) | exact ⟨ah rfl⟩ | exact ⟨rfl⟩ | exact ⟨trivial⟩
  all_goals subst_vars
  all_goals try first | rfl | contradiction | (apply Ob.mk;first | (simp only [ag,ak,aa.ae];omega) | ((try simp only [aa.ae]);(try dsimp only);omega))
  all_goals first
   | exact ⟨hl⟩
   | exact ⟨jJ⟩
   | exact ⟨show L.length <= 1000000 by omega⟩
   | exact ⟨agM⟩
   | (refine bu.base ⟨_,[],hK,trivial,rfl,?_⟩;(repeat' ((conv => whnf);(first | apply And.intro | intro _)));all_goals first | rfl | trivial)
 have e1 : (bD n P (L ++ [(a,b,t)]) != 0) = false:=by unfold bne;rw [h1];rfl
 have e2 : bD n P (L ++ [(a,b,t)]) = 0:=eq_of_beq h1
 rw [show nO n P L (a,b,t) = ⟨[.arr 46 kW (L ++ [(a,b,t)]) true true],.bF [.agg [vI n,vI P,.sl 0 [] 0 (L.length + 1)],.a (vI 0)]⟩ by unfold nO;rw [h0,h1]] at hK
 repeat' ((conv => whnf);first | apply And.intro | (intro h9;try (have h8 : (_ : Bool) = _:=h9;clear h8;revert h9;subst_vars;intro h9;exact aq h9 (by assumption))))
 all_goals try (conv => whnf)
 all_goals try first | (apply Tk.mk <;> kernel_rfl) | exact ⟨ah rfl⟩ | exact ⟨rfl⟩ | exact ⟨trivial⟩
 all_goals subst_vars
 all_goals try first | rfl | contradiction | (apply Ob.mk;first | (simp only [ag,ak,aa.ae];omega) | ((try simp only [aa.ae]);(try dsimp only);omega))
 all_goals first
  | exact ⟨hl⟩
  | exact ⟨jJ⟩
  | exact ⟨show L.length <= 1000000 by omega⟩
  | exact ⟨agM⟩
  | (refine bu.base ⟨_,[4],hK,⟨rfl,rfl,by simp,trivial⟩,rfl,?_⟩;(repeat' ((conv => whnf);(first | apply And.intro | intro _)));all_goals first | rfl | trivial))
end Go.Proofs.YthejmgnkenokpaaGreatDoor
end
