/-
  Texts of the claims on chapter 3: Yk10. No condition: lemmas and contracts.
-/
import Derived.Test.YthejmgnkenokpaaDoorYk2
import Derived.Test.YthejmgnkenokpaaDoorYk3
import Derived.Test.YthejmgnkenokpaaDoorYk8
set_option linter.all false
set_option maxRecDepth 100000
set_option maxHeartbeats 4000000
section
namespace Go.Proofs.YthejmgnkenokpaaDoor
open Go Go.Sy Go.bK
variable {Γ : bn}
def sV : au:=oT
attribute [local irreducible] bM bw
def CX (id : Nat) : Option OT:=match Nat.beq id 5 with | true => some (.take 2 (.take 3 (.take 4 (.alt 0 (.alt 1 (.alt 5 (.alt 6 (.take 7 (.take 8 (.take 9 (.alt 10 (.alt 11 (.take 12 .fin) .fin) .fin)))) (.alt 10 (.alt 6 (.take 7 (.take 8 (.take 9 (.alt 11 (.take 12 .fin) .fin)))) .fin) .fin)) (.alt 10 (.alt 5 (.alt 6 (.take 7 (.take 8 (.take 9 (.alt 11 (.take 12 .fin) .fin)))) .fin) .fin) .fin)) (.alt 5 (.alt 1 (.alt 6 (.take 7 (.take 8 (.take 9 (.alt 10 (.alt 11 (.take 12 .fin) .fin) .fin)))) (.alt 10 (.alt 6 (.take 7 (.take 8 (.take 9 (.alt 11 (.take 12 .fin) .fin)))) .fin) .fin)) (.alt 10 (.alt 1 (.alt 6 (.take 7 (.take 8 (.take 9 (.alt 11 (.take 12 .fin) .fin)))) .fin) .fin) .fin)) (.alt 10 (.alt 1 (.alt 5 (.alt 6 (.take 7 (.take 8 (.take 9 (.alt 11 (.take 12 .fin) .fin)))) .fin) .fin) (.alt 5 (.alt 1 (.alt 6 (.take 7 (.take 8 (.take 9 (.alt 11 (.take 12 .fin) .fin)))) .fin) .fin) .fin)) .fin))) (.alt 1 (.alt 0 (.alt 5 (.alt 6 (.take 7 (.take 8 (.take 9 (.alt 10 (.alt 11 (.take 12 .fin) .fin) .fin)))) (.alt 10 (.alt 6 (.take 7 (.take 8 (.take 9 (.alt 11 (.take 12 .fin) .fin)))) .fin) .fin)) (.alt 10 (.alt 5 (.alt 6 (.take 7 (.take 8 (.take 9 (.alt 11 (.take 12 .fin) .fin)))) .fin) .fin) .fin)) (.alt 5 (.alt 0 (.alt 6 (.take 7 (.take 8 (.take 9 (.alt 10 (.alt 11 (.take 12 .fin) .fin) .fin)))) (.alt 10 (.alt 6 (.take 7 (.take 8 (.take 9 (.alt 11 (.take 12 .fin) .fin)))) .fin) .fin)) (.alt 10 (.alt 0 (.alt 6 (.take 7 (.take 8 (.take 9 (.alt 11 (.take 12 .fin) .fin)))) .fin) .fin) .fin)) (.alt 10 (.alt 0 (.alt 5 (.alt 6 (.take 7 (.take 8 (.take 9 (.alt 11 (.take 12 .fin) .fin)))) .fin) .fin) (.alt 5 (.alt 0 (.alt 6 (.take 7 (.take 8 (.take 9 (.alt 11 (.take 12 .fin) .fin)))) .fin) .fin) .fin)) .fin))) (.alt 5 (.alt 0 (.alt 1 (.alt 6 (.take 7 (.take 8 (.take 9 (.alt 10 (.alt 11 (.take 12 .fin) .fin) .fin)))) (.alt 10 (.alt 6 (.take 7 (.take 8 (.take 9 (.alt 11 (.take 12 .fin) .fin)))) .fin) .fin)) (.alt 10 (.alt 1 (.alt 6 (.take 7 (.take 8 (.take 9 (.alt 11 (.take 12 .fin) .fin)))) .fin) .fin) .fin)) (.alt 1 (.alt 0 (.alt 6 (.take 7 (.take 8 (.take 9 (.alt 10 (.alt 11 (.take 12 .fin) .fin) .fin)))) (.alt 10 (.alt 6 (.take 7 (.take 8 (.take 9 (.alt 11 (.take 12 .fin) .fin)))) .fin) .fin)) (.alt 10 (.alt 0 (.alt 6 (.take 7 (.take 8 (.take 9 (.alt 11 (.take 12 .fin) .fin)))) .fin) .fin) .fin)) (.alt 10 (.alt 0 (.alt 1 (.alt 6 (.take 7 (.take 8 (.take 9 (.alt 11 (.take 12 .fin) .fin)))) .fin) .fin) (.alt 1 (.alt 0 (.alt 6 (.take 7 (.take 8 (.take 9 (.alt 11 (.take 12 .fin) .fin)))) .fin) .fin) .fin)) .fin))) (.alt 10 (.alt 0 (.alt 1 (.alt 5 (.alt 6 (.take 7 (.take 8 (.take 9 (.alt 11 (.take 12 .fin) .fin)))) .fin) .fin) (.alt 5 (.alt 1 (.alt 6 (.take 7 (.take 8 (.take 9 (.alt 11 (.take 12 .fin) .fin)))) .fin) .fin) .fin)) (.alt 1 (.alt 0 (.alt 5 (.alt 6 (.take 7 (.take 8 (.take 9 (.alt 11 (.take 12 .fin) .fin)))) .fin) .fin) (.alt 5 (.alt 0 (.alt 6 (.take 7 (.take 8 (.take 9 (.alt 11 (.take 12 .fin) .fin)))) .fin) .fin) .fin)) (.alt 5 (.alt 0 (.alt 1 (.alt 6 (.take 7 (.take 8 (.take 9 (.alt 11 (.take 12 .fin) .fin)))) .fin) .fin) (.alt 1 (.alt 0 (.alt 6 (.take 7 (.take 8 (.take 9 (.alt 11 (.take 12 .fin) .fin)))) .fin) .fin) .fin)) .fin))) .fin))))))) | false => none
noncomputable def uk : List (Nat × au):=[(78,Gd)]
theorem yE : aR Tryd.prog Γ uk:=(aR.nil.cons (aj Tryd.func78 rfl rfl).fn Ge)
noncomputable def CI : Env:={ jV.env uk [] false 0 with tree:=CX }
theorem wz : aL Tryd.prog Γ CI:=(aP yE bq.nil false 0).vU _
theorem wu : au.Ok Tryd.prog Γ 39 sV:=sb (d:=0) wz (aj Tryd.func39 rfl rfl) (fun _ _ _ _ _ => rfl) (by
 intro n P L p w ⟨hw,hs,hl,hv,_⟩
 simp only [aa.ae] at hw hs hl hv
 have hst:=yw hs
 repeat' ((conv => whnf);first | apply And.intro | (intro h9;try (have h8 : (_ : Bool) = _:=h9;clear h8;revert h9;subst_vars;intro h9;exact aq h9 (by assumption))))
 all_goals try (conv => whnf)
 all_goals try first | (apply Tk.mk <;> kernel_rfl) | exact ⟨ah rfl⟩ | exact ⟨rfl⟩ | exact ⟨trivial⟩
 all_goals subst_vars
 all_goals try first | rfl | contradiction | (apply Ob.mk;first | (simp only [ag,ak,aa.ae];omega) | ((try simp only [aa.ae]);(try dsimp only);omega))
 refine ⟨Nat × Sp,fun i => i.1 <= w.length /\ bj L (p,0,false) w = bj L i.2 (w.drop i.1) /\ (0 <= i.2.2.1 /\ i.2.2.1 <= 7),fun i => ⟨aI 35 [2,3,6,8,9] [.a (.sl 1 [] 0 w.length),.a (.p 2 [] 0 0),.a (.p 3 [] 0 0),.a (.p 4 [] 0 0),.a (vI i.1)],[],[.arr 60 kW L false false,.arr 3 kI w false false,.box true [vI n,vI P,.sl 0 [] 0 L.length],.box true [vI 0,vI 0,.v (.bool false)],.box true [vI i.2.1,vI i.2.2.1,.v (.bool i.2.2.2)]]⟩,fun i => w.length - i.1,(0,(p,0,false)),[],⟨Nat.zero_le _,rfl,by show (0:Int) <= 0;omega,by show (0:Int) <= 7;omega⟩,?_,?_⟩
 ·repeat' ((conv => whnf);(first | apply And.intro | intro _))
  all_goals first | rfl | trivial | exact ah rfl | exact aS ‹_› rfl | exact aT ‹_› rfl | ((repeat' first | rfl | constructor);done)
 rintro ⟨i,a,t,m⟩ ⟨hi,hf,hx⟩
 dsimp only at hi hf hx
 by_cases hi1 : i < w.length
 ·have p0 : decide ((i : Int) < (w.length : Int)) = true:=decide_eq_true (by omega)
  have ge : av w i = gi w i:=dP w i
  have gs : -(L.length : Int) <= av w i /\ av w i < (L.length : Int):=by rw [ge];exact hst _ (qL hi1)
  have gn:=(mu hw (x:=(a,t,m)) hx (show bS L (gi w i) from ge ▸ gs)).1
  cases hb : bM L (a,t,m) (av w i)
  ·have e1 : (!bM L (a,t,m) (av w i)) = true:=by rw [hb];rfl
   rw [hf,GX hi1 (ge ▸ hb)]
   repeat' ((conv => whnf);first | apply And.intro | (intro h9;try (have h8 : (_ : Bool) = _:=h9;clear h8;revert h9;subst_vars;intro h9;exact aq h9 (by assumption))))
   all_goals try (conv => whnf)
   all_goals try first | (apply Tk.mk <;> kernel_rfl) | exact ⟨ah rfl⟩ | exact ⟨rfl⟩ | exact ⟨trivial⟩
   all_goals subst_vars
   all_goals try first | rfl | contradiction | (apply Ob.mk;first | (simp only [ag,ak,aa.ae];omega) | ((try simp only [aa.ae]);(try dsimp only);omega))
   all_goals first
    | trivial
    | exact ⟨hw⟩
    | exact ⟨hl⟩
    | exact ⟨gs⟩
    | exact ⟨hx⟩
    | exact ⟨show 0 <= (i : Int) /\ (i : Int) < (w.length : Int) by omega⟩
    | exact ⟨show 0 + Int.toNat (i : Int) < w.length by omega⟩
  have e1 : (!bM L (a,t,m) (av w i)) = false:=by rw [hb];rfl
  have jH:=hf.trans (Dy hi1 (ge ▸ hb))
  repeat' ((conv => whnf);first | apply And.intro | (intro h9;try (have h8 : (_ : Bool) = _:=h9;clear h8;revert h9;subst_vars;intro h9;exact aq h9 (by assumption))))
  all_goals try (conv => whnf)
  all_goals try first | (apply Tk.mk <;> kernel_rfl) | exact ⟨ah rfl⟩ | exact ⟨rfl⟩ | exact ⟨trivial⟩
  all_goals subst_vars
  all_goals try first | rfl | contradiction | (apply Ob.mk;first | (simp only [ag,ak,aa.ae];omega) | ((try simp only [aa.ae]);(try dsimp only);omega))
  all_goals try first
   | exact True.intro
   | exact ⟨hw⟩
   | exact ⟨hl⟩
   | exact ⟨gs⟩
   | exact ⟨hx⟩
   | exact ⟨show 0 <= (i : Int) /\ (i : Int) < (w.length : Int) by omega⟩
   | exact ⟨show 0 + Int.toNat (i : Int) < w.length by omega⟩
  all_goals
   refine ⟨(i + 1,bw L (a,t,m) (av w i)),[],⟨hi1,by rw [ge];exact jH,by rw [ge];exact gn⟩,?_,by show w.length - (i + 1) < w.length - i;omega⟩
   repeat' ((conv => whnf);(first | apply And.intro | intro _))
   all_goals first | rfl | trivial | exact ah rfl | exact aS ‹_› rfl | exact aT ‹_› rfl | ((repeat' first | rfl | constructor);done)
 have p0 : decide ((i : Int) < (w.length : Int)) = false:=decide_eq_false (by omega)
 rw [hf,Dw (by omega)]
 repeat' ((conv => whnf);first | apply And.intro | (intro h9;try (have h8 : (_ : Bool) = _:=h9;clear h8;revert h9;subst_vars;intro h9;exact aq h9 (by assumption))))
 all_goals try (conv => whnf)
 all_goals try first | (apply Tk.mk <;> kernel_rfl) | exact ⟨ah rfl⟩ | exact ⟨rfl⟩ | exact ⟨trivial⟩
 all_goals subst_vars
 all_goals try first | rfl | contradiction | (apply Ob.mk;first | (simp only [ag,ak,aa.ae];omega) | ((try simp only [aa.ae]);(try dsimp only);omega))
 all_goals first
  | trivial
  | exact ⟨hw⟩
  | exact ⟨hl⟩
  | exact ⟨gs⟩
  | exact ⟨hx⟩
  | exact ⟨show 0 <= (i : Int) /\ (i : Int) < (w.length : Int) by omega⟩
  | exact ⟨show 0 + Int.toNat (i : Int) < w.length by omega⟩)
end Go.Proofs.YthejmgnkenokpaaDoor
end
section
namespace Go.Proofs.YthejmgnkenokpaaDoor
open Go Go.Sy Go.bK
variable {Γ : bn}
def dU (n P : Int) (L : List Wk) (p : Int) (w : List Int) : Int × Sg × Int:=match bf n P L p == 0 with
 | false => (0,(0,false),bf n P L p)
 | true => match dc L w == 0 with
   | false => (0,(0,false),dc L w)
   | true => match (bj L (p,0,false) w).2 with
     | false => (0,(0,false),8)
     | true => ((bj L (p,0,false) w).1.1,(bj L (p,0,false) w).1.2,0)
theorem o8 {n P : Int} {L : List Wk} {p : Int} {w : List Int} (h : (bf n P L p == 0) = false) : dU n P L p w = (0,(0,false),bf n P L p):=by unfold dU;rw [h]
theorem nn {n P : Int} {L : List Wk} {p : Int} {w : List Int} (h : (bf n P L p == 0) = true) (h1 : (dc L w == 0) = false) : dU n P L p w = (0,(0,false),dc L w):=by unfold dU;rw [h,h1]
theorem sd {n P : Int} {L : List Wk} {p : Int} {w : List Int} (h : (bf n P L p == 0) = true) (h1 : (dc L w == 0) = true) (h2 : (bj L (p,0,false) w).2 = false) : dU n P L p w = (0,(0,false),8):=by unfold dU;rw [h,h1,h2]
theorem se {n P : Int} {L : List Wk} {p : Int} {w : List Int} (h : (bf n P L p == 0) = true) (h1 : (dc L w == 0) = true) (h2 : (bj L (p,0,false) w).2 = true) : dU n P L p w = ((bj L (p,0,false) w).1.1,(bj L (p,0,false) w).1.2,0):=by unfold dU;rw [h,h1,h2]
theorem pK (L : List Wk) (w : List Int) : cK L [w] = dc L w:=by
 unfold cK dc
 simp only [List.any_cons,List.any_nil,Bool.or_false]
 cases fW w <;> cases bN L w <;> rfl
theorem vt {L : List Wk} {w : List Int} (h : (dc L w == 0) = true) : bN L w = true:=by
 have h:=eq_of_beq h
 unfold dc at h
 cases h1 : fW w <;> rw [h1] at h <;> cases h2 : bN L w <;> rw [h2] at h <;> first | rfl | cases h
def zH : au:=EV (fun _ _ L _ w => [(aa.of (L.length <= 1000000)),(aa.of (w.length <= 1000000))]) (fun n P L p w => .bF [.a (vI (dU n P L p w).1),.agg (ai.lV kG (dU n P L p w).2.1),.a (vI (dU n P L p w).2.2)])
def Df : au:=fS (fun _ _ L => [(aa.of (True))]) (fun _ _ L => bl (decide ((L.length : Int) <= 20)))
noncomputable def Qh : List (Nat × au):=[(56,jf),(76,wv),(77,oT)]
theorem KR : aR Tryd.prog Γ Qh:=(((aR.nil.cons (aj Tryd.func77 rfl rfl).fn sR).cons (aj Tryd.func76 rfl rfl).fn uF).cons (aj Tryd.func56 rfl rfl).fn fQ)
theorem EJ : au.Ok Tryd.prog Γ 15 Df:=za (d:=0) (aP aR.nil bq.nil false 0) (aj Tryd.func15 rfl rfl) (fun _ _ _ => rfl) (by
 intro n P L _
 repeat' ((conv => whnf);first | apply And.intro | (intro h9;try (have h8 : (_ : Bool) = _:=h9;clear h8;revert h9;subst_vars;intro h9;exact aq h9 (by assumption))))
 all_goals try (conv => whnf)
 all_goals try first | (apply Tk.mk <;> kernel_rfl) | exact ⟨ah rfl⟩ | exact ⟨rfl⟩ | exact ⟨trivial⟩
 all_goals subst_vars
 all_goals try first | rfl | contradiction | (apply Ob.mk;first | (simp only [ag,ak,aa.ae];omega) | ((try simp only [aa.ae]);(try dsimp only);omega))
 all_goals first
  | trivial
  | exact z4
  | exact ⟨show 0 + w.length <= w.length by omega⟩
  | exact ⟨show ∀ v ∈ [(w.drop 0).take w.length],v.length <= 1000000 from fun v hv => by rw [List.mem_singleton.1 hv,xZ];exact hw⟩
  | exact ⟨show (1 : Nat) <= 1000000 by omega⟩
  | exact ⟨k1⟩
  | exact ⟨k2⟩
  | exact ⟨hl⟩
  | exact ⟨hw⟩
  | (apply Ob.mk;show (ag .i64 _).p;simp only [ag,ak,aa.ae];omega))
attribute [local irreducible] bf dc cK bj
theorem CB : au.Ok Tryd.prog Γ 37 zH:=sb (d:=0) (aP KR bq.nil false 0) (aj Tryd.func37 rfl rfl) (fun _ _ _ _ _ => rfl) (by
 intro n P L p w ⟨hl,hw,_⟩
 simp only [aa.ae] at hl hw
 have xZ : (w.drop 0).take w.length = w:=by simp
 obtain h1 | h1 : (bf n P L p == 0) = false \/ (bf n P L p == 0) = true:=by cases bf n P L p == 0 <;> simp
 ·have z1 : (bf n P L p != 0) = true:=by unfold bne;rw [h1];rfl
  rw [o8 h1]
  repeat' ((conv => whnf);first | apply And.intro | (intro h9;try (have h8 : (_ : Bool) = _:=h9;clear h8;revert h9;subst_vars;intro h9;exact aq h9 (by assumption))))
  all_goals try (conv => whnf)
  all_goals try first | (apply Tk.mk <;> kernel_rfl) | exact ⟨ah rfl⟩ | exact ⟨rfl⟩ | exact ⟨trivial⟩
  all_goals subst_vars
  all_goals try first | rfl | contradiction | (apply Ob.mk;first | (simp only [ag,ak,aa.ae];omega) | ((try simp only [aa.ae]);(try dsimp only);omega))
  all_goals first
   | trivial
   | exact z4
   | exact ⟨show 0 + w.length <= w.length by omega⟩
   | exact ⟨show ∀ v ∈ [(w.drop 0).take w.length],v.length <= 1000000 from fun v hv => by rw [List.mem_singleton.1 hv,xZ];exact hw⟩
   | exact ⟨show (1 : Nat) <= 1000000 by omega⟩
   | exact ⟨k1⟩
   | exact ⟨k2⟩
   | exact ⟨hl⟩
   | exact ⟨hw⟩
   | (apply Ob.mk;show (ag .i64 _).p;simp only [ag,ak,aa.ae];omega)
 have z1 : (bf n P L p != 0) = false:=by unfold bne;rw [h1];rfl
 have k1:=(gg (eq_of_beq h1)).1
 obtain h2 | h2 : (dc L w == 0) = false \/ (dc L w == 0) = true:=by cases dc L w == 0 <;> simp
 ·have z2 : (cK L [(w.drop 0).take w.length] != 0) = true:=by rw [xZ,pK];unfold bne;rw [h2];rfl
  have z4 : cK L [(w.drop 0).take w.length] = dc L w:=by rw [xZ,pK]
  rw [nn h1 h2]
  repeat' ((conv => whnf);first | apply And.intro | (intro h9;try (have h8 : (_ : Bool) = _:=h9;clear h8;revert h9;subst_vars;intro h9;exact aq h9 (by assumption))))
  all_goals try (conv => whnf)
  all_goals try first | (apply Tk.mk <;> kernel_rfl) | exact ⟨ah rfl⟩ | exact ⟨rfl⟩ | exact ⟨trivial⟩
  all_goals subst_vars
  all_goals try first | rfl | contradiction | (apply Ob.mk;first | (simp only [ag,ak,aa.ae];omega) | ((try simp only [aa.ae]);(try dsimp only);omega))
  all_goals first
   | trivial
   | exact z4
   | exact ⟨show 0 + w.length <= w.length by omega⟩
   | exact ⟨show ∀ v ∈ [(w.drop 0).take w.length],v.length <= 1000000 from fun v hv => by rw [List.mem_singleton.1 hv,xZ];exact hw⟩
   | exact ⟨show (1 : Nat) <= 1000000 by omega⟩
   | exact ⟨k1⟩
   | exact ⟨k2⟩
   | exact ⟨hl⟩
   | exact ⟨hw⟩
   | (apply Ob.mk;show (ag .i64 _).p;simp only [ag,ak,aa.ae];omega)
 have z2 : (cK L [(w.drop 0).take w.length] != 0) = false:=by rw [xZ,pK];unfold bne;rw [h2];rfl
 have k2:=vt h2
 obtain h3 | h3 : (bj L (p,0,false) w).2 = false \/ (bj L (p,0,false) w).2 = true:=by cases (bj L (p,0,false) w).2 <;> simp
 ·have z3 : (!(bj L (p,0,false) w).2) = true:=by rw [h3];rfl
  rw [sd h1 h2 h3]
  repeat' ((conv => whnf);first | apply And.intro | (intro h9;try (have h8 : (_ : Bool) = _:=h9;clear h8;revert h9;subst_vars;intro h9;exact aq h9 (by assumption))))
  all_goals try (conv => whnf)
  all_goals try first | (apply Tk.mk <;> kernel_rfl) | exact ⟨ah rfl⟩ | exact ⟨rfl⟩ | exact ⟨trivial⟩
  all_goals subst_vars
  all_goals try first | rfl | contradiction | (apply Ob.mk;first | (simp only [ag,ak,aa.ae];omega) | ((try simp only [aa.ae]);(try dsimp only);omega))
  all_goals first
   | trivial
   | exact z4
   | exact ⟨show 0 + w.length <= w.length by omega⟩
   | exact ⟨show ∀ v ∈ [(w.drop 0).take w.length],v.length <= 1000000 from fun v hv => by rw [List.mem_singleton.1 hv,xZ];exact hw⟩
   | exact ⟨show (1 : Nat) <= 1000000 by omega⟩
   | exact ⟨k1⟩
   | exact ⟨k2⟩
   | exact ⟨hl⟩
   | exact ⟨hw⟩
   | (apply Ob.mk;show (ag .i64 _).p;simp only [ag,ak,aa.ae];omega)
 have z3 : (!(bj L (p,0,false) w).2) = false:=by rw [h3];rfl
 rw [se h1 h2 h3]
 repeat' ((conv => whnf);first | apply And.intro | (intro h9;try (have h8 : (_ : Bool) = _:=h9;clear h8;revert h9;subst_vars;intro h9;exact aq h9 (by assumption))))
 all_goals try (conv => whnf)
 all_goals try first | (apply Tk.mk <;> kernel_rfl) | exact ⟨ah rfl⟩ | exact ⟨rfl⟩ | exact ⟨trivial⟩
 all_goals subst_vars
 all_goals try first | rfl | contradiction | (apply Ob.mk;first | (simp only [ag,ak,aa.ae];omega) | ((try simp only [aa.ae]);(try dsimp only);omega))
 all_goals first
  | trivial
  | exact z4
  | exact ⟨show 0 + w.length <= w.length by omega⟩
  | exact ⟨show ∀ v ∈ [(w.drop 0).take w.length],v.length <= 1000000 from fun v hv => by rw [List.mem_singleton.1 hv,xZ];exact hw⟩
  | exact ⟨show (1 : Nat) <= 1000000 by omega⟩
  | exact ⟨k1⟩
  | exact ⟨k2⟩
  | exact ⟨hl⟩
  | exact ⟨hw⟩
  | (apply Ob.mk;show (ag .i64 _).p;simp only [ag,ak,aa.ae];omega))
end Go.Proofs.YthejmgnkenokpaaDoor
end
section
namespace Go.Proofs.YthejmgnkenokpaaDoor
open Go Go.Sy Go.bK
variable {Γ : bn}
theorem Dv (L : List Wk) (w : List Int) : ∀ x : Sp,(bj L x w).2 = false -> (bj L x w).1 = (0,0,false):=by
 induction w with
 | nil => intro x h;cases h
 | cons s w ih =>
   intro x h
   rw [bj] at h ⊢
   cases hb : bM L x s <;> rw [hb] at h <;> first | rfl | exact ih _ h
theorem LP (x : Sg) : (x.1 == x.1 && (x.2 == x.2 && true)) = true:=by simp
def wj : au:=EV (fun _ _ _ _ _ => []) (fun _ _ _ _ _ => bl true)
noncomputable def QL : List (Nat × au):=[(15,Df),(37,zH),(20,uD),(38,zK),(39,sV),(16,tC)]
theorem Mc : aR Tryd.prog Γ QL:=((((((aR.nil.cons (aj Tryd.func16 rfl rfl).fn sW).cons (aj Tryd.func39 rfl rfl).fn wu).cons (aj Tryd.func38 rfl rfl).fn CC).cons (aj Tryd.func20 rfl rfl).fn yH).cons (aj Tryd.func37 rfl rfl).fn CB).cons (aj Tryd.func15 rfl rfl).fn EJ)
attribute [local irreducible] bf dc cK bj dU
theorem sL : au.Ok Tryd.prog Γ 8 wj:=sb (d:=0) (aP Mc bq.nil false 0) (aj Tryd.func8 rfl rfl) (fun _ _ _ _ _ => rfl) (by
 intro n P L p w _
 obtain h0 | h0 : decide ((L.length : Int) <= 20) = false \/ decide ((L.length : Int) <= 20) = true:=by cases decide ((L.length : Int) <= 20) <;> simp
 ·have n0 : (!decide ((L.length : Int) <= 20)) = true:=by rw [h0];rfl
  repeat' ((conv => whnf);first | apply And.intro | (intro h9;try (have h8 : (_ : Bool) = _:=h9;clear h8;revert h9;subst_vars;intro h9;exact aq h9 (by assumption))))
  all_goals try (conv => whnf)
  all_goals try first | (apply Tk.mk <;> kernel_rfl) | exact ⟨ah rfl⟩ | exact ⟨rfl⟩ | exact ⟨trivial⟩
  all_goals subst_vars
  all_goals try first | rfl | contradiction | (apply Ob.mk;first | (simp only [ag,ak,aa.ae];omega) | ((try simp only [aa.ae]);(try dsimp only);omega))
  all_goals first
   | trivial
   | exact ⟨k1⟩
   | exact ⟨k2⟩
   | (refine Ob.mk ?_;simp only [aa.ae];omega)
   | exact ⟨show L.length <= 1000000 by omega⟩
   | exact ⟨show w.length <= 1000000 by omega⟩
   | (apply Ob.mk;show (ag .i64 _).p;simp only [ag,ak,aa.ae];omega)
 have n0 : (!decide ((L.length : Int) <= 20)) = false:=by rw [h0];rfl
 have hl:=of_decide_eq_true h0
 obtain h9 | h9 : decide ((w.length : Int) > 100) = true \/ decide ((w.length : Int) > 100) = false:=by cases decide ((w.length : Int) > 100) <;> simp
 ·repeat' ((conv => whnf);first | apply And.intro | (intro h9;try (have h8 : (_ : Bool) = _:=h9;clear h8;revert h9;subst_vars;intro h9;exact aq h9 (by assumption))))
  all_goals try (conv => whnf)
  all_goals try first | (apply Tk.mk <;> kernel_rfl) | exact ⟨ah rfl⟩ | exact ⟨rfl⟩ | exact ⟨trivial⟩
  all_goals subst_vars
  all_goals try first | rfl | contradiction | (apply Ob.mk;first | (simp only [ag,ak,aa.ae];omega) | ((try simp only [aa.ae]);(try dsimp only);omega))
  all_goals first
   | trivial
   | exact ⟨k1⟩
   | exact ⟨k2⟩
   | (refine Ob.mk ?_;simp only [aa.ae];omega)
   | exact ⟨show L.length <= 1000000 by omega⟩
   | exact ⟨show w.length <= 1000000 by omega⟩
   | (apply Ob.mk;show (ag .i64 _).p;simp only [ag,ak,aa.ae];omega)
 have hw:=of_decide_eq_false h9
 obtain h1 | h1 : (bf n P L p == 0) = false \/ (bf n P L p == 0) = true:=by cases bf n P L p == 0 <;> simp
 ·have y1 : ((dU n P L p w).2.2 == bf n P L p) = true:=by rw [o8 h1];exact beq_self_eq_true _
  have y2 : ((dU n P L p w).1 == 0) = true:=by rw [o8 h1];rfl
  have y3 : ((dU n P L p w).2.1.1 == 0 && ((dU n P L p w).2.1.2 == false && true)) = true:=by rw [o8 h1];rfl
  repeat' ((conv => whnf);first | apply And.intro | (intro h9;try (have h8 : (_ : Bool) = _:=h9;clear h8;revert h9;subst_vars;intro h9;exact aq h9 (by assumption))))
  all_goals try (conv => whnf)
  all_goals try first | (apply Tk.mk <;> kernel_rfl) | exact ⟨ah rfl⟩ | exact ⟨rfl⟩ | exact ⟨trivial⟩
  all_goals subst_vars
  all_goals try first | rfl | contradiction | (apply Ob.mk;first | (simp only [ag,ak,aa.ae];omega) | ((try simp only [aa.ae]);(try dsimp only);omega))
  all_goals first
   | trivial
   | exact ⟨k1⟩
   | exact ⟨k2⟩
   | (refine Ob.mk ?_;simp only [aa.ae];omega)
   | exact ⟨show L.length <= 1000000 by omega⟩
   | exact ⟨show w.length <= 1000000 by omega⟩
   | (apply Ob.mk;show (ag .i64 _).p;simp only [ag,ak,aa.ae];omega)
 have k1:=(gg (eq_of_beq h1)).1
 obtain h2 | h2 : (dc L w == 0) = false \/ (dc L w == 0) = true:=by cases dc L w == 0 <;> simp
 ·have y1 : ((dU n P L p w).2.2 == dc L w) = true:=by rw [nn h1 h2];exact beq_self_eq_true _
  have y2 : ((dU n P L p w).1 == 0) = true:=by rw [nn h1 h2];rfl
  have y3 : ((dU n P L p w).2.1.1 == 0 && ((dU n P L p w).2.1.2 == false && true)) = true:=by rw [nn h1 h2];rfl
  repeat' ((conv => whnf);first | apply And.intro | (intro h9;try (have h8 : (_ : Bool) = _:=h9;clear h8;revert h9;subst_vars;intro h9;exact aq h9 (by assumption))))
  all_goals try (conv => whnf)
  all_goals try first | (apply Tk.mk <;> kernel_rfl) | exact ⟨ah rfl⟩ | exact ⟨rfl⟩ | exact ⟨trivial⟩
  all_goals subst_vars
  all_goals try first | rfl | contradiction | (apply Ob.mk;first | (simp only [ag,ak,aa.ae];omega) | ((try simp only [aa.ae]);(try dsimp only);omega))
  all_goals first
   | trivial
   | exact ⟨k1⟩
   | exact ⟨k2⟩
   | (refine Ob.mk ?_;simp only [aa.ae];omega)
   | exact ⟨show L.length <= 1000000 by omega⟩
   | exact ⟨show w.length <= 1000000 by omega⟩
   | (apply Ob.mk;show (ag .i64 _).p;simp only [ag,ak,aa.ae];omega)
 have k2:=vt h2
 obtain h3 | h3 : (bj L (p,0,false) w).2 = false \/ (bj L (p,0,false) w).2 = true:=by cases (bj L (p,0,false) w).2 <;> simp
 ·have z3 : (!(bj L (p,0,false) w).2) = true:=by rw [h3];rfl
  have y1 : ((dU n P L p w).2.2 == 8) = true:=by rw [sd h1 h2 h3];rfl
  have y2 : ((dU n P L p w).1 == (bj L (p,0,false) w).1.1) = true:=by rw [sd h1 h2 h3,Dv L w _ h3];rfl
  have y3 : ((dU n P L p w).2.1.1 == (bj L (p,0,false) w).1.2.1 && ((dU n P L p w).2.1.2 == (bj L (p,0,false) w).1.2.2 && true)) = true:=by rw [sd h1 h2 h3,Dv L w _ h3];rfl
  repeat' ((conv => whnf);first | apply And.intro | (intro h9;try (have h8 : (_ : Bool) = _:=h9;clear h8;revert h9;subst_vars;intro h9;exact aq h9 (by assumption))))
  all_goals try (conv => whnf)
  all_goals try first | (apply Tk.mk <;> kernel_rfl) | exact ⟨ah rfl⟩ | exact ⟨rfl⟩ | exact ⟨trivial⟩
  all_goals subst_vars
  all_goals try first | rfl | contradiction | (apply Ob.mk;first | (simp only [ag,ak,aa.ae];omega) | ((try simp only [aa.ae]);(try dsimp only);omega))
  all_goals first
   | trivial
   | exact ⟨k1⟩
   | exact ⟨k2⟩
   | (refine Ob.mk ?_;simp only [aa.ae];omega)
   | exact ⟨show L.length <= 1000000 by omega⟩
   | exact ⟨show w.length <= 1000000 by omega⟩
   | (apply Ob.mk;show (ag .i64 _).p;simp only [ag,ak,aa.ae];omega)
 have z3 : (!(bj L (p,0,false) w).2) = false:=by rw [h3];rfl
 have y1 : ((dU n P L p w).2.2 == dc L w) = true:=by rw [se h1 h2 h3];exact beq_iff_eq.2 (eq_of_beq h2).symm
 have y2 : ((dU n P L p w).1 == (bj L (p,0,false) w).1.1) = true:=by rw [se h1 h2 h3];exact beq_self_eq_true _
 have y3 : ((dU n P L p w).2.1.1 == (bj L (p,0,false) w).1.2.1 && ((dU n P L p w).2.1.2 == (bj L (p,0,false) w).1.2.2 && true)) = true:=by rw [se h1 h2 h3];exact LP _
 repeat' ((conv => whnf);first | apply And.intro | (intro h9;try (have h8 : (_ : Bool) = _:=h9;clear h8;revert h9;subst_vars;intro h9;exact aq h9 (by assumption))))
 all_goals try (conv => whnf)
 all_goals try first | (apply Tk.mk <;> kernel_rfl) | exact ⟨ah rfl⟩ | exact ⟨rfl⟩ | exact ⟨trivial⟩
 all_goals subst_vars
 all_goals try first | rfl | contradiction | (apply Ob.mk;first | (simp only [ag,ak,aa.ae];omega) | ((try simp only [aa.ae]);(try dsimp only);omega))
 all_goals first
  | trivial
  | exact ⟨k1⟩
  | exact ⟨k2⟩
  | (refine Ob.mk ?_;simp only [aa.ae];omega)
  | exact ⟨show L.length <= 1000000 by omega⟩
  | exact ⟨show w.length <= 1000000 by omega⟩
  | (apply Ob.mk;show (ag .i64 _).p;simp only [ag,ak,aa.ae];omega))
end Go.Proofs.YthejmgnkenokpaaDoor
end
