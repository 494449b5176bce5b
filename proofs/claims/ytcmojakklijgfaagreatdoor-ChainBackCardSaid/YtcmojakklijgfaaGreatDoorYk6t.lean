/-
  Texts of the claims: Yk6t. No condition: lemmas and contracts.
-/
import Derived.Test.YtcmojakklijgfaaGreatDoorYk5t
set_option linter.all false
set_option maxRecDepth 100000
set_option maxHeartbeats 4000000
section
namespace Go.Proofs.YtcmojakklijgfaaGreatDoor
open Go Go.Sy Go.Chn
variable {Γ : Glob}
def fnSst (D : Int → List Lk → ByteArray → List Duty) (F : Int → List Lk → ByteArray → Tm) : Ctr:=.fn fun args rg => match args with
 | [.agg [.v (.int .i64 n0),x0],.a (.v (.string s0))] => (match arrOf 54 kL rg x0 with | some (q0,L0) => some (q0 ++ (D n0 L0 s0),F n0 L0 s0) | _ => none)
 | _ => none
theorem fnSst_ok {f : FuncId} {b : Body} {E : Env} {d : Nat} (hP : ProgOk Tryz.prog Γ E) (hb : BodyOk Tryz.prog f b) {D : Int → List Lk → ByteArray → List Duty} {F : Int → List Lk → ByteArray → Tm} (hp : ∀ (n0 : Int) (L0 : List Lk) (s0 : ByteArray),(F n0 L0 s0).plain = true)
  (H : ∀ (n0 : Int) (L0 : List Lk) (s0 : ByteArray),obl (D n0 L0 s0) → evTop E d b [.agg [vI n0,.sl 0 [] 0 L0.length],.a (.v (.string s0))] [.arr 54 kL L0 false false] (fun x _ => eqT x (F n0 L0 s0))) : Ctr.Ok Tryz.prog Γ f (fnSst D F):=Ctr.fn_ok (d:=d) hP hb (by
 intro args rg q t hF hq
 split at hF
 next n0 x0 s0 =>
  split at hF
  next q0 L0 hx0 =>
   obtain ⟨rfl,rfl⟩:=Prod.mk.inj (Option.some.inj hF);clear hF
   rw [obl_append] at hq
   obtain ⟨hq0,hD⟩:=hq
   obtain ⟨e0,he0⟩:=pas_arr (by simp [kL]) hx0 hq0
   obtain ⟨p0,r0⟩:=he0 [e0] 0 1 rfl (by omega)
   refine ⟨hp _ _ _,[e0],[.agg [vI n0,.sl 0 [] 0 L0.length],.a (.v (.string s0))],[.arr 54 kL L0 false false],⟨⟨⟨rfl,p0,trivial⟩,rfl,trivial⟩,fun r g hg => ?_⟩,H _ _ _ hD⟩
   match r,hg with
   | 0,hg => obtain rfl:=Option.some.inj hg;exact r0
  next => cases hF
 next => cases hF)
noncomputable def k_Parse : Ctr:=kfCst (fun s => [(Duty.of (s.size ≤ 100000))]) (fun s K => (pB s = true → K (okSy (pRd s) (vI 0))) ∧ (pB s = false → K (noSy (vI 7))))
theorem k_Parse_ok : Ctr.Ok Tryz.prog ΓT 8 k_Parse:=kfCst_ok c_Parse_ok (by
 intro s K ⟨h1,h2⟩
 unfold ppR
 cases hb : pB s
 ·exact h2 hb
 ·exact h1 hb)
theorem same_refl (N : Int) (L : List Lk) : sameB N L N L = true:=by unfold sameB;simp
theorem prF_ok {N : Int} {L : List Lk} (h : ((checkF N L).1 == 0) = true) : prF N L = bA (txT N L):=by unfold prF;rw [h]
theorem tx_le {N : Int} {L : List Lk} (h : (checkF N L).1 = 0) : (bA (txT N L)).size ≤ 24030:=by
 obtain ⟨a,b,c⟩:=chk_ok h
 have:=hs_size a b c L.length
 rw [List.take_length] at this
 exact this
theorem prF_B {N : Int} {L : List Lk} (h : ((checkF N L).1 == 0) = true) : pB (prF N L) = true ∧ pRd (prF N L) = (N,L) ∧ (prF N L).size ≤ 100000:=by
 have h1:=isTx_B (s:=prF N L) (t:=(N,L)) ⟨eq_of_beq h,prF_ok h⟩
 refine ⟨h1.1,h1.2,?_⟩
 have:=tx_le (eq_of_beq h)
 rw [prF_ok h];omega
theorem pB_pr {s : ByteArray} (h : pB s = true) : ((checkF (pRd s).1 (pRd s).2).1 == 0) = true ∧ prF (pRd s).1 (pRd s).2 = s ∧ (pRd s).2.length ≤ 300:=by
 obtain ⟨h1,h2⟩:=pB_iff.1 h
 have h3 : ((checkF (pRd s).1 (pRd s).2).1 == 0) = true:=by rw [h1];rfl
 exact ⟨h3,(prF_ok h3).trans h2.symm,(chk_ok h1).2.1⟩
theorem tl_self (s : ByteArray) : (s.toList == s.toList) = true:=beq_self_eq_true _
theorem prF_no {N : Int} {L : List Lk} (h : ((checkF N L).1 == 0) = false) : prF N L = { data:=#[] }:=by unfold prF;rw [h]
theorem small_le {N : Int} {L : List Lk} (h : (!smallB N L) = false) : L.length ≤ 310:=by
 simp only [smallB,Bool.not_eq_eq_eq_not,Bool.not_false,Bool.and_eq_true,decide_eq_true_eq] at h
 exact h.1
def c_ChainBack : Ctr:=fnSst (fun _ _ _ => []) (fun _ _ _ => bl true)
def c_ChainTexts : Ctr:=fnSst (fun _ _ _ => []) (fun _ _ _ => bl true)
noncomputable def LBk : List (Nat × Ctr):=[(5,c20),(7,c_Print),(8,k_Parse),(12,c49),(6,c21)]
theorem LBk_ok : CsOk Tryz.prog ΓT LBk:=(((((CsOk.nil.cons (body_of Tryz.func6 rfl rfl).fn c21_ok).cons (body_of Tryz.func12 rfl rfl).fn c49_ok).cons (body_of Tryz.func8 rfl rfl).fn k_Parse_ok).cons (body_of Tryz.func7 rfl rfl).fn c_Print_ok).cons (body_of Tryz.func5 rfl rfl).fn c20_ok)
noncomputable def LTx : List (Nat × Ctr):=[(5,c20),(7,c_Print),(8,k_Parse),(9,c34),(10,k_refParse),(11,c_refPrint),(12,c49),(6,c21)]
theorem LTx_ok : CsOk Tryz.prog ΓT LTx:=((((((((CsOk.nil.cons (body_of Tryz.func6 rfl rfl).fn c21_ok).cons (body_of Tryz.func12 rfl rfl).fn c49_ok).cons (body_of Tryz.func11 rfl rfl).fn c_refPrint_ok).cons (body_of Tryz.func10 rfl rfl).fn k_refParse_ok).cons (body_of Tryz.func9 rfl rfl).fn c34_ok).cons (body_of Tryz.func8 rfl rfl).fn k_Parse_ok).cons (body_of Tryz.func7 rfl rfl).fn c_Print_ok).cons (body_of Tryz.func5 rfl rfl).fn c20_ok)
attribute [local irreducible] pB pRd checkF prF sameB bA txT smallB
theorem c_ChainBack_ok : Ctr.Ok Tryz.prog ΓT 4 c_ChainBack:=fnSst_ok (d:=0) (prog_ok LBk_ok BsOk.nil false 0) (body_of Tryz.func4 rfl rfl) (fun _ _ _ => rfl) (by
 intro N L s _
 obtain n0 | n0 : (!smallB N L) = true ∨ (!smallB N L) = false:=by cases smallB N L <;> simp
 ·repeat' ((conv => whnf);first | apply And.intro | (intro h9;try (have h8 : (_ : Bool) = _:=h9;clear h8;revert h9;subst_vars;intro h9;exact bon9 h9 (by assumption))))
  all_goals try (conv => whnf)
  all_goals try first | (apply Tk.mk <;> kernel_rfl) | exact ⟨leb9 rfl⟩ | exact ⟨rfl⟩ | exact ⟨trivial⟩
  all_goals subst_vars
  all_goals try first | rfl | contradiction | (apply Ob.mk;first | (simp only [inRQ,inR,Duty.of_p];omega) | ((try simp only [Duty.of_p]);(try dsimp only);omega))
  all_goals first
   | trivial
   | exact True.intro
   | exact ⟨hl⟩
   | exact ⟨hz⟩
   | exact ⟨e3⟩
   | exact ⟨el⟩
   | exact ⟨g4⟩
   | exact ⟨c3⟩
   | exact ⟨show ([] : List Lk).length ≤ 1000000 from Nat.zero_le _⟩
 have hl0:=small_le n0
 have hl : L.length ≤ 1000000:=by omega
 obtain z1 | z1 : decide ((s.size : Int) > 3000) = true ∨ decide ((s.size : Int) > 3000) = false:=by cases decide ((s.size : Int) > 3000) <;> simp
 ·repeat' ((conv => whnf);first | apply And.intro | (intro h9;try (have h8 : (_ : Bool) = _:=h9;clear h8;revert h9;subst_vars;intro h9;exact bon9 h9 (by assumption))))
  all_goals try (conv => whnf)
  all_goals try first | (apply Tk.mk <;> kernel_rfl) | exact ⟨leb9 rfl⟩ | exact ⟨rfl⟩ | exact ⟨trivial⟩
  all_goals subst_vars
  all_goals try first | rfl | contradiction | (apply Ob.mk;first | (simp only [inRQ,inR,Duty.of_p];omega) | ((try simp only [Duty.of_p]);(try dsimp only);omega))
  all_goals first
   | trivial
   | exact True.intro
   | exact ⟨hl⟩
   | exact ⟨hz⟩
   | exact ⟨e3⟩
   | exact ⟨el⟩
   | exact ⟨g4⟩
   | exact ⟨c3⟩
   | exact ⟨show ([] : List Lk).length ≤ 1000000 from Nat.zero_le _⟩
 have hz : s.size ≤ 100000:=by have:=of_decide_eq_false z1;omega
 obtain d1 | d1 : pB s = false ∨ pB s = true:=by cases pB s <;> simp
 ·obtain c1 | c1 : ((checkF N L).1 == 0) = false ∨ ((checkF N L).1 == 0) = true:=by cases ((checkF N L).1 == 0) <;> simp
  ·repeat' ((conv => whnf);first | apply And.intro | (intro h9;try (have h8 : (_ : Bool) = _:=h9;clear h8;revert h9;subst_vars;intro h9;exact bon9 h9 (by assumption))))
   all_goals try (conv => whnf)
   all_goals try first | (apply Tk.mk <;> kernel_rfl) | exact ⟨leb9 rfl⟩ | exact ⟨rfl⟩ | exact ⟨trivial⟩
   all_goals subst_vars
   all_goals try first | rfl | contradiction | (apply Ob.mk;first | (simp only [inRQ,inR,Duty.of_p];omega) | ((try simp only [Duty.of_p]);(try dsimp only);omega))
   all_goals first
    | trivial
    | exact True.intro
    | exact ⟨hl⟩
    | exact ⟨hz⟩
    | exact ⟨e3⟩
    | exact ⟨el⟩
    | exact ⟨g4⟩
    | exact ⟨c3⟩
    | exact ⟨show ([] : List Lk).length ≤ 1000000 from Nat.zero_le _⟩
  obtain ⟨e1,e2,e3⟩:=prF_B c1
  have sm : (!sameB (pRd (prF N L)).1 (pRd (prF N L)).2 N L) = false:=by rw [e2];show (!sameB N L N L) = false;rw [same_refl];rfl
  have el : (pRd (prF N L)).2.length ≤ 1000000:=by rw [e2];exact hl
  clear e2
  repeat' ((conv => whnf);first | apply And.intro | (intro h9;try (have h8 : (_ : Bool) = _:=h9;clear h8;revert h9;subst_vars;intro h9;exact bon9 h9 (by assumption))))
  all_goals try (conv => whnf)
  all_goals try first | (apply Tk.mk <;> kernel_rfl) | exact ⟨leb9 rfl⟩ | exact ⟨rfl⟩ | exact ⟨trivial⟩
  all_goals subst_vars
  all_goals try first | rfl | contradiction | (apply Ob.mk;first | (simp only [inRQ,inR,Duty.of_p];omega) | ((try simp only [Duty.of_p]);(try dsimp only);omega))
  all_goals first
   | trivial
   | exact True.intro
   | exact ⟨hl⟩
   | exact ⟨hz⟩
   | exact ⟨e3⟩
   | exact ⟨el⟩
   | exact ⟨g4⟩
   | exact ⟨c3⟩
   | exact ⟨show ([] : List Lk).length ≤ 1000000 from Nat.zero_le _⟩
 obtain ⟨g1,g2,g3⟩:=pB_pr d1
 have g4 : (pRd s).2.length ≤ 1000000:=by omega
 have g5 : ((prF (pRd s).1 (pRd s).2).toList == s.toList) = true:=by rw [g2];exact tl_self s
 clear g2
 obtain c1 | c1 : ((checkF N L).1 == 0) = false ∨ ((checkF N L).1 == 0) = true:=by cases ((checkF N L).1 == 0) <;> simp
 ·repeat' ((conv => whnf);first | apply And.intro | (intro h9;try (have h8 : (_ : Bool) = _:=h9;clear h8;revert h9;subst_vars;intro h9;exact bon9 h9 (by assumption))))
  all_goals try (conv => whnf)
  all_goals try first | (apply Tk.mk <;> kernel_rfl) | exact ⟨leb9 rfl⟩ | exact ⟨rfl⟩ | exact ⟨trivial⟩
  all_goals subst_vars
  all_goals try first | rfl | contradiction | (apply Ob.mk;first | (simp only [inRQ,inR,Duty.of_p];omega) | ((try simp only [Duty.of_p]);(try dsimp only);omega))
  all_goals first
   | trivial
   | exact True.intro
   | exact ⟨hl⟩
   | exact ⟨hz⟩
   | exact ⟨e3⟩
   | exact ⟨el⟩
   | exact ⟨g4⟩
   | exact ⟨c3⟩
   | exact ⟨show ([] : List Lk).length ≤ 1000000 from Nat.zero_le _⟩
 obtain ⟨e1,e2,e3⟩:=prF_B c1
 have sm : (!sameB (pRd (prF N L)).1 (pRd (prF N L)).2 N L) = false:=by rw [e2];show (!sameB N L N L) = false;rw [same_refl];rfl
 have el : (pRd (prF N L)).2.length ≤ 1000000:=by rw [e2];exact hl
 clear e2
 repeat' ((conv => whnf);first | apply And.intro | (intro h9;try (have h8 : (_ : Bool) = _:=h9;clear h8;revert h9;subst_vars;intro h9;exact bon9 h9 (by assumption))))
 all_goals try (conv => whnf)
 all_goals try first | (apply Tk.mk <;> kernel_rfl) | exact ⟨leb9 rfl⟩ | exact ⟨rfl⟩ | exact ⟨trivial⟩
 all_goals subst_vars
 all_goals try first | rfl | contradiction | (apply Ob.mk;first | (simp only [inRQ,inR,Duty.of_p];omega) | ((try simp only [Duty.of_p]);(try dsimp only);omega))
 all_goals first
  | trivial
  | exact True.intro
  | exact ⟨hl⟩
  | exact ⟨hz⟩
  | exact ⟨e3⟩
  | exact ⟨el⟩
  | exact ⟨g4⟩
  | exact ⟨c3⟩
  | exact ⟨show ([] : List Lk).length ≤ 1000000 from Nat.zero_le _⟩)
theorem c_ChainTexts_ok : Ctr.Ok Tryz.prog ΓT 3 c_ChainTexts:=fnSst_ok (d:=0) (prog_ok LTx_ok BsOk.nil false 0) (body_of Tryz.func3 rfl rfl) (fun _ _ _ => rfl) (by
 intro N L s _
 obtain n0 | n0 : (!smallB N L) = true ∨ (!smallB N L) = false:=by cases smallB N L <;> simp
 ·repeat' ((conv => whnf);first | apply And.intro | (intro h9;try (have h8 : (_ : Bool) = _:=h9;clear h8;revert h9;subst_vars;intro h9;exact bon9 h9 (by assumption))))
  all_goals try (conv => whnf)
  all_goals try first | (apply Tk.mk <;> kernel_rfl) | exact ⟨leb9 rfl⟩ | exact ⟨rfl⟩ | exact ⟨trivial⟩
  all_goals subst_vars
  all_goals try first | rfl | contradiction | (apply Ob.mk;first | (simp only [inRQ,inR,Duty.of_p];omega) | ((try simp only [Duty.of_p]);(try dsimp only);omega))
  all_goals first
   | trivial
   | exact True.intro
   | exact ⟨hl⟩
   | exact ⟨hz⟩
   | exact ⟨e3⟩
   | exact ⟨el⟩
   | exact ⟨g4⟩
   | exact ⟨c3⟩
   | exact ⟨show ([] : List Lk).length ≤ 1000000 from Nat.zero_le _⟩
 have hl0:=small_le n0
 have hl : L.length ≤ 1000000:=by omega
 obtain z1 | z1 : decide ((s.size : Int) > 3000) = true ∨ decide ((s.size : Int) > 3000) = false:=by cases decide ((s.size : Int) > 3000) <;> simp
 ·repeat' ((conv => whnf);first | apply And.intro | (intro h9;try (have h8 : (_ : Bool) = _:=h9;clear h8;revert h9;subst_vars;intro h9;exact bon9 h9 (by assumption))))
  all_goals try (conv => whnf)
  all_goals try first | (apply Tk.mk <;> kernel_rfl) | exact ⟨leb9 rfl⟩ | exact ⟨rfl⟩ | exact ⟨trivial⟩
  all_goals subst_vars
  all_goals try first | rfl | contradiction | (apply Ob.mk;first | (simp only [inRQ,inR,Duty.of_p];omega) | ((try simp only [Duty.of_p]);(try dsimp only);omega))
  all_goals first
   | trivial
   | exact True.intro
   | exact ⟨hl⟩
   | exact ⟨hz⟩
   | exact ⟨e3⟩
   | exact ⟨el⟩
   | exact ⟨g4⟩
   | exact ⟨c3⟩
   | exact ⟨show ([] : List Lk).length ≤ 1000000 from Nat.zero_le _⟩
 have hz : s.size ≤ 100000:=by have:=of_decide_eq_false z1;omega
 have ck : ((checkF N L).1 != (checkF N L).1) = false:=bne_self_eq_false _
 have sm0 : sameB 0 [] 0 [] = true:=same_refl _ _
 obtain c1 | c1 : ((checkF N L).1 == 0) = false ∨ ((checkF N L).1 == 0) = true:=by cases ((checkF N L).1 == 0) <;> simp
 ·have c2 : ((checkF N L).1 != 0) = true:=by unfold bne;rw [c1];rfl
  have pf0 : (!((prF N L).toList == (({ data:=#[] } : ByteArray)).toList)) = false:=by rw [prF_no c1,tl_self];rfl
  obtain d1 | d1 : pB s = false ∨ pB s = true:=by cases pB s <;> simp
  ·repeat' ((conv => whnf);first | apply And.intro | (intro h9;try (have h8 : (_ : Bool) = _:=h9;clear h8;revert h9;subst_vars;intro h9;exact bon9 h9 (by assumption))))
   all_goals try (conv => whnf)
   all_goals try first | (apply Tk.mk <;> kernel_rfl) | exact ⟨leb9 rfl⟩ | exact ⟨rfl⟩ | exact ⟨trivial⟩
   all_goals subst_vars
   all_goals try first | rfl | contradiction | (apply Ob.mk;first | (simp only [inRQ,inR,Duty.of_p];omega) | ((try simp only [Duty.of_p]);(try dsimp only);omega))
   all_goals first
    | trivial
    | exact True.intro
    | exact ⟨hl⟩
    | exact ⟨hz⟩
    | exact ⟨e3⟩
    | exact ⟨el⟩
    | exact ⟨g4⟩
    | exact ⟨c3⟩
    | exact ⟨show ([] : List Lk).length ≤ 1000000 from Nat.zero_le _⟩
  obtain ⟨g1,g2,g3⟩:=pB_pr d1
  have g4 : (pRd s).2.length ≤ 1000000:=by omega
  have sm1 : sameB (pRd s).1 (pRd s).2 (pRd s).1 (pRd s).2 = true:=same_refl _ _
  clear g1 g2
  repeat' ((conv => whnf);first | apply And.intro | (intro h9;try (have h8 : (_ : Bool) = _:=h9;clear h8;revert h9;subst_vars;intro h9;exact bon9 h9 (by assumption))))
  all_goals try (conv => whnf)
  all_goals try first | (apply Tk.mk <;> kernel_rfl) | exact ⟨leb9 rfl⟩ | exact ⟨rfl⟩ | exact ⟨trivial⟩
  all_goals subst_vars
  all_goals try first | rfl | contradiction | (apply Ob.mk;first | (simp only [inRQ,inR,Duty.of_p];omega) | ((try simp only [Duty.of_p]);(try dsimp only);omega))
  all_goals first
   | trivial
   | exact True.intro
   | exact ⟨hl⟩
   | exact ⟨hz⟩
   | exact ⟨e3⟩
   | exact ⟨el⟩
   | exact ⟨g4⟩
   | exact ⟨c3⟩
   | exact ⟨show ([] : List Lk).length ≤ 1000000 from Nat.zero_le _⟩
 have c2 : ((checkF N L).1 != 0) = false:=by unfold bne;rw [c1];rfl
 have c3:=eq_of_beq c1
 have pf1 : (!((prF N L).toList == (bA (txT N L)).toList)) = false:=by rw [prF_ok c1,tl_self];rfl
 obtain d1 | d1 : pB s = false ∨ pB s = true:=by cases pB s <;> simp
 ·repeat' ((conv => whnf);first | apply And.intro | (intro h9;try (have h8 : (_ : Bool) = _:=h9;clear h8;revert h9;subst_vars;intro h9;exact bon9 h9 (by assumption))))
  all_goals try (conv => whnf)
  all_goals try first | (apply Tk.mk <;> kernel_rfl) | exact ⟨leb9 rfl⟩ | exact ⟨rfl⟩ | exact ⟨trivial⟩
  all_goals subst_vars
  all_goals try first | rfl | contradiction | (apply Ob.mk;first | (simp only [inRQ,inR,Duty.of_p];omega) | ((try simp only [Duty.of_p]);(try dsimp only);omega))
  all_goals first
   | trivial
   | exact True.intro
   | exact ⟨hl⟩
   | exact ⟨hz⟩
   | exact ⟨e3⟩
   | exact ⟨el⟩
   | exact ⟨g4⟩
   | exact ⟨c3⟩
   | exact ⟨show ([] : List Lk).length ≤ 1000000 from Nat.zero_le _⟩
 obtain ⟨g1,g2,g3⟩:=pB_pr d1
 have g4 : (pRd s).2.length ≤ 1000000:=by omega
 have sm1 : sameB (pRd s).1 (pRd s).2 (pRd s).1 (pRd s).2 = true:=same_refl _ _
 clear g1 g2
 repeat' ((conv => whnf);first | apply And.intro | (intro h9;try (have h8 : (_ : Bool) = _:=h9;clear h8;revert h9;subst_vars;intro h9;exact bon9 h9 (by assumption))))
 all_goals try (conv => whnf)
 all_goals try first | (apply Tk.mk <;> kernel_rfl) | exact ⟨leb9 rfl⟩ | exact ⟨rfl⟩ | exact ⟨trivial⟩
 all_goals subst_vars
 all_goals try first | rfl | contradiction | (apply Ob.mk;first | (simp only [inRQ,inR,Duty.of_p];omega) | ((try simp only [Duty.of_p]);(try dsimp only);omega))
 all_goals first
  | trivial
  | exact True.intro
  | exact ⟨hl⟩
  | exact ⟨hz⟩
  | exact ⟨e3⟩
  | exact ⟨el⟩
  | exact ⟨g4⟩
  | exact ⟨c3⟩
  | exact ⟨show ([] : List Lk).length ≤ 1000000 from Nat.zero_le _⟩)
end Go.Proofs.YtcmojakklijgfaaGreatDoor
end
