/-
  Texts of the claims on chapter 3: Yk3. No condition: lemmas and contracts.
-/
import Derived.Test.YthejmgnkenokpaaGreatDoorYk2
import Derived.Test.YthejmgnkenokpaaGreatDoorPl1
import Derived.Test.YthejmgnkenokpaaGreatDoorYk1
set_option linter.all false
set_option maxRecDepth 100000
set_option maxHeartbeats 4000000
section
namespace Go.Proofs.YthejmgnkenokpaaGreatDoor
open Go Go.Sy Go.bK
variable {Γ : bn}
def tG (D : Int -> Int -> List Wk -> Int -> List aa) (R : Int -> Int -> List Wk -> Int -> cM) : au:=.new fun args rg K => match args with
 | [.agg [.v (.int .i64 n0),.v (.int .i64 n1),x0],.a (.v (.int .i64 n2))] => (match ac1 46 kW rg x0 with | some (q0,L0) => bk false (q0 ++ (D n0 n1 L0 n2)) (K (R n0 n1 L0 n2)) | _ => False)
 | _ => False
theorem sa {f : FuncId} {b : Body} {E : Env} {d : Nat} (hP : aL Tryz.prog Γ E) (hb : bQ Tryz.prog f b) {D : Int -> Int -> List Wk -> Int -> List aa} {R : Int -> Int -> List Wk -> Int -> cM}
  (H : ∀ (n0 : Int) (n1 : Int) (L0 : List Wk) (n2 : Int) (K : cM -> Prop),bW (D n0 n1 L0 n2) -> K (R n0 n1 L0 n2) -> cQ E d b [.agg [vI n0,vI n1,.sl 0 [] 0 L0.length],.a (vI n2)] [.arr 46 kW L0 false false] (bu K)) : au.Ok Tryz.prog Γ f (tG D R):=au.fM (d:=d) hP hb (by
 intro args rg K hF
 split at hF
 next n0 n1 x0 n2 =>
  split at hF
  next q0 L0 hx0 =>
   rw [aV,aH] at hF
   obtain ⟨⟨dm,hD⟩,hK⟩:=hF
   obtain ⟨e0,Vn⟩:=bP (by simp [kW]) hx0 dm
   obtain ⟨p0,r0⟩:=Vn [e0] 0 1 rfl (by omega)
   refine ⟨[e0],[.agg [vI n0,vI n1,.sl 0 [] 0 L0.length],.a (vI n2)],[.arr 46 kW L0 false false],⟨⟨⟨rfl,rfl,p0,trivial⟩,rfl,trivial⟩,fun r g hg => ?_⟩,bu K,H _ _ _ _ K hD hK,fun x st h => h⟩
   match r,hg with
   | 0,hg => obtain rfl:=Option.some.inj hg;exact r0
  next => exact hF.elim
 next => exact hF.elim)
theorem wi (x y : Sp) : ai.beq kX x y = (x == y):=rfl
theorem HC {E : List bR} {x : Sp} (h : dh E x = false) : br kX x E = E.length:=by
 induction E with
 | nil => rfl
 | cons e E ih =>
   simp only [dh,List.any_cons,Bool.or_eq_false_iff] at h
   have e1 : ai.beq kX x e.1 = false:=by rw [wi,Bool.eq_false_iff];intro h1;rw [<- eq_of_beq h1] at h;simp at h
   show jM (fun p : bR => ai.beq kX x p.1) (e :: E) = _
   rw [jM,e1]
   exact congrArg (· + 1) (ih h.2)
theorem A4 {E : List bR} {x : Sp} (h : dh E x = true) : br kX x E < E.length:=by
 induction E with
 | nil => cases h
 | cons e E ih =>
   show jM (fun p : bR => ai.beq kX x p.1) (e :: E) < _
   rw [jM]
   cases h1 : ai.beq kX x e.1
   ·refine Nat.succ_lt_succ (ih ?_)
    simp only [dh,List.any_cons,Bool.or_eq_true] at h
    rcases h with h | h
    ·rw [wi] at h1;rw [<- eq_of_beq h] at h1;simp at h1
    ·exact h
   ·exact Nat.succ_pos _
theorem Ji {E : List bR} {x : Sp} {v : List Int} (h : dh E x = false) : fL kX x v E = E ++ [(x,v)]:=by
 induction E with
 | nil => rfl
 | cons e E ih =>
   simp only [dh,List.any_cons,Bool.or_eq_false_iff] at h
   have e1 : ai.beq kX x e.1 = false:=by rw [wi,Bool.eq_false_iff];intro h1;rw [<- eq_of_beq h1] at h;simp at h
   show (match ai.beq kX x e.1 with | true => (e.1,v) :: E | false => e :: fL kX x v E) = _
   rw [e1]
   exact congrArg (e :: ·) (ih h.2)
theorem NS {E : List bR} (hd : (E.map (·.1)).Nodup) {i : Nat} (hi : i < E.length) : br kX (E.getD i aG).1 E = i:=by
 induction E generalizing i with
 | nil => cases hi
 | cons e E ih =>
   rw [List.map_cons,List.nodup_cons] at hd
   show jM (fun p : bR => ai.beq kX _ p.1) (e :: E) = _
   rw [jM]
   cases i with
   | zero => rw [show ai.beq kX ((e :: E).getD 0 aG).1 e.1 = true by rw [wi];exact beq_self_eq_true e.1]
   | succ i =>
     have hi' : i < E.length:=Nat.lt_of_succ_lt_succ hi
     have hm : (E.getD i aG).1 ∈ E.map (·.1):=List.mem_map.2 ⟨_,by simp [hi'],rfl⟩
     have e1 : ai.beq kX ((e :: E).getD (i + 1) aG).1 e.1 = false:=by
      rw [wi,Bool.eq_false_iff]
      intro h1
      exact hd.1 (eq_of_beq h1 ▸ hm)
     rw [e1]
     exact congrArg (· + 1) (ih hd.2 hi')
theorem QK (n : Nat) : (0 : Int) - (n : Int) = (n : Int) - ((2 * n : Nat) : Int):=by omega
theorem sub_succ (n k : Nat) : (n : Int) - ((k + 1 : Nat) : Int) + 1 = (n : Int) - (k : Int):=by omega
theorem tX (L : List Wk) (h n : Nat) (E : List bR) : gC L h (n + 1) E = gC L h n (j9 L h E ((L.length : Int) - (n + 1 : Nat))):=rfl
theorem mq (l : List Int) (v : Int) : l.length + 1 = (l ++ [v]).length:=by simp
theorem JG (L : List Wk) (h : Nat) (E : List bR) : gC L h 0 E = E:=rfl
theorem LF {E : List bR} {x q : Sp} {h : Nat} {v : Int} (hn : dh E x = false) (hk : br kX q E = h) : fL kX x ((E.getD (br kX q E) aG).2 ++ [v]) E = E ++ [(x,(E.getD h aG).2 ++ [v])]:=by
 rw [Ji hn,hk]
theorem JA {E : List bR} {Q : List Sp} {l h : Nat} {x y : Sp} {v : List Int} (hQ : Q.drop l = (E.drop h).map (·.1)) (hh : h < E.length) (e : x = y) : (Q.drop l ++ [x]).drop 0 = ((E ++ [(y,v)]).drop h).map (·.1):=by
 rw [List.drop_zero,List.drop_append_of_le_length (Nat.le_of_lt hh),List.map_append,<- hQ,e];rfl
theorem LG {Q : List Sp} {l : Nat} {x : Sp} (h : l <= Q.length) : Q.length - l + 1 = (Q.drop l ++ [x]).length - 0:=by
 rw [List.length_append,List.length_drop];rfl
def dw (Q : List Sp) (lo : Nat) : Sp:=@Ar.get ⟨87,kX,Q⟩ (lo + Int.toNat 0)
theorem Oq (Q : List Sp) (lo : Nat) : dw Q lo = Q.getD lo aG.1:=rfl
def r5 : au:=tG (fun _ P L p => [(aa.of (dY P L = true)),(aa.of (P <= 6)),(aa.of (L.length <= 1000000)),(aa.of (0 <= p /\ p <= P - 1))]) (fun _ _ L p => ⟨[.bH 82 kX 3 kI (ag5 L p) true true],.a (.mp 0)⟩)
noncomputable def F0 : List (Nat × au):=[(87,wm),(88,zO)]
theorem F1 : aR Tryz.prog Γ F0:=((aR.nil.cons (aj Tryz.func88 rfl rfl).fn CD).cons (aj Tryz.func87 rfl rfl).fn uB)
def LW (id : Nat) : Option OT:=match Nat.beq id 13 with | true => some (.take 0 (.take 2 (.take 6 (.alt 1 (.alt 3 (.alt 4 (.alt 5 (.alt 7 (.alt 8 (.alt 9 .fin .fin) .fin) .fin) (.alt 7 (.alt 5 (.alt 8 (.alt 9 .fin .fin) .fin) .fin) .fin)) (.alt 7 (.alt 4 (.alt 5 (.alt 8 (.alt 9 .fin .fin) .fin) .fin) .fin) .fin)) (.alt 7 (.alt 3 (.alt 4 (.alt 5 (.alt 8 (.alt 9 .fin .fin) .fin) .fin) .fin) .fin) .fin)) (.alt 3 (.alt 1 (.alt 4 (.alt 5 (.alt 7 (.alt 8 (.alt 9 .fin .fin) .fin) .fin) (.alt 7 (.alt 5 (.alt 8 (.alt 9 .fin .fin) .fin) .fin) .fin)) (.alt 7 (.alt 4 (.alt 5 (.alt 8 (.alt 9 .fin .fin) .fin) .fin) .fin) .fin)) (.alt 4 (.alt 1 (.alt 5 (.alt 7 (.alt 8 (.alt 9 .fin .fin) .fin) .fin) (.alt 7 (.alt 5 (.alt 8 (.alt 9 .fin .fin) .fin) .fin) .fin)) (.alt 5 (.alt 1 (.alt 7 (.alt 8 (.alt 9 .fin .fin) .fin) .fin) (.alt 7 (.alt 1 (.alt 8 (.alt 9 .fin .fin) .fin) (.alt 8 (.alt 1 (.alt 9 .fin .fin) .fin) .fin)) .fin)) (.alt 7 (.alt 1 (.alt 5 (.alt 8 (.alt 9 .fin .fin) .fin) .fin) (.alt 5 (.alt 1 (.alt 8 (.alt 9 .fin .fin) .fin) (.alt 8 (.alt 1 (.alt 9 .fin .fin) .fin) .fin)) .fin)) .fin))) (.alt 7 (.alt 1 (.alt 4 (.alt 5 (.alt 8 (.alt 9 .fin .fin) .fin) .fin) .fin) (.alt 4 (.alt 1 (.alt 5 (.alt 8 (.alt 9 .fin .fin) .fin) .fin) (.alt 5 (.alt 1 (.alt 8 (.alt 9 .fin .fin) .fin) (.alt 8 (.alt 1 (.alt 9 .fin .fin) .fin) .fin)) .fin)) .fin)) .fin))) (.alt 7 (.alt 1 (.alt 3 (.alt 4 (.alt 5 (.alt 8 (.alt 9 .fin .fin) .fin) .fin) .fin) .fin) (.alt 3 (.alt 1 (.alt 4 (.alt 5 (.alt 8 (.alt 9 .fin .fin) .fin) .fin) .fin) (.alt 4 (.alt 1 (.alt 5 (.alt 8 (.alt 9 .fin .fin) .fin) .fin) (.alt 5 (.alt 1 (.alt 8 (.alt 9 .fin .fin) .fin) (.alt 8 (.alt 1 (.alt 9 .fin .fin) .fin) .fin)) .fin)) .fin)) .fin)) .fin)))))) | false => none
noncomputable def Lc : Env:={ jV.env F0 [] false 0 with tree:=LW }
theorem EP : aL Tryz.prog Γ Lc:=(aP F1 bq.nil false 0).vU _
attribute [local irreducible] bM bw gC iv
theorem oU : au.Ok Tryz.prog Γ 47 r5:=sa (d:=0) EP (aj Tryz.func47 rfl rfl) (by
 intro n P L p K ⟨hw,hP,hl,hp,_⟩ hK
 simp only [aa.ae] at hw hP hl hp
 repeat' ((conv => whnf);first | apply And.intro | (intro h9;try (have h8 : (_ : Bool) = _:=h9;clear h8;revert h9;subst_vars;intro h9;exact aq h9 (by assumption))))
 all_goals try (conv => whnf)
 all_goals try first | (apply Tk.mk <;> kernel_rfl) | exact ⟨ah rfl⟩ | exact ⟨rfl⟩ | exact ⟨trivial⟩
 all_goals subst_vars
 all_goals try first | rfl | contradiction | (apply Ob.mk;first | (simp only [ag,ak,aa.ae];omega) | ((try simp only [aa.ae]);(try dsimp only);omega))
 all_goals first | exact True.intro | skip
 refine ⟨Nat × List bR × List Sp × Nat,fun x => x.1 <= x.2.1.length /\ da P L x.2.1 /\ ag5 L p = iv L (97 - x.1) x.1 x.2.1 /\ x.2.2.2 <= x.2.2.1.length /\ x.2.2.1.drop x.2.2.2 = (x.2.1.drop x.1).map (·.1),fun x => ⟨aI 72 [2,6,7] [.a (.p 1 [] 0 0),.a (.mp 3),.a (.sl 4 [] x.2.2.2 (x.2.2.1.length - x.2.2.2))],[],[.arr 46 kW L false false,.box true [vI n,vI P,.sl 0 [] 0 L.length],.box true [vI p,vI 0,.v (.bool false)],.bH 82 kX 3 kI x.2.1 true true,.arr 87 kX x.2.2.1 true true]⟩,fun x => 97 - x.1,(0,[((p,0,false),[])],[(p,0,false)],0),[],⟨Nat.zero_le _,da.one hp,rfl,Nat.zero_le _,rfl⟩,?_,?_⟩
 ·repeat' ((conv => whnf);(first | apply And.intro | intro _))
  all_goals first | rfl | trivial | exact ah rfl | exact aS ‹_› rfl | exact aT ‹_› rfl | ((repeat' first | rfl | constructor);done) | exact ⟨rfl,rfl,rfl,rfl,rfl⟩
 rintro ⟨h,E,Q,lo⟩ ⟨hh,hE,hf,hlo,hQ⟩
 dsimp only at hh hE hf hlo hQ
 have hlen:=congrArg List.length hQ
 rw [List.length_drop,List.length_map,List.length_drop] at hlen
 have Sa:=hE.Kg hP
 by_cases xU : h < E.length
 ·have p0 : decide (((Q.length - lo : Nat) : Int) > 0) = true:=decide_eq_true (by omega)
  have gq : dw Q lo = (E.getD h aG).1:=by
   have h1 : (Q.drop lo)[0]? = ((E.drop h).map (·.1))[0]?:=by rw [hQ]
   rw [List.getElem?_drop,List.getElem?_map,List.getElem?_drop] at h1
   rw [Oq,List.getD_eq_getElem?_getD,<- Nat.add_zero lo,h1,Nat.add_zero,List.getElem?_eq_getElem xU]
   simp [xU]
  have hc:=hE.at xU
  rw [<- gq] at hc
  have xS : 0 <= (dw Q lo).2.1 /\ (dw Q lo).2.1 <= 7:=hc.2
  repeat' ((conv => whnf);first | apply And.intro | (intro h9;try (have h8 : (_ : Bool) = _:=h9;clear h8;revert h9;subst_vars;intro h9;exact aq h9 (by assumption))))
  all_goals try (conv => whnf)
  all_goals try first | (apply Tk.mk <;> kernel_rfl) | exact ⟨ah rfl⟩ | exact ⟨rfl⟩ | exact ⟨trivial⟩
  all_goals subst_vars
  all_goals try first | rfl | contradiction | (apply Ob.mk;first | (simp only [ag,ak,aa.ae];omega) | ((try simp only [aa.ae]);(try dsimp only);omega))
  all_goals try first
   | exact ⟨show lo < Q.length by omega⟩
  refine ⟨Nat × List bR × List Sp × Nat,fun y => y.1 <= 2 * L.length /\ da P L y.2.1 /\ h < y.2.1.length /\ gC L h (2 * L.length) E = gC L h y.1 y.2.1 /\ y.2.2.2 <= y.2.2.1.length /\ y.2.2.1.drop y.2.2.2 = (y.2.1.drop h).map (·.1) /\ y.2.1.getD h aG = E.getD h aG,fun x => ⟨aI 72 [2,6,7,8,9] [.a (.p 1 [] 0 0),.a (.mp 3),.a (.sl 4 [] x.2.2.2 (x.2.2.1.length - x.2.2.2)),.a (.p 5 [] 0 0),.a (vI ((L.length : Int) - (x.1 : Nat)))],[],[.arr 46 kW L false false,.box true [vI n,vI P,.sl 0 [] 0 L.length],.box true [vI p,vI 0,.v (.bool false)],.bH 82 kX 3 kI x.2.1 true true,.arr 87 kX x.2.2.1 true true] ++ [.box true [vI (dw Q lo).1,vI (dw Q lo).2.1,.v (.bool (dw Q lo).2.2)]]⟩,fun y => y.1,(2 * L.length,E,Q,lo),[],⟨Nat.le_refl _,hE,xU,rfl,hlo,hQ,rfl⟩,?_,?_⟩
  ·repeat' ((conv => whnf);(first | apply And.intro | intro _))
   all_goals first | rfl | trivial | exact ah rfl | exact aS ‹_› rfl | exact aT ‹_› rfl | ((repeat' first | rfl | constructor);done) | exact ⟨rfl,rfl,rfl,rfl,rfl⟩ | exact QK L.length
  rintro ⟨k,E2,Q2,l2⟩ ⟨hk,xP,s5,hr,jJ,AB,hg⟩
  dsimp only at hk xP s5 hr jJ AB hg
  cases k with
  | zero =>
    have p1 : decide (((L.length : Int) - ((0 : Nat) : Int)) < (L.length : Int)) = false:=decide_eq_false (by omega)
    have oz:=congrArg List.length AB
    rw [List.length_drop,List.length_map,List.length_drop] at oz
    have c6:=hr.trans (JG L h E2)
    have jH : ag5 L p = iv L (97 - (h + 1)) (h + 1) E2:=by
     rw [hf,show 97 - h = (97 - (h + 1)) + 1 by omega,yB xU,c6]
    clear c6
    have Rg : Q2.drop (l2 + 1) = (E2.drop (h + 1)).map (·.1):=by rw [<- List.drop_drop,AB,<- List.map_drop,List.drop_drop]
    repeat' ((conv => whnf);first | apply And.intro | (intro h9;try (have h8 : (_ : Bool) = _:=h9;clear h8;revert h9;subst_vars;intro h9;exact aq h9 (by assumption))))
    all_goals try (conv => whnf)
    all_goals try first | (apply Tk.mk <;> kernel_rfl) | exact ⟨ah rfl⟩ | exact ⟨rfl⟩ | exact ⟨trivial⟩
    all_goals subst_vars
    all_goals try first | rfl | contradiction | (apply Ob.mk;first | (simp only [ag,ak,aa.ae];omega) | ((try simp only [aa.ae]);(try dsimp only);omega))
    refine ⟨(h + 1,E2,Q2,l2 + 1),[0,1,2,3,4],⟨s5,xP,jH,by show l2 + 1 <= Q2.length;omega,Rg⟩,?_,by show 97 - (h + 1) < 97 - h;omega⟩
    repeat' ((conv => whnf);(first | apply And.intro | intro _))
    all_goals first | rfl | trivial | exact ah rfl | exact aS ‹_› rfl | exact aT ‹_› rfl | ((repeat' first | rfl | constructor);done) | exact ⟨rfl,rfl,rfl,rfl,rfl⟩ | exact Nat.sub_sub ..
  | succ k =>
    have p1 : decide (((L.length : Int) - ((k + 1 : Nat) : Int)) < (L.length : Int)) = true:=decide_eq_true (by omega)
    have hs : -(L.length : Int) <= (L.length : Int) - ((k + 1 : Nat) : Int) /\ (L.length : Int) - ((k + 1 : Nat) : Int) < (L.length : Int):=by omega
    have gn : bw L (dw Q lo) ((L.length : Int) - ((k + 1 : Nat) : Int)) = bw L (E2.getD h aG).1 ((L.length : Int) - ((k + 1 : Nat) : Int)):=by rw [gq,hg]
    have gf : bM L (dw Q lo) ((L.length : Int) - ((k + 1 : Nat) : Int)) = bM L (E2.getD h aG).1 ((L.length : Int) - ((k + 1 : Nat) : Int)):=by rw [gq,hg]
    cases hb : bM L (dw Q lo) ((L.length : Int) - ((k + 1 : Nat) : Int))
    ·have e1 : (!bM L (dw Q lo) ((L.length : Int) - ((k + 1 : Nat) : Int))) = true:=by rw [hb];rfl
     have c6:=(hr.trans (tX ..)).trans (congrArg (gC L h k) (n6 (gf ▸ hb)))
     repeat' ((conv => whnf);first | apply And.intro | (intro h9;try (have h8 : (_ : Bool) = _:=h9;clear h8;revert h9;subst_vars;intro h9;exact aq h9 (by assumption))))
     all_goals try (conv => whnf)
     all_goals try first | (apply Tk.mk <;> kernel_rfl) | exact ⟨ah rfl⟩ | exact ⟨rfl⟩ | exact ⟨trivial⟩
     all_goals subst_vars
     all_goals try first | rfl | contradiction | (apply Ob.mk;first | (simp only [ag,ak,aa.ae];omega) | ((try simp only [aa.ae]);(try dsimp only);omega))
     all_goals try first
      | exact ⟨hw⟩
      | exact ⟨hs⟩
      | exact ⟨hl⟩
     all_goals
      refine ⟨(k,E2,Q2,l2),[],⟨Nat.le_of_succ_le hk,xP,s5,c6,jJ,AB,hg⟩,?_,Nat.lt_succ_self k⟩
      repeat' ((conv => whnf);(first | apply And.intro | intro _))
      all_goals first | rfl | trivial | exact ah rfl | exact aS ‹_› rfl | exact aT ‹_› rfl | ((repeat' first | rfl | constructor);done) | exact ⟨rfl,rfl,rfl,rfl,rfl⟩ | exact sub_succ L.length k
    have e1 : (!bM L (dw Q lo) ((L.length : Int) - ((k + 1 : Nat) : Int))) = false:=by rw [hb];rfl
    cases hn : dh E2 (bw L (dw Q lo) ((L.length : Int) - ((k + 1 : Nat) : Int)))
    ·have hnl : ¬ br kX (bw L (dw Q lo) ((L.length : Int) - ((k + 1 : Nat) : Int))) E2 < E2.length:=by rw [HC hn];exact Nat.lt_irrefl _
     have DE : br kX (dw Q lo) E2 = h:=by rw [gq,<- hg];exact NS xP.nd s5
     have oy : br kX (dw Q lo) E2 < E2.length:=by rw [DE];exact s5
     have aai : (E2.getD (br kX (dw Q lo) E2) aG).2.length <= 96:=by
      have:=xP.len h s5
      rw [DE];omega
     have oz:=congrArg List.length AB
     rw [List.length_drop,List.length_map,List.length_drop] at oz
     have R4:=xP.Kg hP
     have xW : dh E2 (bw L (E2.getD h aG).1 ((L.length : Int) - ((k + 1 : Nat) : Int))) = false:=by rw [<- gn];exact hn
     have c6:=(hr.trans (tX ..)).trans (congrArg (gC L h k) (me (gf ▸ hb) xW))
     have hput:=LF (v:=((L.length : Int) - ((k + 1 : Nat) : Int))) hn DE
     clear DE
     repeat' ((conv => whnf);first | apply And.intro | (intro h9;try (have h8 : (_ : Bool) = _:=h9;clear h8;revert h9;subst_vars;intro h9;exact aq h9 (by assumption))))
     all_goals try (conv => whnf)
     all_goals try first | (apply Tk.mk <;> kernel_rfl) | exact ⟨ah rfl⟩ | exact ⟨rfl⟩ | exact ⟨trivial⟩
     all_goals subst_vars
     all_goals try first | rfl | contradiction | (apply Ob.mk;first | (simp only [ag,ak,aa.ae];omega) | ((try simp only [aa.ae]);(try dsimp only);omega))
     all_goals try first
      | exact True.intro
      | exact ⟨oy⟩
      | exact ⟨show (E2.getD (br kX (dw Q lo) E2) aG).2.length <= 1000000 by omega⟩
      | exact ⟨Nat.zero_add _⟩
      | exact ⟨show ((E2.getD (br kX (dw Q lo) E2) aG).2.length + 1) * 1 <= 1099511627776 by omega⟩
      | exact ⟨show (Q2.length - l2 + 1) * 3 <= 1099511627776 by omega⟩
      | exact ⟨show l2 + (Q2.length - l2) = Q2.length by omega⟩
      | exact ⟨mq _ _⟩
      | exact ⟨hw⟩
      | exact ⟨hs⟩
      | exact ⟨hl⟩
     all_goals
      refine ⟨(k,E2 ++ [(bw L (E2.getD h aG).1 ((L.length : Int) - ((k + 1 : Nat) : Int)),(E2.getD h aG).2 ++ [((L.length : Int) - ((k + 1 : Nat) : Int))])],Q2.drop l2 ++ [(bw L (dw Q lo) ((L.length : Int) - ((k + 1 : Nat) : Int)))],0),[0,1,2,3,4,5],⟨Nat.le_of_succ_le hk,xP.snoc (cW.1 hw) s5 hs xW,by show h < (E2 ++ _).length;rw [List.length_append];omega,c6,Nat.zero_le _,?_,?_⟩,?_,Nat.lt_succ_self k⟩
      ·exact JA AB s5 gn
      ·exact (fP s5).trans hg
      repeat' ((conv => whnf);(first | apply And.intro | intro _))
      all_goals first | rfl | trivial | exact ah rfl | exact aS ‹_› rfl | exact aT ‹_› rfl | ((repeat' first | rfl | constructor);done) | exact ⟨rfl,rfl,rfl,rfl,rfl⟩ | exact sub_succ L.length k | exact ⟨rfl,rfl,rfl,rfl,gn ▸ hput⟩ | exact LG jJ
    have gT : ¬ br kX (bw L (dw Q lo) ((L.length : Int) - ((k + 1 : Nat) : Int))) E2 = E2.length:=Nat.ne_of_lt (A4 hn)
    have c6:=(hr.trans (tX ..)).trans (congrArg (gC L h k) (mc (gn ▸ hn)))
    repeat' ((conv => whnf);first | apply And.intro | (intro h9;try (have h8 : (_ : Bool) = _:=h9;clear h8;revert h9;subst_vars;intro h9;exact aq h9 (by assumption))))
    all_goals try (conv => whnf)
    all_goals try first | (apply Tk.mk <;> kernel_rfl) | exact ⟨ah rfl⟩ | exact ⟨rfl⟩ | exact ⟨trivial⟩
    all_goals subst_vars
    all_goals try first | rfl | contradiction | (apply Ob.mk;first | (simp only [ag,ak,aa.ae];omega) | ((try simp only [aa.ae]);(try dsimp only);omega))
    all_goals try first
     | exact ⟨hw⟩
     | exact ⟨hs⟩
     | exact ⟨hl⟩
    all_goals
     refine ⟨(k,E2,Q2,l2),[],⟨Nat.le_of_succ_le hk,xP,s5,c6,jJ,AB,hg⟩,?_,Nat.lt_succ_self k⟩
     repeat' ((conv => whnf);(first | apply And.intro | intro _))
     all_goals first | rfl | trivial | exact ah rfl | exact aS ‹_› rfl | exact aT ‹_› rfl | ((repeat' first | rfl | constructor);done) | exact ⟨rfl,rfl,rfl,rfl,rfl⟩ | exact sub_succ L.length k
 have p0 : decide (((Q.length - lo : Nat) : Int) > 0) = false:=decide_eq_false (by omega)
 rw [hf.trans (Cc (by omega))] at hK
 repeat' ((conv => whnf);first | apply And.intro | (intro h9;try (have h8 : (_ : Bool) = _:=h9;clear h8;revert h9;subst_vars;intro h9;exact aq h9 (by assumption))))
 all_goals try (conv => whnf)
 all_goals try first | (apply Tk.mk <;> kernel_rfl) | exact ⟨ah rfl⟩ | exact ⟨rfl⟩ | exact ⟨trivial⟩
 all_goals subst_vars
 all_goals try first | rfl | contradiction | (apply Ob.mk;first | (simp only [ag,ak,aa.ae];omega) | ((try simp only [aa.ae]);(try dsimp only);omega))
 refine bu.base ⟨_,[3],hK,⟨rfl,rfl,by simp,trivial⟩,rfl,?_⟩
 repeat' ((conv => whnf);(first | apply And.intro | intro _))
 all_goals first | rfl | trivial)
end Go.Proofs.YthejmgnkenokpaaGreatDoor
end
section
namespace Go.Proofs.YthejmgnkenokpaaGreatDoor
open Go Go.Sy Go.bK
variable {Γ : bn}
theorem DO {E : List bR} {x : Sp} (h : dh E x = false) : ¬ br kX x E < E.length:=by rw [HC h];exact Nat.lt_irrefl _
theorem DN {E : List bR} {x : Sp} (h : dh E x = true) : ¬ br kX x E = E.length:=Nat.ne_of_lt (A4 h)
theorem tM {α : Type} {l m : List α} {x : α} (h : m = l ++ [x]) : l.length + 1 = m.length:=by rw [h];simp
def mh : au:=tG (fun _ P L p => [(aa.of (dY P L = true)),(aa.of (P <= 6)),(aa.of (L.length <= 1000000)),(aa.of (0 <= p /\ p <= P - 1))]) (fun _ _ L p => ⟨[.arr 48 kG (af L p) true true],.a (.sl 0 [] 0 (af L p).length)⟩)
noncomputable def Mi : List (Nat × au):=[(47,r5)]
theorem FY : aR Tryz.prog Γ Mi:=(aR.nil.cons (aj Tryz.func47 rfl rfl).fn oU)
attribute [local irreducible] ag5 fA
theorem jy : au.Ok Tryz.prog Γ 48 mh:=sa (d:=0) (aP FY bq.nil false 0) (aj Tryz.func48 rfl rfl) (by
 intro n P L p K ⟨hw,hP,hl,hp,_⟩ hK
 simp only [aa.ae] at hw hP hl hp
 repeat' ((conv => whnf);first | apply And.intro | (intro h9;try (have h8 : (_ : Bool) = _:=h9;clear h8;revert h9;subst_vars;intro h9;exact aq h9 (by assumption))))
 all_goals try (conv => whnf)
 all_goals try first | (apply Tk.mk <;> kernel_rfl) | exact ⟨ah rfl⟩ | exact ⟨rfl⟩ | exact ⟨trivial⟩
 all_goals subst_vars
 all_goals try first | rfl | contradiction | (apply Ob.mk;first | (simp only [ag,ak,aa.ae];omega) | ((try simp only [aa.ae]);(try dsimp only);omega))
 all_goals try first
  | exact ⟨hw⟩
  | exact ⟨hl⟩
 refine ⟨Nat,fun i => i <= 8,fun i => ⟨aI 42 [1,5,6,16] [.a (vI p),.a (.mp 2),.a (.sl 3 [] 0 (ee (ag5 L p) p (2 * i)).length),.a (vI i)],[],[.arr 46 kW L false false,.box true [vI n,vI P,.sl 0 [] 0 L.length],.bH 82 kX 3 kI (ag5 L p) true true,.arr 48 kG (ee (ag5 L p) p (2 * i)) true true]⟩,fun i => 8 - i,0,[0,1,2,1000],Nat.zero_le _,?_,?_⟩
 ·repeat' ((conv => whnf);(first | apply And.intro | intro _))
  all_goals first | rfl | trivial | exact ah rfl | exact aS ‹_› rfl | exact aT ‹_› rfl | ((repeat' first | rfl | constructor);done)
 rintro i hi
 by_cases hi1 : i < 8
 ·have p0 : decide ((i : Int) < 8) = true:=decide_eq_true (by omega)
  repeat' ((conv => whnf);first | apply And.intro | (intro h9;try (have h8 : (_ : Bool) = _:=h9;clear h8;revert h9;subst_vars;intro h9;exact aq h9 (by assumption))))
  all_goals try (conv => whnf)
  all_goals try first | (apply Tk.mk <;> kernel_rfl) | exact ⟨ah rfl⟩ | exact ⟨rfl⟩ | exact ⟨trivial⟩
  all_goals subst_vars
  all_goals try first | rfl | contradiction | (apply Ob.mk;first | (simp only [ag,ak,aa.ae];omega) | ((try simp only [aa.ae]);(try dsimp only);omega))
  refine ⟨Nat,fun j => j <= 2,fun j => ⟨aI 42 [1,5,6,7,16,19,20] [.a (vI p),.a (.mp 2),.a (.sl 3 [] 0 (ee (ag5 L p) p (2 * i + j)).length),.a (vI i),.a (vI i),.agg [.ff,.tt],.a (vI j)],[],[.arr 46 kW L false false,.box true [vI n,vI P,.sl 0 [] 0 L.length],.bH 82 kX 3 kI (ag5 L p) true true,.arr 48 kG (ee (ag5 L p) p (2 * i + j)) true true]⟩,fun j => 2 - j,0,[],Nat.zero_le _,?_,?_⟩
  ·repeat' ((conv => whnf);(first | apply And.intro | intro _))
   all_goals first | rfl | trivial | exact ah rfl | exact aS ‹_› rfl | exact aT ‹_› rfl | ((repeat' first | rfl | constructor);done)
  rintro j hj
  by_cases Ho : j < 2
  ·have p1 : decide ((j : Int) < 2) = true:=decide_eq_true (by omega)
   have jJ:=oK (ag5 L p) p (2 * i + j)
   have fK : fA (2 * i) = ((i : Int),false):=HW i
   have hs1 : fA (2 * i + 1) = ((i : Int),true):=HX i
   obtain rfl | rfl : j = 0 \/ j = 1:=by omega
   ·cases hn : l9 (ag5 L p) p (fA (2 * i + 0))
    ·have gT : ¬ br kX (p,(i : Int),false) (ag5 L p) < (ag5 L p).length:=DO (by
      rw [show (2 * i + 0) = 2 * i from rfl,fK] at hn
      exact hn)
     have hno:=HY hn
     repeat' ((conv => whnf);first | apply And.intro | (intro h9;try (have h8 : (_ : Bool) = _:=h9;clear h8;revert h9;subst_vars;intro h9;exact aq h9 (by assumption))))
     all_goals try (conv => whnf)
     all_goals try first | (apply Tk.mk <;> kernel_rfl) | exact ⟨ah rfl⟩ | exact ⟨rfl⟩ | exact ⟨trivial⟩
     all_goals subst_vars
     all_goals try first | rfl | contradiction | (apply Ob.mk;first | (simp only [ag,ak,aa.ae];omega) | ((try simp only [aa.ae]);(try dsimp only);omega))
     all_goals try first
      | exact True.intro
     refine ⟨0 + 1,[],(by omega),?_,by show 2 - (0 + 1) < 2 - 0;omega⟩
     repeat' ((conv => whnf);(first | apply And.intro | intro _))
     all_goals first | rfl | trivial | exact ah rfl | exact aS ‹_› rfl | exact aT ‹_› rfl | ((repeat' first | rfl | constructor);done) | exact hno.symm | exact hno | exact ⟨rfl,rfl,hno.symm⟩ | (rw [hno])
    have gT : ¬ br kX (p,(i : Int),false) (ag5 L p) = (ag5 L p).length:=DN (by
     rw [show (2 * i + 0) = 2 * i from rfl,fK] at hn
     exact hn)
    have iB:=D7 hn
    rw [show (2 * i + 0) = 2 * i from rfl,fK] at iB
    have qX:=(tM iB)
    repeat' ((conv => whnf);first | apply And.intro | (intro h9;try (have h8 : (_ : Bool) = _:=h9;clear h8;revert h9;subst_vars;intro h9;exact aq h9 (by assumption))))
    all_goals try (conv => whnf)
    all_goals try first | (apply Tk.mk <;> kernel_rfl) | exact ⟨ah rfl⟩ | exact ⟨rfl⟩ | exact ⟨trivial⟩
    all_goals subst_vars
    all_goals try first | rfl | contradiction | (apply Ob.mk;first | (simp only [ag,ak,aa.ae];omega) | ((try simp only [aa.ae]);(try dsimp only);omega))
    all_goals try first
     | exact True.intro
     | exact ⟨Nat.zero_add _⟩
     | exact ⟨show ((ee (ag5 L p) p (2 * i + 0)).length + 1) * 2 <= 1099511627776 by omega⟩
    refine ⟨0 + 1,[0,1,2,3],(by omega),?_,by show 2 - (0 + 1) < 2 - 0;omega⟩
    repeat' ((conv => whnf);(first | apply And.intro | intro _))
    all_goals first | rfl | trivial | exact ah rfl | exact aS ‹_› rfl | exact aT ‹_› rfl | ((repeat' first | rfl | constructor);done) | exact qX | exact ⟨rfl,rfl,iB.symm⟩
   cases hn : l9 (ag5 L p) p (fA (2 * i + 1))
   ·have gT : ¬ br kX (p,(i : Int),true) (ag5 L p) < (ag5 L p).length:=DO (by
     rw [show (2 * i + 1) = 2 * i + 1 from rfl,hs1] at hn
     exact hn)
    have hno:=HY hn
    repeat' ((conv => whnf);first | apply And.intro | (intro h9;try (have h8 : (_ : Bool) = _:=h9;clear h8;revert h9;subst_vars;intro h9;exact aq h9 (by assumption))))
    all_goals try (conv => whnf)
    all_goals try first | (apply Tk.mk <;> kernel_rfl) | exact ⟨ah rfl⟩ | exact ⟨rfl⟩ | exact ⟨trivial⟩
    all_goals subst_vars
    all_goals try first | rfl | contradiction | (apply Ob.mk;first | (simp only [ag,ak,aa.ae];omega) | ((try simp only [aa.ae]);(try dsimp only);omega))
    all_goals try first
     | exact True.intro
    refine ⟨1 + 1,[],(by omega),?_,by show 2 - (1 + 1) < 2 - 1;omega⟩
    repeat' ((conv => whnf);(first | apply And.intro | intro _))
    all_goals first | rfl | trivial | exact ah rfl | exact aS ‹_› rfl | exact aT ‹_› rfl | ((repeat' first | rfl | constructor);done) | exact hno.symm | exact hno | exact ⟨rfl,rfl,hno.symm⟩ | (rw [hno])
   have gT : ¬ br kX (p,(i : Int),true) (ag5 L p) = (ag5 L p).length:=DN (by
    rw [show (2 * i + 1) = 2 * i + 1 from rfl,hs1] at hn
    exact hn)
   have iB:=D7 hn
   rw [show (2 * i + 1) = 2 * i + 1 from rfl,hs1] at iB
   have qX:=(tM iB)
   repeat' ((conv => whnf);first | apply And.intro | (intro h9;try (have h8 : (_ : Bool) = _:=h9;clear h8;revert h9;subst_vars;intro h9;exact aq h9 (by assumption))))
   all_goals try (conv => whnf)
   all_goals try first | (apply Tk.mk <;> kernel_rfl) | exact ⟨ah rfl⟩ | exact ⟨rfl⟩ | exact ⟨trivial⟩
   all_goals subst_vars
   all_goals try first | rfl | contradiction | (apply Ob.mk;first | (simp only [ag,ak,aa.ae];omega) | ((try simp only [aa.ae]);(try dsimp only);omega))
   all_goals try first
    | exact True.intro
    | exact ⟨Nat.zero_add _⟩
    | exact ⟨show ((ee (ag5 L p) p (2 * i + 1)).length + 1) * 2 <= 1099511627776 by omega⟩
   refine ⟨1 + 1,[0,1,2,3],(by omega),?_,by show 2 - (1 + 1) < 2 - 1;omega⟩
   repeat' ((conv => whnf);(first | apply And.intro | intro _))
   all_goals first | rfl | trivial | exact ah rfl | exact aS ‹_› rfl | exact aT ‹_› rfl | ((repeat' first | rfl | constructor);done) | exact qX | exact ⟨rfl,rfl,iB.symm⟩
  obtain rfl : j = 2:=by omega
  have p1 : decide (((2 : Nat) : Int) < 2) = false:=rfl
  repeat' ((conv => whnf);first | apply And.intro | (intro h9;try (have h8 : (_ : Bool) = _:=h9;clear h8;revert h9;subst_vars;intro h9;exact aq h9 (by assumption))))
  all_goals try (conv => whnf)
  all_goals try first | (apply Tk.mk <;> kernel_rfl) | exact ⟨ah rfl⟩ | exact ⟨rfl⟩ | exact ⟨trivial⟩
  all_goals subst_vars
  all_goals try first | rfl | contradiction | (apply Ob.mk;first | (simp only [ag,ak,aa.ae];omega) | ((try simp only [aa.ae]);(try dsimp only);omega))
  refine ⟨i + 1,[],hi1,?_,by show 8 - (i + 1) < 8 - i;omega⟩
  repeat' ((conv => whnf);(first | apply And.intro | intro _))
  all_goals first | rfl | trivial | exact ah rfl | exact aS ‹_› rfl | exact aT ‹_› rfl | ((repeat' first | rfl | constructor);done)
 have p0 : decide ((i : Int) < 8) = false:=decide_eq_false (by omega)
 obtain rfl : i = 8:=by omega
 repeat' ((conv => whnf);first | apply And.intro | (intro h9;try (have h8 : (_ : Bool) = _:=h9;clear h8;revert h9;subst_vars;intro h9;exact aq h9 (by assumption))))
 all_goals try (conv => whnf)
 all_goals try first | (apply Tk.mk <;> kernel_rfl) | exact ⟨ah rfl⟩ | exact ⟨rfl⟩ | exact ⟨trivial⟩
 all_goals subst_vars
 all_goals try first | rfl | contradiction | (apply Ob.mk;first | (simp only [ag,ak,aa.ae];omega) | ((try simp only [aa.ae]);(try dsimp only);omega))
 refine bu.base ⟨_,[3],hK,⟨rfl,rfl,by simp,trivial⟩,rfl,?_⟩
 repeat' ((conv => whnf);(first | apply And.intro | intro _))
 all_goals first | rfl | trivial)
end Go.Proofs.YthejmgnkenokpaaGreatDoor
end
section
namespace Go.Proofs.YthejmgnkenokpaaGreatDoor
open Go Go.Sy Go.bK
variable {Γ : bn}
def MF (D : List Int -> List Int -> List aa) (R : List Int -> List Int -> cM) : au:=.new fun args rg K => match args with
 | [.a x0,.a x1] => (match ac1 3 kI rg x0,ac1 3 kI rg x1 with | some (q0,L0),some (q1,L1) => bk false (q0 ++ (q1 ++ (D L0 L1))) (K (R L0 L1)) | _,_ => False)
 | _ => False
theorem Li {f : FuncId} {b : Body} {E : Env} {d : Nat} (hP : aL Tryz.prog Γ E) (hb : bQ Tryz.prog f b) {D : List Int -> List Int -> List aa} {R : List Int -> List Int -> cM}
  (H : ∀ (L0 : List Int) (L1 : List Int) (K : cM -> Prop),bW (D L0 L1) -> K (R L0 L1) -> cQ E d b [.a (.sl 0 [] 0 L0.length),.a (.sl 1 [] 0 L1.length)] [.arr 3 kI L0 false false,.arr 3 kI L1 false false] (bu K)) : au.Ok Tryz.prog Γ f (MF D R):=au.fM (d:=d) hP hb (by
 intro args rg K hF
 split at hF
 next x0 x1 =>
  split at hF
  next q0 L0 q1 L1 hx0 cO =>
   rw [aV,aH,aH] at hF
   obtain ⟨⟨dm,gk,hD⟩,hK⟩:=hF
   obtain ⟨e0,Vn⟩:=bP (by simp [kI]) hx0 dm
   obtain ⟨e1,iO⟩:=bP (by simp [kI]) cO gk
   obtain ⟨p0,r0⟩:=Vn [e0,e1] 0 2 rfl (by omega)
   obtain ⟨p1,r1⟩:=iO [e0,e1] 1 2 rfl (by omega)
   refine ⟨[e0,e1],[.a (.sl 0 [] 0 L0.length),.a (.sl 1 [] 0 L1.length)],[.arr 3 kI L0 false false,.arr 3 kI L1 false false],⟨⟨p0,p1,trivial⟩,fun r g hg => ?_⟩,bu K,H _ _ K hD hK,fun x st h => h⟩
   match r,hg with
   | 0,hg => obtain rfl:=Option.some.inj hg;exact r0
   | 1,hg => obtain rfl:=Option.some.inj hg;exact r1
  next => exact hF.elim
 next => exact hF.elim)
def oL (n P : Int) (L : List Wk) (p : Int) : cM:=match bf n P L p == 0 with
 | true => ⟨[.arr 48 kG (af L p) true true],.bF [.a (.sl 0 [] 0 (af L p).length),.a (vI 0)]⟩
 | false => ⟨[],.bF [.a (.v (.slice none 0 0)),.a (vI (bf n P L p))]⟩
def K7 : au:=tG (fun _ _ L _ => [(aa.of (L.length <= 1000000))]) oL
theorem gg {n P : Int} {L : List Wk} {p : Int} (h : bf n P L p = 0) : dY P L = true /\ P <= 6 /\ (0 <= p /\ p <= P - 1) /\ (1 <= n /\ n <= 6):=by
 unfold bf at h
 by_cases h0 : bD n P L = 0
 ·rw [if_pos h0] at h
  by_cases h1 : aQ p 0 (P - 1) = true
  ·have s:=oe.1 h0
   exact ⟨cW.2 s.w,s.p.2,bA.1 h1,s.n⟩
  ·rw [if_neg h1] at h;cases h
 ·rw [if_neg h0] at h;exact absurd h h0
noncomputable def Me : List (Nat × au):=[(45,jf),(48,mh)]
theorem FR : aR Tryz.prog Γ Me:=((aR.nil.cons (aj Tryz.func48 rfl rfl).fn jy).cons (aj Tryz.func45 rfl rfl).fn fQ)
attribute [local irreducible] af
theorem EH : au.Ok Tryz.prog Γ 24 K7:=sa (d:=0) (aP FR bq.nil false 0) (aj Tryz.func24 rfl rfl) (by
 intro n P L p K ⟨hl,_⟩ hK
 simp only [aa.ae] at hl
 cases h0 : bf n P L p == 0
 ·have e0 : (bf n P L p != 0) = true:=by unfold bne;rw [h0];rfl
  rw [show oL n P L p = ⟨[],.bF [.a (.v (.slice none 0 0)),.a (vI (bf n P L p))]⟩ by unfold oL;rw [h0]] at hK
  repeat' ((conv => whnf);first | apply And.intro | (intro h9;try (have h8 : (_ : Bool) = _:=h9;clear h8;revert h9;subst_vars;intro h9;exact aq h9 (by assumption))))
  all_goals try (conv => whnf)
  all_goals try first | (apply Tk.mk <;> kernel_rfl) | exact ⟨ah rfl⟩ | exact ⟨rfl⟩ | exact ⟨trivial⟩
  all_goals subst_vars
  all_goals try first | rfl | contradiction | (apply Ob.mk;first | (simp only [ag,ak,aa.ae];omega) | ((try simp only [aa.ae]);(try dsimp only);omega))
  all_goals first
   | exact ⟨hl⟩
   | (refine bu.base ⟨_,[],hK,trivial,rfl,?_⟩;(repeat' ((conv => whnf);(first | apply And.intro | intro _)));all_goals first | rfl | trivial)
 have e0 : (bf n P L p != 0) = false:=by unfold bne;rw [h0];rfl
 have e2:=eq_of_beq h0
 obtain ⟨hw,hP,hp,hn⟩:=gg e2
 rw [show oL n P L p = ⟨[.arr 48 kG (af L p) true true],.bF [.a (.sl 0 [] 0 (af L p).length),.a (vI 0)]⟩ by unfold oL;rw [h0]] at hK
 repeat' ((conv => whnf);first | apply And.intro | (intro h9;try (have h8 : (_ : Bool) = _:=h9;clear h8;revert h9;subst_vars;intro h9;exact aq h9 (by assumption))))
 all_goals try (conv => whnf)
 all_goals try first | (apply Tk.mk <;> kernel_rfl) | exact ⟨ah rfl⟩ | exact ⟨rfl⟩ | exact ⟨trivial⟩
 all_goals subst_vars
 all_goals try first | rfl | contradiction | (apply Ob.mk;first | (simp only [ag,ak,aa.ae];omega) | ((try simp only [aa.ae]);(try dsimp only);omega))
 all_goals first
  | exact ⟨hw⟩
  | exact ⟨hl⟩
  | (refine bu.base ⟨_,[2],hK,⟨rfl,rfl,by simp,trivial⟩,rfl,?_⟩;(repeat' ((conv => whnf);(first | apply And.intro | intro _)));all_goals first | rfl | trivial))
def wo : au:=MF (fun A S => [(aa.of (A.length <= 1000000)),(aa.of (S.length = A.length))]) (fun A S => ⟨[.arr 3 kI (eR A S A.length) true true],.a (.sl 0 [] 0 (eR A S A.length).length)⟩)
theorem uC : au.Ok Tryz.prog Γ 79 wo:=Li (d:=0) (aP aR.nil bq.nil false 0) (aj Tryz.func79 rfl rfl) (by
 intro A S K ⟨hA,hS,_⟩ hK
 simp only [aa.ae] at hA hS
 repeat' ((conv => whnf);first | apply And.intro | (intro h9;try (have h8 : (_ : Bool) = _:=h9;clear h8;revert h9;subst_vars;intro h9;exact aq h9 (by assumption))))
 all_goals try (conv => whnf)
 all_goals try first | (apply Tk.mk <;> kernel_rfl) | exact ⟨ah rfl⟩ | exact ⟨rfl⟩ | exact ⟨trivial⟩
 all_goals subst_vars
 all_goals try first | rfl | contradiction | (apply Ob.mk;first | (simp only [ag,ak,aa.ae];omega) | ((try simp only [aa.ae]);(try dsimp only);omega))
 refine ⟨Nat,fun x => x <= A.length,fun x => ⟨aI 31 [1,5,8,9,10] [.a (.sl 1 [] 0 S.length),.a (.sl 2 [] 0 (eR A S x).length),.a (.sl 0 [] 0 A.length),.a (vI A.length),.a (vI x)],[],[.arr 3 kI A false false,.arr 3 kI S false false,.arr 3 kI (eR A S (x)) true true]⟩,fun x => A.length - x,0,[0,1,1000],Nat.zero_le _,?_,?_⟩
 ·repeat' ((conv => whnf);(first | apply And.intro | intro _))
  all_goals first | rfl | trivial | exact ah rfl | exact aS ‹_› rfl | exact aT ‹_› rfl | ((repeat' first | rfl | constructor);done)
 rintro x hx
 have jJ:=r9 A S x
 by_cases cO : x < A.length
 ·have p0 : decide ((x : Int) < (A.length : Int)) = true:=decide_eq_true (by omega)
  have ga : av A x = gi A x:=dP A x
  have gs : av S x = gi S x:=dP S x
  cases h1 : (av A x == (x : Int))
  ·have hno : eR A S (x + 1) = eR A S x:=GK (by unfold uQ;rw [<- ga,h1];rfl)
   repeat' ((conv => whnf);first | apply And.intro | (intro h9;try (have h8 : (_ : Bool) = _:=h9;clear h8;revert h9;subst_vars;intro h9;exact aq h9 (by assumption))))
   all_goals try (conv => whnf)
   all_goals try first | (apply Tk.mk <;> kernel_rfl) | exact ⟨ah rfl⟩ | exact ⟨rfl⟩ | exact ⟨trivial⟩
   all_goals subst_vars
   all_goals try first | rfl | contradiction | (apply Ob.mk;first | (simp only [ag,ak,aa.ae];omega) | ((try simp only [aa.ae]);(try dsimp only);omega))
   all_goals try first
    | exact ⟨show 0 + Int.toNat (x : Int) < A.length by omega⟩
   refine ⟨x + 1,[],cO,?_,by show A.length - (x + 1) < A.length - x;omega⟩
   repeat' ((conv => whnf);(first | apply And.intro | intro _))
   all_goals first | rfl | trivial | exact ah rfl | exact aS ‹_› rfl | exact aT ‹_› rfl | ((repeat' first | rfl | constructor);done) | exact congrArg List.length hno.symm | exact ⟨rfl,rfl,hno.symm⟩
  cases h2 : (av S x == 0)
  ·have h3 : (av S x != 0) = true:=by unfold bne;rw [h2];rfl
   have iB : eR A S (x + 1) = eR A S x ++ [(x : Int)]:=Lf (by unfold uQ;rw [<- ga,<- gs,h1,h2];rfl)
   have qX:=tM iB
   repeat' ((conv => whnf);first | apply And.intro | (intro h9;try (have h8 : (_ : Bool) = _:=h9;clear h8;revert h9;subst_vars;intro h9;exact aq h9 (by assumption))))
   all_goals try (conv => whnf)
   all_goals try first | (apply Tk.mk <;> kernel_rfl) | exact ⟨ah rfl⟩ | exact ⟨rfl⟩ | exact ⟨trivial⟩
   all_goals subst_vars
   all_goals try first | rfl | contradiction | (apply Ob.mk;first | (simp only [ag,ak,aa.ae];omega) | ((try simp only [aa.ae]);(try dsimp only);omega))
   all_goals try first
    | exact ⟨show 0 + Int.toNat (x : Int) < A.length by omega⟩
    | exact ⟨show 0 + Int.toNat (x : Int) < S.length by omega⟩
    | exact ⟨Nat.zero_add _⟩
    | exact ⟨show ((eR A S x).length + 1) * 1 <= 1099511627776 by omega⟩
   refine ⟨x + 1,[0,1,2],cO,?_,by show A.length - (x + 1) < A.length - x;omega⟩
   repeat' ((conv => whnf);(first | apply And.intro | intro _))
   all_goals first | rfl | trivial | exact ah rfl | exact aS ‹_› rfl | exact aT ‹_› rfl | ((repeat' first | rfl | constructor);done) | exact qX | exact ⟨rfl,rfl,iB.symm⟩
  have h3 : (av S x != 0) = false:=by unfold bne;rw [h2];rfl
  have hno : eR A S (x + 1) = eR A S x:=GK (by unfold uQ;rw [<- gs,h2];cases (gi A x == (x : Int)) <;> rfl)
  repeat' ((conv => whnf);first | apply And.intro | (intro h9;try (have h8 : (_ : Bool) = _:=h9;clear h8;revert h9;subst_vars;intro h9;exact aq h9 (by assumption))))
  all_goals try (conv => whnf)
  all_goals try first | (apply Tk.mk <;> kernel_rfl) | exact ⟨ah rfl⟩ | exact ⟨rfl⟩ | exact ⟨trivial⟩
  all_goals subst_vars
  all_goals try first | rfl | contradiction | (apply Ob.mk;first | (simp only [ag,ak,aa.ae];omega) | ((try simp only [aa.ae]);(try dsimp only);omega))
  all_goals try first
   | exact ⟨show 0 + Int.toNat (x : Int) < A.length by omega⟩
   | exact ⟨show 0 + Int.toNat (x : Int) < S.length by omega⟩
  refine ⟨x + 1,[],cO,?_,by show A.length - (x + 1) < A.length - x;omega⟩
  repeat' ((conv => whnf);(first | apply And.intro | intro _))
  all_goals first | rfl | trivial | exact ah rfl | exact aS ‹_› rfl | exact aT ‹_› rfl | ((repeat' first | rfl | constructor);done) | exact congrArg List.length hno.symm | exact ⟨rfl,rfl,hno.symm⟩
 have p0 : decide ((x : Int) < (A.length : Int)) = false:=decide_eq_false (by omega)
 obtain rfl : x = A.length:=by omega
 repeat' ((conv => whnf);first | apply And.intro | (intro h9;try (have h8 : (_ : Bool) = _:=h9;clear h8;revert h9;subst_vars;intro h9;exact aq h9 (by assumption))))
 all_goals try (conv => whnf)
 all_goals try first | (apply Tk.mk <;> kernel_rfl) | exact ⟨ah rfl⟩ | exact ⟨rfl⟩ | exact ⟨trivial⟩
 all_goals subst_vars
 all_goals try first | rfl | contradiction | (apply Ob.mk;first | (simp only [ag,ak,aa.ae];omega) | ((try simp only [aa.ae]);(try dsimp only);omega))
 refine bu.base ⟨_,[2],hK,⟨rfl,rfl,by simp,trivial⟩,rfl,?_⟩
 repeat' ((conv => whnf);(first | apply And.intro | intro _))
 all_goals first | rfl | trivial)
end Go.Proofs.YthejmgnkenokpaaGreatDoor
end
section
namespace Go.Proofs.YthejmgnkenokpaaGreatDoor
open Go Go.Sy Go.bK
variable {Γ : bn}
abbrev bI (G : List Sg) (i : Int) : Sg:=@Ar.get ⟨48,kG,G⟩ (0 + Int.toNat i)
theorem BP (G : List Sg) (i : Nat) : bI G i = G.getD i (0,false):=by unfold bI;rw [Nat.zero_add,Int.toNat_natCast];rfl
theorem rL (G : List Sg) (i : Nat) : bI G i = sg G i:=by unfold bI sg;rw [Nat.zero_add,Int.toNat_natCast];rfl
end Go.Proofs.YthejmgnkenokpaaGreatDoor
end
section
namespace Go.Proofs.YthejmgnkenokpaaGreatDoor
open Go Go.Sy Go.bK
variable {Γ : bn}
abbrev J0 (L : List Bool) (i : Int) : Bool:=@Ar.get ⟨4,kB,L⟩ (0 + Int.toNat i)
theorem Mm (L : List Bool) (i : Int) : J0 L i = gb L i:=by unfold J0 gb;rw [Nat.zero_add];rfl
theorem Lu (w : List Int) (i : Int) : av w i = gi w i:=by unfold av gi;rw [Nat.zero_add];rfl
noncomputable def Gm : au:=.fn fun args rg => match args with
 | [.a (.p r [] 0 0),.a (.v (.int .i64 x))] => (match rg.getD r .dead with
   | .box _ [a,b,_] => (match ac1 3 kI rg a,ac1 4 kB rg b with
     | some (q0,U),some (q1,Pa) => some (q0 ++ (q1 ++ [OV (kM U Pa x)]),.bF [.a (vI (cm U Pa x).1),.a (.v (.bool (cm U Pa x).2))])
     | _,_ => none)
   | _ => none)
 | _ => none
attribute [local irreducible] cm
theorem Gn : au.Ok Tryz.prog Γ 91 Gm:=au.er (d:=0) (aP aR.nil bq.nil false 0) (aj Tryz.func91 rfl rfl) (by
 intro args rg q t hF hq
 split at hF
 next r x =>
  split at hF
  next o a b c hg =>
   split at hF
   next q0 U q1 Pa h0 h1 =>
    obtain ⟨rfl,rfl⟩:=Prod.mk.inj (Option.some.inj hF);clear hF
    rw [aH,aH] at hq
    obtain ⟨dm,gk,hD,_⟩:=hq
    have Vo : rg[r]? = some (.box o [a,b,c]):=bg (st:=⟨⟨0,.nil⟩,[],rg⟩) hg (by simp)
    obtain ⟨e0,Vn⟩:=bP (by simp) h0 dm
    obtain ⟨e1,iO⟩:=bP (by simp) h1 gk
    obtain ⟨p0,r0⟩:=Vn [some (r,[]),e0,e1] 1 3 rfl (by omega)
    obtain ⟨p1,r1⟩:=iO [some (r,[]),e0,e1] 2 3 rfl (by omega)
    refine ⟨rfl,[some (r,[]),e0,e1],[.a (.p 0 [] 0 0),.a (vI x)],[.box false [.sl 1 [] 0 U.length,.sl 2 [] 0 Pa.length,.any],.arr 3 kI U false false,.arr 4 kB Pa false false],⟨⟨⟨r,[],rfl,by simp,rfl⟩,rfl,trivial⟩,fun r' g lh => ?_⟩,?_⟩
    ·match r',lh with
     | 0,lh => obtain rfl:=Option.some.inj lh;exact ⟨rfl,r,o,[a,b,c],rfl,Vo,p0,p1,trivial,trivial⟩
     | 1,lh => obtain rfl:=Option.some.inj lh;exact r0
     | 2,lh => obtain rfl:=Option.some.inj lh;exact r1
    ·obtain ⟨n,R,Q,rk,hr,hx,j4⟩ : kM U Pa x:=hD
     rw [rH hr hx j4]
     have ny:=hx
     unfold aM at ny
     have Ko : U.length = (n * n).toNat:=hr.lu
     have PO : Pa.length = (n * n).toNat:=hr.lp
     repeat' ((conv => whnf);first | apply And.intro | (intro h9;try (have h8 : (_ : Bool) = _:=h9;clear h8;revert h9;subst_vars;intro h9;exact aq h9 (by assumption))))
     all_goals try (conv => whnf)
     all_goals try first | (apply Tk.mk <;> kernel_rfl) | exact ⟨ah rfl⟩ | exact ⟨rfl⟩ | exact ⟨trivial⟩
     all_goals subst_vars
     all_goals try first | rfl | contradiction | (apply Ob.mk;first | (simp only [ag,ak,aa.ae];omega) | ((try simp only [aa.ae]);(try dsimp only);omega))
     refine ⟨Int × Bool,fun s => aM n s.1 /\ R s.1 = R x /\ (s.2 != Q s.1) = Q x,fun s => ⟨aI 34 [0,1,6] [.a (.p 0 [] 0 0),.a (vI s.1),.a (.v (.bool s.2))],[],[.box false [.sl 1 [] 0 U.length,.sl 2 [] 0 Pa.length,.any],.arr 3 kI U false false,.arr 4 kB Pa false false]⟩,fun s => rk s.1,(x,false),[],⟨hx,rfl,EW _⟩,?_,?_⟩
     ·repeat' ((conv => whnf);(first | apply And.intro | intro _))
      all_goals first | rfl | trivial | exact ah rfl | exact aS ‹_› rfl | exact aT ‹_› rfl | ((repeat' first | rfl | constructor);done)
     rintro ⟨v,b⟩ ⟨hv,Vp,xY⟩
     dsimp only at hv Vp xY
     have iz : 0 <= v /\ v < (U.length : Int):=by unfold aM at hv;omega
     have iy : 0 <= v /\ v < (Pa.length : Int):=by omega
     have iS : 0 + Int.toNat v < U.length:=by omega
     have iR : 0 + Int.toNat v < Pa.length:=by omega
     have Dp:=Lu U v
     have QV:=Mm Pa v
     by_cases Ks : gi U v = v
     rotate_left
     ·have q1 : (av U v != v) = true:=by rw [Dp,bne_iff_ne];exact Ks
      obtain ⟨s1,s2,s3⟩:=hr.step v hv Ks
      repeat' ((conv => whnf);first | apply And.intro | (intro h9;try (have h8 : (_ : Bool) = _:=h9;clear h8;revert h9;subst_vars;intro h9;exact aq h9 (by assumption))))
      all_goals try (conv => whnf)
      all_goals try first | (apply Tk.mk <;> kernel_rfl) | exact ⟨ah rfl⟩ | exact ⟨rfl⟩ | exact ⟨trivial⟩
      all_goals subst_vars
      all_goals try first | rfl | contradiction | (apply Ob.mk;first | (simp only [ag,ak,aa.ae];omega) | ((try simp only [aa.ae]);(try dsimp only);omega))
      refine ⟨(av U v,!(b == J0 Pa v)),[],⟨by show aM n (av U v);rw [Dp];exact hr.cell v hv,by show R (av U v) = _;rw [Dp,s1];exact Vp,?_⟩,?_,by show rk (av U v) < rk v;rw [Dp];exact s3⟩
      ·show ((b != J0 Pa v) != Q (av U v)) = _
       rw [Dp,QV,xor_assoc,<- s2];exact xY
      repeat' ((conv => whnf);(first | apply And.intro | intro _))
      all_goals first | rfl | trivial | exact ah rfl | exact aS ‹_› rfl | exact aT ‹_› rfl | ((repeat' first | rfl | constructor);done) | exact ⟨rfl,rfl,rfl⟩
     have q1 : (av U v != v) = false:=by rw [Dp,Ks];exact bne_self_eq_false _
     obtain ⟨s1,s2⟩:=hr.root v hv Ks
     rw [s1] at Vp
     rw [s2,J1] at xY
     subst xY
     rw [<- Vp]
     repeat' ((conv => whnf);first | apply And.intro | (intro h9;try (have h8 : (_ : Bool) = _:=h9;clear h8;revert h9;subst_vars;intro h9;exact aq h9 (by assumption))))
     all_goals try (conv => whnf)
     all_goals try first | (apply Tk.mk <;> kernel_rfl) | exact ⟨ah rfl⟩ | exact ⟨rfl⟩ | exact ⟨trivial⟩
     all_goals subst_vars
     all_goals try first | rfl | contradiction | (apply Ob.mk;first | (simp only [ag,ak,aa.ae];omega) | ((try simp only [aa.ae]);(try dsimp only);omega))
     all_goals first
      | trivial
   next => cases hF
  next => cases hF
 next => cases hF)
end Go.Proofs.YthejmgnkenokpaaGreatDoor
end
