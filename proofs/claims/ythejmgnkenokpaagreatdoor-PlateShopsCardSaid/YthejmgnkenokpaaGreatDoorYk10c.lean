/-
  Texts of the claims on chapter 3: Yk10c. No condition: lemmas and contracts.
-/
import Derived.Test.YthejmgnkenokpaaGreatDoorYk3c
import Derived.Test.YthejmgnkenokpaaGreatDoorYk5c
import Derived.Test.YthejmgnkenokpaaGreatDoorYk6c
import Derived.Test.YthejmgnkenokpaaGreatDoorYk7c
import Derived.Test.YthejmgnkenokpaaGreatDoorYk8c
import Derived.Test.YthejmgnkenokpaaGreatDoorYk4c
import Derived.Test.YthejmgnkenokpaaGreatDoorYk9c
import Derived.KernelRfl
import Derived.Test.YthejmgnkenokpaaGreatDoorQ22c
set_option linter.all false
set_option maxRecDepth 100000
set_option maxHeartbeats 4000000
section
namespace Go.Proofs.YthejmgnkenokpaaGreatDoor
open Go Go.Sy Go.bK
variable {Γ : bn}
abbrev bC : List Wk:=bp ++ [(0,1,1)]
theorem OH : (af bp 0 == [(0,false),(4,true)]) = true:=by decide +kernel
theorem OC : (aJ 2 (af bp 0) == [0,0,2,2]) = true:=by decide +kernel
theorem OI : (aU 2 (af bp 0) == [1,-1,1,-1]) = true:=by decide +kernel
theorem OG : (bh (eI 2 3 bp 0 (hF (aB 2 bp 0) [5,7])) 1 == [-5,5,-7,7]) = true:=by decide +kernel
theorem OB : (aJ 2 (af bp 0)).length = 4 /\ (aU 2 (af bp 0)).length = 4 /\ (af bp 0).length = 2 /\ (eI 2 3 bp 0 (hF (aB 2 bp 0) [5,7])).length = 3 /\ (bh (eI 2 3 bp 0 (hF (aB 2 bp 0) [5,7])) 1).length = 4:=by decide +kernel
theorem vZ : (bf 2 3 bp 0 == 0) = true:=by decide +kernel
theorem jq : (bf 2 3 bC 0 == 0) = true:=by decide +kernel
theorem L8 : (pb 2 3 bp 0 != 2) = false:=by decide +kernel
theorem Pq : lP 2 (af bp 0) = 2:=by decide +kernel
theorem Ig : lP 2 (af bC 0) = 0:=by decide +kernel
theorem L7 : (!o6 2 3 bC 0) = false:=by decide +kernel
theorem Pr : AP 2 bp 0 [5,7] = true:=by decide +kernel
theorem v7 : (bD 2 3 bp == 0) = true:=by decide +kernel
theorem L4 : (bD 2 3 bC == 0) = true:=by decide +kernel
theorem JU : ((cz 4 7 1).1 != 11) = false:=by decide +kernel
theorem JV : ((cz 4 7 1).2 != 0) = false:=by decide +kernel
theorem L5 : ((aY 1 4).1 != 5) = false:=by decide +kernel
theorem L6 : ((aY 1 4).2 != 0) = false:=by decide +kernel
theorem OF : vF 2 3 bp = { data:=#[115,104,111,112,32,50,32,51,10,119,111,114,107,32,48,32,49,32,48,10,119,111,114,107,32,49,32,50,32,48,10,119,111,114,107,32,50,32,48,32,52,10] }:=by
 unfold vF
 rw [v7]
 dsimp only
 rw [N5 (oe.1 (eq_of_beq v7)) _ (Nat.le_refl _)]
 kernel_rfl
theorem rU {L : List Wk} (h : (bf 2 3 L 0 == 0) = true) : gH (af L 0):=by
 obtain ⟨hw,hP,hp,hn⟩:=gg (eq_of_beq h)
 exact nK (cW.1 hw) hP hp
theorem OE : iE 2 (af bC 0):=(xN (rU jq) (by unfold bz;omega)).1 ((Ax (rU jq) (by unfold bz;omega)).symm.trans Ig)
theorem OD : ¬ iE 2 (af bp 0):=fun h => by
 have h1:=(xN (rU vZ) (by unfold bz;omega)).2 h
 rw [<- Ax (rU vZ) (by unfold bz;omega),Pq] at h1
 cases h1
theorem Ci : abz 2 bC 0 (jO 2 bC 0) = 0 /\ (jO 2 bC 0).length <= 16 /\ ∀ w ∈ jO 2 bC 0,bN bC w = true /\ w.length <= 95:=by
 obtain ⟨hw,hP,hp,hn⟩:=gg (eq_of_beq jq)
 exact N6 (cW.1 hw) hP hp OE
theorem H7 {L : List Wk} {W : List (List Int)} (h : ∀ w ∈ W,bN L w = true /\ w.length <= 96) : cK L W = 0:=by
 unfold cK
 have h1 : W.any fW = false:=List.any_eq_false.2 fun w hw => by
  have:=(h w hw).2
  simp only [fW,decide_eq_true_eq];omega
 have h2 : W.any (fun w => !bN L w) = false:=List.any_eq_false.2 fun w hw => by rw [(h w hw).1];simp
 rw [h1,h2]
theorem Mu {n P : Int} {L : List Wk} {p : Int} {W : List (List Int)} (ha : (bf n P L p == 0) = true) (hl : W.length <= 40) (hs : cK L W = 0) : jZ n P L p W = abz n L p W:=by
 unfold jZ
 rw [ha]
 dsimp only
 rw [decide_eq_false (by omega)]
 dsimp only
 rw [hs];rfl
theorem Mt {n P : Int} {L : List Wk} {p : Int} {W : List (List Int)} (h : jZ n P L p W = 0) : (bf n P L p == 0) = true /\ cK L W = 0 /\ abz n L p W = 0:=by
 unfold jZ at h
 cases h0 : bf n P L p == 0 <;> rw [h0] at h <;> dsimp only at h
 ·rw [h] at h0;cases h0
 ·cases h1 : decide ((W.length : Int) > 40) <;> rw [h1] at h <;> dsimp only at h
  ·cases h2 : cK L W == 0 <;> rw [h2] at h <;> dsimp only at h
   ·rw [h] at h2;cases h2
   ·exact ⟨rfl,eq_of_beq h2,h⟩
  ·cases h
theorem Oz : (jZ 2 3 bC 0 (jO 2 bC 0) == 0) = true:=by
 obtain ⟨h1,h2,h3⟩:=Ci
 rw [Mu jq (by omega) (H7 fun w hw => ⟨(h3 w hw).1,by have:=(h3 w hw).2;omega⟩),h1];rfl
theorem OA : (jZ 2 3 bp 0 (jO 2 bC 0) != 0) = true:=by
 rw [bne_iff_ne]
 intro h
 obtain ⟨ha,hs,hc⟩:=Mt h
 obtain ⟨hw,hP,hp,hn⟩:=gg (eq_of_beq ha)
 exact OD (K9 (cW.1 hw) hP hp hn (fun w hw => (tv hs w hw).1) hc)
def tC : au:=.fn fun args _ => match args with
 | [] => some ([],bl true)
 | _ => none
noncomputable def Qi : List (Nat × au):=[(38,Dg),(24,DL),(39,yc),(40,ZZ),(41,DK),(31,Hz),(42,F9),(43,zN),(44,qm),(32,Dd),(12,ql),(28,sQ),(26,uA),(45,jf),(46,qo),(47,r5),(48,mh),(49,xz),(50,tB)]
theorem KT : aR Tryz.prog Γ Qi:=(((((((((((((((((((aR.nil.cons (aj Tryz.func50 rfl rfl).fn sU).cons (aj Tryz.func49 rfl rfl).fn zQ).cons (aj Tryz.func48 rfl rfl).fn jy).cons (aj Tryz.func47 rfl rfl).fn oU).cons (aj Tryz.func46 rfl rfl).fn qp).cons (aj Tryz.func45 rfl rfl).fn fQ).cons (aj Tryz.func26 rfl rfl).fn yG).cons (aj Tryz.func28 rfl rfl).fn Z0).cons (aj Tryz.func12 rfl rfl).fn ux).cons (aj Tryz.func32 rfl rfl).fn EF).cons (aj Tryz.func44 rfl rfl).fn qn).cons (aj Tryz.func43 rfl rfl).fn xy).cons (aj Tryz.func42 rfl rfl).fn Ga).cons (aj Tryz.func31 rfl rfl).fn HA).cons (aj Tryz.func41 rfl rfl).fn Fb).cons (aj Tryz.func40 rfl rfl).fn zI).cons (aj Tryz.func39 rfl rfl).fn AX).cons (aj Tryz.func24 rfl rfl).fn Fc).cons (aj Tryz.func38 rfl rfl).fn EK)
noncomputable def OR : List (Nat × Body):=[(11,bo Tryz.f11)]
theorem IG : bq Tryz.prog OR:=(bq.nil.cons (cg Tryz.func11 rfl rfl))
attribute [local irreducible] bf eH af ag5 lP cL jQ Vr eI hF aB pb o6 AP bD cz aY vF jZ aJ aU jO tU bp
theorem sW : au.Ok Tryz.prog Γ 10 tC:=au.er (d:=3) (aP KT IG false 0) (aj Tryz.func10 rfl rfl) (by
 intro args rg q t hF hq
 split at hF
 next =>
  obtain ⟨rfl,rfl⟩:=Prod.mk.inj (Option.some.inj hF);clear hF
  refine ⟨rfl,[],[],[],⟨trivial,fun r g hg => by cases hg⟩,?_⟩
  have z0 : ((0 : Int) != 0) = false:=rfl
  have oz : bp.length = 3:=by unfold bp;rfl
  have DF : bC.length = 4:=by unfold bC;rw [List.length_append,oz];rfl
  have z1 : (bf 2 3 bp 0 != 0) = false:=by unfold bne;rw [vZ];rfl
  have z2 : (bf 2 3 bC 0 != 0) = false:=by unfold bne;rw [jq];rfl
  have z3 : (bD 2 3 bp != 0) = false:=by unfold bne;rw [v7];rfl
  have z4 : (lP 2 (af bC 0) != 0) = false:=by rw [Ig];rfl
  have z5 : (((Int.toNat 3 : Nat) : Int) != 3) = false:=rfl
  obtain ⟨hw,hP,hp,hn⟩:=gg (eq_of_beq jq)
  have hl : bC.length <= 1000000:=by omega
  have Vo:=rU jq
  have hgo : ∀ g ∈ af bC 0,0 <= g.1 /\ g.1 <= 7:=Vo.ok
  have x1:=OH;have x2:=OC;have x3:=OI;have x4:=OG;have x5:=vZ;have x6:=jq;have x7:=L8
  have x8:=L7;have x9:=Pr;have y1:=v7;have y2:=L4;have y3:=JU;have y4:=JV;have y5:=L5;have y6:=L6
  repeat' ((conv => whnf);first | apply And.intro | (intro h9;try (have h8 : (_ : Bool) = _:=h9;clear h8;revert h9;subst_vars;intro h9;exact aq h9 (by assumption))))
  all_goals try (conv => whnf)
  all_goals try first | (apply Tk.mk <;> kernel_rfl) | exact ⟨ah rfl⟩ | exact ⟨rfl⟩ | exact ⟨trivial⟩
  all_goals subst_vars
  all_goals try first | rfl | contradiction | (apply Ob.mk;first | (simp only [ag,ak,aa.ae];omega) | ((try simp only [aa.ae]);(try dsimp only);omega))
  all_goals try first
   | exact ⟨show bp.length + 1 = bC.length by omega⟩
   | exact ⟨oz.symm⟩
   | exact ⟨show bp.length <= 1000000 by omega⟩
   | exact ⟨show bC.length <= 1000000 by omega⟩
   | exact ⟨show bp.length <= 900000 by omega⟩
   | exact ⟨hw⟩
   | exact ⟨show -9223372036854775808 <= ((af bC 0).length : Int) - 1 /\ ((af bC 0).length : Int) - 1 <= 9223372036854775807 by have:=ag4 bC 0;omega⟩
  have Sm : bp.length + 1 = bC.length:=by omega
  refine ⟨Nat × List Sg,fun s => s.1 <= s.2.length /\ s.2.length <= 16 /\ (∀ g ∈ s.2,g ∈ (af bC 0)) /\ jQ 2 s.1 s.2 = tU 2 (af bC 0),fun s => ⟨aI 67 [1,2,7,8,9] [.a (vI 0),.a (.p 9 [] 0 0),.a (.mp 10),.a (.sl 11 [] 0 s.2.length),.a (vI ((s.1 : Int) - 1))],[aI 170 [1,2,4,5,9,11,15,16,17,18] [.a (.p 1 [] 0 0),.a (.sl 2 [] 0 (af bp 0).length),.a (.sl 3 [] 0 4),.a (.sl 4 [] 0 4),.a (.sl 6 [] 0 3),.a (.p 8 [] 0 0),.a (vI (cz 4 7 1).1),.a (vI (cz 4 7 1).2),.a (vI (aY 1 4).1),.a (vI (aY 1 4).2)]],[.arr 46 kW bp true true,.box true [vI 2,vI 3,.sl 0 [] 0 3],.arr 48 kG (af bp 0) true true,.arr 3 kI (aJ 2 (af bp 0)) true true,.arr 3 kI (aU 2 (af bp 0)) true true,.dead,.arr 49 kT (eI 2 3 bp 0 (hF (aB 2 bp 0) [5,7])) true true,.arr 46 kW bC true true,.box true [vI 2,vI 3,.sl 7 [] 0 (bp.length + 1)],.box true [vI 2,vI 3,.sl 7 [] 0 (bC).length],.bH 82 kX 3 kI (ag5 bC 0) true true,.arr 48 kG s.2 false false]⟩,fun s => s.1,((af bC 0).length,(af bC 0)),[0,1,2,3,4,5,6,7,8,9,10,11],⟨Nat.le_refl _,ag4 _ _,fun g hg => hg,LC _ _⟩,?_,?_⟩
  ·repeat' ((conv => whnf);(first | apply And.intro | intro _))
   all_goals first | rfl | trivial | exact ah rfl | exact aS ‹_› rfl | exact aT ‹_› rfl | ((repeat' first | rfl | constructor);done) | assumption
  rintro ⟨i,l⟩ ⟨hi,Np,hls,hr⟩
  dsimp only at hi Np hls hr
  cases i with
  | succ i =>
    have p0 : decide ((((i + 1 : Nat) : Int) - 1) >= 0) = true:=decide_eq_true (by omega)
    have hx:=NY l i
    have aaj : (ac6 l i).length = l.length - 1:=by rw [hx,List.length_append,List.length_take,List.length_drop];omega
    have hxs : ∀ g ∈ ac6 l i,g ∈ l:=fun g hg => by
     rw [hx] at hg
     rcases List.mem_append.1 hg with hg | hg
     ·exact List.mem_of_mem_take hg
     ·exact List.mem_of_mem_drop hg
    have hfl : (ac6 l i).length <= 1000000:=by omega
    have hfg : ∀ g ∈ ac6 l i,0 <= g.1 /\ g.1 <= 7:=fun g hg => hgo g (hls g (hxs g hg))
    rw [JC,<- hx] at hr
    cases hb : eH 2 (ac6 l i) <;> rw [hb] at hr <;> dsimp only at hr
    ·repeat' ((conv => whnf);first | apply And.intro | (intro h9;try (have h8 : (_ : Bool) = _:=h9;clear h8;revert h9;subst_vars;intro h9;exact aq h9 (by assumption))))
     all_goals try (conv => whnf)
     all_goals try first | (apply Tk.mk <;> kernel_rfl) | exact ⟨ah rfl⟩ | exact ⟨rfl⟩ | exact ⟨trivial⟩
     all_goals subst_vars
     all_goals try first | rfl | contradiction | (apply Ob.mk;first | (simp only [ag,ak,aa.ae];omega) | ((try simp only [aa.ae]);(try dsimp only);omega))
     all_goals try first
      | exact ⟨show 0 + 0 + ((((i + 1 : Nat) : Int) - 1).toNat - 0) <= l.length by omega⟩
      | exact ⟨show 0 + (((i + 1 : Nat) : Int) - 1 + 1).toNat + (l.length - (((i + 1 : Nat) : Int) - 1 + 1).toNat) <= l.length by omega⟩
      | exact ⟨hfl⟩
      | exact ⟨hfg⟩
     refine ⟨(i,l),[0,1,2,3,4,5,6,7,8,9,10,11],⟨by show i <= l.length;omega,Np,hls,hr⟩,?_,by show i < i + 1;omega⟩
     repeat' ((conv => whnf);(first | apply And.intro | intro _))
     all_goals first | rfl | trivial | exact ah rfl | exact aS ‹_› rfl | exact aT ‹_› rfl | ((repeat' first | rfl | constructor);done) | exact idx i
    repeat' ((conv => whnf);first | apply And.intro | (intro h9;try (have h8 : (_ : Bool) = _:=h9;clear h8;revert h9;subst_vars;intro h9;exact aq h9 (by assumption))))
    all_goals try (conv => whnf)
    all_goals try first | (apply Tk.mk <;> kernel_rfl) | exact ⟨ah rfl⟩ | exact ⟨rfl⟩ | exact ⟨trivial⟩
    all_goals subst_vars
    all_goals try first | rfl | contradiction | (apply Ob.mk;first | (simp only [ag,ak,aa.ae];omega) | ((try simp only [aa.ae]);(try dsimp only);omega))
    all_goals try first
     | exact ⟨show 0 + 0 + ((((i + 1 : Nat) : Int) - 1).toNat - 0) <= l.length by omega⟩
     | exact ⟨show 0 + (((i + 1 : Nat) : Int) - 1 + 1).toNat + (l.length - (((i + 1 : Nat) : Int) - 1 + 1).toNat) <= l.length by omega⟩
     | exact ⟨hfl⟩
     | exact ⟨hfg⟩
    refine ⟨(i,ac6 l i),[0,1,2,3,4,5,6,7,8,9,10,13],⟨by show i <= (ac6 l i).length;omega,by show (ac6 l i).length <= 16;omega,fun g hg => hls g (hxs g hg),hr⟩,?_,by show i < i + 1;omega⟩
    repeat' ((conv => whnf);(first | apply And.intro | intro _))
    all_goals first | rfl | trivial | exact ah rfl | exact aS ‹_› rfl | exact aT ‹_› rfl | ((repeat' first | rfl | constructor);done) | exact idx i
  | zero =>
  rw [JD] at hr
  have p0 : decide ((((0 : Nat) : Int) - 1) >= 0) = false:=rfl
  have hz : jO 2 bC 0 = l.map (Vr bC 0):=by rw [LD,<- hr]
  clear hr
  repeat' ((conv => whnf);first | apply And.intro | (intro h9;try (have h8 : (_ : Bool) = _:=h9;clear h8;revert h9;subst_vars;intro h9;exact aq h9 (by assumption))))
  all_goals try (conv => whnf)
  all_goals try first | (apply Tk.mk <;> kernel_rfl) | exact ⟨ah rfl⟩ | exact ⟨rfl⟩ | exact ⟨trivial⟩
  all_goals subst_vars
  all_goals try first | rfl | contradiction | (apply Ob.mk;first | (simp only [ag,ak,aa.ae];omega) | ((try simp only [aa.ae]);(try dsimp only);omega))
  refine ⟨Nat,fun i => i <= l.length,fun i => ⟨aI 67 [1,7,11,51,52,53] [.a (vI 0),.a (.mp 10),.a (.sl 12 [] 0 ((l.take i).map (Vr bC 0)).length),.a (.sl 11 [] 0 l.length),.a (vI l.length),.a (vI i)],[aI 170 [1,2,4,5,9,11,15,16,17,18] [.a (.p 1 [] 0 0),.a (.sl 2 [] 0 (af bp 0).length),.a (.sl 3 [] 0 4),.a (.sl 4 [] 0 4),.a (.sl 6 [] 0 3),.a (.p 8 [] 0 0),.a (vI (cz 4 7 1).1),.a (vI (cz 4 7 1).2),.a (vI (aY 1 4).1),.a (vI (aY 1 4).2)]],[.arr 46 kW bp true true,.box true [vI 2,vI 3,.sl 0 [] 0 3],.arr 48 kG (af bp 0) true true,.arr 3 kI (aJ 2 (af bp 0)) true true,.arr 3 kI (aU 2 (af bp 0)) true true,.dead,.arr 49 kT (eI 2 3 bp 0 (hF (aB 2 bp 0) [5,7])) true true,.arr 46 kW bC true true,.box true [vI 2,vI 3,.sl 7 [] 0 (bp.length + 1)],.box true [vI 2,vI 3,.sl 7 [] 0 (bC).length],.bH 82 kX 3 kI (ag5 bC 0) false false,.arr 48 kG l false false,.arr 49 kT ((l.take i).map (Vr bC 0)) true false]⟩,fun i => l.length - i,0,[0,1,2,3,4,5,6,7,8,9,10,11,1000],Nat.zero_le _,?_,?_⟩
  ·repeat' ((conv => whnf);(first | apply And.intro | intro _))
   all_goals first | rfl | trivial | exact ah rfl | exact aS ‹_› rfl | exact aT ‹_› rfl | ((repeat' first | rfl | constructor);done) | assumption
  clear hi
  rintro i hi
  by_cases hi1 : i < l.length
  ·have p1 : decide ((i : Int) < (l.length : Int)) = true:=decide_eq_true (by omega)
   have PP:=Jn (L:=bC) (p:=0) hi1
   have hml:=congrArg List.length PP
   rw [List.length_append,List.length_singleton] at hml
   have es:=rL l i
   have qQ : bI l i ∈ (af bC 0):=by rw [es];exact hls _ (aaq hi1)
   have oy : br kX ((0,(bI l i).1,(bI l i).2) : Sp) (ag5 bC 0) < (ag5 bC 0).length:=A4 ((kD (cW.1 hw) hP hp).2 ((eo (cW.1 hw) hP hp).1 qQ))
   have PU : ((ag5 bC 0).getD (br kX ((0,(bI l i).1,(bI l i).2) : Sp) (ag5 bC 0)) aG).2 = Vr bC 0 (sg l i):=by
    rw [<- es]
    unfold Vr
    rw [<- A2 (p:=0) (g:=bI l i)]
    rfl
   have hel : List.drop 0 ((l.take i).map (Vr bC 0)) ++ List.take 1 (List.drop 0 [List.take ((ag5 bC 0).getD (br kX ((0,(bI l i).1,(bI l i).2) : Sp) (ag5 bC 0)) aG).2.length (List.drop 0 ((ag5 bC 0).getD (br kX ((0,(bI l i).1,(bI l i).2) : Sp) (ag5 bC 0)) aG).2)]) = (l.take (i + 1)).map (Vr bC 0):=by
    rw [PU,PP,List.drop_zero,List.drop_zero,List.drop_zero,List.take_length];rfl
   have Kp : ((l.take i).map (Vr bC 0)).length <= 16:=by rw [List.length_map,List.length_take];omega
   clear PU
   repeat' ((conv => whnf);first | apply And.intro | (intro h9;try (have h8 : (_ : Bool) = _:=h9;clear h8;revert h9;subst_vars;intro h9;exact aq h9 (by assumption))))
   all_goals try (conv => whnf)
   all_goals try first | (apply Tk.mk <;> kernel_rfl) | exact ⟨ah rfl⟩ | exact ⟨rfl⟩ | exact ⟨trivial⟩
   all_goals subst_vars
   all_goals try first | rfl | contradiction | (apply Ob.mk;first | (simp only [ag,ak,aa.ae];omega) | ((try simp only [aa.ae]);(try dsimp only);omega))
   all_goals try first
    | exact ⟨oy⟩
    | exact ⟨Nat.zero_add _⟩
    | exact ⟨show (((l.take i).map (Vr bC 0)).length + 1) * 1 <= 1099511627776 by omega⟩
    | exact ⟨show 0 + Int.toNat (i : Int) < l.length by omega⟩
   refine ⟨i + 1,[0,1,2,3,4,5,6,7,8,9,10,11,12],hi1,?_,by show l.length - (i + 1) < l.length - i;omega⟩
   repeat' ((conv => whnf);(first | apply And.intro | intro _))
   all_goals first | rfl | trivial | exact ah rfl | exact aS ‹_› rfl | exact aT ‹_› rfl | ((repeat' first | rfl | constructor);done) | exact hml.symm | exact ⟨rfl,rfl,hel⟩
  have p1 : decide ((i : Int) < (l.length : Int)) = false:=decide_eq_false (by omega)
  obtain rfl : i = l.length:=by omega
  have htk : (l.take l.length).map (Vr bC 0) = jO 2 bC 0:=by rw [List.take_length];exact hz.symm
  clear hz hi1
  have c1 : (jZ 2 3 bC 0 ((l.take l.length).map (Vr bC 0)) == 0) = true:=by rw [htk];exact Oz
  have c2 : (jZ 2 3 bp 0 ((l.take l.length).map (Vr bC 0)) != 0) = true:=by rw [htk];exact OA
  have DA : ((l.take l.length).map (Vr bC 0)).length <= 1000000:=by rw [htk];have:=Ci.2.1;omega
  have DB : ∀ w ∈ (l.take l.length).map (Vr bC 0),w.length <= 1000000:=by rw [htk];intro w hw;have:=(Ci.2.2 w hw).2;omega
  have y7 : (!((vF 2 3 bp).toList == ByteArray.toList { data:=#[115,104,111,112,32,50,32,51,10,119,111,114,107,32,48,32,49,32,48,10,119,111,114,107,32,49,32,50,32,48,10,119,111,114,107,32,50,32,48,32,52,10] })) = false:=by rw [OF];simp
  obtain ⟨v1,v2,v3,v4,v5⟩:=OB
  repeat' ((conv => whnf);first | apply And.intro | (intro h9;try (have h8 : (_ : Bool) = _:=h9;clear h8;revert h9;subst_vars;intro h9;exact aq h9 (by assumption))))
  all_goals try (conv => whnf)
  all_goals try first | (apply Tk.mk <;> kernel_rfl) | exact ⟨ah rfl⟩ | exact ⟨rfl⟩ | exact ⟨trivial⟩
  all_goals subst_vars
  all_goals try first | rfl | contradiction | (apply Ob.mk;first | (simp only [ag,ak,aa.ae];omega) | ((try simp only [aa.ae]);(try dsimp only);omega))
  all_goals first
   | trivial
   | exact ⟨DA⟩
   | exact ⟨DB⟩
   | exact ⟨show (aJ 2 (af bp 0)).length <= 1000000 by omega⟩
   | exact ⟨show (aU 2 (af bp 0)).length <= 1000000 by omega⟩
   | exact ⟨show (af bp 0).length <= 1000000 by omega⟩
   | exact ⟨show (bh (eI 2 3 bp 0 (hF (aB 2 bp 0) [5,7])) 1).length <= 1000000 by omega⟩
   | exact ⟨show 0 + Int.toNat 1 < (eI 2 3 bp 0 (hF (aB 2 bp 0) [5,7])).length by omega⟩
   | exact ⟨v1.symm⟩
   | exact ⟨v2.symm⟩
   | exact ⟨show bp.length + 1 = bC.length by omega⟩
   | exact ⟨oz.symm⟩
   | exact ⟨show bp.length <= 1000000 by omega⟩
   | exact ⟨show bC.length <= 1000000 by omega⟩
 next => cases hF)
end Go.Proofs.YthejmgnkenokpaaGreatDoor
end
section
namespace Go.Proofs.YthejmgnkenokpaaGreatDoor
open Go Go.Sy Go.bK
variable {Γ : bn}
attribute [local irreducible] cz aY aQ bJ cD aX
end Go.Proofs.YthejmgnkenokpaaGreatDoor
end
section
namespace Go.Proofs.YthejmgnkenokpaaGreatDoor
open Go Go.Sy Go.bK
variable {Γ : bn}
attribute [local irreducible] aY aQ bJ cD aX bD bf o6 pb
end Go.Proofs.YthejmgnkenokpaaGreatDoor
end
section
namespace Go.Proofs.YthejmgnkenokpaaGreatDoor
open Go Go.Sy Go.bK
variable {Γ : bn}
attribute [local irreducible] bM bw
end Go.Proofs.YthejmgnkenokpaaGreatDoor
end
section
namespace Go.Proofs.YthejmgnkenokpaaGreatDoor
open Go Go.Sy Go.bK
variable {Γ : bn}
def Df : au:=fS (fun _ _ L => [(aa.of (True))]) (fun _ _ L => bl (decide ((L.length : Int) <= 20)))
theorem EJ : au.Ok Tryz.prog Γ 8 Df:=za (d:=0) (aP aR.nil bq.nil false 0) (aj Tryz.func8 rfl rfl) (fun _ _ _ => rfl) (by
 intro n P L _
 repeat' ((conv => whnf);first | apply And.intro | (intro h9;try (have h8 : (_ : Bool) = _:=h9;clear h8;revert h9;subst_vars;intro h9;exact aq h9 (by assumption))))
 all_goals try (conv => whnf)
 all_goals try first | (apply Tk.mk <;> kernel_rfl) | exact ⟨ah rfl⟩ | exact ⟨rfl⟩ | exact ⟨trivial⟩
 all_goals subst_vars
 all_goals try first | rfl | contradiction | (apply Ob.mk;first | (simp only [ag,ak,aa.ae];omega) | ((try simp only [aa.ae]);(try dsimp only);omega)))
attribute [local irreducible] bf cK bj
end Go.Proofs.YthejmgnkenokpaaGreatDoor
end
section
namespace Go.Proofs.YthejmgnkenokpaaGreatDoor
open Go Go.Sy Go.bK
variable {Γ : bn}
def ai3 (D : Int -> Int -> List Wk -> ByteArray -> List aa) (F : Int -> Int -> List Wk -> ByteArray -> Tm) : au:=.fn fun args rg => match args with
 | [.agg [.v (.int .i64 n0),.v (.int .i64 n1),x0],.a (.v (.string s0))] => (match ac1 46 kW rg x0 with | some (q0,L0) => some (q0 ++ (D n0 n1 L0 s0),F n0 n1 L0 s0) | _ => none)
 | _ => none
theorem aiW {f : FuncId} {b : Body} {E : Env} {d : Nat} (hP : aL Tryz.prog Γ E) (hb : bQ Tryz.prog f b) {D : Int -> Int -> List Wk -> ByteArray -> List aa} {F : Int -> Int -> List Wk -> ByteArray -> Tm} (hp : ∀ (n0 : Int) (n1 : Int) (L0 : List Wk) (s0 : ByteArray),(F n0 n1 L0 s0).plain = true)
  (H : ∀ (n0 : Int) (n1 : Int) (L0 : List Wk) (s0 : ByteArray),bW (D n0 n1 L0 s0) -> cQ E d b [.agg [vI n0,vI n1,.sl 0 [] 0 L0.length],.a (.v (.string s0))] [.arr 46 kW L0 false false] (fun x _ => iL x (F n0 n1 L0 s0))) : au.Ok Tryz.prog Γ f (ai3 D F):=au.er (d:=d) hP hb (by
 intro args rg q t hF hq
 split at hF
 next n0 n1 x0 s0 =>
  split at hF
  next q0 L0 hx0 =>
   obtain ⟨rfl,rfl⟩:=Prod.mk.inj (Option.some.inj hF);clear hF
   rw [aH] at hq
   obtain ⟨dm,hD⟩:=hq
   obtain ⟨e0,Vn⟩:=bP (by simp [kW]) hx0 dm
   obtain ⟨p0,r0⟩:=Vn [e0] 0 1 rfl (by omega)
   refine ⟨hp _ _ _ _,[e0],[.agg [vI n0,vI n1,.sl 0 [] 0 L0.length],.a (.v (.string s0))],[.arr 46 kW L0 false false],⟨⟨⟨rfl,rfl,p0,trivial⟩,rfl,trivial⟩,fun r g hg => ?_⟩,H _ _ _ _ hD⟩
   match r,hg with
   | 0,hg => obtain rfl:=Option.some.inj hg;exact r0
  next => cases hF
 next => cases hF)
noncomputable def ahF : au:=ahS (fun s => [(aa.of (s.size <= 1000))]) (fun s K => (pB s = true -> K (ahG (eY s) (vI 0))) /\ (pB s = false -> K (w8 (vI 7))))
theorem ahu : au.Ok Tryz.prog aha 33 ahF:=ah6 aiy (by
 intro s K ⟨h1,h2⟩
 unfold ajG
 cases hb : pB s
 ·exact h2 hb
 ·exact h1 hb)
theorem nf (n P : Int) (L : List Wk) : gF n P L n P L = true:=by unfold gF;simp
theorem ahy {n P : Int} {L : List Wk} (h : (bD n P L == 0) = true) : vF n P L = bA (ld n P L):=by unfold vF;rw [h];exact ai8 (oe.1 (eq_of_beq h))
theorem ai7 {n P : Int} {L : List Wk} (h : (bD n P L == 0) = true) : pB (vF n P L) = true /\ eY (vF n P L) = (n,P,L) /\ (vF n P L).size <= 1000:=by
 have h1:=aiK (s:=vF n P L) (t:=(n,P,L)) ⟨eq_of_beq h,ahy h⟩
 refine ⟨h1.1,h1.2,?_⟩
 have:=(oe.1 (eq_of_beq h)).l
 rw [ahy h,ahi];omega
theorem ahT {s : ByteArray} (h : pB s = true) : (bD (eY s).1 (eY s).2.1 (eY s).2.2 == 0) = true /\ vF (eY s).1 (eY s).2.1 (eY s).2.2 = s /\ (eY s).2.2.length <= 16:=by
 obtain ⟨h1,h2⟩:=D1.1 h
 have h3 : (bD (eY s).1 (eY s).2.1 (eY s).2.2 == 0) = true:=by rw [h1];rfl
 exact ⟨h3,(ahy h3).trans h2.symm,(oe.1 h1).l⟩
theorem air (s : ByteArray) : (s.toList == s.toList) = true:=beq_self_eq_true _
def ahW : au:=ai3 (fun _ _ _ _ => []) (fun _ _ _ _ => bl true)
noncomputable def ajU : List (Nat × au):=[(8,Df),(32,Dd),(33,ahF),(36,ahX),(10,tC)]
theorem ajb : aR Tryz.prog aha ajU:=(((((aR.nil.cons (aj Tryz.func10 rfl rfl).fn sW).cons (aj Tryz.func36 rfl rfl).fn ahI).cons (aj Tryz.func33 rfl rfl).fn ahu).cons (aj Tryz.func32 rfl rfl).fn EF).cons (aj Tryz.func8 rfl rfl).fn EJ)
attribute [local irreducible] pB eY bD vF gF
theorem ahq : au.Ok Tryz.prog aha 7 ahW:=aiW (d:=0) (aP ajb bq.nil false 0) (aj Tryz.func7 rfl rfl) (fun _ _ _ _ => rfl) (by
 intro n P L s _
 obtain h0 | h0 : decide ((L.length : Int) <= 20) = false \/ decide ((L.length : Int) <= 20) = true:=by cases decide ((L.length : Int) <= 20) <;> simp
 ·have n0 : (!decide ((L.length : Int) <= 20)) = true:=by rw [h0];rfl
  repeat' ((conv => whnf);first | apply And.intro | (intro h9;try (have h8 : (_ : Bool) = _:=h9;clear h8;revert h9;subst_vars;intro h9;exact aq h9 (by assumption))))
  all_goals try (conv => whnf)
  all_goals try first | (apply Tk.mk <;> kernel_rfl) | exact ⟨ah rfl⟩ | exact ⟨rfl⟩ | exact ⟨trivial⟩
  all_goals subst_vars
  all_goals try first | rfl | contradiction | (apply Ob.mk;first | (simp only [ag,ak,aa.ae];omega) | ((try simp only [aa.ae]);(try dsimp only);omega))
  all_goals first
   | trivial
   | exact True.intro
   | exact ⟨hl⟩
   | exact ⟨hz⟩
   | exact ⟨e3⟩
   | exact ⟨el⟩
   | exact ⟨g4⟩
 have n0 : (!decide ((L.length : Int) <= 20)) = false:=by rw [h0];rfl
 have hl0:=of_decide_eq_true h0
 have hl : L.length <= 1000000:=by omega
 obtain z1 | z1 : decide ((s.size : Int) > 400) = true \/ decide ((s.size : Int) > 400) = false:=by cases decide ((s.size : Int) > 400) <;> simp
 ·repeat' ((conv => whnf);first | apply And.intro | (intro h9;try (have h8 : (_ : Bool) = _:=h9;clear h8;revert h9;subst_vars;intro h9;exact aq h9 (by assumption))))
  all_goals try (conv => whnf)
  all_goals try first | (apply Tk.mk <;> kernel_rfl) | exact ⟨ah rfl⟩ | exact ⟨rfl⟩ | exact ⟨trivial⟩
  all_goals subst_vars
  all_goals try first | rfl | contradiction | (apply Ob.mk;first | (simp only [ag,ak,aa.ae];omega) | ((try simp only [aa.ae]);(try dsimp only);omega))
  all_goals first
   | trivial
   | exact True.intro
   | exact ⟨hl⟩
   | exact ⟨hz⟩
   | exact ⟨e3⟩
   | exact ⟨el⟩
   | exact ⟨g4⟩
 have hz : s.size <= 1000:=by have:=of_decide_eq_false z1;omega
 obtain d1 | d1 : pB s = false \/ pB s = true:=by cases pB s <;> simp
 ·obtain c1 | c1 : (bD n P L == 0) = false \/ (bD n P L == 0) = true:=by cases (bD n P L == 0) <;> simp
  ·repeat' ((conv => whnf);first | apply And.intro | (intro h9;try (have h8 : (_ : Bool) = _:=h9;clear h8;revert h9;subst_vars;intro h9;exact aq h9 (by assumption))))
   all_goals try (conv => whnf)
   all_goals try first | (apply Tk.mk <;> kernel_rfl) | exact ⟨ah rfl⟩ | exact ⟨rfl⟩ | exact ⟨trivial⟩
   all_goals subst_vars
   all_goals try first | rfl | contradiction | (apply Ob.mk;first | (simp only [ag,ak,aa.ae];omega) | ((try simp only [aa.ae]);(try dsimp only);omega))
   all_goals first
    | trivial
    | exact True.intro
    | exact ⟨hl⟩
    | exact ⟨hz⟩
    | exact ⟨e3⟩
    | exact ⟨el⟩
    | exact ⟨g4⟩
  obtain ⟨e1,e2,e3⟩:=ai7 c1
  have sm : (!gF (eY (vF n P L)).1 (eY (vF n P L)).2.1 (eY (vF n P L)).2.2 n P L) = false:=by rw [e2];show (!gF n P L n P L) = false;rw [nf];rfl
  have el : (eY (vF n P L)).2.2.length <= 1000000:=by rw [e2];exact hl
  clear e2
  repeat' ((conv => whnf);first | apply And.intro | (intro h9;try (have h8 : (_ : Bool) = _:=h9;clear h8;revert h9;subst_vars;intro h9;exact aq h9 (by assumption))))
  all_goals try (conv => whnf)
  all_goals try first | (apply Tk.mk <;> kernel_rfl) | exact ⟨ah rfl⟩ | exact ⟨rfl⟩ | exact ⟨trivial⟩
  all_goals subst_vars
  all_goals try first | rfl | contradiction | (apply Ob.mk;first | (simp only [ag,ak,aa.ae];omega) | ((try simp only [aa.ae]);(try dsimp only);omega))
  all_goals first
   | trivial
   | exact True.intro
   | exact ⟨hl⟩
   | exact ⟨hz⟩
   | exact ⟨e3⟩
   | exact ⟨el⟩
   | exact ⟨g4⟩
 obtain ⟨g1,g2,g3⟩:=ahT d1
 have g4 : (eY s).2.2.length <= 1000000:=by omega
 have g5 : ((vF (eY s).1 (eY s).2.1 (eY s).2.2).toList == s.toList) = true:=by rw [g2];exact air s
 clear g2
 obtain c1 | c1 : (bD n P L == 0) = false \/ (bD n P L == 0) = true:=by cases (bD n P L == 0) <;> simp
 ·repeat' ((conv => whnf);first | apply And.intro | (intro h9;try (have h8 : (_ : Bool) = _:=h9;clear h8;revert h9;subst_vars;intro h9;exact aq h9 (by assumption))))
  all_goals try (conv => whnf)
  all_goals try first | (apply Tk.mk <;> kernel_rfl) | exact ⟨ah rfl⟩ | exact ⟨rfl⟩ | exact ⟨trivial⟩
  all_goals subst_vars
  all_goals try first | rfl | contradiction | (apply Ob.mk;first | (simp only [ag,ak,aa.ae];omega) | ((try simp only [aa.ae]);(try dsimp only);omega))
  all_goals first
   | trivial
   | exact True.intro
   | exact ⟨hl⟩
   | exact ⟨hz⟩
   | exact ⟨e3⟩
   | exact ⟨el⟩
   | exact ⟨g4⟩
 obtain ⟨e1,e2,e3⟩:=ai7 c1
 have sm : (!gF (eY (vF n P L)).1 (eY (vF n P L)).2.1 (eY (vF n P L)).2.2 n P L) = false:=by rw [e2];show (!gF n P L n P L) = false;rw [nf];rfl
 have el : (eY (vF n P L)).2.2.length <= 1000000:=by rw [e2];exact hl
 clear e2
 repeat' ((conv => whnf);first | apply And.intro | (intro h9;try (have h8 : (_ : Bool) = _:=h9;clear h8;revert h9;subst_vars;intro h9;exact aq h9 (by assumption))))
 all_goals try (conv => whnf)
 all_goals try first | (apply Tk.mk <;> kernel_rfl) | exact ⟨ah rfl⟩ | exact ⟨rfl⟩ | exact ⟨trivial⟩
 all_goals subst_vars
 all_goals try first | rfl | contradiction | (apply Ob.mk;first | (simp only [ag,ak,aa.ae];omega) | ((try simp only [aa.ae]);(try dsimp only);omega))
 all_goals first
  | trivial
  | exact True.intro
  | exact ⟨hl⟩
  | exact ⟨hz⟩
  | exact ⟨e3⟩
  | exact ⟨el⟩
  | exact ⟨g4⟩)
end Go.Proofs.YthejmgnkenokpaaGreatDoor
end
