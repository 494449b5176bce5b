/-
  Texts of the claims on chapter 3: Yk9. No condition: lemmas and contracts.
-/
import Derived.Test.YthejmgnkenokpaaGreatDoorYk1
import Derived.Test.YthejmgnkenokpaaGreatDoorYk4
import Derived.Test.YthejmgnkenokpaaGreatDoorYk5
import Derived.Test.YthejmgnkenokpaaGreatDoorYk6
import Derived.Test.YthejmgnkenokpaaGreatDoorYk7
import Derived.Test.YthejmgnkenokpaaGreatDoorYk8
import Derived.KernelRfl
import Derived.Test.YthejmgnkenokpaaGreatDoorQ20
import Derived.Test.YthejmgnkenokpaaGreatDoorYk2
import Derived.Test.YthejmgnkenokpaaGreatDoorYk3
set_option linter.all false
set_option maxRecDepth 100000
set_option maxHeartbeats 4000000
section
namespace Go.Proofs.YthejmgnkenokpaaGreatDoor
open Go Go.Sy Go.bK
variable {Γ : bn}
abbrev bC : List Wk:=bp ++ [(0,1,1)]
theorem OH : (af bp 0 == [(0,false),(4,true)]) = true:=by decide +kernel
theorem OC : (aJ 2 (af bp 0) == [0,0,2,2]) = true:=by decide +kernel
theorem OI : (aU 2 (af bp 0) == [1,-1,1,-1]) = true:=by decide +kernel
theorem OG : (bh (eI 2 3 bp 0 (hF (aB 2 bp 0) [5,7])) 1 == [-5,5,-7,7]) = true:=by decide +kernel
theorem OB : (aJ 2 (af bp 0)).length = 4 /\ (aU 2 (af bp 0)).length = 4 /\ (af bp 0).length = 2 /\ (eI 2 3 bp 0 (hF (aB 2 bp 0) [5,7])).length = 3 /\ (bh (eI 2 3 bp 0 (hF (aB 2 bp 0) [5,7])) 1).length = 4:=by decide +kernel
theorem vZ : (bf 2 3 bp 0 == 0) = true:=by decide +kernel
theorem jq : (bf 2 3 bC 0 == 0) = true:=by decide +kernel
theorem L8 : (pb 2 3 bp 0 != 2) = false:=by decide +kernel
theorem Pq : lP 2 (af bp 0) = 2:=by decide +kernel
theorem Ig : lP 2 (af bC 0) = 0:=by decide +kernel
theorem L7 : (!o6 2 3 bC 0) = false:=by decide +kernel
theorem Pr : AP 2 bp 0 [5,7] = true:=by decide +kernel
theorem v7 : (bD 2 3 bp == 0) = true:=by decide +kernel
theorem L4 : (bD 2 3 bC == 0) = true:=by decide +kernel
theorem JU : ((cz 4 7 1).1 != 11) = false:=by decide +kernel
theorem JV : ((cz 4 7 1).2 != 0) = false:=by decide +kernel
theorem L5 : ((aY 1 4).1 != 5) = false:=by decide +kernel
theorem L6 : ((aY 1 4).2 != 0) = false:=by decide +kernel
theorem OF : vF 2 3 bp = { data:=#[115,104,111,112,32,50,32,51,10,119,111,114,107,32,48,32,49,32,48,10,119,111,114,107,32,49,32,50,32,48,10,119,111,114,107,32,50,32,48,32,52,10] }:=by
 unfold vF
 rw [v7]
 dsimp only
 rw [N5 (oe.1 (eq_of_beq v7)) _ (Nat.le_refl _)]
 kernel_rfl
theorem rU {L : List Wk} (h : (bf 2 3 L 0 == 0) = true) : gH (af L 0):=by
 obtain ⟨hw,hP,hp,hn⟩:=gg (eq_of_beq h)
 exact nK (cW.1 hw) hP hp
theorem OE : iE 2 (af bC 0):=(xN (rU jq) (by unfold bz;omega)).1 ((Ax (rU jq) (by unfold bz;omega)).symm.trans Ig)
theorem OD : ¬ iE 2 (af bp 0):=fun h => by
 have h1:=(xN (rU vZ) (by unfold bz;omega)).2 h
 rw [<- Ax (rU vZ) (by unfold bz;omega),Pq] at h1
 cases h1
theorem Ci : abz 2 bC 0 (jO 2 bC 0) = 0 /\ (jO 2 bC 0).length <= 16 /\ ∀ w ∈ jO 2 bC 0,bN bC w = true /\ w.length <= 95:=by
 obtain ⟨hw,hP,hp,hn⟩:=gg (eq_of_beq jq)
 exact N6 (cW.1 hw) hP hp OE
theorem H7 {L : List Wk} {W : List (List Int)} (h : ∀ w ∈ W,bN L w = true /\ w.length <= 96) : cK L W = 0:=by
 unfold cK
 have h1 : W.any fW = false:=List.any_eq_false.2 fun w hw => by
  have:=(h w hw).2
  simp only [fW,decide_eq_true_eq];omega
 have h2 : W.any (fun w => !bN L w) = false:=List.any_eq_false.2 fun w hw => by rw [(h w hw).1];simp
 rw [h1,h2]
theorem Mu {n P : Int} {L : List Wk} {p : Int} {W : List (List Int)} (ha : (bf n P L p == 0) = true) (hl : W.length <= 40) (hs : cK L W = 0) : jZ n P L p W = abz n L p W:=by
 unfold jZ
 rw [ha]
 dsimp only
 rw [decide_eq_false (by omega)]
 dsimp only
 rw [hs];rfl
theorem Mt {n P : Int} {L : List Wk} {p : Int} {W : List (List Int)} (h : jZ n P L p W = 0) : (bf n P L p == 0) = true /\ cK L W = 0 /\ abz n L p W = 0:=by
 unfold jZ at h
 cases h0 : bf n P L p == 0 <;> rw [h0] at h <;> dsimp only at h
 ·rw [h] at h0;cases h0
 ·cases h1 : decide ((W.length : Int) > 40) <;> rw [h1] at h <;> dsimp only at h
  ·cases h2 : cK L W == 0 <;> rw [h2] at h <;> dsimp only at h
   ·rw [h] at h2;cases h2
   ·exact ⟨rfl,eq_of_beq h2,h⟩
  ·cases h
theorem Oz : (jZ 2 3 bC 0 (jO 2 bC 0) == 0) = true:=by
 obtain ⟨h1,h2,h3⟩:=Ci
 rw [Mu jq (by omega) (H7 fun w hw => ⟨(h3 w hw).1,by have:=(h3 w hw).2;omega⟩),h1];rfl
theorem OA : (jZ 2 3 bp 0 (jO 2 bC 0) != 0) = true:=by
 rw [bne_iff_ne]
 intro h
 obtain ⟨ha,hs,hc⟩:=Mt h
 obtain ⟨hw,hP,hp,hn⟩:=gg (eq_of_beq ha)
 exact OD (K9 (cW.1 hw) hP hp hn (fun w hw => (tv hs w hw).1) hc)
def tC : au:=.fn fun args _ => match args with
 | [] => some ([],bl true)
 | _ => none
noncomputable def Qi : List (Nat × au):=[(38,Dg),(24,DL),(39,yc),(40,ZZ),(41,DK),(31,Hz),(42,F9),(43,zN),(44,qm),(32,Dd),(12,ql),(28,sQ),(26,uA),(45,jf),(46,qo),(47,r5),(48,mh),(49,xz),(50,tB)]
theorem KT : aR Tryz.prog Γ Qi:=(((((((((((((((((((aR.nil.cons (aj Tryz.func50 rfl rfl).fn sU).cons (aj Tryz.func49 rfl rfl).fn zQ).cons (aj Tryz.func48 rfl rfl).fn jy).cons (aj Tryz.func47 rfl rfl).fn oU).cons (aj Tryz.func46 rfl rfl).fn qp).cons (aj Tryz.func45 rfl rfl).fn fQ).cons (aj Tryz.func26 rfl rfl).fn yG).cons (aj Tryz.func28 rfl rfl).fn Z0).cons (aj Tryz.func12 rfl rfl).fn ux).cons (aj Tryz.func32 rfl rfl).fn EF).cons (aj Tryz.func44 rfl rfl).fn qn).cons (aj Tryz.func43 rfl rfl).fn xy).cons (aj Tryz.func42 rfl rfl).fn Ga).cons (aj Tryz.func31 rfl rfl).fn HA).cons (aj Tryz.func41 rfl rfl).fn Fb).cons (aj Tryz.func40 rfl rfl).fn zI).cons (aj Tryz.func39 rfl rfl).fn AX).cons (aj Tryz.func24 rfl rfl).fn Fc).cons (aj Tryz.func38 rfl rfl).fn EK)
noncomputable def OR : List (Nat × Body):=[(11,bo Tryz.f11)]
theorem IG : bq Tryz.prog OR:=(bq.nil.cons (cg Tryz.func11 rfl rfl))
attribute [local irreducible] bf eH af ap lP cL jQ Vr eI hF aB pb o6 AP bD cz aY vF jZ aJ aU jO tU bp
theorem sW : au.Ok Tryz.prog Γ 10 tC:=au.er (d:=3) (aP KT IG false 0) (aj Tryz.func10 rfl rfl) (by
 intro args rg q t hF hq
 split at hF
 next =>
  obtain ⟨rfl,rfl⟩:=Prod.mk.inj (Option.some.inj hF);clear hF
  refine ⟨rfl,[],[],[],⟨trivial,fun r g hg => by cases hg⟩,?_⟩
  have z0 : ((0 : Int) != 0) = false:=rfl
  have oz : bp.length = 3:=by unfold bp;rfl
  have DF : bC.length = 4:=by unfold bC;rw [List.length_append,oz];rfl
  have z1 : (bf 2 3 bp 0 != 0) = false:=by unfold bne;rw [vZ];rfl
  have z2 : (bf 2 3 bC 0 != 0) = false:=by unfold bne;rw [jq];rfl
  have z3 : (bD 2 3 bp != 0) = false:=by unfold bne;rw [v7];rfl
  have z4 : (lP 2 (af bC 0) != 0) = false:=by rw [Ig];rfl
  have z5 : (((Int.toNat 3 : Nat) : Int) != 3) = false:=rfl
  obtain ⟨hw,hP,hp,hn⟩:=gg (eq_of_beq jq)
  have hl : bC.length <= 1000000:=by omega
  have Vo:=rU jq
  have hgo : ∀ g ∈ af bC 0,0 <= g.1 /\ g.1 <= 7:=Vo.ok
  have x1:=OH;have x2:=OC;have x3:=OI;have x4:=OG;have x5:=vZ;have x6:=jq;have x7:=L8
  have x8:=L7;have x9:=Pr;have y1:=v7;have y2:=L4;have y3:=JU;have y4:=JV;have y5:=L5;have y6:=L6
  repeat' ((conv => whnf);first | apply And.intro | (intro h9;try (have h8 : (_ : Bool) = _:=h9;clear h8;revert h9;subst_vars;intro h9;exact aq h9 (by assumption))))
  all_goals try (conv => whnf)
  all_goals try first | (apply Tk.mk <;> kernel_rfl) | exact ⟨ah rfl⟩ | exact ⟨rfl⟩ | exact ⟨trivial⟩
  all_goals subst_vars
  all_goals try first | rfl | contradiction | (apply Ob.mk;first | (simp only [ag,ak,aa.ae];omega) | ((try simp only [aa.ae]);(try dsimp only);omega))
  all_goals try first
   | exact ⟨show bp.length + 1 = bC.length by omega⟩
   | exact ⟨oz.symm⟩
   | exact ⟨show bp.length <= 1000000 by omega⟩
   | exact ⟨show bC.length <= 1000000 by omega⟩
   | exact ⟨show bp.length <= 900000 by omega⟩
   | exact ⟨hw⟩
   | exact ⟨show -9223372036854775808 <= ((af bC 0).length : Int) - 1 /\ ((af bC 0).length : Int) - 1 <= 9223372036854775807 by have:=fj bC 0;omega⟩
  have Sm : bp.length + 1 = bC.length:=by omega
  refine ⟨Nat × List Sg,fun s => s.1 <= s.2.length /\ s.2.length <= 16 /\ (∀ g ∈ s.2,g ∈ (af bC 0)) /\ jQ 2 s.1 s.2 = tU 2 (af bC 0),fun s => ⟨aI 67 [1,2,7,8,9] [.a (vI 0),.a (.p 9 [] 0 0),.a (.mp 10),.a (.sl 11 [] 0 s.2.length),.a (vI ((s.1 : Int) - 1))],[aI 170 [1,2,4,5,9,11,15,16,17,18] [.a (.p 1 [] 0 0),.a (.sl 2 [] 0 (af bp 0).length),.a (.sl 3 [] 0 4),.a (.sl 4 [] 0 4),.a (.sl 6 [] 0 3),.a (.p 8 [] 0 0),.a (vI (cz 4 7 1).1),.a (vI (cz 4 7 1).2),.a (vI (aY 1 4).1),.a (vI (aY 1 4).2)]],[.arr 46 kW bp true true,.box true [vI 2,vI 3,.sl 0 [] 0 3],.arr 48 kG (af bp 0) true true,.arr 3 kI (aJ 2 (af bp 0)) true true,.arr 3 kI (aU 2 (af bp 0)) true true,.dead,.arr 49 kT (eI 2 3 bp 0 (hF (aB 2 bp 0) [5,7])) true true,.arr 46 kW bC true true,.box true [vI 2,vI 3,.sl 7 [] 0 (bp.length + 1)],.box true [vI 2,vI 3,.sl 7 [] 0 (bC).length],.bH 82 kX 3 kI (ap bC 0) true true,.arr 48 kG s.2 false false]⟩,fun s => s.1,((af bC 0).length,(af bC 0)),[0,1,2,3,4,5,6,7,8,9,10,11],⟨Nat.le_refl _,fj _ _,fun g hg => hg,LC _ _⟩,?_,?_⟩
  ·repeat' ((conv => whnf);(first | apply And.intro | intro _))
   all_goals first | rfl | trivial | exact ah rfl | exact aS ‹_› rfl | exact aT ‹_› rfl | ((repeat' first | rfl | constructor);done) | assumption
  rintro ⟨i,l⟩ ⟨hi,Np,hls,hr⟩
  dsimp only at hi Np hls hr
  cases i with
  | succ i =>
    have p0 : decide ((((i + 1 : Nat) : Int) - 1) >= 0) = true:=decide_eq_true (by omega)
    have hx:=NY l i
    have aaj : (ac6 l i).length = l.length - 1:=by rw [hx,List.length_append,List.length_take,List.length_drop];omega
    have hxs : ∀ g ∈ ac6 l i,g ∈ l:=fun g hg => by
     rw [hx] at hg
     rcases List.mem_append.1 hg with hg | hg
     ·exact List.mem_of_mem_take hg
     ·exact List.mem_of_mem_drop hg
    have hfl : (ac6 l i).length <= 1000000:=by omega
    have hfg : ∀ g ∈ ac6 l i,0 <= g.1 /\ g.1 <= 7:=fun g hg => hgo g (hls g (hxs g hg))
    rw [JC,<- hx] at hr
    cases hb : eH 2 (ac6 l i) <;> rw [hb] at hr <;> dsimp only at hr
    ·repeat' ((conv => whnf);first | apply And.intro | (intro h9;try (have h8 : (_ : Bool) = _:=h9;clear h8;revert h9;subst_vars;intro h9;exact aq h9 (by assumption))))
     all_goals try (conv => whnf)
     all_goals try first | (apply Tk.mk <;> kernel_rfl) | exact ⟨ah rfl⟩ | exact ⟨rfl⟩ | exact ⟨trivial⟩
     all_goals subst_vars
     all_goals try first | rfl | contradiction | (apply Ob.mk;first | (simp only [ag,ak,aa.ae];omega) | ((try simp only [aa.ae]);(try dsimp only);omega))
     all_goals try first
      | exact ⟨show 0 + 0 + ((((i + 1 : Nat) : Int) - 1).toNat - 0) <= l.length by omega⟩
      | exact ⟨show 0 + (((i + 1 : Nat) : Int) - 1 + 1).toNat + (l.length - (((i + 1 : Nat) : Int) - 1 + 1).toNat) <= l.length by omega⟩
      | exact ⟨hfl⟩
      | exact ⟨hfg⟩
     refine ⟨(i,l),[0,1,2,3,4,5,6,7,8,9,10,11],⟨by show i <= l.length;omega,Np,hls,hr⟩,?_,by show i < i + 1;omega⟩
     repeat' ((conv => whnf);(first | apply And.intro | intro _))
     all_goals first | rfl | trivial | exact ah rfl | exact aS ‹_› rfl | exact aT ‹_› rfl | ((repeat' first | rfl | constructor);done) | exact idx i
    repeat' ((conv => whnf);first | apply And.intro | (intro h9;try (have h8 : (_ : Bool) = _:=h9;clear h8;revert h9;subst_vars;intro h9;exact aq h9 (by assumption))))
    all_goals try (conv => whnf)
    all_goals try first | (apply Tk.mk <;> kernel_rfl) | exact ⟨ah rfl⟩ | exact ⟨rfl⟩ | exact ⟨trivial⟩
    all_goals subst_vars
    all_goals try first | rfl | contradiction | (apply Ob.mk;first | (simp only [ag,ak,aa.ae];omega) | ((try simp only [aa.ae]);(try dsimp only);omega))
    all_goals try first
     | exact ⟨show 0 + 0 + ((((i + 1 : Nat) : Int) - 1).toNat - 0) <= l.length by omega⟩
     | exact ⟨show 0 + (((i + 1 : Nat) : Int) - 1 + 1).toNat + (l.length - (((i + 1 : Nat) : Int) - 1 + 1).toNat) <= l.length by omega⟩
     | exact ⟨hfl⟩
     | exact ⟨hfg⟩
    refine ⟨(i,ac6 l i),[0,1,2,3,4,5,6,7,8,9,10,13],⟨by show i <= (ac6 l i).length;omega,by show (ac6 l i).length <= 16;omega,fun g hg => hls g (hxs g hg),hr⟩,?_,by show i < i + 1;omega⟩
    repeat' ((conv => whnf);(first | apply And.intro | intro _))
    all_goals first | rfl | trivial | exact ah rfl | exact aS ‹_› rfl | exact aT ‹_› rfl | ((repeat' first | rfl | constructor);done) | exact idx i
  | zero =>
  rw [JD] at hr
  have p0 : decide ((((0 : Nat) : Int) - 1) >= 0) = false:=rfl
  have hz : jO 2 bC 0 = l.map (Vr bC 0):=by rw [LD,<- hr]
  clear hr
  repeat' ((conv => whnf);first | apply And.intro | (intro h9;try (have h8 : (_ : Bool) = _:=h9;clear h8;revert h9;subst_vars;intro h9;exact aq h9 (by assumption))))
  all_goals try (conv => whnf)
  all_goals try first | (apply Tk.mk <;> kernel_rfl) | exact ⟨ah rfl⟩ | exact ⟨rfl⟩ | exact ⟨trivial⟩
  all_goals subst_vars
  all_goals try first | rfl | contradiction | (apply Ob.mk;first | (simp only [ag,ak,aa.ae];omega) | ((try simp only [aa.ae]);(try dsimp only);omega))
  refine ⟨Nat,fun i => i <= l.length,fun i => ⟨aI 67 [1,7,11,51,52,53] [.a (vI 0),.a (.mp 10),.a (.sl 12 [] 0 ((l.take i).map (Vr bC 0)).length),.a (.sl 11 [] 0 l.length),.a (vI l.length),.a (vI i)],[aI 170 [1,2,4,5,9,11,15,16,17,18] [.a (.p 1 [] 0 0),.a (.sl 2 [] 0 (af bp 0).length),.a (.sl 3 [] 0 4),.a (.sl 4 [] 0 4),.a (.sl 6 [] 0 3),.a (.p 8 [] 0 0),.a (vI (cz 4 7 1).1),.a (vI (cz 4 7 1).2),.a (vI (aY 1 4).1),.a (vI (aY 1 4).2)]],[.arr 46 kW bp true true,.box true [vI 2,vI 3,.sl 0 [] 0 3],.arr 48 kG (af bp 0) true true,.arr 3 kI (aJ 2 (af bp 0)) true true,.arr 3 kI (aU 2 (af bp 0)) true true,.dead,.arr 49 kT (eI 2 3 bp 0 (hF (aB 2 bp 0) [5,7])) true true,.arr 46 kW bC true true,.box true [vI 2,vI 3,.sl 7 [] 0 (bp.length + 1)],.box true [vI 2,vI 3,.sl 7 [] 0 (bC).length],.bH 82 kX 3 kI (ap bC 0) false false,.arr 48 kG l false false,.arr 49 kT ((l.take i).map (Vr bC 0)) true false]⟩,fun i => l.length - i,0,[0,1,2,3,4,5,6,7,8,9,10,11,1000],Nat.zero_le _,?_,?_⟩
  ·repeat' ((conv => whnf);(first | apply And.intro | intro _))
   all_goals first | rfl | trivial | exact ah rfl | exact aS ‹_› rfl | exact aT ‹_› rfl | ((repeat' first | rfl | constructor);done) | assumption
  clear hi
  rintro i hi
  by_cases hi1 : i < l.length
  ·have p1 : decide ((i : Int) < (l.length : Int)) = true:=decide_eq_true (by omega)
   have PP:=Jn (L:=bC) (p:=0) hi1
   have hml:=congrArg List.length PP
   rw [List.length_append,List.length_singleton] at hml
   have es:=rL l i
   have qQ : bI l i ∈ (af bC 0):=by rw [es];exact hls _ (aaq hi1)
   have oy : br kX ((0,(bI l i).1,(bI l i).2) : Sp) (ap bC 0) < (ap bC 0).length:=A4 ((kD (cW.1 hw) hP hp).2 ((eo (cW.1 hw) hP hp).1 qQ))
   have PU : ((ap bC 0).getD (br kX ((0,(bI l i).1,(bI l i).2) : Sp) (ap bC 0)) aG).2 = Vr bC 0 (sg l i):=by
    rw [<- es]
    unfold Vr
    rw [<- A2 (p:=0) (g:=bI l i)]
    rfl
   have hel : List.drop 0 ((l.take i).map (Vr bC 0)) ++ List.take 1 (List.drop 0 [List.take ((ap bC 0).getD (br kX ((0,(bI l i).1,(bI l i).2) : Sp) (ap bC 0)) aG).2.length (List.drop 0 ((ap bC 0).getD (br kX ((0,(bI l i).1,(bI l i).2) : Sp) (ap bC 0)) aG).2)]) = (l.take (i + 1)).map (Vr bC 0):=by
    rw [PU,PP,List.drop_zero,List.drop_zero,List.drop_zero,List.take_length];rfl
   have Kp : ((l.take i).map (Vr bC 0)).length <= 16:=by rw [List.length_map,List.length_take];omega
   clear PU
   repeat' ((conv => whnf);first | apply And.intro | (intro h9;try (have h8 : (_ : Bool) = _:=h9;clear h8;revert h9;subst_vars;intro h9;exact aq h9 (by assumption))))
   all_goals try (conv => whnf)
   all_goals try first | (apply Tk.mk <;> kernel_rfl) | exact ⟨ah rfl⟩ | exact ⟨rfl⟩ | exact ⟨trivial⟩
   all_goals subst_vars
   all_goals try first | rfl | contradiction | (apply Ob.mk;first | (simp only [ag,ak,aa.ae];omega) | ((try simp only [aa.ae]);(try dsimp only);omega))
   all_goals try first
    | exact ⟨oy⟩
    | exact ⟨Nat.zero_add _⟩
    | exact ⟨show (((l.take i).map (Vr bC 0)).length + 1) * 1 <= 1099511627776 by omega⟩
    | exact ⟨show 0 + Int.toNat (i : Int) < l.length by omega⟩
   refine ⟨i + 1,[0,1,2,3,4,5,6,7,8,9,10,11,12],hi1,?_,by show l.length - (i + 1) < l.length - i;omega⟩
   repeat' ((conv => whnf);(first | apply And.intro | intro _))
   all_goals first | rfl | trivial | exact ah rfl | exact aS ‹_› rfl | exact aT ‹_› rfl | ((repeat' first | rfl | constructor);done) | exact hml.symm | exact ⟨rfl,rfl,hel⟩
  have p1 : decide ((i : Int) < (l.length : Int)) = false:=decide_eq_false (by omega)
  obtain rfl : i = l.length:=by omega
  have pU : (l.take l.length).map (Vr bC 0) = jO 2 bC 0:=by rw [List.take_length];exact hz.symm
  clear hz hi1
  have c1 : (jZ 2 3 bC 0 ((l.take l.length).map (Vr bC 0)) == 0) = true:=by rw [pU];exact Oz
  have c2 : (jZ 2 3 bp 0 ((l.take l.length).map (Vr bC 0)) != 0) = true:=by rw [pU];exact OA
  have DA : ((l.take l.length).map (Vr bC 0)).length <= 1000000:=by rw [pU];have:=Ci.2.1;omega
  have DB : ∀ w ∈ (l.take l.length).map (Vr bC 0),w.length <= 1000000:=by rw [pU];intro w hw;have:=(Ci.2.2 w hw).2;omega
  have y7 : (!((vF 2 3 bp).toList == ByteArray.toList { data:=#[115,104,111,112,32,50,32,51,10,119,111,114,107,32,48,32,49,32,48,10,119,111,114,107,32,49,32,50,32,48,10,119,111,114,107,32,50,32,48,32,52,10] })) = false:=by rw [OF];simp
  obtain ⟨v1,v2,v3,v4,v5⟩:=OB
  repeat' ((conv => whnf);first | apply And.intro | (intro h9;try (have h8 : (_ : Bool) = _:=h9;clear h8;revert h9;subst_vars;intro h9;exact aq h9 (by assumption))))
  all_goals try (conv => whnf)
  all_goals try first | (apply Tk.mk <;> kernel_rfl) | exact ⟨ah rfl⟩ | exact ⟨rfl⟩ | exact ⟨trivial⟩
  all_goals subst_vars
  all_goals try first | rfl | contradiction | (apply Ob.mk;first | (simp only [ag,ak,aa.ae];omega) | ((try simp only [aa.ae]);(try dsimp only);omega))
  all_goals first
   | trivial
   | exact ⟨DA⟩
   | exact ⟨DB⟩
   | exact ⟨show (aJ 2 (af bp 0)).length <= 1000000 by omega⟩
   | exact ⟨show (aU 2 (af bp 0)).length <= 1000000 by omega⟩
   | exact ⟨show (af bp 0).length <= 1000000 by omega⟩
   | exact ⟨show (bh (eI 2 3 bp 0 (hF (aB 2 bp 0) [5,7])) 1).length <= 1000000 by omega⟩
   | exact ⟨show 0 + Int.toNat 1 < (eI 2 3 bp 0 (hF (aB 2 bp 0) [5,7])).length by omega⟩
   | exact ⟨v1.symm⟩
   | exact ⟨v2.symm⟩
   | exact ⟨show bp.length + 1 = bC.length by omega⟩
   | exact ⟨oz.symm⟩
   | exact ⟨show bp.length <= 1000000 by omega⟩
   | exact ⟨show bC.length <= 1000000 by omega⟩
 next => cases hF)
end Go.Proofs.YthejmgnkenokpaaGreatDoor
end
section
namespace Go.Proofs.YthejmgnkenokpaaGreatDoor
open Go Go.Sy Go.bK
variable {Γ : bn}
theorem TM {n : Int} {A B : List Int} {t : Int} {N j : Nat} (h : j < N) : gi (ur n A B t N) j = SN n A B t (j : Nat):=by simp [gi,ur,h]
attribute [local irreducible] aQ SD
end Go.Proofs.YthejmgnkenokpaaGreatDoor
end
section
namespace Go.Proofs.YthejmgnkenokpaaGreatDoor
open Go Go.Sy Go.bK
variable {Γ : bn}
def Y3 (D : List (List Int) -> Int -> Int -> List aa) (F : List (List Int) -> Int -> Int -> Tm) : au:=.fn fun args rg => match args with
 | [.a x0,.a (.v (.int .i64 n0)),.a (.v (.int .i64 n1))] => (match ac1 49 kT rg x0 with | some (q0,L0) => some (q0 ++ (D L0 n0 n1),F L0 n0 n1) | _ => none)
 | _ => none
theorem YF {f : FuncId} {b : Body} {E : Env} {d : Nat} (hP : aL Tryz.prog Γ E) (hb : bQ Tryz.prog f b) {D : List (List Int) -> Int -> Int -> List aa} {F : List (List Int) -> Int -> Int -> Tm} (hp : ∀ (L0 : List (List Int)) (n0 : Int) (n1 : Int),(F L0 n0 n1).plain = true)
  (H : ∀ (L0 : List (List Int)) (n0 : Int) (n1 : Int),bW (D L0 n0 n1) -> cQ E d b [.a (.sl 0 [] 0 L0.length),.a (vI n0),.a (vI n1)] [.arr 49 kT L0 false false] (fun x _ => iL x (F L0 n0 n1))) : au.Ok Tryz.prog Γ f (Y3 D F):=au.er (d:=d) hP hb (by
 intro args rg q t hF hq
 split at hF
 next x0 n0 n1 =>
  split at hF
  next q0 L0 hx0 =>
   obtain ⟨rfl,rfl⟩:=Prod.mk.inj (Option.some.inj hF);clear hF
   rw [aH] at hq
   obtain ⟨dm,hD⟩:=hq
   obtain ⟨e0,Vn⟩:=bP (by simp [kT]) hx0 dm
   obtain ⟨p0,r0⟩:=Vn [e0] 0 1 rfl (by omega)
   refine ⟨hp _ _ _,[e0],[.a (.sl 0 [] 0 L0.length),.a (vI n0),.a (vI n1)],[.arr 49 kT L0 false false],⟨⟨p0,rfl,rfl,trivial⟩,fun r g hg => ?_⟩,H _ _ _ hD⟩
   match r,hg with
   | 0,hg => obtain rfl:=Option.some.inj hg;exact r0
  next => cases hF
 next => cases hF)
theorem Xy {l : List Int} : ∀ k j : Nat,j <= k -> VP l k <= gi l j
 | 0,j,h => by
   obtain rfl : j = 0:=by omega
   rw [VP];exact Int.le_of_eq (dP l 0)
 | k + 1,j,h => by
   rw [VP,dP]
   rcases Nat.lt_or_ge j (k + 1) with h1 | h1
   ·have:=Xy (l:=l) k j (by omega)
    split <;> omega
   ·obtain rfl : j = k + 1:=by omega
    split <;> omega
theorem Xz {l : List Int} : ∀ k j : Nat,j <= k -> gi l j <= SO l k
 | 0,j,h => by
   obtain rfl : j = 0:=by omega
   rw [SO];exact Int.le_of_eq (dP l 0).symm
 | k + 1,j,h => by
   rw [SO,dP]
   rcases Nat.lt_or_ge j (k + 1) with h1 | h1
   ·have:=Xz (l:=l) k j (by omega)
    split <;> omega
   ·obtain rfl : j = k + 1:=by omega
    split <;> omega
theorem XQ {l : List Int} {c : Int} : ∀ k : Nat,(∀ j : Nat,j <= k -> gi l j = c) -> VP l k = c /\ SO l k = c
 | 0,h => by
   have e:=(dP l 0).trans (h 0 (Nat.le_refl _))
   rw [VP,SO];exact ⟨e,e⟩
 | k + 1,h => by
   obtain ⟨h1,h2⟩:=XQ (l:=l) k (fun j hj => h j (by omega))
   rw [VP,SO,dP,h1,h2,h (k + 1) (Nat.le_refl _)]
   simp
def hX (X : List (List Int)) (q x : Int) : Int:=gi (bh X q) x
theorem VT (X : List (List Int)) (q x : Int) : KC X q x = hX X q x:=by unfold KC hX gi;rw [Nat.zero_add];rfl
theorem W1 {n : Int} {X : List (List Int)} {w : Wk} {j : Nat} (hj : j < (n * n).toNat) : gi (VQ n X w) j = hX X w.1 (j : Nat) + hX X w.2.1 (aX n w.2.2 (j : Nat)):=by
 unfold VQ
 rw [TM hj,UC]
 rfl
theorem Xu {n : Int} (hn : bz n) {X : List (List Int)} {w : Wk} : Vv n X w = true <-> Yw n (hX X) w:=by
 have hp : 0 < n * n:=(gM hn).2
 have hN : (VQ n X w).length - 1 = (n * n).toNat - 1:=by rw [YS]
 unfold Vv Yw
 rw [hN,beq_iff_eq]
 have e0 : gi (VQ n X w) (0 : Nat) = hX X w.1 0 + hX X w.2.1 (aX n w.2.2 0):=W1 (by omega)
 constructor
 ·intro h x hx
  obtain ⟨k,hk,rfl⟩:=(ic hn).1 hx
  rw [<- W1 hk,<- e0]
  have a1:=Xy (l:=VQ n X w) ((n * n).toNat - 1) k (by omega)
  have a2:=Xz (l:=VQ n X w) ((n * n).toNat - 1) k (by omega)
  have b1:=Xy (l:=VQ n X w) ((n * n).toNat - 1) 0 (by omega)
  have b2:=Xz (l:=VQ n X w) ((n * n).toNat - 1) 0 (by omega)
  omega
 ·intro h
  obtain ⟨h1,h2⟩:=XQ (l:=VQ n X w) (c:=gi (VQ n X w) (0 : Nat)) ((n * n).toNat - 1) (fun j hj => by
   rw [W1 (by omega),e0];exact h _ ((ic hn).2 ⟨j,by omega,rfl⟩))
  rw [h1,h2]
def VC (X : List (List Int)) (m k : Int) : Bool:=decide ((X.length : Int) <= m) && X.all (fun l => decide ((l.length : Int) <= k))
theorem XP {X : List (List Int)} {m k : Int} (h : VC X m k = true) : (X.length : Int) <= m /\ ∀ l ∈ X,(l.length : Int) <= k:=by
 unfold VC at h
 simp only [Bool.and_eq_true,decide_eq_true_eq,List.all_eq_true] at h
 exact h
def Wn : au:=Y3 (fun _ m _ => [(aa.of (0 <= m /\ m <= 1000))]) (fun X m k => bl (VC X m k))
theorem Wh : au.Ok Tryz.prog Γ 9 Wn:=YF (d:=0) (aP aR.nil bq.nil false 0) (aj Tryz.func9 rfl rfl) (fun _ _ _ => rfl) (by
 intro X m k ⟨hm,_⟩
 simp only [aa.ae] at hm
 obtain h0 | h0 : decide ((X.length : Int) > m) = true \/ decide ((X.length : Int) > m) = false:=by cases decide ((X.length : Int) > m) <;> simp
 ·have h1:=of_decide_eq_true h0
  rw [show VC X m k = false by unfold VC;rw [decide_eq_false (by omega)];rfl]
  repeat' ((conv => whnf);first | apply And.intro | (intro h9;try (have h8 : (_ : Bool) = _:=h9;clear h8;revert h9;subst_vars;intro h9;exact aq h9 (by assumption))))
  all_goals try (conv => whnf)
  all_goals try first | (apply Tk.mk <;> kernel_rfl) | exact ⟨ah rfl⟩ | exact ⟨rfl⟩ | exact ⟨trivial⟩
  all_goals subst_vars
  all_goals try first | rfl | contradiction | (apply Ob.mk;first | (simp only [ag,ak,aa.ae];omega) | ((try simp only [aa.ae]);(try dsimp only);omega))
 have h1:=of_decide_eq_false h0
 rw [show VC X m k = X.all (fun l => decide ((l.length : Int) <= k)) by unfold VC;rw [decide_eq_true (by omega)];rfl]
 repeat' ((conv => whnf);first | apply And.intro | (intro h9;try (have h8 : (_ : Bool) = _:=h9;clear h8;revert h9;subst_vars;intro h9;exact aq h9 (by assumption))))
 all_goals try (conv => whnf)
 all_goals try first | (apply Tk.mk <;> kernel_rfl) | exact ⟨ah rfl⟩ | exact ⟨rfl⟩ | exact ⟨trivial⟩
 all_goals subst_vars
 all_goals try first | rfl | contradiction | (apply Ob.mk;first | (simp only [ag,ak,aa.ae];omega) | ((try simp only [aa.ae]);(try dsimp only);omega))
 refine ⟨Nat,fun i => i <= X.length /\ X.all (fun l => decide ((l.length : Int) <= k)) = (X.drop i).all (fun l => decide ((l.length : Int) <= k)),fun i => ⟨aI 25 [0,2,7] [.a (.sl 0 [] 0 X.length),.a (vI k),.a (vI i)],[],[.arr 49 kT X false false]⟩,fun i => X.length - i,0,[],⟨Nat.zero_le _,rfl⟩,?_,?_⟩
 ·repeat' ((conv => whnf);(first | apply And.intro | intro _))
  all_goals first | rfl | trivial | exact ah rfl | exact aS ‹_› rfl | exact aT ‹_› rfl | ((repeat' first | rfl | constructor);done)
 rintro i ⟨hi,hf⟩
 by_cases hi1 : i < X.length
 ·have p0 : decide ((i : Int) < (X.length : Int)) = true:=decide_eq_true (by omega)
  have gr:=wV X i
  obtain hb | hb : decide (((bh X i).length : Int) > k) = false \/ decide (((bh X i).length : Int) > k) = true:=by cases decide (((bh X i).length : Int) > k) <;> simp
  ·have e2:=of_decide_eq_false hb
   have jH:=hf.trans (C7 hi1 (d:=[]) (by show decide (((gL X i).length : Int) <= k) = true;rw [<- gr];exact decide_eq_true (by omega)))
   repeat' ((conv => whnf);first | apply And.intro | (intro h9;try (have h8 : (_ : Bool) = _:=h9;clear h8;revert h9;subst_vars;intro h9;exact aq h9 (by assumption))))
   all_goals try (conv => whnf)
   all_goals try first | (apply Tk.mk <;> kernel_rfl) | exact ⟨ah rfl⟩ | exact ⟨rfl⟩ | exact ⟨trivial⟩
   all_goals subst_vars
   all_goals try first | rfl | contradiction | (apply Ob.mk;first | (simp only [ag,ak,aa.ae];omega) | ((try simp only [aa.ae]);(try dsimp only);omega))
   all_goals try first
    | exact ⟨show 0 + Int.toNat (i : Int) < X.length by omega⟩
   refine ⟨i + 1,[],⟨hi1,jH⟩,?_,by show X.length - (i + 1) < X.length - i;omega⟩
   repeat' ((conv => whnf);(first | apply And.intro | intro _))
   all_goals first | rfl | trivial | exact ah rfl | exact aS ‹_› rfl | exact aT ‹_› rfl | ((repeat' first | rfl | constructor);done)
  have e2:=of_decide_eq_true hb
  rw [hf.trans (zw hi1 (d:=[]) (by show decide (((gL X i).length : Int) <= k) = false;rw [<- gr];exact decide_eq_false (by omega)))]
  repeat' ((conv => whnf);first | apply And.intro | (intro h9;try (have h8 : (_ : Bool) = _:=h9;clear h8;revert h9;subst_vars;intro h9;exact aq h9 (by assumption))))
  all_goals try (conv => whnf)
  all_goals try first | (apply Tk.mk <;> kernel_rfl) | exact ⟨ah rfl⟩ | exact ⟨rfl⟩ | exact ⟨trivial⟩
  all_goals subst_vars
  all_goals try first | rfl | contradiction | (apply Ob.mk;first | (simp only [ag,ak,aa.ae];omega) | ((try simp only [aa.ae]);(try dsimp only);omega))
  all_goals first
   | exact ⟨show 0 + Int.toNat (i : Int) < X.length by omega⟩
 have p0 : decide ((i : Int) < (X.length : Int)) = false:=decide_eq_false (by omega)
 rw [hf.trans (C6 (by omega))]
 repeat' ((conv => whnf);first | apply And.intro | (intro h9;try (have h8 : (_ : Bool) = _:=h9;clear h8;revert h9;subst_vars;intro h9;exact aq h9 (by assumption))))
 all_goals try (conv => whnf)
 all_goals try first | (apply Tk.mk <;> kernel_rfl) | exact ⟨ah rfl⟩ | exact ⟨rfl⟩ | exact ⟨trivial⟩
 all_goals subst_vars
 all_goals try first | rfl | contradiction | (apply Ob.mk;first | (simp only [ag,ak,aa.ae];omega) | ((try simp only [aa.ae]);(try dsimp only);omega)))
end Go.Proofs.YthejmgnkenokpaaGreatDoor
end
section
namespace Go.Proofs.YthejmgnkenokpaaGreatDoor
open Go Go.Sy Go.bK
variable {Γ : bn}
def Wy : au:=X7 (fun n _ _ X => [(aa.of (1 <= n /\ n <= 6)),(aa.of (X.length <= 1000000)),(aa.of (∀ w ∈ X,w.length <= 1000000))]) (fun n P _ X => bl (Vw n P X))
noncomputable def acR : List (Nat × au):=[(62,Tz)]
theorem acK : aR Tryz.prog Γ acR:=(aR.nil.cons (aj Tryz.func62 rfl rfl).fn TF)
attribute [local irreducible] SD
theorem acH : au.Ok Tryz.prog Γ 19 Wy:=Xe (d:=0) (aP acK bq.nil false 0) (aj Tryz.func19 rfl rfl) (fun _ _ _ _ => rfl) (by
 intro n P L X ⟨hn,hX,hv,_⟩
 simp only [aa.ae] at hn hX hv
 repeat' ((conv => whnf);first | apply And.intro | (intro h9;try (have h8 : (_ : Bool) = _:=h9;clear h8;revert h9;subst_vars;intro h9;exact aq h9 (by assumption))))
 all_goals try (conv => whnf)
 all_goals try first | (apply Tk.mk <;> kernel_rfl) | exact ⟨ah rfl⟩ | exact ⟨rfl⟩ | exact ⟨trivial⟩
 all_goals subst_vars
 all_goals try first | rfl | contradiction | (apply Ob.mk;first | (simp only [ag,ak,aa.ae];omega) | ((try simp only [aa.ae]);(try dsimp only);omega))
 all_goals try first
  | exact True.intro
  | exact ⟨hn⟩
  | exact ⟨hX⟩
  | exact ⟨hl⟩
  | exact ⟨hv⟩
  | exact ⟨ht⟩
  | exact ⟨hA⟩
  | exact ⟨hB⟩
  | exact ⟨gv⟩
  | exact ⟨Td⟩
  | exact ⟨hM⟩
  | exact ⟨lS⟩
  | exact ⟨o0⟩
  | exact ⟨o1⟩
  | exact ⟨show 0 <= (i : Int) /\ (i : Int) < (X.length : Int) by omega⟩
  | exact ⟨show 0 + Int.toNat (i : Int) < X.length by omega⟩
  | exact ⟨show 0 <= (i : Int) /\ (i : Int) < (L.length : Int) by omega⟩
  | exact ⟨show 0 + Int.toNat (i : Int) < L.length by omega⟩
  | exact ⟨show 0 + Int.toNat a < X.length by omega⟩
  | exact ⟨show 0 + Int.toNat b < X.length by omega⟩
  | exact ⟨show 0 <= (0 : Int) /\ (0 : Int) < ((bh X a).length : Int) by omega⟩
  | exact ⟨show 0 + Int.toNat (0 : Int) < (bh X a).length by omega⟩
  | exact ⟨show 0 <= (i : Int) /\ (i : Int) < ((bh X a).length : Int) by omega⟩
  | exact ⟨show 0 + Int.toNat (i : Int) < (bh X a).length by omega⟩
  | exact ⟨show 0 <= aX n t 0 /\ aX n t 0 < ((bh X b).length : Int) by omega⟩
  | exact ⟨show 0 + Int.toNat (aX n t 0) < (bh X b).length by omega⟩
  | exact ⟨show 0 <= aX n t i /\ aX n t i < ((bh X b).length : Int) by omega⟩
  | exact ⟨show 0 + Int.toNat (aX n t i) < (bh X b).length by omega⟩
  | (apply Ob.mk;show (ag .i64 _).p;simp only [ag,ak,aa.ae];omega)
 refine ⟨Nat,fun i => i <= X.length /\ X.any (fun l => !SD n l) = (X.drop i).any (fun l => !SD n l),fun i => ⟨aI 27 [1,2,5] [.a (.sl 1 [] 0 X.length),.a (.p 2 [] 0 0),.a (vI i)],[],[.arr 46 kW L false false,.arr 49 kT X false false,.box true [vI n,vI P,.sl 0 [] 0 L.length]]⟩,fun i => X.length - i,0,[],⟨Nat.zero_le _,rfl⟩,?_,?_⟩
 ·repeat' ((conv => whnf);(first | apply And.intro | intro _))
  all_goals first | rfl | trivial | exact ah rfl | exact aS ‹_› rfl | exact aT ‹_› rfl | ((repeat' first | rfl | constructor);done)
 rintro i ⟨hi,hf⟩
 by_cases hi1 : i < X.length
 ·have p0 : decide ((i : Int) < (X.length : Int)) = true:=decide_eq_true (by omega)
  have gr:=wV X i
  have gv : (bh X i).length <= 1000000:=by rw [gr];exact hv _ (AA hi1)
  obtain hb | hb : SD n (bh X i) = true \/ SD n (bh X i) = false:=by cases SD n (bh X i) <;> simp
  ·have e1 : (!SD n (bh X i)) = false:=by rw [hb];rfl
   have jH:=hf.trans (zx hi1 (d:=[]) (by show (!SD n (gL X i)) = false;rw [<- gr];exact e1))
   repeat' ((conv => whnf);first | apply And.intro | (intro h9;try (have h8 : (_ : Bool) = _:=h9;clear h8;revert h9;subst_vars;intro h9;exact aq h9 (by assumption))))
   all_goals try (conv => whnf)
   all_goals try first | (apply Tk.mk <;> kernel_rfl) | exact ⟨ah rfl⟩ | exact ⟨rfl⟩ | exact ⟨trivial⟩
   all_goals subst_vars
   all_goals try first | rfl | contradiction | (apply Ob.mk;first | (simp only [ag,ak,aa.ae];omega) | ((try simp only [aa.ae]);(try dsimp only);omega))
   all_goals try first
    | exact True.intro
    | exact ⟨hn⟩
    | exact ⟨hX⟩
    | exact ⟨hl⟩
    | exact ⟨hv⟩
    | exact ⟨ht⟩
    | exact ⟨hA⟩
    | exact ⟨hB⟩
    | exact ⟨gv⟩
    | exact ⟨Td⟩
    | exact ⟨hM⟩
    | exact ⟨lS⟩
    | exact ⟨o0⟩
    | exact ⟨o1⟩
    | exact ⟨show 0 <= (i : Int) /\ (i : Int) < (X.length : Int) by omega⟩
    | exact ⟨show 0 + Int.toNat (i : Int) < X.length by omega⟩
    | exact ⟨show 0 <= (i : Int) /\ (i : Int) < (L.length : Int) by omega⟩
    | exact ⟨show 0 + Int.toNat (i : Int) < L.length by omega⟩
    | exact ⟨show 0 + Int.toNat a < X.length by omega⟩
    | exact ⟨show 0 + Int.toNat b < X.length by omega⟩
    | exact ⟨show 0 <= (0 : Int) /\ (0 : Int) < ((bh X a).length : Int) by omega⟩
    | exact ⟨show 0 + Int.toNat (0 : Int) < (bh X a).length by omega⟩
    | exact ⟨show 0 <= (i : Int) /\ (i : Int) < ((bh X a).length : Int) by omega⟩
    | exact ⟨show 0 + Int.toNat (i : Int) < (bh X a).length by omega⟩
    | exact ⟨show 0 <= aX n t 0 /\ aX n t 0 < ((bh X b).length : Int) by omega⟩
    | exact ⟨show 0 + Int.toNat (aX n t 0) < (bh X b).length by omega⟩
    | exact ⟨show 0 <= aX n t i /\ aX n t i < ((bh X b).length : Int) by omega⟩
    | exact ⟨show 0 + Int.toNat (aX n t i) < (bh X b).length by omega⟩
    | (apply Ob.mk;show (ag .i64 _).p;simp only [ag,ak,aa.ae];omega)
   refine ⟨i + 1,[],⟨hi1,jH⟩,?_,by show X.length - (i + 1) < X.length - i;omega⟩
   repeat' ((conv => whnf);(first | apply And.intro | intro _))
   all_goals first | rfl | trivial | exact ah rfl | exact aS ‹_› rfl | exact aT ‹_› rfl | ((repeat' first | rfl | constructor);done)
  have e1 : (!SD n (bh X i)) = true:=by rw [hb];rfl
  rw [Zg (hf.trans (wg hi1 (d:=[]) (by show (!SD n (gL X i)) = true;rw [<- gr];exact e1)))]
  repeat' ((conv => whnf);first | apply And.intro | (intro h9;try (have h8 : (_ : Bool) = _:=h9;clear h8;revert h9;subst_vars;intro h9;exact aq h9 (by assumption))))
  all_goals try (conv => whnf)
  all_goals try first | (apply Tk.mk <;> kernel_rfl) | exact ⟨ah rfl⟩ | exact ⟨rfl⟩ | exact ⟨trivial⟩
  all_goals subst_vars
  all_goals try first | rfl | contradiction | (apply Ob.mk;first | (simp only [ag,ak,aa.ae];omega) | ((try simp only [aa.ae]);(try dsimp only);omega))
  all_goals first
   | trivial
   | exact True.intro
   | exact ⟨hn⟩
   | exact ⟨hX⟩
   | exact ⟨hl⟩
   | exact ⟨hv⟩
   | exact ⟨ht⟩
   | exact ⟨hA⟩
   | exact ⟨hB⟩
   | exact ⟨gv⟩
   | exact ⟨Td⟩
   | exact ⟨hM⟩
   | exact ⟨lS⟩
   | exact ⟨o0⟩
   | exact ⟨o1⟩
   | exact ⟨show 0 <= (i : Int) /\ (i : Int) < (X.length : Int) by omega⟩
   | exact ⟨show 0 + Int.toNat (i : Int) < X.length by omega⟩
   | exact ⟨show 0 <= (i : Int) /\ (i : Int) < (L.length : Int) by omega⟩
   | exact ⟨show 0 + Int.toNat (i : Int) < L.length by omega⟩
   | exact ⟨show 0 + Int.toNat a < X.length by omega⟩
   | exact ⟨show 0 + Int.toNat b < X.length by omega⟩
   | exact ⟨show 0 <= (0 : Int) /\ (0 : Int) < ((bh X a).length : Int) by omega⟩
   | exact ⟨show 0 + Int.toNat (0 : Int) < (bh X a).length by omega⟩
   | exact ⟨show 0 <= (i : Int) /\ (i : Int) < ((bh X a).length : Int) by omega⟩
   | exact ⟨show 0 + Int.toNat (i : Int) < (bh X a).length by omega⟩
   | exact ⟨show 0 <= aX n t 0 /\ aX n t 0 < ((bh X b).length : Int) by omega⟩
   | exact ⟨show 0 + Int.toNat (aX n t 0) < (bh X b).length by omega⟩
   | exact ⟨show 0 <= aX n t i /\ aX n t i < ((bh X b).length : Int) by omega⟩
   | exact ⟨show 0 + Int.toNat (aX n t i) < (bh X b).length by omega⟩
   | (apply Ob.mk;show (ag .i64 _).p;simp only [ag,ak,aa.ae];omega)
 have p0 : decide ((i : Int) < (X.length : Int)) = false:=decide_eq_false (by omega)
 rw [YR (hf.trans (we (by omega)))]
 repeat' ((conv => whnf);first | apply And.intro | (intro h9;try (have h8 : (_ : Bool) = _:=h9;clear h8;revert h9;subst_vars;intro h9;exact aq h9 (by assumption))))
 all_goals try (conv => whnf)
 all_goals try first | (apply Tk.mk <;> kernel_rfl) | exact ⟨ah rfl⟩ | exact ⟨rfl⟩ | exact ⟨trivial⟩
 all_goals subst_vars
 all_goals try first | rfl | contradiction | (apply Ob.mk;first | (simp only [ag,ak,aa.ae];omega) | ((try simp only [aa.ae]);(try dsimp only);omega))
 all_goals first
  | trivial
  | exact True.intro
  | exact ⟨hn⟩
  | exact ⟨hX⟩
  | exact ⟨hl⟩
  | exact ⟨hv⟩
  | exact ⟨ht⟩
  | exact ⟨hA⟩
  | exact ⟨hB⟩
  | exact ⟨gv⟩
  | exact ⟨Td⟩
  | exact ⟨hM⟩
  | exact ⟨lS⟩
  | exact ⟨o0⟩
  | exact ⟨o1⟩
  | exact ⟨show 0 <= (i : Int) /\ (i : Int) < (X.length : Int) by omega⟩
  | exact ⟨show 0 + Int.toNat (i : Int) < X.length by omega⟩
  | exact ⟨show 0 <= (i : Int) /\ (i : Int) < (L.length : Int) by omega⟩
  | exact ⟨show 0 + Int.toNat (i : Int) < L.length by omega⟩
  | exact ⟨show 0 + Int.toNat a < X.length by omega⟩
  | exact ⟨show 0 + Int.toNat b < X.length by omega⟩
  | exact ⟨show 0 <= (0 : Int) /\ (0 : Int) < ((bh X a).length : Int) by omega⟩
  | exact ⟨show 0 + Int.toNat (0 : Int) < (bh X a).length by omega⟩
  | exact ⟨show 0 <= (i : Int) /\ (i : Int) < ((bh X a).length : Int) by omega⟩
  | exact ⟨show 0 + Int.toNat (i : Int) < (bh X a).length by omega⟩
  | exact ⟨show 0 <= aX n t 0 /\ aX n t 0 < ((bh X b).length : Int) by omega⟩
  | exact ⟨show 0 + Int.toNat (aX n t 0) < (bh X b).length by omega⟩
  | exact ⟨show 0 <= aX n t i /\ aX n t i < ((bh X b).length : Int) by omega⟩
  | exact ⟨show 0 + Int.toNat (aX n t i) < (bh X b).length by omega⟩
  | (apply Ob.mk;show (ag .i64 _).p;simp only [ag,ak,aa.ae];omega))
def kV (n : Int) (X : List (List Int)) (w : Wk) : Int:=match Vv n X w with | true => W2 n X w | false => 0
theorem acW {n : Int} (hn : bz n) {X : List (List Int)} {w : Wk} : W2 n X w = hX X w.1 0 + hX X w.2.1 (aX n w.2.2 0):=by
 unfold W2
 have hz:=(ic hn).1 (gM hn)
 obtain ⟨k,hk,e⟩:=hz
 obtain rfl : k = 0:=by omega
 exact (dP _ 0).trans (W1 hk)
def ot : au:=Y2 (fun n _ _ w X => [(aa.of (1 <= n /\ n <= 6)),(aa.of ((0 <= w.1 /\ w.1 < (X.length : Int)) /\ (0 <= w.2.1 /\ w.2.1 < (X.length : Int)) /\ (0 <= w.2.2 /\ w.2.2 <= 7))),(aa.of (∀ l ∈ X,SD n l = true))]) (fun n _ _ w X => .bF [.a (vI (kV n X w)),.a (.v (.bool (Vv n X w)))])
noncomputable def acT : List (Nat × au):=[(63,nQ)]
theorem acN : aR Tryz.prog Γ acT:=(aR.nil.cons (aj Tryz.func63 rfl rfl).fn Z2)
attribute [local irreducible] Vv W2 aX
theorem oV : au.Ok Tryz.prog Γ 22 ot:=YE (d:=0) (aP acN bq.nil false 0) (aj Tryz.func22 rfl rfl) (fun _ _ _ _ _ => rfl) (by
 rintro n P L ⟨a,b,t⟩ X ⟨hn,⟨hA,hB,ht⟩,hv,_⟩
 simp only [aa.ae] at hn hA hB ht hv
 have j4 : 1 <= n * n /\ n * n <= 36:=sJ hn
 have ra : SD n (bh X a) = true:=hv _ (by unfold bh;rw [Nat.zero_add];exact AA (W:=X) (by omega))
 have rb : SD n (bh X b) = true:=hv _ (by unfold bh;rw [Nat.zero_add];exact AA (W:=X) (by omega))
 obtain ⟨a1,a2⟩:=Tn ra
 obtain ⟨b1,b2⟩:=Tn rb
 have hz : aM n 0:=gM hn
 have Td : 0 <= (0 : Int) /\ (0 : Int) < n * n:=by omega
 have ht0:=ng hn ht hz
 have ht1 : 0 <= aX n t 0 /\ aX n t 0 < n * n:=ht0
 have Vz : ∀ x,aM n x -> -2199023255552 <= KC X a x + KC X b (aX n t x) /\ KC X a x + KC X b (aX n t x) <= 2199023255552:=fun x hx => by
  obtain ⟨j,_,e⟩:=(ic hn).1 hx
  obtain ⟨k,_,e2⟩:=(ic hn).1 (ng hn ht hx)
  have h1:=SX a2 j
  have h2:=SX b2 k
  rw [<- e] at h1
  rw [<- e2] at h2
  rw [VT,VT];unfold hX;omega
 have o0 : (ag .i64 (KC X a 0 + KC X b (aX n t 0))).p:=by have:=Vz 0 hz;show ak .i64 _;unfold ak;omega
 repeat' ((conv => whnf);first | apply And.intro | (intro h9;try (have h8 : (_ : Bool) = _:=h9;clear h8;revert h9;subst_vars;intro h9;exact aq h9 (by assumption))))
 all_goals try (conv => whnf)
 all_goals try first | (apply Tk.mk <;> kernel_rfl) | exact ⟨ah rfl⟩ | exact ⟨rfl⟩ | exact ⟨trivial⟩
 all_goals subst_vars
 all_goals try first | rfl | contradiction | (apply Ob.mk;first | (simp only [ag,ak,aa.ae];omega) | ((try simp only [aa.ae]);(try dsimp only);omega))
 all_goals try first
  | exact True.intro
  | exact ⟨hn⟩
  | exact ⟨hX⟩
  | exact ⟨hl⟩
  | exact ⟨hv⟩
  | exact ⟨ht⟩
  | exact ⟨hA⟩
  | exact ⟨hB⟩
  | exact ⟨gv⟩
  | exact ⟨Td⟩
  | exact ⟨hM⟩
  | exact ⟨lS⟩
  | exact ⟨o0⟩
  | exact ⟨o1⟩
  | exact ⟨show 0 <= (i : Int) /\ (i : Int) < (X.length : Int) by omega⟩
  | exact ⟨show 0 + Int.toNat (i : Int) < X.length by omega⟩
  | exact ⟨show 0 <= (i : Int) /\ (i : Int) < (L.length : Int) by omega⟩
  | exact ⟨show 0 + Int.toNat (i : Int) < L.length by omega⟩
  | exact ⟨show 0 + Int.toNat a < X.length by omega⟩
  | exact ⟨show 0 + Int.toNat b < X.length by omega⟩
  | exact ⟨show 0 <= (0 : Int) /\ (0 : Int) < ((bh X a).length : Int) by omega⟩
  | exact ⟨show 0 + Int.toNat (0 : Int) < (bh X a).length by omega⟩
  | exact ⟨show 0 <= (i : Int) /\ (i : Int) < ((bh X a).length : Int) by omega⟩
  | exact ⟨show 0 + Int.toNat (i : Int) < (bh X a).length by omega⟩
  | exact ⟨show 0 <= aX n t 0 /\ aX n t 0 < ((bh X b).length : Int) by omega⟩
  | exact ⟨show 0 + Int.toNat (aX n t 0) < (bh X b).length by omega⟩
  | exact ⟨show 0 <= aX n t i /\ aX n t i < ((bh X b).length : Int) by omega⟩
  | exact ⟨show 0 + Int.toNat (aX n t i) < (bh X b).length by omega⟩
  | (apply Ob.mk;show (ag .i64 _).p;simp only [ag,ak,aa.ae];omega)
 refine ⟨Nat,fun i => i <= (n * n).toNat /\ ∀ j : Nat,j < i -> KC X a j + KC X b (aX n t j) = (KC X a 0 + KC X b (aX n t 0)),fun i => ⟨aI 64 [2,3,4,8,9] [.a (.sl 1 [] 0 X.length),.a (.p 2 [] 0 0),.a (.p 3 [] 0 0),.a (vI (KC X a 0 + KC X b (aX n t 0))),.a (vI i)],[],[.arr 46 kW L false false,.arr 49 kT X false false,.box true [vI n,vI P,.sl 0 [] 0 L.length],.box true [vI a,vI b,vI t]]⟩,fun i => (n * n).toNat - i,0,[],⟨Nat.zero_le _,fun j hj => absurd hj (Nat.not_lt_zero j)⟩,?_,?_⟩
 ·repeat' ((conv => whnf);(first | apply And.intro | intro _))
  all_goals first | rfl | trivial | exact ah rfl | exact aS ‹_› rfl | exact aT ‹_› rfl | ((repeat' first | rfl | constructor);done)
 rintro i ⟨hi,hs⟩
 by_cases hi1 : i < (n * n).toNat
 ·have p0 : decide ((i : Int) < n * n) = true:=decide_eq_true (by omega)
  have gR : aM n (i : Int):=⟨by omega,by omega⟩
  have hM : 0 <= (i : Int) /\ (i : Int) < n * n:=gR
  have lR : 0 <= aX n t i /\ aX n t i < n * n:=ng hn ht gR
  have o1 : (ag .i64 (KC X a i + KC X b (aX n t i))).p:=by have:=Vz i gR;show ak .i64 _;unfold ak;omega
  clear Vz
  obtain hb | hb : (KC X a i + KC X b (aX n t i) != (KC X a 0 + KC X b (aX n t 0))) = true \/ (KC X a i + KC X b (aX n t i) != (KC X a 0 + KC X b (aX n t 0))) = false:=by cases (KC X a i + KC X b (aX n t i) != (KC X a 0 + KC X b (aX n t 0))) <;> simp
  ·have hno : Vv n X (a,b,t) = false:=by
    cases h : Vv n X (a,b,t)
    ·rfl
    ·have:=(Xu hn).1 h i gR
     dsimp only at this
     rw [<- VT,<- VT,<- VT,<- VT] at this
     rw [this] at hb;simp at hb
   rw [show kV n X (a,b,t) = 0 by unfold kV;rw [hno],hno]
   repeat' ((conv => whnf);first | apply And.intro | (intro h9;try (have h8 : (_ : Bool) = _:=h9;clear h8;revert h9;subst_vars;intro h9;exact aq h9 (by assumption))))
   all_goals try (conv => whnf)
   all_goals try first | (apply Tk.mk <;> kernel_rfl) | exact ⟨ah rfl⟩ | exact ⟨rfl⟩ | exact ⟨trivial⟩
   all_goals subst_vars
   all_goals try first | rfl | contradiction | (apply Ob.mk;first | (simp only [ag,ak,aa.ae];omega) | ((try simp only [aa.ae]);(try dsimp only);omega))
   all_goals first
    | trivial
    | exact True.intro
    | exact ⟨hn⟩
    | exact ⟨hX⟩
    | exact ⟨hl⟩
    | exact ⟨hv⟩
    | exact ⟨ht⟩
    | exact ⟨hA⟩
    | exact ⟨hB⟩
    | exact ⟨gv⟩
    | exact ⟨Td⟩
    | exact ⟨hM⟩
    | exact ⟨lS⟩
    | exact ⟨o0⟩
    | exact ⟨o1⟩
    | exact ⟨show 0 <= (i : Int) /\ (i : Int) < (X.length : Int) by omega⟩
    | exact ⟨show 0 + Int.toNat (i : Int) < X.length by omega⟩
    | exact ⟨show 0 <= (i : Int) /\ (i : Int) < (L.length : Int) by omega⟩
    | exact ⟨show 0 + Int.toNat (i : Int) < L.length by omega⟩
    | exact ⟨show 0 + Int.toNat a < X.length by omega⟩
    | exact ⟨show 0 + Int.toNat b < X.length by omega⟩
    | exact ⟨show 0 <= (0 : Int) /\ (0 : Int) < ((bh X a).length : Int) by omega⟩
    | exact ⟨show 0 + Int.toNat (0 : Int) < (bh X a).length by omega⟩
    | exact ⟨show 0 <= (i : Int) /\ (i : Int) < ((bh X a).length : Int) by omega⟩
    | exact ⟨show 0 + Int.toNat (i : Int) < (bh X a).length by omega⟩
    | exact ⟨show 0 <= aX n t 0 /\ aX n t 0 < ((bh X b).length : Int) by omega⟩
    | exact ⟨show 0 + Int.toNat (aX n t 0) < (bh X b).length by omega⟩
    | exact ⟨show 0 <= aX n t i /\ aX n t i < ((bh X b).length : Int) by omega⟩
    | exact ⟨show 0 + Int.toNat (aX n t i) < (bh X b).length by omega⟩
    | (apply Ob.mk;show (ag .i64 _).p;simp only [ag,ak,aa.ae];omega)
  have pT : ∀ j : Nat,j < i + 1 -> KC X a j + KC X b (aX n t j) = (KC X a 0 + KC X b (aX n t 0)):=fun j hj => by
   rcases Nat.lt_or_ge j i with h | h
   ·exact hs j h
   ·obtain rfl : j = i:=by omega
    rw [bne_eq_false_iff_eq] at hb;exact hb
  clear hs
  repeat' ((conv => whnf);first | apply And.intro | (intro h9;try (have h8 : (_ : Bool) = _:=h9;clear h8;revert h9;subst_vars;intro h9;exact aq h9 (by assumption))))
  all_goals try (conv => whnf)
  all_goals try first | (apply Tk.mk <;> kernel_rfl) | exact ⟨ah rfl⟩ | exact ⟨rfl⟩ | exact ⟨trivial⟩
  all_goals subst_vars
  all_goals try first | rfl | contradiction | (apply Ob.mk;first | (simp only [ag,ak,aa.ae];omega) | ((try simp only [aa.ae]);(try dsimp only);omega))
  all_goals try first
   | exact True.intro
   | exact ⟨hn⟩
   | exact ⟨hX⟩
   | exact ⟨hl⟩
   | exact ⟨hv⟩
   | exact ⟨ht⟩
   | exact ⟨hA⟩
   | exact ⟨hB⟩
   | exact ⟨gv⟩
   | exact ⟨Td⟩
   | exact ⟨hM⟩
   | exact ⟨lS⟩
   | exact ⟨o0⟩
   | exact ⟨o1⟩
   | exact ⟨show 0 <= (i : Int) /\ (i : Int) < (X.length : Int) by omega⟩
   | exact ⟨show 0 + Int.toNat (i : Int) < X.length by omega⟩
   | exact ⟨show 0 <= (i : Int) /\ (i : Int) < (L.length : Int) by omega⟩
   | exact ⟨show 0 + Int.toNat (i : Int) < L.length by omega⟩
   | exact ⟨show 0 + Int.toNat a < X.length by omega⟩
   | exact ⟨show 0 + Int.toNat b < X.length by omega⟩
   | exact ⟨show 0 <= (0 : Int) /\ (0 : Int) < ((bh X a).length : Int) by omega⟩
   | exact ⟨show 0 + Int.toNat (0 : Int) < (bh X a).length by omega⟩
   | exact ⟨show 0 <= (i : Int) /\ (i : Int) < ((bh X a).length : Int) by omega⟩
   | exact ⟨show 0 + Int.toNat (i : Int) < (bh X a).length by omega⟩
   | exact ⟨show 0 <= aX n t 0 /\ aX n t 0 < ((bh X b).length : Int) by omega⟩
   | exact ⟨show 0 + Int.toNat (aX n t 0) < (bh X b).length by omega⟩
   | exact ⟨show 0 <= aX n t i /\ aX n t i < ((bh X b).length : Int) by omega⟩
   | exact ⟨show 0 + Int.toNat (aX n t i) < (bh X b).length by omega⟩
   | (apply Ob.mk;show (ag .i64 _).p;simp only [ag,ak,aa.ae];omega)
  refine ⟨i + 1,[],⟨hi1,pT⟩,?_,by show (n * n).toNat - (i + 1) < (n * n).toNat - i;omega⟩
  repeat' ((conv => whnf);(first | apply And.intro | intro _))
  all_goals first | rfl | trivial | exact ah rfl | exact aS ‹_› rfl | exact aT ‹_› rfl | ((repeat' first | rfl | constructor);done)
 have p0 : decide ((i : Int) < n * n) = false:=decide_eq_false (by omega)
 have iB : Vv n X (a,b,t) = true:=(Xu hn).2 fun x hx => by
  obtain ⟨j,hj,rfl⟩:=(ic hn).1 hx
  have:=hs j (by omega)
  rw [VT,VT,VT,VT] at this
  exact this
 have hval : kV n X (a,b,t) = (KC X a 0 + KC X b (aX n t 0)):=by
  unfold kV;rw [iB];dsimp only
  rw [acW hn,VT,VT]
 rw [hval,iB]
 clear hs Vz
 repeat' ((conv => whnf);first | apply And.intro | (intro h9;try (have h8 : (_ : Bool) = _:=h9;clear h8;revert h9;subst_vars;intro h9;exact aq h9 (by assumption))))
 all_goals try (conv => whnf)
 all_goals try first | (apply Tk.mk <;> kernel_rfl) | exact ⟨ah rfl⟩ | exact ⟨rfl⟩ | exact ⟨trivial⟩
 all_goals subst_vars
 all_goals try first | rfl | contradiction | (apply Ob.mk;first | (simp only [ag,ak,aa.ae];omega) | ((try simp only [aa.ae]);(try dsimp only);omega))
 all_goals first
  | trivial
  | exact True.intro
  | exact ⟨hn⟩
  | exact ⟨hX⟩
  | exact ⟨hl⟩
  | exact ⟨hv⟩
  | exact ⟨ht⟩
  | exact ⟨hA⟩
  | exact ⟨hB⟩
  | exact ⟨gv⟩
  | exact ⟨Td⟩
  | exact ⟨hM⟩
  | exact ⟨lS⟩
  | exact ⟨o0⟩
  | exact ⟨o1⟩
  | exact ⟨show 0 <= (i : Int) /\ (i : Int) < (X.length : Int) by omega⟩
  | exact ⟨show 0 + Int.toNat (i : Int) < X.length by omega⟩
  | exact ⟨show 0 <= (i : Int) /\ (i : Int) < (L.length : Int) by omega⟩
  | exact ⟨show 0 + Int.toNat (i : Int) < L.length by omega⟩
  | exact ⟨show 0 + Int.toNat a < X.length by omega⟩
  | exact ⟨show 0 + Int.toNat b < X.length by omega⟩
  | exact ⟨show 0 <= (0 : Int) /\ (0 : Int) < ((bh X a).length : Int) by omega⟩
  | exact ⟨show 0 + Int.toNat (0 : Int) < (bh X a).length by omega⟩
  | exact ⟨show 0 <= (i : Int) /\ (i : Int) < ((bh X a).length : Int) by omega⟩
  | exact ⟨show 0 + Int.toNat (i : Int) < (bh X a).length by omega⟩
  | exact ⟨show 0 <= aX n t 0 /\ aX n t 0 < ((bh X b).length : Int) by omega⟩
  | exact ⟨show 0 + Int.toNat (aX n t 0) < (bh X b).length by omega⟩
  | exact ⟨show 0 <= aX n t i /\ aX n t i < ((bh X b).length : Int) by omega⟩
  | exact ⟨show 0 + Int.toNat (aX n t i) < (bh X b).length by omega⟩
  | (apply Ob.mk;show (ag .i64 _).p;simp only [ag,ak,aa.ae];omega))
theorem acM {P : Int} {L : List Wk} {X : List (List Int)} (h : ∀ w ∈ L,eJ P w = true) (hX : (X.length : Int) = P) {k : Int} (h0 : 0 <= k) (h1 : k < (L.length : Int)) : (0 <= (cn L k).1 /\ (cn L k).1 < (X.length : Int)) /\ (0 <= (cn L k).2.1 /\ (cn L k).2.1 < (X.length : Int)) /\ (0 <= (cn L k).2.2 /\ (cn L k).2.2 <= 7):=by
 rw [hX];exact XV h h0 h1
def acI : au:=X7 (fun n P L X => [(aa.of (1 <= n /\ n <= 6)),(aa.of (L.length <= 1000000)),(aa.of (∀ w ∈ L,eJ P w = true)),(aa.of ((X.length : Int) <= P /\ P <= (X.length : Int))),(aa.of (∀ l ∈ X,SD n l = true))]) (fun n _ L X => bl (L.all (Vv n X)))
noncomputable def acV : List (Nat × au):=[(22,ot)]
theorem acO : aR Tryz.prog Γ acV:=(aR.nil.cons (aj Tryz.func22 rfl rfl).fn oV)
attribute [local irreducible] kV
theorem acJ : au.Ok Tryz.prog Γ 20 acI:=Xe (d:=0) (aP acO bq.nil false 0) (aj Tryz.func20 rfl rfl) (fun _ _ _ _ => rfl) (by
 intro n P L X ⟨hn,hl,hw,acX,hv,_⟩
 simp only [aa.ae] at hn hl hw acX hv
 have Rw : ∀ i : Nat,i < L.length -> _:=fun i hi => acM hw (show (X.length : Int) = P by omega) (k:=(i : Int)) (by omega) (by omega)
 clear acX hw
 repeat' ((conv => whnf);first | apply And.intro | (intro h9;try (have h8 : (_ : Bool) = _:=h9;clear h8;revert h9;subst_vars;intro h9;exact aq h9 (by assumption))))
 all_goals try (conv => whnf)
 all_goals try first | (apply Tk.mk <;> kernel_rfl) | exact ⟨ah rfl⟩ | exact ⟨rfl⟩ | exact ⟨trivial⟩
 all_goals subst_vars
 all_goals try first | rfl | contradiction | (apply Ob.mk;first | (simp only [ag,ak,aa.ae];omega) | ((try simp only [aa.ae]);(try dsimp only);omega))
 all_goals try first
  | exact True.intro
  | exact ⟨hn⟩
  | exact ⟨hX⟩
  | exact ⟨hl⟩
  | exact ⟨hv⟩
  | exact ⟨ht⟩
  | exact ⟨hA⟩
  | exact ⟨hB⟩
  | exact ⟨gv⟩
  | exact ⟨Td⟩
  | exact ⟨hM⟩
  | exact ⟨lS⟩
  | exact ⟨o0⟩
  | exact ⟨o1⟩
  | exact ⟨show 0 <= (i : Int) /\ (i : Int) < (X.length : Int) by omega⟩
  | exact ⟨show 0 + Int.toNat (i : Int) < X.length by omega⟩
  | exact ⟨show 0 <= (i : Int) /\ (i : Int) < (L.length : Int) by omega⟩
  | exact ⟨show 0 + Int.toNat (i : Int) < L.length by omega⟩
  | exact ⟨show 0 + Int.toNat a < X.length by omega⟩
  | exact ⟨show 0 + Int.toNat b < X.length by omega⟩
  | exact ⟨show 0 <= (0 : Int) /\ (0 : Int) < ((bh X a).length : Int) by omega⟩
  | exact ⟨show 0 + Int.toNat (0 : Int) < (bh X a).length by omega⟩
  | exact ⟨show 0 <= (i : Int) /\ (i : Int) < ((bh X a).length : Int) by omega⟩
  | exact ⟨show 0 + Int.toNat (i : Int) < (bh X a).length by omega⟩
  | exact ⟨show 0 <= aX n t 0 /\ aX n t 0 < ((bh X b).length : Int) by omega⟩
  | exact ⟨show 0 + Int.toNat (aX n t 0) < (bh X b).length by omega⟩
  | exact ⟨show 0 <= aX n t i /\ aX n t i < ((bh X b).length : Int) by omega⟩
  | exact ⟨show 0 + Int.toNat (aX n t i) < (bh X b).length by omega⟩
  | (apply Ob.mk;show (ag .i64 _).p;simp only [ag,ak,aa.ae];omega)
 refine ⟨Nat,fun i => i <= L.length /\ L.all (Vv n X) = (L.drop i).all (Vv n X),fun i => ⟨aI 28 [1,2,5] [.a (.sl 1 [] 0 X.length),.a (.p 2 [] 0 0),.a (vI i)],[],[.arr 46 kW L false false,.arr 49 kT X false false,.box true [vI n,vI P,.sl 0 [] 0 L.length]]⟩,fun i => L.length - i,0,[],⟨Nat.zero_le _,rfl⟩,?_,?_⟩
 ·repeat' ((conv => whnf);(first | apply And.intro | intro _))
  all_goals first | rfl | trivial | exact ah rfl | exact aS ‹_› rfl | exact aT ‹_› rfl | ((repeat' first | rfl | constructor);done)
 rintro i ⟨hi,hf⟩
 by_cases hi1 : i < L.length
 ·have p0 : decide ((i : Int) < (L.length : Int)) = true:=decide_eq_true (by omega)
  have lS:=Rw i hi1
  have ew : cn L i = wk L i:=Wj L i
  obtain hb | hb : Vv n X (cn L i) = true \/ Vv n X (cn L i) = false:=by cases Vv n X (cn L i) <;> simp
  ·have e1 : (!Vv n X (cn L i)) = false:=by rw [hb];rfl
   have jH:=hf.trans (C7 hi1 (d:=(0,0,0)) (by show Vv n X (wk L i) = true;rw [<- ew];exact hb))
   repeat' ((conv => whnf);first | apply And.intro | (intro h9;try (have h8 : (_ : Bool) = _:=h9;clear h8;revert h9;subst_vars;intro h9;exact aq h9 (by assumption))))
   all_goals try (conv => whnf)
   all_goals try first | (apply Tk.mk <;> kernel_rfl) | exact ⟨ah rfl⟩ | exact ⟨rfl⟩ | exact ⟨trivial⟩
   all_goals subst_vars
   all_goals try first | rfl | contradiction | (apply Ob.mk;first | (simp only [ag,ak,aa.ae];omega) | ((try simp only [aa.ae]);(try dsimp only);omega))
   all_goals try first
    | exact True.intro
    | exact ⟨hn⟩
    | exact ⟨hX⟩
    | exact ⟨hl⟩
    | exact ⟨hv⟩
    | exact ⟨ht⟩
    | exact ⟨hA⟩
    | exact ⟨hB⟩
    | exact ⟨gv⟩
    | exact ⟨Td⟩
    | exact ⟨hM⟩
    | exact ⟨lS⟩
    | exact ⟨o0⟩
    | exact ⟨o1⟩
    | exact ⟨show 0 <= (i : Int) /\ (i : Int) < (X.length : Int) by omega⟩
    | exact ⟨show 0 + Int.toNat (i : Int) < X.length by omega⟩
    | exact ⟨show 0 <= (i : Int) /\ (i : Int) < (L.length : Int) by omega⟩
    | exact ⟨show 0 + Int.toNat (i : Int) < L.length by omega⟩
    | exact ⟨show 0 + Int.toNat a < X.length by omega⟩
    | exact ⟨show 0 + Int.toNat b < X.length by omega⟩
    | exact ⟨show 0 <= (0 : Int) /\ (0 : Int) < ((bh X a).length : Int) by omega⟩
    | exact ⟨show 0 + Int.toNat (0 : Int) < (bh X a).length by omega⟩
    | exact ⟨show 0 <= (i : Int) /\ (i : Int) < ((bh X a).length : Int) by omega⟩
    | exact ⟨show 0 + Int.toNat (i : Int) < (bh X a).length by omega⟩
    | exact ⟨show 0 <= aX n t 0 /\ aX n t 0 < ((bh X b).length : Int) by omega⟩
    | exact ⟨show 0 + Int.toNat (aX n t 0) < (bh X b).length by omega⟩
    | exact ⟨show 0 <= aX n t i /\ aX n t i < ((bh X b).length : Int) by omega⟩
    | exact ⟨show 0 + Int.toNat (aX n t i) < (bh X b).length by omega⟩
    | (apply Ob.mk;show (ag .i64 _).p;simp only [ag,ak,aa.ae];omega)
   refine ⟨i + 1,[],⟨hi1,jH⟩,?_,by show L.length - (i + 1) < L.length - i;omega⟩
   repeat' ((conv => whnf);(first | apply And.intro | intro _))
   all_goals first | rfl | trivial | exact ah rfl | exact aS ‹_› rfl | exact aT ‹_› rfl | ((repeat' first | rfl | constructor);done)
  have e1 : (!Vv n X (cn L i)) = true:=by rw [hb];rfl
  rw [hf.trans (zw hi1 (d:=(0,0,0)) (by show Vv n X (wk L i) = false;rw [<- ew];exact hb))]
  repeat' ((conv => whnf);first | apply And.intro | (intro h9;try (have h8 : (_ : Bool) = _:=h9;clear h8;revert h9;subst_vars;intro h9;exact aq h9 (by assumption))))
  all_goals try (conv => whnf)
  all_goals try first | (apply Tk.mk <;> kernel_rfl) | exact ⟨ah rfl⟩ | exact ⟨rfl⟩ | exact ⟨trivial⟩
  all_goals subst_vars
  all_goals try first | rfl | contradiction | (apply Ob.mk;first | (simp only [ag,ak,aa.ae];omega) | ((try simp only [aa.ae]);(try dsimp only);omega))
  all_goals first
   | trivial
   | exact True.intro
   | exact ⟨hn⟩
   | exact ⟨hX⟩
   | exact ⟨hl⟩
   | exact ⟨hv⟩
   | exact ⟨ht⟩
   | exact ⟨hA⟩
   | exact ⟨hB⟩
   | exact ⟨gv⟩
   | exact ⟨Td⟩
   | exact ⟨hM⟩
   | exact ⟨lS⟩
   | exact ⟨o0⟩
   | exact ⟨o1⟩
   | exact ⟨show 0 <= (i : Int) /\ (i : Int) < (X.length : Int) by omega⟩
   | exact ⟨show 0 + Int.toNat (i : Int) < X.length by omega⟩
   | exact ⟨show 0 <= (i : Int) /\ (i : Int) < (L.length : Int) by omega⟩
   | exact ⟨show 0 + Int.toNat (i : Int) < L.length by omega⟩
   | exact ⟨show 0 + Int.toNat a < X.length by omega⟩
   | exact ⟨show 0 + Int.toNat b < X.length by omega⟩
   | exact ⟨show 0 <= (0 : Int) /\ (0 : Int) < ((bh X a).length : Int) by omega⟩
   | exact ⟨show 0 + Int.toNat (0 : Int) < (bh X a).length by omega⟩
   | exact ⟨show 0 <= (i : Int) /\ (i : Int) < ((bh X a).length : Int) by omega⟩
   | exact ⟨show 0 + Int.toNat (i : Int) < (bh X a).length by omega⟩
   | exact ⟨show 0 <= aX n t 0 /\ aX n t 0 < ((bh X b).length : Int) by omega⟩
   | exact ⟨show 0 + Int.toNat (aX n t 0) < (bh X b).length by omega⟩
   | exact ⟨show 0 <= aX n t i /\ aX n t i < ((bh X b).length : Int) by omega⟩
   | exact ⟨show 0 + Int.toNat (aX n t i) < (bh X b).length by omega⟩
   | (apply Ob.mk;show (ag .i64 _).p;simp only [ag,ak,aa.ae];omega)
 have p0 : decide ((i : Int) < (L.length : Int)) = false:=decide_eq_false (by omega)
 rw [hf.trans (C6 (by omega))]
 repeat' ((conv => whnf);first | apply And.intro | (intro h9;try (have h8 : (_ : Bool) = _:=h9;clear h8;revert h9;subst_vars;intro h9;exact aq h9 (by assumption))))
 all_goals try (conv => whnf)
 all_goals try first | (apply Tk.mk <;> kernel_rfl) | exact ⟨ah rfl⟩ | exact ⟨rfl⟩ | exact ⟨trivial⟩
 all_goals subst_vars
 all_goals try first | rfl | contradiction | (apply Ob.mk;first | (simp only [ag,ak,aa.ae];omega) | ((try simp only [aa.ae]);(try dsimp only);omega))
 all_goals first
  | trivial
  | exact True.intro
  | exact ⟨hn⟩
  | exact ⟨hX⟩
  | exact ⟨hl⟩
  | exact ⟨hv⟩
  | exact ⟨ht⟩
  | exact ⟨hA⟩
  | exact ⟨hB⟩
  | exact ⟨gv⟩
  | exact ⟨Td⟩
  | exact ⟨hM⟩
  | exact ⟨lS⟩
  | exact ⟨o0⟩
  | exact ⟨o1⟩
  | exact ⟨show 0 <= (i : Int) /\ (i : Int) < (X.length : Int) by omega⟩
  | exact ⟨show 0 + Int.toNat (i : Int) < X.length by omega⟩
  | exact ⟨show 0 <= (i : Int) /\ (i : Int) < (L.length : Int) by omega⟩
  | exact ⟨show 0 + Int.toNat (i : Int) < L.length by omega⟩
  | exact ⟨show 0 + Int.toNat a < X.length by omega⟩
  | exact ⟨show 0 + Int.toNat b < X.length by omega⟩
  | exact ⟨show 0 <= (0 : Int) /\ (0 : Int) < ((bh X a).length : Int) by omega⟩
  | exact ⟨show 0 + Int.toNat (0 : Int) < (bh X a).length by omega⟩
  | exact ⟨show 0 <= (i : Int) /\ (i : Int) < ((bh X a).length : Int) by omega⟩
  | exact ⟨show 0 + Int.toNat (i : Int) < (bh X a).length by omega⟩
  | exact ⟨show 0 <= aX n t 0 /\ aX n t 0 < ((bh X b).length : Int) by omega⟩
  | exact ⟨show 0 + Int.toNat (aX n t 0) < (bh X b).length by omega⟩
  | exact ⟨show 0 <= aX n t i /\ aX n t i < ((bh X b).length : Int) by omega⟩
  | exact ⟨show 0 + Int.toNat (aX n t i) < (bh X b).length by omega⟩
  | (apply Ob.mk;show (ag .i64 _).p;simp only [ag,ak,aa.ae];omega))
end Go.Proofs.YthejmgnkenokpaaGreatDoor
end
section
namespace Go.Proofs.YthejmgnkenokpaaGreatDoor
open Go Go.Sy Go.bK
variable {Γ : bn}
attribute [local irreducible] bM bw
end Go.Proofs.YthejmgnkenokpaaGreatDoor
end
section
namespace Go.Proofs.YthejmgnkenokpaaGreatDoor
open Go Go.Sy Go.bK
variable {Γ : bn}
def Df : au:=fS (fun _ _ L => [(aa.of (True))]) (fun _ _ L => bl (decide ((L.length : Int) <= 20)))
theorem EJ : au.Ok Tryz.prog Γ 8 Df:=za (d:=0) (aP aR.nil bq.nil false 0) (aj Tryz.func8 rfl rfl) (fun _ _ _ => rfl) (by
 intro n P L _
 repeat' ((conv => whnf);first | apply And.intro | (intro h9;try (have h8 : (_ : Bool) = _:=h9;clear h8;revert h9;subst_vars;intro h9;exact aq h9 (by assumption))))
 all_goals try (conv => whnf)
 all_goals try first | (apply Tk.mk <;> kernel_rfl) | exact ⟨ah rfl⟩ | exact ⟨rfl⟩ | exact ⟨trivial⟩
 all_goals subst_vars
 all_goals try first | rfl | contradiction | (apply Ob.mk;first | (simp only [ag,ak,aa.ae];omega) | ((try simp only [aa.ae]);(try dsimp only);omega)))
attribute [local irreducible] bf cK bj
end Go.Proofs.YthejmgnkenokpaaGreatDoor
end
section
namespace Go.Proofs.YthejmgnkenokpaaGreatDoor
open Go Go.Sy Go.bK
variable {Γ : bn}
def acL : au:=Yp (fun _ _ _ _ _ => []) (fun _ _ _ _ _ => bl true)
noncomputable def acY : List (Nat × au):=[(8,Df),(9,Wn),(16,Yo),(17,WB),(18,uE),(19,Wy),(20,acI),(21,mg),(22,ot),(10,tC)]
theorem acS : aR Tryz.prog Γ acY:=((((((((((aR.nil.cons (aj Tryz.func10 rfl rfl).fn sW).cons (aj Tryz.func22 rfl rfl).fn oV).cons (aj Tryz.func21 rfl rfl).fn jx).cons (aj Tryz.func20 rfl rfl).fn acJ).cons (aj Tryz.func19 rfl rfl).fn acH).cons (aj Tryz.func18 rfl rfl).fn yI).cons (aj Tryz.func17 rfl rfl).fn Wt).cons (aj Tryz.func16 rfl rfl).fn X2).cons (aj Tryz.func9 rfl rfl).fn Wh).cons (aj Tryz.func8 rfl rfl).fn EJ)
attribute [local irreducible] VH Vu Vv W2 kV Vw bD aQ VC
theorem acG : au.Ok Tryz.prog Γ 4 acL:=X8 (d:=0) (aP acS bq.nil false 0) (aj Tryz.func4 rfl rfl) (fun _ _ _ _ _ => rfl) (by
 intro n P L k X _
 obtain h0 | h0 : decide ((L.length : Int) <= 20) = false \/ decide ((L.length : Int) <= 20) = true:=by cases decide ((L.length : Int) <= 20) <;> simp
 ·have n0 : (!decide ((L.length : Int) <= 20)) = true:=by rw [h0];rfl
  repeat' ((conv => whnf);first | apply And.intro | (intro h9;try (have h8 : (_ : Bool) = _:=h9;clear h8;revert h9;subst_vars;intro h9;exact aq h9 (by assumption))))
  all_goals try (conv => whnf)
  all_goals try first | (apply Tk.mk <;> kernel_rfl) | exact ⟨ah rfl⟩ | exact ⟨rfl⟩ | exact ⟨trivial⟩
  all_goals subst_vars
  all_goals try first | rfl | contradiction | (apply Ob.mk;first | (simp only [ag,ak,aa.ae];omega) | ((try simp only [aa.ae]);(try dsimp only);omega))
  all_goals first
   | trivial
   | exact True.intro
   | exact ⟨hn⟩
   | exact ⟨hl⟩
   | exact ⟨hX⟩
   | exact ⟨hv⟩
   | exact ⟨hw⟩
   | exact ⟨x1⟩
   | exact ⟨x2⟩
   | exact ⟨lS⟩
   | exact ⟨show 0 <= k /\ k < (L.length : Int) by omega⟩
   | exact ⟨show 0 + Int.toNat k < L.length by omega⟩
   | (apply Ob.mk;show (ag .i64 _).p;simp only [ag,ak,aa.ae];omega)
 have n0 : (!decide ((L.length : Int) <= 20)) = false:=by rw [h0];rfl
 have ZX:=of_decide_eq_true h0
 have hl : L.length <= 1000000:=by omega
 obtain h9 | h9 : VC X 8 40 = false \/ VC X 8 40 = true:=by cases VC X 8 40 <;> simp
 ·have n9 : (!VC X 8 40) = true:=by rw [h9];rfl
  repeat' ((conv => whnf);first | apply And.intro | (intro h9;try (have h8 : (_ : Bool) = _:=h9;clear h8;revert h9;subst_vars;intro h9;exact aq h9 (by assumption))))
  all_goals try (conv => whnf)
  all_goals try first | (apply Tk.mk <;> kernel_rfl) | exact ⟨ah rfl⟩ | exact ⟨rfl⟩ | exact ⟨trivial⟩
  all_goals subst_vars
  all_goals try first | rfl | contradiction | (apply Ob.mk;first | (simp only [ag,ak,aa.ae];omega) | ((try simp only [aa.ae]);(try dsimp only);omega))
  all_goals first
   | trivial
   | exact True.intro
   | exact ⟨hn⟩
   | exact ⟨hl⟩
   | exact ⟨hX⟩
   | exact ⟨hv⟩
   | exact ⟨hw⟩
   | exact ⟨x1⟩
   | exact ⟨x2⟩
   | exact ⟨lS⟩
   | exact ⟨show 0 <= k /\ k < (L.length : Int) by omega⟩
   | exact ⟨show 0 + Int.toNat k < L.length by omega⟩
   | (apply Ob.mk;show (ag .i64 _).p;simp only [ag,ak,aa.ae];omega)
 have n9 : (!VC X 8 40) = false:=by rw [h9];rfl
 obtain ⟨w8,ZN⟩:=XP h9
 have hX : X.length <= 1000000:=by omega
 have hv : ∀ w ∈ X,w.length <= 1000000:=fun w hw => by have:=ZN w hw;omega
 clear w8 ZN
 obtain q1 | q1 : (bD n P L == 0) = false \/ (bD n P L == 0) = true:=by cases bD n P L == 0 <;> simp
 ·have q2 : (bD n P L != 0) = true:=by unfold bne;rw [q1];rfl
  have v1 : (VH n P L k X) = (0,bD n P L):=by unfold VH;rw [q1]
  have v2 : (Vu n P L X) = (false,bD n P L):=by unfold Vu;rw [q1]
  have f1 : ((VH n P L k X).2 == bD n P L) = true:=by rw [v1];exact beq_self_eq_true _
  have f2 : ((Vu n P L X).2 == bD n P L) = true:=by rw [v2];exact beq_self_eq_true _
  have f3 : ((VH n P L k X).1 == 0) = true:=by rw [v1];rfl
  have f4 : (!(Vu n P L X).1) = true:=by rw [v2];rfl
  clear v1 v2
  repeat' ((conv => whnf);first | apply And.intro | (intro h9;try (have h8 : (_ : Bool) = _:=h9;clear h8;revert h9;subst_vars;intro h9;exact aq h9 (by assumption))))
  all_goals try (conv => whnf)
  all_goals try first | (apply Tk.mk <;> kernel_rfl) | exact ⟨ah rfl⟩ | exact ⟨rfl⟩ | exact ⟨trivial⟩
  all_goals subst_vars
  all_goals try first | rfl | contradiction | (apply Ob.mk;first | (simp only [ag,ak,aa.ae];omega) | ((try simp only [aa.ae]);(try dsimp only);omega))
  all_goals first
   | trivial
   | exact True.intro
   | exact ⟨hn⟩
   | exact ⟨hl⟩
   | exact ⟨hX⟩
   | exact ⟨hv⟩
   | exact ⟨hw⟩
   | exact ⟨x1⟩
   | exact ⟨x2⟩
   | exact ⟨lS⟩
   | exact ⟨show 0 <= k /\ k < (L.length : Int) by omega⟩
   | exact ⟨show 0 + Int.toNat k < L.length by omega⟩
   | (apply Ob.mk;show (ag .i64 _).p;simp only [ag,ak,aa.ae];omega)
 have q2 : (bD n P L != 0) = false:=by unfold bne;rw [q1];rfl
 have hs:=oe.1 (eq_of_beq q1)
 have hn:=hs.n
 have hw:=hs.w
 obtain h2 | h2 : Vw n P X = false \/ Vw n P X = true:=by cases Vw n P X <;> simp
 ·have g1 : (!Vw n P X) = true:=by rw [h2];rfl
  have v1 : (VH n P L k X) = (0,1):=by unfold VH;rw [q1,h2,Bool.and_false]
  have v2 : (Vu n P L X) = (false,1):=by unfold Vu;rw [q1,h2]
  have g2 : ((Vu n P L X).2 != 1) = false:=by rw [v2];rfl
  have g3 : (Vu n P L X).1 = false:=by rw [v2]
  have g5 : ((VH n P L k X).2 == 1) = true:=by rw [v1];rfl
  have g6 : ((VH n P L k X).1 == 0) = true:=by rw [v1];rfl
  clear v1 v2
  repeat' ((conv => whnf);first | apply And.intro | (intro h9;try (have h8 : (_ : Bool) = _:=h9;clear h8;revert h9;subst_vars;intro h9;exact aq h9 (by assumption))))
  all_goals try (conv => whnf)
  all_goals try first | (apply Tk.mk <;> kernel_rfl) | exact ⟨ah rfl⟩ | exact ⟨rfl⟩ | exact ⟨trivial⟩
  all_goals subst_vars
  all_goals try first | rfl | contradiction | (apply Ob.mk;first | (simp only [ag,ak,aa.ae];omega) | ((try simp only [aa.ae]);(try dsimp only);omega))
  all_goals first
   | trivial
   | exact True.intro
   | exact ⟨hn⟩
   | exact ⟨hl⟩
   | exact ⟨hX⟩
   | exact ⟨hv⟩
   | exact ⟨hw⟩
   | exact ⟨x1⟩
   | exact ⟨x2⟩
   | exact ⟨lS⟩
   | exact ⟨show 0 <= k /\ k < (L.length : Int) by omega⟩
   | exact ⟨show 0 + Int.toNat k < L.length by omega⟩
   | (apply Ob.mk;show (ag .i64 _).p;simp only [ag,ak,aa.ae];omega)
 have g1 : (!Vw n P X) = false:=by rw [h2];rfl
 have v2 : (Vu n P L X) = (L.all (Vv n X),0):=by unfold Vu;rw [q1,h2]
 have g2 : ((Vu n P L X).2 != 0) = false:=by rw [v2];rfl
 have g3 : ((Vu n P L X).1 != L.all (Vv n X)) = false:=by rw [v2];exact bne_self_eq_false _
 obtain ⟨x0,x2⟩:=WZ h2
 have x1 : (X.length : Int) <= P /\ P <= (X.length : Int):=by omega
 clear v2 x0
 obtain h1 | h1 : aQ k 0 ((L.length : Int) - 1) = false \/ aQ k 0 ((L.length : Int) - 1) = true:=by cases aQ k 0 ((L.length : Int) - 1) <;> simp
 ·have e1 : (!aQ k 0 ((L.length : Int) - 1)) = true:=by rw [h1];rfl
  have v1 : (VH n P L k X) = (0,1):=by unfold VH;rw [q1,h1,Bool.false_and]
  have g5 : ((VH n P L k X).2 == 1) = true:=by rw [v1];rfl
  have g6 : ((VH n P L k X).1 == 0) = true:=by rw [v1];rfl
  clear v1
  repeat' ((conv => whnf);first | apply And.intro | (intro h9;try (have h8 : (_ : Bool) = _:=h9;clear h8;revert h9;subst_vars;intro h9;exact aq h9 (by assumption))))
  all_goals try (conv => whnf)
  all_goals try first | (apply Tk.mk <;> kernel_rfl) | exact ⟨ah rfl⟩ | exact ⟨rfl⟩ | exact ⟨trivial⟩
  all_goals subst_vars
  all_goals try first | rfl | contradiction | (apply Ob.mk;first | (simp only [ag,ak,aa.ae];omega) | ((try simp only [aa.ae]);(try dsimp only);omega))
  all_goals first
   | trivial
   | exact True.intro
   | exact ⟨hn⟩
   | exact ⟨hl⟩
   | exact ⟨hX⟩
   | exact ⟨hv⟩
   | exact ⟨hw⟩
   | exact ⟨x1⟩
   | exact ⟨x2⟩
   | exact ⟨lS⟩
   | exact ⟨show 0 <= k /\ k < (L.length : Int) by omega⟩
   | exact ⟨show 0 + Int.toNat k < L.length by omega⟩
   | (apply Ob.mk;show (ag .i64 _).p;simp only [ag,ak,aa.ae];omega)
 have e1 : (!aQ k 0 ((L.length : Int) - 1)) = false:=by rw [h1];rfl
 have hk:=bA.1 h1
 have lS:=acM hw (show (X.length : Int) = P by omega) (k:=k) hk.1 (by omega)
 obtain h3 | h3 : Vv n X (cn L k) = false \/ Vv n X (cn L k) = true:=by cases Vv n X (cn L k) <;> simp
 ·have v1 : (VH n P L k X) = (0,5):=by unfold VH;rw [q1,h1,h2,Bool.and_self];dsimp only;rw [h3]
  have v3 : kV n X (cn L k) = 0:=by unfold kV;rw [h3]
  have e3 : (!Vv n X (cn L k)) = true:=by rw [h3];rfl
  have g5 : ((VH n P L k X).1 == kV n X (cn L k)) = true:=by rw [v1,v3];rfl
  have g6 : ((VH n P L k X).2 == 5) = true:=by rw [v1];rfl
  clear v1 v3
  repeat' ((conv => whnf);first | apply And.intro | (intro h9;try (have h8 : (_ : Bool) = _:=h9;clear h8;revert h9;subst_vars;intro h9;exact aq h9 (by assumption))))
  all_goals try (conv => whnf)
  all_goals try first | (apply Tk.mk <;> kernel_rfl) | exact ⟨ah rfl⟩ | exact ⟨rfl⟩ | exact ⟨trivial⟩
  all_goals subst_vars
  all_goals try first | rfl | contradiction | (apply Ob.mk;first | (simp only [ag,ak,aa.ae];omega) | ((try simp only [aa.ae]);(try dsimp only);omega))
  all_goals first
   | trivial
   | exact True.intro
   | exact ⟨hn⟩
   | exact ⟨hl⟩
   | exact ⟨hX⟩
   | exact ⟨hv⟩
   | exact ⟨hw⟩
   | exact ⟨x1⟩
   | exact ⟨x2⟩
   | exact ⟨lS⟩
   | exact ⟨show 0 <= k /\ k < (L.length : Int) by omega⟩
   | exact ⟨show 0 + Int.toNat k < L.length by omega⟩
   | (apply Ob.mk;show (ag .i64 _).p;simp only [ag,ak,aa.ae];omega)
 have v1 : (VH n P L k X) = (W2 n X (cn L k),0):=by unfold VH;rw [q1,h1,h2,Bool.and_self];dsimp only;rw [h3]
 have v3 : kV n X (cn L k) = W2 n X (cn L k):=by unfold kV;rw [h3]
 have g5 : ((VH n P L k X).1 == kV n X (cn L k)) = true:=by rw [v1,v3];exact beq_self_eq_true _
 have g6 : ((VH n P L k X).2 == 0) = true:=by rw [v1];rfl
 clear v1 v3
 repeat' ((conv => whnf);first | apply And.intro | (intro h9;try (have h8 : (_ : Bool) = _:=h9;clear h8;revert h9;subst_vars;intro h9;exact aq h9 (by assumption))))
 all_goals try (conv => whnf)
 all_goals try first | (apply Tk.mk <;> kernel_rfl) | exact ⟨ah rfl⟩ | exact ⟨rfl⟩ | exact ⟨trivial⟩
 all_goals subst_vars
 all_goals try first | rfl | contradiction | (apply Ob.mk;first | (simp only [ag,ak,aa.ae];omega) | ((try simp only [aa.ae]);(try dsimp only);omega))
 all_goals first
  | trivial
  | exact True.intro
  | exact ⟨hn⟩
  | exact ⟨hl⟩
  | exact ⟨hX⟩
  | exact ⟨hv⟩
  | exact ⟨hw⟩
  | exact ⟨x1⟩
  | exact ⟨x2⟩
  | exact ⟨lS⟩
  | exact ⟨show 0 <= k /\ k < (L.length : Int) by omega⟩
  | exact ⟨show 0 + Int.toNat k < L.length by omega⟩
  | (apply Ob.mk;show (ag .i64 _).p;simp only [ag,ak,aa.ae];omega))
end Go.Proofs.YthejmgnkenokpaaGreatDoor
end
