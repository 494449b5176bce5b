/-
  Texts of the claims on chapter 3: Yk8. No condition: lemmas and contracts.
-/
import Derived.Test.YthejmgnkenokpaaDoorYk1
import Derived.Test.YthejmgnkenokpaaDoorYk3
import Derived.Test.YthejmgnkenokpaaDoorYk4
import Derived.Test.YthejmgnkenokpaaDoorYk5
import Derived.Test.YthejmgnkenokpaaDoorYk6
import Derived.Test.YthejmgnkenokpaaDoorYk7
import Derived.KernelRfl
set_option linter.all false
set_option maxRecDepth 100000
set_option maxHeartbeats 4000000
section
namespace Go.Proofs.YthejmgnkenokpaaDoor
open Go Go.Sy Go.bK
variable {Γ : bn}
abbrev bC : List Wk:=bp ++ [(0,1,1)]
theorem OH : (af bp 0 == [(0,false),(4,true)]) = true:=by decide +kernel
theorem OC : (aJ 2 (af bp 0) == [0,0,2,2]) = true:=by decide +kernel
theorem OI : (aU 2 (af bp 0) == [1,-1,1,-1]) = true:=by decide +kernel
theorem OG : (bh (eI 2 3 bp 0 (hF (aB 2 bp 0) [5,7])) 1 == [-5,5,-7,7]) = true:=by decide +kernel
theorem OB : (aJ 2 (af bp 0)).length = 4 /\ (aU 2 (af bp 0)).length = 4 /\ (af bp 0).length = 2 /\ (eI 2 3 bp 0 (hF (aB 2 bp 0) [5,7])).length = 3 /\ (bh (eI 2 3 bp 0 (hF (aB 2 bp 0) [5,7])) 1).length = 4:=by decide +kernel
theorem vZ : (bf 2 3 bp 0 == 0) = true:=by decide +kernel
theorem jq : (bf 2 3 bC 0 == 0) = true:=by decide +kernel
theorem L8 : (pb 2 3 bp 0 != 2) = false:=by decide +kernel
theorem Pq : lP 2 (af bp 0) = 2:=by decide +kernel
theorem Ig : lP 2 (af bC 0) = 0:=by decide +kernel
theorem L7 : (!o6 2 3 bC 0) = false:=by decide +kernel
theorem Pr : AP 2 bp 0 [5,7] = true:=by decide +kernel
theorem v7 : (bD 2 3 bp == 0) = true:=by decide +kernel
theorem L4 : (bD 2 3 bC == 0) = true:=by decide +kernel
theorem JU : ((cz 4 7 1).1 != 11) = false:=by decide +kernel
theorem JV : ((cz 4 7 1).2 != 0) = false:=by decide +kernel
theorem L5 : ((aY 1 4).1 != 5) = false:=by decide +kernel
theorem L6 : ((aY 1 4).2 != 0) = false:=by decide +kernel
theorem OF : vF 2 3 bp = { data:=#[115,104,111,112,32,50,32,51,10,119,111,114,107,32,48,32,49,32,48,10,119,111,114,107,32,49,32,50,32,48,10,119,111,114,107,32,50,32,48,32,52,10] }:=by
 unfold vF
 rw [v7]
 dsimp only
 rw [N5 (oe.1 (eq_of_beq v7)) _ (Nat.le_refl _)]
 kernel_rfl
theorem rU {L : List Wk} (h : (bf 2 3 L 0 == 0) = true) : gH (af L 0):=by
 obtain ⟨hw,hP,hp,hn⟩:=gg (eq_of_beq h)
 exact nK (cW.1 hw) hP hp
theorem OE : iE 2 (af bC 0):=(xN (rU jq) (by unfold bz;omega)).1 ((Ax (rU jq) (by unfold bz;omega)).symm.trans Ig)
theorem OD : ¬ iE 2 (af bp 0):=fun h => by
 have h1:=(xN (rU vZ) (by unfold bz;omega)).2 h
 rw [<- Ax (rU vZ) (by unfold bz;omega),Pq] at h1
 cases h1
theorem Ci : kV 2 bC 0 (jO 2 bC 0) = 0 /\ (jO 2 bC 0).length <= 16 /\ ∀ w ∈ jO 2 bC 0,bN bC w = true /\ w.length <= 95:=by
 obtain ⟨hw,hP,hp,hn⟩:=gg (eq_of_beq jq)
 exact N6 (cW.1 hw) hP hp OE
theorem H7 {L : List Wk} {W : List (List Int)} (h : ∀ w ∈ W,bN L w = true /\ w.length <= 96) : cK L W = 0:=by
 unfold cK
 have h1 : W.any fW = false:=List.any_eq_false.2 fun w hw => by
  have:=(h w hw).2
  simp only [fW,decide_eq_true_eq];omega
 have h2 : W.any (fun w => !bN L w) = false:=List.any_eq_false.2 fun w hw => by rw [(h w hw).1];simp
 rw [h1,h2]
theorem Mu {n P : Int} {L : List Wk} {p : Int} {W : List (List Int)} (ha : (bf n P L p == 0) = true) (hl : W.length <= 40) (hs : cK L W = 0) : jZ n P L p W = kV n L p W:=by
 unfold jZ
 rw [ha]
 dsimp only
 rw [decide_eq_false (by omega)]
 dsimp only
 rw [hs];rfl
theorem Mt {n P : Int} {L : List Wk} {p : Int} {W : List (List Int)} (h : jZ n P L p W = 0) : (bf n P L p == 0) = true /\ cK L W = 0 /\ kV n L p W = 0:=by
 unfold jZ at h
 cases h0 : bf n P L p == 0 <;> rw [h0] at h <;> dsimp only at h
 ·rw [h] at h0;cases h0
 ·cases h1 : decide ((W.length : Int) > 40) <;> rw [h1] at h <;> dsimp only at h
  ·cases h2 : cK L W == 0 <;> rw [h2] at h <;> dsimp only at h
   ·rw [h] at h2;cases h2
   ·exact ⟨rfl,eq_of_beq h2,h⟩
  ·cases h
theorem Oz : (jZ 2 3 bC 0 (jO 2 bC 0) == 0) = true:=by
 obtain ⟨h1,h2,h3⟩:=Ci
 rw [Mu jq (by omega) (H7 fun w hw => ⟨(h3 w hw).1,by have:=(h3 w hw).2;omega⟩),h1];rfl
theorem OA : (jZ 2 3 bp 0 (jO 2 bC 0) != 0) = true:=by
 rw [bne_iff_ne]
 intro h
 obtain ⟨ha,hs,hc⟩:=Mt h
 obtain ⟨hw,hP,hp,hn⟩:=gg (eq_of_beq ha)
 exact OD (K9 (cW.1 hw) hP hp hn (fun w hw => (tv hs w hw).1) hc)
def tC : au:=.fn fun args _ => match args with
 | [] => some ([],bl true)
 | _ => none
noncomputable def Qi : List (Nat × au):=[(53,Dg),(42,DL),(17,yc),(18,xw),(25,DK),(36,Hz),(19,F9),(30,zN),(31,qm),(54,Dd),(50,ql),(55,sQ),(24,uA),(56,jf),(59,qo),(68,r5),(58,mh),(82,xz),(83,tB)]
theorem KT : aR Tryd.prog Γ Qi:=(((((((((((((((((((aR.nil.cons (aj Tryd.func83 rfl rfl).fn sU).cons (aj Tryd.func82 rfl rfl).fn zQ).cons (aj Tryd.func58 rfl rfl).fn jy).cons (aj Tryd.func68 rfl rfl).fn oU).cons (aj Tryd.func59 rfl rfl).fn qp).cons (aj Tryd.func56 rfl rfl).fn fQ).cons (aj Tryd.func24 rfl rfl).fn yG).cons (aj Tryd.func55 rfl rfl).fn wl).cons (aj Tryd.func50 rfl rfl).fn ux).cons (aj Tryd.func54 rfl rfl).fn EF).cons (aj Tryd.func31 rfl rfl).fn qn).cons (aj Tryd.func30 rfl rfl).fn xy).cons (aj Tryd.func19 rfl rfl).fn Ga).cons (aj Tryd.func36 rfl rfl).fn HA).cons (aj Tryd.func25 rfl rfl).fn Fb).cons (aj Tryd.func18 rfl rfl).fn zI).cons (aj Tryd.func17 rfl rfl).fn AX).cons (aj Tryd.func42 rfl rfl).fn Fc).cons (aj Tryd.func53 rfl rfl).fn EK)
noncomputable def OR : List (Nat × Body):=[(49,bo Tryd.f49)]
theorem IG : bq Tryd.prog OR:=(bq.nil.cons (cg Tryd.func49 rfl rfl))
attribute [local irreducible] bf eH af ap lP cL jQ Vr eI hF aB pb o6 AP bD cz aY vF jZ aJ aU jO tU bp
theorem sW : au.Ok Tryd.prog Γ 16 tC:=au.er (d:=3) (aP KT IG false 0) (aj Tryd.func16 rfl rfl) (by
 intro args rg q t hF hq
 split at hF
 next =>
  obtain ⟨rfl,rfl⟩:=Prod.mk.inj (Option.some.inj hF);clear hF
  refine ⟨rfl,[],[],[],⟨trivial,fun r g hg => by cases hg⟩,?_⟩
  have z0 : ((0 : Int) != 0) = false:=rfl
  have oz : bp.length = 3:=by unfold bp;rfl
  have DF : bC.length = 4:=by unfold bC;rw [List.length_append,oz];rfl
  have z1 : (bf 2 3 bp 0 != 0) = false:=by unfold bne;rw [vZ];rfl
  have z2 : (bf 2 3 bC 0 != 0) = false:=by unfold bne;rw [jq];rfl
  have z3 : (bD 2 3 bp != 0) = false:=by unfold bne;rw [v7];rfl
  have z4 : (lP 2 (af bC 0) != 0) = false:=by rw [Ig];rfl
  have z5 : (((Int.toNat 3 : Nat) : Int) != 3) = false:=rfl
  obtain ⟨hw,hP,hp,hn⟩:=gg (eq_of_beq jq)
  have hl : bC.length <= 1000000:=by omega
  have Vo:=rU jq
  have hgo : ∀ g ∈ af bC 0,0 <= g.1 /\ g.1 <= 7:=Vo.ok
  have x1:=OH;have x2:=OC;have x3:=OI;have x4:=OG;have x5:=vZ;have x6:=jq;have x7:=L8
  have x8:=L7;have x9:=Pr;have y1:=v7;have y2:=L4;have y3:=JU;have y4:=JV;have y5:=L5;have y6:=L6
  repeat' ((conv => whnf);first | apply And.intro | (intro h9;try (have h8 : (_ : Bool) = _:=h9;clear h8;revert h9;subst_vars;intro h9;exact aq h9 (by assumption))))
  all_goals try (conv => whnf)
  all_goals try first | (apply Tk.mk <;> kernel_rfl) | exact ⟨ah rfl⟩ | exact ⟨rfl⟩ | exact ⟨trivial⟩
  all_goals subst_vars
  all_goals try first | rfl | contradiction | (apply Ob.mk;first | (simp only [ag,ak,aa.ae];omega) | ((try simp only [aa.ae]);(try dsimp only);omega))
  all_goals try first
   | exact ⟨DA⟩
   | exact ⟨DB⟩
   | exact ⟨show (aJ 2 (af bp 0)).length <= 1000000 by omega⟩
   | exact ⟨show (aU 2 (af bp 0)).length <= 1000000 by omega⟩
   | exact ⟨show (af bp 0).length <= 1000000 by omega⟩
   | exact ⟨show (bh (eI 2 3 bp 0 (hF (aB 2 bp 0) [5,7])) 1).length <= 1000000 by omega⟩
   | exact ⟨show 0 + Int.toNat 1 < (eI 2 3 bp 0 (hF (aB 2 bp 0) [5,7])).length by omega⟩
   | exact ⟨v1.symm⟩
   | exact ⟨v2.symm⟩
   | exact ⟨show bp.length + 1 = bC.length by omega⟩
   | exact ⟨oz.symm⟩
   | exact ⟨DF.symm⟩
   | exact ⟨show bp.length <= 1000000 by omega⟩
   | exact ⟨show bC.length <= 1000000 by omega⟩
   | exact ⟨show bp.length <= 900000 by omega⟩
   | exact ⟨show 0 + 0 + ((((i + 1 : Nat) : Int) - 1).toNat - 0) <= l.length by omega⟩
   | exact ⟨show 0 + (((i + 1 : Nat) : Int) - 1 + 1).toNat + (l.length - (((i + 1 : Nat) : Int) - 1 + 1).toNat) <= l.length by omega⟩
   | exact ⟨hfl⟩
   | exact ⟨hfg⟩
   | exact ⟨oy⟩
   | exact ⟨Nat.zero_add _⟩
   | exact ⟨show (((l.take i).map (Vr bC 0)).length + 1) * 1 <= 1099511627776 by omega⟩
   | exact ⟨show 0 <= (i : Int) /\ (i : Int) < (l.length : Int) by omega⟩
   | exact ⟨show 0 + Int.toNat (i : Int) < l.length by omega⟩
   | exact ⟨hw⟩
   | exact ⟨hP⟩
   | exact ⟨hl⟩
   | exact ⟨hp⟩
   | exact ⟨hn⟩
   | exact ⟨show -9223372036854775808 <= ((af bC 0).length : Int) - 1 /\ ((af bC 0).length : Int) - 1 <= 9223372036854775807 by have:=fj bC 0;omega⟩
   | (apply Ob.mk;show (ag .i64 _).p;simp only [ag,ak,aa.ae];omega)
  have Sm : bp.length + 1 = bC.length:=by omega
  refine ⟨Nat × List Sg,fun s => s.1 <= s.2.length /\ s.2.length <= 16 /\ (∀ g ∈ s.2,g ∈ (af bC 0)) /\ jQ 2 s.1 s.2 = tU 2 (af bC 0),fun s => ⟨aI 67 [1,2,7,8,9] [.a (vI 0),.a (.p 9 [] 0 0),.a (.mp 10),.a (.sl 11 [] 0 s.2.length),.a (vI ((s.1 : Int) - 1))],[aI 170 [1,2,4,5,9,11,15,16,17,18] [.a (.p 1 [] 0 0),.a (.sl 2 [] 0 (af bp 0).length),.a (.sl 3 [] 0 4),.a (.sl 4 [] 0 4),.a (.sl 6 [] 0 3),.a (.p 8 [] 0 0),.a (vI (cz 4 7 1).1),.a (vI (cz 4 7 1).2),.a (vI (aY 1 4).1),.a (vI (aY 1 4).2)]],[.arr 60 kW bp true true,.box true [vI 2,vI 3,.sl 0 [] 0 3],.arr 64 kG (af bp 0) true true,.arr 3 kI (aJ 2 (af bp 0)) true true,.arr 3 kI (aU 2 (af bp 0)) true true,.dead,.arr 27 kT (eI 2 3 bp 0 (hF (aB 2 bp 0) [5,7])) true true,.arr 60 kW bC true true,.box true [vI 2,vI 3,.sl 7 [] 0 (bp.length + 1)],.box true [vI 2,vI 3,.sl 7 [] 0 (bC).length],.bH 111 kX 3 kI (ap bC 0) true true,.arr 64 kG s.2 false false]⟩,fun s => s.1,((af bC 0).length,(af bC 0)),[0,1,2,3,4,5,6,7,8,9,10,11],⟨Nat.le_refl _,fj _ _,fun g hg => hg,LC _ _⟩,?_,?_⟩
  ·repeat' ((conv => whnf);(first | apply And.intro | intro _))
   all_goals first | rfl | trivial | exact ah rfl | exact aS ‹_› rfl | exact aT ‹_› rfl | ((repeat' first | rfl | constructor);done) | assumption
  rintro ⟨i,l⟩ ⟨hi,Np,hls,hr⟩
  dsimp only at hi Np hls hr
  cases i with
  | succ i =>
    have p0 : decide ((((i + 1 : Nat) : Int) - 1) >= 0) = true:=decide_eq_true (by omega)
    have hx:=NY l i
    have ya : (tb l i).length = l.length - 1:=by rw [hx,List.length_append,List.length_take,List.length_drop];omega
    have hxs : ∀ g ∈ tb l i,g ∈ l:=fun g hg => by
     rw [hx] at hg
     rcases List.mem_append.1 hg with hg | hg
     ·exact List.mem_of_mem_take hg
     ·exact List.mem_of_mem_drop hg
    have hfl : (tb l i).length <= 1000000:=by omega
    have hfg : ∀ g ∈ tb l i,0 <= g.1 /\ g.1 <= 7:=fun g hg => hgo g (hls g (hxs g hg))
    rw [JC,<- hx] at hr
    cases hb : eH 2 (tb l i) <;> rw [hb] at hr <;> dsimp only at hr
    ·repeat' ((conv => whnf);first | apply And.intro | (intro h9;try (have h8 : (_ : Bool) = _:=h9;clear h8;revert h9;subst_vars;intro h9;exact aq h9 (by assumption))))
     all_goals try (conv => whnf)
     all_goals try first | (apply Tk.mk <;> kernel_rfl) | exact ⟨ah rfl⟩ | exact ⟨rfl⟩ | exact ⟨trivial⟩
     all_goals subst_vars
     all_goals try first | rfl | contradiction | (apply Ob.mk;first | (simp only [ag,ak,aa.ae];omega) | ((try simp only [aa.ae]);(try dsimp only);omega))
     all_goals try first
      | exact ⟨DA⟩
      | exact ⟨DB⟩
      | exact ⟨show (aJ 2 (af bp 0)).length <= 1000000 by omega⟩
      | exact ⟨show (aU 2 (af bp 0)).length <= 1000000 by omega⟩
      | exact ⟨show (af bp 0).length <= 1000000 by omega⟩
      | exact ⟨show (bh (eI 2 3 bp 0 (hF (aB 2 bp 0) [5,7])) 1).length <= 1000000 by omega⟩
      | exact ⟨show 0 + Int.toNat 1 < (eI 2 3 bp 0 (hF (aB 2 bp 0) [5,7])).length by omega⟩
      | exact ⟨v1.symm⟩
      | exact ⟨v2.symm⟩
      | exact ⟨show bp.length + 1 = bC.length by omega⟩
      | exact ⟨oz.symm⟩
      | exact ⟨DF.symm⟩
      | exact ⟨show bp.length <= 1000000 by omega⟩
      | exact ⟨show bC.length <= 1000000 by omega⟩
      | exact ⟨show bp.length <= 900000 by omega⟩
      | exact ⟨show 0 + 0 + ((((i + 1 : Nat) : Int) - 1).toNat - 0) <= l.length by omega⟩
      | exact ⟨show 0 + (((i + 1 : Nat) : Int) - 1 + 1).toNat + (l.length - (((i + 1 : Nat) : Int) - 1 + 1).toNat) <= l.length by omega⟩
      | exact ⟨hfl⟩
      | exact ⟨hfg⟩
      | exact ⟨oy⟩
      | exact ⟨Nat.zero_add _⟩
      | exact ⟨show (((l.take i).map (Vr bC 0)).length + 1) * 1 <= 1099511627776 by omega⟩
      | exact ⟨show 0 <= (i : Int) /\ (i : Int) < (l.length : Int) by omega⟩
      | exact ⟨show 0 + Int.toNat (i : Int) < l.length by omega⟩
      | exact ⟨hw⟩
      | exact ⟨hP⟩
      | exact ⟨hl⟩
      | exact ⟨hp⟩
      | exact ⟨hn⟩
      | exact ⟨show -9223372036854775808 <= ((af bC 0).length : Int) - 1 /\ ((af bC 0).length : Int) - 1 <= 9223372036854775807 by have:=fj bC 0;omega⟩
      | (apply Ob.mk;show (ag .i64 _).p;simp only [ag,ak,aa.ae];omega)
     refine ⟨(i,l),[0,1,2,3,4,5,6,7,8,9,10,11],⟨by show i <= l.length;omega,Np,hls,hr⟩,?_,by show i < i + 1;omega⟩
     repeat' ((conv => whnf);(first | apply And.intro | intro _))
     all_goals first | rfl | trivial | exact ah rfl | exact aS ‹_› rfl | exact aT ‹_› rfl | ((repeat' first | rfl | constructor);done) | exact idx i
    repeat' ((conv => whnf);first | apply And.intro | (intro h9;try (have h8 : (_ : Bool) = _:=h9;clear h8;revert h9;subst_vars;intro h9;exact aq h9 (by assumption))))
    all_goals try (conv => whnf)
    all_goals try first | (apply Tk.mk <;> kernel_rfl) | exact ⟨ah rfl⟩ | exact ⟨rfl⟩ | exact ⟨trivial⟩
    all_goals subst_vars
    all_goals try first | rfl | contradiction | (apply Ob.mk;first | (simp only [ag,ak,aa.ae];omega) | ((try simp only [aa.ae]);(try dsimp only);omega))
    all_goals try first
     | exact ⟨DA⟩
     | exact ⟨DB⟩
     | exact ⟨show (aJ 2 (af bp 0)).length <= 1000000 by omega⟩
     | exact ⟨show (aU 2 (af bp 0)).length <= 1000000 by omega⟩
     | exact ⟨show (af bp 0).length <= 1000000 by omega⟩
     | exact ⟨show (bh (eI 2 3 bp 0 (hF (aB 2 bp 0) [5,7])) 1).length <= 1000000 by omega⟩
     | exact ⟨show 0 + Int.toNat 1 < (eI 2 3 bp 0 (hF (aB 2 bp 0) [5,7])).length by omega⟩
     | exact ⟨v1.symm⟩
     | exact ⟨v2.symm⟩
     | exact ⟨show bp.length + 1 = bC.length by omega⟩
     | exact ⟨oz.symm⟩
     | exact ⟨DF.symm⟩
     | exact ⟨show bp.length <= 1000000 by omega⟩
     | exact ⟨show bC.length <= 1000000 by omega⟩
     | exact ⟨show bp.length <= 900000 by omega⟩
     | exact ⟨show 0 + 0 + ((((i + 1 : Nat) : Int) - 1).toNat - 0) <= l.length by omega⟩
     | exact ⟨show 0 + (((i + 1 : Nat) : Int) - 1 + 1).toNat + (l.length - (((i + 1 : Nat) : Int) - 1 + 1).toNat) <= l.length by omega⟩
     | exact ⟨hfl⟩
     | exact ⟨hfg⟩
     | exact ⟨oy⟩
     | exact ⟨Nat.zero_add _⟩
     | exact ⟨show (((l.take i).map (Vr bC 0)).length + 1) * 1 <= 1099511627776 by omega⟩
     | exact ⟨show 0 <= (i : Int) /\ (i : Int) < (l.length : Int) by omega⟩
     | exact ⟨show 0 + Int.toNat (i : Int) < l.length by omega⟩
     | exact ⟨hw⟩
     | exact ⟨hP⟩
     | exact ⟨hl⟩
     | exact ⟨hp⟩
     | exact ⟨hn⟩
     | exact ⟨show -9223372036854775808 <= ((af bC 0).length : Int) - 1 /\ ((af bC 0).length : Int) - 1 <= 9223372036854775807 by have:=fj bC 0;omega⟩
     | (apply Ob.mk;show (ag .i64 _).p;simp only [ag,ak,aa.ae];omega)
    refine ⟨(i,tb l i),[0,1,2,3,4,5,6,7,8,9,10,13],⟨by show i <= (tb l i).length;omega,by show (tb l i).length <= 16;omega,fun g hg => hls g (hxs g hg),hr⟩,?_,by show i < i + 1;omega⟩
    repeat' ((conv => whnf);(first | apply And.intro | intro _))
    all_goals first | rfl | trivial | exact ah rfl | exact aS ‹_› rfl | exact aT ‹_› rfl | ((repeat' first | rfl | constructor);done) | exact idx i
  | zero =>
  rw [JD] at hr
  have p0 : decide ((((0 : Nat) : Int) - 1) >= 0) = false:=rfl
  have hz : jO 2 bC 0 = l.map (Vr bC 0):=by rw [LD,<- hr]
  clear hr
  repeat' ((conv => whnf);first | apply And.intro | (intro h9;try (have h8 : (_ : Bool) = _:=h9;clear h8;revert h9;subst_vars;intro h9;exact aq h9 (by assumption))))
  all_goals try (conv => whnf)
  all_goals try first | (apply Tk.mk <;> kernel_rfl) | exact ⟨ah rfl⟩ | exact ⟨rfl⟩ | exact ⟨trivial⟩
  all_goals subst_vars
  all_goals try first | rfl | contradiction | (apply Ob.mk;first | (simp only [ag,ak,aa.ae];omega) | ((try simp only [aa.ae]);(try dsimp only);omega))
  all_goals try first
   | exact ⟨DA⟩
   | exact ⟨DB⟩
   | exact ⟨show (aJ 2 (af bp 0)).length <= 1000000 by omega⟩
   | exact ⟨show (aU 2 (af bp 0)).length <= 1000000 by omega⟩
   | exact ⟨show (af bp 0).length <= 1000000 by omega⟩
   | exact ⟨show (bh (eI 2 3 bp 0 (hF (aB 2 bp 0) [5,7])) 1).length <= 1000000 by omega⟩
   | exact ⟨show 0 + Int.toNat 1 < (eI 2 3 bp 0 (hF (aB 2 bp 0) [5,7])).length by omega⟩
   | exact ⟨v1.symm⟩
   | exact ⟨v2.symm⟩
   | exact ⟨show bp.length + 1 = bC.length by omega⟩
   | exact ⟨oz.symm⟩
   | exact ⟨DF.symm⟩
   | exact ⟨show bp.length <= 1000000 by omega⟩
   | exact ⟨show bC.length <= 1000000 by omega⟩
   | exact ⟨show bp.length <= 900000 by omega⟩
   | exact ⟨show 0 + 0 + ((((i + 1 : Nat) : Int) - 1).toNat - 0) <= l.length by omega⟩
   | exact ⟨show 0 + (((i + 1 : Nat) : Int) - 1 + 1).toNat + (l.length - (((i + 1 : Nat) : Int) - 1 + 1).toNat) <= l.length by omega⟩
   | exact ⟨hfl⟩
   | exact ⟨hfg⟩
   | exact ⟨oy⟩
   | exact ⟨Nat.zero_add _⟩
   | exact ⟨show (((l.take i).map (Vr bC 0)).length + 1) * 1 <= 1099511627776 by omega⟩
   | exact ⟨show 0 <= (i : Int) /\ (i : Int) < (l.length : Int) by omega⟩
   | exact ⟨show 0 + Int.toNat (i : Int) < l.length by omega⟩
   | exact ⟨hw⟩
   | exact ⟨hP⟩
   | exact ⟨hl⟩
   | exact ⟨hp⟩
   | exact ⟨hn⟩
   | exact ⟨show -9223372036854775808 <= ((af bC 0).length : Int) - 1 /\ ((af bC 0).length : Int) - 1 <= 9223372036854775807 by have:=fj bC 0;omega⟩
   | (apply Ob.mk;show (ag .i64 _).p;simp only [ag,ak,aa.ae];omega)
  refine ⟨Nat,fun i => i <= l.length,fun i => ⟨aI 67 [1,7,11,51,52,53] [.a (vI 0),.a (.mp 10),.a (.sl 12 [] 0 ((l.take i).map (Vr bC 0)).length),.a (.sl 11 [] 0 l.length),.a (vI l.length),.a (vI i)],[aI 170 [1,2,4,5,9,11,15,16,17,18] [.a (.p 1 [] 0 0),.a (.sl 2 [] 0 (af bp 0).length),.a (.sl 3 [] 0 4),.a (.sl 4 [] 0 4),.a (.sl 6 [] 0 3),.a (.p 8 [] 0 0),.a (vI (cz 4 7 1).1),.a (vI (cz 4 7 1).2),.a (vI (aY 1 4).1),.a (vI (aY 1 4).2)]],[.arr 60 kW bp true true,.box true [vI 2,vI 3,.sl 0 [] 0 3],.arr 64 kG (af bp 0) true true,.arr 3 kI (aJ 2 (af bp 0)) true true,.arr 3 kI (aU 2 (af bp 0)) true true,.dead,.arr 27 kT (eI 2 3 bp 0 (hF (aB 2 bp 0) [5,7])) true true,.arr 60 kW bC true true,.box true [vI 2,vI 3,.sl 7 [] 0 (bp.length + 1)],.box true [vI 2,vI 3,.sl 7 [] 0 (bC).length],.bH 111 kX 3 kI (ap bC 0) false false,.arr 64 kG l false false,.arr 27 kT ((l.take i).map (Vr bC 0)) true false]⟩,fun i => l.length - i,0,[0,1,2,3,4,5,6,7,8,9,10,11,1000],Nat.zero_le _,?_,?_⟩
  ·repeat' ((conv => whnf);(first | apply And.intro | intro _))
   all_goals first | rfl | trivial | exact ah rfl | exact aS ‹_› rfl | exact aT ‹_› rfl | ((repeat' first | rfl | constructor);done) | assumption
  clear hi
  rintro i hi
  by_cases hi1 : i < l.length
  ·have p1 : decide ((i : Int) < (l.length : Int)) = true:=decide_eq_true (by omega)
   have PP:=Jn (L:=bC) (p:=0) hi1
   have hml:=congrArg List.length PP
   rw [List.length_append,List.length_singleton] at hml
   have es:=rL l i
   have qQ : bI l i ∈ (af bC 0):=by rw [es];exact hls _ (hM hi1)
   have oy : br kX ((0,(bI l i).1,(bI l i).2) : Sp) (ap bC 0) < (ap bC 0).length:=A4 ((kD (cW.1 hw) hP hp).2 ((eo (cW.1 hw) hP hp).1 qQ))
   have PU : ((ap bC 0).getD (br kX ((0,(bI l i).1,(bI l i).2) : Sp) (ap bC 0)) aG).2 = Vr bC 0 (sg l i):=by
    rw [<- es]
    unfold Vr
    rw [<- A2 (p:=0) (g:=bI l i)]
    rfl
   have hel : List.drop 0 ((l.take i).map (Vr bC 0)) ++ List.take 1 (List.drop 0 [List.take ((ap bC 0).getD (br kX ((0,(bI l i).1,(bI l i).2) : Sp) (ap bC 0)) aG).2.length (List.drop 0 ((ap bC 0).getD (br kX ((0,(bI l i).1,(bI l i).2) : Sp) (ap bC 0)) aG).2)]) = (l.take (i + 1)).map (Vr bC 0):=by
    rw [PU,PP,List.drop_zero,List.drop_zero,List.drop_zero,List.take_length];rfl
   have Kp : ((l.take i).map (Vr bC 0)).length <= 16:=by rw [List.length_map,List.length_take];omega
   clear PU
   repeat' ((conv => whnf);first | apply And.intro | (intro h9;try (have h8 : (_ : Bool) = _:=h9;clear h8;revert h9;subst_vars;intro h9;exact aq h9 (by assumption))))
   all_goals try (conv => whnf)
   all_goals try first | (apply Tk.mk <;> kernel_rfl) | exact ⟨ah rfl⟩ | exact ⟨rfl⟩ | exact ⟨trivial⟩
   all_goals subst_vars
   all_goals try first | rfl | contradiction | (apply Ob.mk;first | (simp only [ag,ak,aa.ae];omega) | ((try simp only [aa.ae]);(try dsimp only);omega))
   all_goals try first
    | exact ⟨DA⟩
    | exact ⟨DB⟩
    | exact ⟨show (aJ 2 (af bp 0)).length <= 1000000 by omega⟩
    | exact ⟨show (aU 2 (af bp 0)).length <= 1000000 by omega⟩
    | exact ⟨show (af bp 0).length <= 1000000 by omega⟩
    | exact ⟨show (bh (eI 2 3 bp 0 (hF (aB 2 bp 0) [5,7])) 1).length <= 1000000 by omega⟩
    | exact ⟨show 0 + Int.toNat 1 < (eI 2 3 bp 0 (hF (aB 2 bp 0) [5,7])).length by omega⟩
    | exact ⟨v1.symm⟩
    | exact ⟨v2.symm⟩
    | exact ⟨show bp.length + 1 = bC.length by omega⟩
    | exact ⟨oz.symm⟩
    | exact ⟨DF.symm⟩
    | exact ⟨show bp.length <= 1000000 by omega⟩
    | exact ⟨show bC.length <= 1000000 by omega⟩
    | exact ⟨show bp.length <= 900000 by omega⟩
    | exact ⟨show 0 + 0 + ((((i + 1 : Nat) : Int) - 1).toNat - 0) <= l.length by omega⟩
    | exact ⟨show 0 + (((i + 1 : Nat) : Int) - 1 + 1).toNat + (l.length - (((i + 1 : Nat) : Int) - 1 + 1).toNat) <= l.length by omega⟩
    | exact ⟨hfl⟩
    | exact ⟨hfg⟩
    | exact ⟨oy⟩
    | exact ⟨Nat.zero_add _⟩
    | exact ⟨show (((l.take i).map (Vr bC 0)).length + 1) * 1 <= 1099511627776 by omega⟩
    | exact ⟨show 0 <= (i : Int) /\ (i : Int) < (l.length : Int) by omega⟩
    | exact ⟨show 0 + Int.toNat (i : Int) < l.length by omega⟩
    | exact ⟨hw⟩
    | exact ⟨hP⟩
    | exact ⟨hl⟩
    | exact ⟨hp⟩
    | exact ⟨hn⟩
    | exact ⟨show -9223372036854775808 <= ((af bC 0).length : Int) - 1 /\ ((af bC 0).length : Int) - 1 <= 9223372036854775807 by have:=fj bC 0;omega⟩
    | (apply Ob.mk;show (ag .i64 _).p;simp only [ag,ak,aa.ae];omega)
   refine ⟨i + 1,[0,1,2,3,4,5,6,7,8,9,10,11,12],hi1,?_,by show l.length - (i + 1) < l.length - i;omega⟩
   repeat' ((conv => whnf);(first | apply And.intro | intro _))
   all_goals first | rfl | trivial | exact ah rfl | exact aS ‹_› rfl | exact aT ‹_› rfl | ((repeat' first | rfl | constructor);done) | exact hml.symm | exact ⟨rfl,rfl,hel⟩
  have p1 : decide ((i : Int) < (l.length : Int)) = false:=decide_eq_false (by omega)
  obtain rfl : i = l.length:=by omega
  have pU : (l.take l.length).map (Vr bC 0) = jO 2 bC 0:=by rw [List.take_length];exact hz.symm
  clear hz hi1
  have c1 : (jZ 2 3 bC 0 ((l.take l.length).map (Vr bC 0)) == 0) = true:=by rw [pU];exact Oz
  have c2 : (jZ 2 3 bp 0 ((l.take l.length).map (Vr bC 0)) != 0) = true:=by rw [pU];exact OA
  have DA : ((l.take l.length).map (Vr bC 0)).length <= 1000000:=by rw [pU];have:=Ci.2.1;omega
  have DB : ∀ w ∈ (l.take l.length).map (Vr bC 0),w.length <= 1000000:=by rw [pU];intro w hw;have:=(Ci.2.2 w hw).2;omega
  have y7 : (!((vF 2 3 bp).toList == ByteArray.toList { data:=#[115,104,111,112,32,50,32,51,10,119,111,114,107,32,48,32,49,32,48,10,119,111,114,107,32,49,32,50,32,48,10,119,111,114,107,32,50,32,48,32,52,10] })) = false:=by rw [OF];simp
  obtain ⟨v1,v2,v3,v4,v5⟩:=OB
  repeat' ((conv => whnf);first | apply And.intro | (intro h9;try (have h8 : (_ : Bool) = _:=h9;clear h8;revert h9;subst_vars;intro h9;exact aq h9 (by assumption))))
  all_goals try (conv => whnf)
  all_goals try first | (apply Tk.mk <;> kernel_rfl) | exact ⟨ah rfl⟩ | exact ⟨rfl⟩ | exact ⟨trivial⟩
  all_goals subst_vars
  all_goals try first | rfl | contradiction | (apply Ob.mk;first | (simp only [ag,ak,aa.ae];omega) | ((try simp only [aa.ae]);(try dsimp only);omega))
  all_goals first
   | trivial
   | exact ⟨DA⟩
   | exact ⟨DB⟩
   | exact ⟨show (aJ 2 (af bp 0)).length <= 1000000 by omega⟩
   | exact ⟨show (aU 2 (af bp 0)).length <= 1000000 by omega⟩
   | exact ⟨show (af bp 0).length <= 1000000 by omega⟩
   | exact ⟨show (bh (eI 2 3 bp 0 (hF (aB 2 bp 0) [5,7])) 1).length <= 1000000 by omega⟩
   | exact ⟨show 0 + Int.toNat 1 < (eI 2 3 bp 0 (hF (aB 2 bp 0) [5,7])).length by omega⟩
   | exact ⟨v1.symm⟩
   | exact ⟨v2.symm⟩
   | exact ⟨show bp.length + 1 = bC.length by omega⟩
   | exact ⟨oz.symm⟩
   | exact ⟨DF.symm⟩
   | exact ⟨show bp.length <= 1000000 by omega⟩
   | exact ⟨show bC.length <= 1000000 by omega⟩
   | exact ⟨show bp.length <= 900000 by omega⟩
   | exact ⟨show 0 + 0 + ((((i + 1 : Nat) : Int) - 1).toNat - 0) <= l.length by omega⟩
   | exact ⟨show 0 + (((i + 1 : Nat) : Int) - 1 + 1).toNat + (l.length - (((i + 1 : Nat) : Int) - 1 + 1).toNat) <= l.length by omega⟩
   | exact ⟨hfl⟩
   | exact ⟨hfg⟩
   | exact ⟨oy⟩
   | exact ⟨Nat.zero_add _⟩
   | exact ⟨show (((l.take i).map (Vr bC 0)).length + 1) * 1 <= 1099511627776 by omega⟩
   | exact ⟨show 0 <= (i : Int) /\ (i : Int) < (l.length : Int) by omega⟩
   | exact ⟨show 0 + Int.toNat (i : Int) < l.length by omega⟩
   | exact ⟨hw⟩
   | exact ⟨hP⟩
   | exact ⟨hl⟩
   | exact ⟨hp⟩
   | exact ⟨hn⟩
   | exact ⟨show -9223372036854775808 <= ((af bC 0).length : Int) - 1 /\ ((af bC 0).length : Int) - 1 <= 9223372036854775807 by have:=fj bC 0;omega⟩
   | (apply Ob.mk;show (ag .i64 _).p;simp only [ag,ak,aa.ae];omega)
 next => cases hF)
end Go.Proofs.YthejmgnkenokpaaDoor
end
section
namespace Go.Proofs.YthejmgnkenokpaaDoor
open Go Go.Sy Go.bK
variable {Γ : bn}
def GO (D : Int -> Int -> Int -> Int -> List aa) (F : Int -> Int -> Int -> Int -> Tm) : au:=.fn fun args rg => match args with
 | [.a (.v (.int .i64 n0)),.a (.v (.int .i64 n1)),.a (.v (.int .i64 n2)),.a (.v (.int .i64 n3))] => some (D n0 n1 n2 n3,F n0 n1 n2 n3)
 | _ => none
theorem GP {f : FuncId} {b : Body} {E : Env} {d : Nat} (hP : aL Tryd.prog Γ E) (hb : bQ Tryd.prog f b) {D : Int -> Int -> Int -> Int -> List aa} {F : Int -> Int -> Int -> Int -> Tm} (hp : ∀ (n0 : Int) (n1 : Int) (n2 : Int) (n3 : Int),(F n0 n1 n2 n3).plain = true)
  (H : ∀ (n0 : Int) (n1 : Int) (n2 : Int) (n3 : Int),bW (D n0 n1 n2 n3) -> cQ E d b [.a (vI n0),.a (vI n1),.a (vI n2),.a (vI n3)] [] (fun x _ => iL x (F n0 n1 n2 n3))) : au.Ok Tryd.prog Γ f (GO D F):=au.er (d:=d) hP hb (by
 intro args rg q t hF hq
 split at hF
 next n0 n1 n2 n3 =>
  obtain ⟨rfl,rfl⟩:=Prod.mk.inj (Option.some.inj hF);clear hF
  have hD:=hq
  refine ⟨hp _ _ _ _,[],[.a (vI n0),.a (vI n1),.a (vI n2),.a (vI n3)],[],⟨⟨rfl,rfl,rfl,rfl,trivial⟩,fun r g hg => ?_⟩,H _ _ _ _ hD⟩
  cases hg
 next => cases hF)
def Du (D : Int -> Int -> Int -> Int -> Int -> List aa) (F : Int -> Int -> Int -> Int -> Int -> Tm) : au:=.fn fun args rg => match args with
 | [.a (.v (.int .i64 n0)),.a (.v (.int .i64 n1)),.a (.v (.int .i64 n2)),.a (.v (.int .i64 n3)),.a (.v (.int .i64 n4))] => some (D n0 n1 n2 n3 n4,F n0 n1 n2 n3 n4)
 | _ => none
theorem EU {f : FuncId} {b : Body} {E : Env} {d : Nat} (hP : aL Tryd.prog Γ E) (hb : bQ Tryd.prog f b) {D : Int -> Int -> Int -> Int -> Int -> List aa} {F : Int -> Int -> Int -> Int -> Int -> Tm} (hp : ∀ (n0 : Int) (n1 : Int) (n2 : Int) (n3 : Int) (n4 : Int),(F n0 n1 n2 n3 n4).plain = true)
  (H : ∀ (n0 : Int) (n1 : Int) (n2 : Int) (n3 : Int) (n4 : Int),bW (D n0 n1 n2 n3 n4) -> cQ E d b [.a (vI n0),.a (vI n1),.a (vI n2),.a (vI n3),.a (vI n4)] [] (fun x _ => iL x (F n0 n1 n2 n3 n4))) : au.Ok Tryd.prog Γ f (Du D F):=au.er (d:=d) hP hb (by
 intro args rg q t hF hq
 split at hF
 next n0 n1 n2 n3 n4 =>
  obtain ⟨rfl,rfl⟩:=Prod.mk.inj (Option.some.inj hF);clear hF
  have hD:=hq
  refine ⟨hp _ _ _ _ _,[],[.a (vI n0),.a (vI n1),.a (vI n2),.a (vI n3),.a (vI n4)],[],⟨⟨rfl,rfl,rfl,rfl,rfl,trivial⟩,fun r g hg => ?_⟩,H _ _ _ _ _ hD⟩
  cases hg
 next => cases hF)
theorem uL {a b : Int} (ha : aQ a 0 7 = true) (hb : aQ b 0 7 = true) : aQ (bJ a b) 0 7 = true:=by
 have h1:=bA.1 ha;have h2:=bA.1 hb
 have:=og (a:=a.toNat) (b:=b.toNat) (by omega) (by omega)
 rw [bA];unfold bJ;omega
theorem Fa {a : Int} (ha : aQ a 0 7 = true) : aQ (cD a) 0 7 = true:=by
 have h1:=bA.1 ha
 have:=(gW (a:=a.toNat) (by omega)).1
 rw [bA];unfold cD;omega
theorem di {a b : Int} (ha : aQ a 0 7 = true) (hb : aQ b 0 7 = true) : aY a b = (bJ a b,0):=by unfold aY;rw [ha,hb]
theorem jA {a b : Int} (h : aQ a 0 7 = false \/ aQ b 0 7 = false) : aY a b = (0,1):=by
 unfold aY
 cases h1 : aQ a 0 7 <;> cases h2 : aQ b 0 7 <;> first | rfl | (rw [h1,h2] at h;simp at h)
theorem lq {a : Int} (ha : aQ a 0 7 = true) : cr a = (cD a,0):=by unfold cr;rw [ha]
theorem AV {a : Int} (ha : aQ a 0 7 = false) : cr a = (0,1):=by unfold cr;rw [ha]
theorem EM {a b c : Int} (ha : aQ a 0 7 = true) (hb : aQ b 0 7 = true) (hc : aQ c 0 7 = true) : bJ (bJ a b) c = bJ a (bJ b c):=by
 have h1:=bA.1 ha;have h2:=bA.1 hb;have h3:=bA.1 hc
 have:=xD (a:=a.toNat) (b:=b.toNat) (c:=c.toNat) (by omega) (by omega) (by omega)
 unfold bJ
 rw [Int.toNat_natCast,Int.toNat_natCast,this]
theorem E9 {a : Int} (ha : aQ a 0 7 = true) : bJ a (cD a) = 0 /\ bJ (cD a) a = 0 /\ bJ a 0 = a:=by
 have h1:=bA.1 ha
 have:=gW (a:=a.toNat) (by omega)
 unfold bJ cD
 rw [Int.toNat_natCast]
 refine ⟨by rw [this.2.1];rfl,by rw [this.2.2.1];rfl,?_⟩
 show ((cmp a.toNat 0 : Nat) : Int) = a
 rw [this.2.2.2.1];omega
theorem Ou {n a b x : Int} (hn : aQ n 1 6 = true) (ha : aQ a 0 7 = true) (hb : aQ b 0 7 = true) (hx : aQ x 0 (n * n - 1) = true) : aX n b (aX n a x) = aX n (bJ a b) x:=by
 have h1:=bA.1 ha;have h2:=bA.1 hb;have h3:=bA.1 hn;have h4:=bA.1 hx
 have cO : x.toNat < n.toNat * n.toNat:=by
  have : (x.toNat : Int) < ((n.toNat * n.toNat : Nat) : Int):=by
   rw [Int.natCast_mul,Int.toNat_of_nonneg (by omega : 0 <= n),Int.toNat_of_nonneg h4.1];omega
  exact_mod_cast this
 have:=KG (n:=n.toNat) (a:=a.toNat) (b:=b.toNat) (x:=x.toNat) (by omega) (by omega) (by omega) cO
 unfold aX bJ
 rw [Int.toNat_natCast,Int.toNat_natCast,this]
theorem sK {n t x : Int} (hn : aQ n 1 6 = true) (ht : aQ t 0 7 = true) (hx : aQ x 0 (n * n - 1) = true) : cz n t x = (aX n t x,0):=by unfold cz;rw [if_pos ⟨hn,ht,hx⟩]
theorem JL (n t x : Int) : (cz n t x = (0,1)) \/ ((aQ n 1 6 = true /\ aQ t 0 7 = true /\ aQ x 0 (n * n - 1) = true) /\ cz n t x = (aX n t x,0)):=by
 unfold cz
 by_cases h : aQ n 1 6 = true /\ aQ t 0 7 = true /\ aQ x 0 (n * n - 1) = true
 ·rw [if_pos h];exact .inr ⟨h,rfl⟩
 ·rw [if_neg h];exact .inl rfl
theorem H8 {n t x : Int} (hn : aQ n 1 6 = true) (ht : aQ t 0 7 = true) (hx : aQ x 0 (n * n - 1) = true) : aQ (aX n t x) 0 (n * n - 1) = true:=by
 have:=rP (n:=n) (t:=t) (x:=x) (bA.1 hn) (bA.1 ht) (by have:=bA.1 hx;omega)
 rw [bA];omega
def zM : au:=GO (fun _ _ _ _ => []) (fun _ _ _ _ => bl true)
def zL : au:=Du (fun _ _ _ _ _ => []) (fun _ _ _ _ _ => bl true)
noncomputable def QM : List (Nat × au):=[(30,zN),(31,qm),(32,xx),(33,xA),(27,mg),(34,rY),(35,zF),(16,tC)]
theorem nL : aR Tryd.prog Γ QM:=((((((((aR.nil.cons (aj Tryd.func16 rfl rfl).fn sW).cons (aj Tryd.func35 rfl rfl).fn xu).cons (aj Tryd.func34 rfl rfl).fn oR).cons (aj Tryd.func27 rfl rfl).fn jx).cons (aj Tryd.func33 rfl rfl).fn zS).cons (aj Tryd.func32 rfl rfl).fn zJ).cons (aj Tryd.func31 rfl rfl).fn qn).cons (aj Tryd.func30 rfl rfl).fn xy)
attribute [local irreducible] cz aY cr aQ bJ cD aX
theorem uz : au.Ok Tryd.prog Γ 5 zM:=GP (d:=0) (aP nL bq.nil false 0) (aj Tryd.func5 rfl rfl) (fun _ _ _ _ => rfl) (by
 intro n a b x _
 have z1 : ((cz n a x).1 != (cz n a x).1) = false:=bne_self_eq_false _
 have z2 : ((cz n a x).2 != (cz n a x).2) = false:=bne_self_eq_false _
 obtain h1 | h1 : aQ a 0 7 = false \/ aQ a 0 7 = true:=by cases aQ a 0 7 <;> simp
 ·have z3 : ((aY a b).2 != 1) = false:=by rw [jA (.inl h1)];rfl
  have z4 : ((aY a b).1 != 0) = false:=by rw [jA (.inl h1)];rfl
  have n1 : (!aQ a 0 7) = true:=by rw [h1];rfl
  have z5 : ((cr a).2 == 1) = true:=by rw [AV h1];rfl
  have z7 : ((cr a).2 == 0) = false:=by rw [AV h1];rfl
  have z8 : ((aY a b).2 != 0) = true:=by rw [jA (.inl h1)];rfl
  have z6 : ((cr a).1 == 0) = true:=by rw [AV h1];rfl
  repeat' ((conv => whnf);first | apply And.intro | (intro h9;try (have h8 : (_ : Bool) = _:=h9;clear h8;revert h9;subst_vars;intro h9;exact aq h9 (by assumption))))
  all_goals try (conv => whnf)
  all_goals try first | (apply Tk.mk <;> kernel_rfl) | exact ⟨ah rfl⟩ | exact ⟨rfl⟩ | exact ⟨trivial⟩
  all_goals subst_vars
  all_goals try first | rfl | contradiction | (apply Ob.mk;first | (simp only [ag,ak,aa.ae];omega) | ((try simp only [aa.ae]);(try dsimp only);omega))
  all_goals first
   | trivial
   | (apply Ob.mk;show (ag .i64 _).p;simp only [ag,ak,aa.ae];omega)
 have a1:=bA.1 h1
 have n1 : (!aQ a 0 7) = false:=by rw [h1];rfl
 have z5 : ((cr a).2 == 0) = true:=by rw [lq h1];rfl
 have z8 : ((cr a).2 == 1) = false:=by rw [lq h1];rfl
 have z6 : ((cr a).1 == cD a) = true:=by rw [lq h1];exact beq_self_eq_true _
 obtain h2 | h2 : aQ b 0 7 = false \/ aQ b 0 7 = true:=by cases aQ b 0 7 <;> simp
 ·have n2 : (!aQ b 0 7) = true:=by rw [h2];rfl
  have z3 : ((aY a b).2 != 1) = false:=by rw [jA (.inr h2)];rfl
  have z9 : ((aY a b).2 != 0) = true:=by rw [jA (.inr h2)];rfl
  have z4 : ((aY a b).1 != 0) = false:=by rw [jA (.inr h2)];rfl
  repeat' ((conv => whnf);first | apply And.intro | (intro h9;try (have h8 : (_ : Bool) = _:=h9;clear h8;revert h9;subst_vars;intro h9;exact aq h9 (by assumption))))
  all_goals try (conv => whnf)
  all_goals try first | (apply Tk.mk <;> kernel_rfl) | exact ⟨ah rfl⟩ | exact ⟨rfl⟩ | exact ⟨trivial⟩
  all_goals subst_vars
  all_goals try first | rfl | contradiction | (apply Ob.mk;first | (simp only [ag,ak,aa.ae];omega) | ((try simp only [aa.ae]);(try dsimp only);omega))
  all_goals first
   | trivial
   | (apply Ob.mk;show (ag .i64 _).p;simp only [ag,ak,aa.ae];omega)
 have a2:=bA.1 h2
 have n2 : (!aQ b 0 7) = false:=by rw [h2];rfl
 have z9 : ((aY a b).2 != 1) = true:=by rw [di h1 h2];rfl
 have z3 : ((aY a b).2 != 0) = false:=by rw [di h1 h2];rfl
 have z4 : ((aY a b).1 != bJ a b) = false:=by rw [di h1 h2];exact bne_self_eq_false _
 repeat' ((conv => whnf);first | apply And.intro | (intro h9;try (have h8 : (_ : Bool) = _:=h9;clear h8;revert h9;subst_vars;intro h9;exact aq h9 (by assumption))))
 all_goals try (conv => whnf)
 all_goals try first | (apply Tk.mk <;> kernel_rfl) | exact ⟨ah rfl⟩ | exact ⟨rfl⟩ | exact ⟨trivial⟩
 all_goals subst_vars
 all_goals try first | rfl | contradiction | (apply Ob.mk;first | (simp only [ag,ak,aa.ae];omega) | ((try simp only [aa.ae]);(try dsimp only);omega))
 all_goals first
  | trivial
  | (apply Ob.mk;show (ag .i64 _).p;simp only [ag,ak,aa.ae];omega))
theorem uy : au.Ok Tryd.prog Γ 6 zL:=EU (d:=0) (aP nL bq.nil false 0) (aj Tryd.func6 rfl rfl) (fun _ _ _ _ _ => rfl) (by
 intro n a b c x _
 obtain h1 | h1 : aQ a 0 7 = false \/ aQ a 0 7 = true:=by cases aQ a 0 7 <;> simp
 ·have z1 : ((aY a b).2 != 0) = true:=by rw [jA (.inl h1)];rfl
  repeat' ((conv => whnf);first | apply And.intro | (intro h9;try (have h8 : (_ : Bool) = _:=h9;clear h8;revert h9;subst_vars;intro h9;exact aq h9 (by assumption))))
  all_goals try (conv => whnf)
  all_goals try first | (apply Tk.mk <;> kernel_rfl) | exact ⟨ah rfl⟩ | exact ⟨rfl⟩ | exact ⟨trivial⟩
  all_goals subst_vars
  all_goals try first | rfl | contradiction | (apply Ob.mk;first | (simp only [ag,ak,aa.ae];omega) | ((try simp only [aa.ae]);(try dsimp only);omega))
  all_goals first
   | trivial
   | (apply Ob.mk;show (ag .i64 _).p;simp only [ag,ak,aa.ae];omega)
 have y1 : ((cr a).2 != 0) = false:=by rw [lq h1];rfl
 obtain h2 | h2 : aQ b 0 7 = false \/ aQ b 0 7 = true:=by cases aQ b 0 7 <;> simp
 ·have z1 : ((aY a b).2 != 0) = true:=by rw [jA (.inr h2)];rfl
  repeat' ((conv => whnf);first | apply And.intro | (intro h9;try (have h8 : (_ : Bool) = _:=h9;clear h8;revert h9;subst_vars;intro h9;exact aq h9 (by assumption))))
  all_goals try (conv => whnf)
  all_goals try first | (apply Tk.mk <;> kernel_rfl) | exact ⟨ah rfl⟩ | exact ⟨rfl⟩ | exact ⟨trivial⟩
  all_goals subst_vars
  all_goals try first | rfl | contradiction | (apply Ob.mk;first | (simp only [ag,ak,aa.ae];omega) | ((try simp only [aa.ae]);(try dsimp only);omega))
  all_goals first
   | trivial
   | (apply Ob.mk;show (ag .i64 _).p;simp only [ag,ak,aa.ae];omega)
 have z1 : ((aY a b).2 != 0) = false:=by rw [di h1 h2];rfl
 obtain h3 | h3 : aQ c 0 7 = false \/ aQ c 0 7 = true:=by cases aQ c 0 7 <;> simp
 ·have z2 : ((aY b c).2 != 0) = true:=by rw [jA (.inr h3)];rfl
  repeat' ((conv => whnf);first | apply And.intro | (intro h9;try (have h8 : (_ : Bool) = _:=h9;clear h8;revert h9;subst_vars;intro h9;exact aq h9 (by assumption))))
  all_goals try (conv => whnf)
  all_goals try first | (apply Tk.mk <;> kernel_rfl) | exact ⟨ah rfl⟩ | exact ⟨rfl⟩ | exact ⟨trivial⟩
  all_goals subst_vars
  all_goals try first | rfl | contradiction | (apply Ob.mk;first | (simp only [ag,ak,aa.ae];omega) | ((try simp only [aa.ae]);(try dsimp only);omega))
  all_goals first
   | trivial
   | (apply Ob.mk;show (ag .i64 _).p;simp only [ag,ak,aa.ae];omega)
 have z2 : ((aY b c).2 != 0) = false:=by rw [di h2 h3];rfl
 have k0 : aQ 0 0 7 = true:=by unfold aQ;rfl
 have Ku:=uL h1 h2
 have PZ:=uL h2 h3
 have kb:=Fa h1
 obtain ⟨i1,i2,i3⟩:=E9 h1
 have x1 : ((aY (aY a b).1 c).2 != 0) = false:=by rw [di h1 h2,di Ku h3];rfl
 have x2 : ((aY a (aY b c).1).2 != 0) = false:=by rw [di h2 h3,di h1 PZ];rfl
 have x3 : ((aY a (cr a).1).2 != 0) = false:=by rw [lq h1,di h1 kb];rfl
 have x4 : ((aY (cr a).1 a).2 != 0) = false:=by rw [lq h1,di kb h1];rfl
 have x5 : ((aY a 0).2 != 0) = false:=by rw [di h1 k0];rfl
 have x6 : ((aY (aY a b).1 c).1 != (aY a (aY b c).1).1) = false:=by
  rw [di h1 h2,di Ku h3,di h2 h3,di h1 PZ]
  simp [EM h1 h2 h3]
 have x7 : ((aY a (cr a).1).1 != 0) = false:=by rw [lq h1,di h1 kb];simp [i1]
 have x8 : ((aY (cr a).1 a).1 != 0) = false:=by rw [lq h1,di kb h1];simp [i2]
 have x9 : ((aY a 0).1 != a) = false:=by rw [di h1 k0];simp [i3]
 obtain ht | ⟨⟨g1,-,g3⟩,ht⟩:=JL n a x
 ·have w1 : ((cz n a x).2 != 0) = true:=by rw [ht];rfl
  have w2 : ((cz n a x).2 == 1) = true:=by rw [ht];rfl
  repeat' ((conv => whnf);first | apply And.intro | (intro h9;try (have h8 : (_ : Bool) = _:=h9;clear h8;revert h9;subst_vars;intro h9;exact aq h9 (by assumption))))
  all_goals try (conv => whnf)
  all_goals try first | (apply Tk.mk <;> kernel_rfl) | exact ⟨ah rfl⟩ | exact ⟨rfl⟩ | exact ⟨trivial⟩
  all_goals subst_vars
  all_goals try first | rfl | contradiction | (apply Ob.mk;first | (simp only [ag,ak,aa.ae];omega) | ((try simp only [aa.ae]);(try dsimp only);omega))
  all_goals first
   | trivial
   | (apply Ob.mk;show (ag .i64 _).p;simp only [ag,ak,aa.ae];omega)
 have w1 : ((cz n a x).2 != 0) = false:=by rw [ht];rfl
 have w3 : ((cz n b (cz n a x).1).2 == 0) = true:=by rw [ht,sK g1 h2 (H8 g1 h1 g3)];rfl
 have w4 : ((cz n (aY a b).1 x).2 == 0) = true:=by rw [di h1 h2,sK g1 Ku g3];rfl
 have w5 : ((cz n b (cz n a x).1).1 == (cz n (aY a b).1 x).1) = true:=by
  rw [ht,sK g1 h2 (H8 g1 h1 g3),di h1 h2,sK g1 Ku g3,Ou g1 h1 h2 g3];exact beq_self_eq_true _
 repeat' ((conv => whnf);first | apply And.intro | (intro h9;try (have h8 : (_ : Bool) = _:=h9;clear h8;revert h9;subst_vars;intro h9;exact aq h9 (by assumption))))
 all_goals try (conv => whnf)
 all_goals try first | (apply Tk.mk <;> kernel_rfl) | exact ⟨ah rfl⟩ | exact ⟨rfl⟩ | exact ⟨trivial⟩
 all_goals subst_vars
 all_goals try first | rfl | contradiction | (apply Ob.mk;first | (simp only [ag,ak,aa.ae];omega) | ((try simp only [aa.ae]);(try dsimp only);omega))
 all_goals first
  | trivial
  | (apply Ob.mk;show (ag .i64 _).p;simp only [ag,ak,aa.ae];omega))
end Go.Proofs.YthejmgnkenokpaaDoor
end
