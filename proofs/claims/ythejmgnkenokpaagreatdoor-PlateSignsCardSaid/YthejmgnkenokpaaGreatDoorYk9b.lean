/-
  Texts of the claims on chapter 3: Yk9b. No condition: lemmas and contracts.
-/
import Derived.Test.YthejmgnkenokpaaGreatDoorYk3b
import Derived.Test.YthejmgnkenokpaaGreatDoorPl1b
import Derived.Test.YthejmgnkenokpaaGreatDoorYk5b
import Derived.Test.YthejmgnkenokpaaGreatDoorYk8b
import Derived.Shelf.Small.Bits
import Derived.Shelf.Small.Strs
import Derived.Shelf.Utf8.RuneCount
import Derived.Shelf.Strconv.Itoa0
import Derived.Shelf.Strconv.Itoa1
import Derived.Shelf.LaysM
import Derived.Shelf.Strconv.Itoa2
import Derived.Shelf.Strconv.Itoa3
import Derived.Shelf.Strings.Search1
import Derived.Shelf.Strings.Search2
import Derived.Shelf.Strings.Search3
import Derived.Shelf.Strings.Count
import Derived.Shelf.Strings.Shaped
import Derived.Shelf.Strings.Split
import Derived.Shelf.Strings.SplitShaped
import Derived.Shelf.Unicode.Decode
import Derived.Shelf.Strings.RuneCount
import Derived.Shelf.Strings.Explode
import Derived.Shelf.Unicode.DecodeSlow
import Derived.Shelf.Unicode.DecodeAny
import Derived.Test.YthejmgnkenokpaaGreatDoorProg
import Derived.Test.YthejmgnkenokpaaGreatDoorYk2b
set_option linter.all false
set_option maxRecDepth 100000
set_option maxHeartbeats 4000000
section
namespace Go.Proofs.YthejmgnkenokpaaGreatDoor
open Go Go.Sy Go.bK
variable {Γ : bn}
abbrev kH : List CK:=[.sl 48 kG]
def Pw (D : List (List Sg) -> List aa) (R : List (List Sg) -> cM) : au:=.new fun args rg K => match args with
 | [.a x0] => (match ac1 52 kH rg x0 with | some (q0,L0) => bk false (q0 ++ (D L0)) (K (R L0)) | _ => False)
 | _ => False
theorem ME {f : FuncId} {b : Body} {E : Env} {d : Nat} (hP : aL Tryz.prog Γ E) (hb : bQ Tryz.prog f b) {D : List (List Sg) -> List aa} {R : List (List Sg) -> cM}
  (H : ∀ (L0 : List (List Sg)) (K : cM -> Prop),bW (D L0) -> K (R L0) -> cQ E d b [.a (.sl 0 [] 0 L0.length)] [.arr 52 kH L0 false false] (bu K)) : au.Ok Tryz.prog Γ f (Pw D R):=au.fM (d:=d) hP hb (by
 intro args rg K hF
 split at hF
 next x0 =>
  split at hF
  next q0 L0 hx0 =>
   rw [aV,aH] at hF
   obtain ⟨⟨dm,hD⟩,hK⟩:=hF
   obtain ⟨e0,Vn⟩:=bP (by simp [kH]) hx0 dm
   obtain ⟨p0,r0⟩:=Vn [e0] 0 1 rfl (by omega)
   refine ⟨[e0],[.a (.sl 0 [] 0 L0.length)],[.arr 52 kH L0 false false],⟨⟨p0,trivial⟩,fun r g hg => ?_⟩,bu K,H _ K hD hK,fun x st h => h⟩
   match r,hg with
   | 0,hg => obtain rfl:=Option.some.inj hg;exact r0
  next => exact hF.elim
 next => exact hF.elim)
def De : au:=.new fun args rg K => match args with
 | [.a (.v (.slice none 0 0)),.a (.v (.int .i64 n))] => bk false [(aa.of (0 <= n)),(aa.of (n <= 1000000))] (K ⟨[.arr 48 kG [] true true],.a (.sl 0 [] 0 0)⟩)
 | _ => False
theorem EI : au.Ok Tryz.prog Γ 89 De:=au.fM (d:=0) (aP aR.nil bq.nil false 0) (aj Tryz.func89 rfl rfl) (by
 intro args rg K hC
 split at hC
 next n =>
  rw [aV] at hC
  obtain ⟨⟨h0,h1,_⟩,hK⟩:=hC
  simp only [aa.ae] at h0 h1
  refine ⟨[],[.a (.v (.slice none 0 0)),.a (vI n)],[],⟨⟨rfl,rfl,trivial⟩,fun r g hg => by cases hg⟩,bu K,?_,fun x st h => h⟩
  have p0 : decide (n < 0) = false:=decide_eq_false (by omega)
  have e0 : n - (((0 : Nat) : Int) - ((0 : Nat) : Int)) = n:=by omega
  by_cases hn : n = 0
  ·subst hn
   have p1 : decide ((0 : Int) > 0) = false:=rfl
   repeat' ((conv => whnf);first | apply And.intro | (intro h9;try (have h8 : (_ : Bool) = _:=h9;clear h8;revert h9;subst_vars;intro h9;exact aq h9 (by assumption))))
   all_goals try (conv => whnf)
   all_goals try first | (apply Tk.mk <;> kernel_rfl) | exact ⟨ah rfl⟩ | exact ⟨rfl⟩ | exact ⟨trivial⟩
   all_goals subst_vars
   all_goals try first | rfl | contradiction | (apply Ob.mk;first | (simp only [ag,ak,aa.ae];omega) | ((try simp only [aa.ae]);(try dsimp only);omega))
   exact bu.aC 48 kG (by simp) (.base ⟨_,[0],hK,⟨rfl,rfl,by simp,trivial⟩,rfl,rfl,rfl,rfl,rfl⟩)
  have p1 : decide (n > 0) = true:=decide_eq_true (by omega)
  have p2 : decide (n - (((0 : Nat) : Int) - ((0 : Nat) : Int)) > 0) = true:=by rw [e0];exact p1
  repeat' ((conv => whnf);first | apply And.intro | (intro h9;try (have h8 : (_ : Bool) = _:=h9;clear h8;revert h9;subst_vars;intro h9;exact aq h9 (by assumption))))
  all_goals try (conv => whnf)
  all_goals try first | (apply Tk.mk <;> kernel_rfl) | exact ⟨ah rfl⟩ | exact ⟨rfl⟩ | exact ⟨trivial⟩
  all_goals subst_vars
  all_goals try first | rfl | contradiction | (apply Ob.mk;first | (simp only [ag,ak,aa.ae];omega) | ((try simp only [aa.ae]);(try dsimp only);omega))
  all_goals try first
   | exact ⟨show (n - (((0 : Nat) : Int) - ((0 : Nat) : Int))) * ((2 : Nat) : Int) <= 16777216 by rw [e0];omega⟩
  apply bu.base
  exact ⟨_,[0],hK,⟨rfl,rfl,by simp,trivial⟩,rfl,rfl,rfl,rfl,rfl⟩
 next => exact hC.elim)
def cL (W : List (List Sg)) (i : Nat) : List Sg:=(W.take i).flatten
abbrev agZ (W : List (List Sg)) (i : Int) : List Sg:=@Ar.get ⟨52,kH,W⟩ (0 + Int.toNat i)
theorem LL (W : List (List Sg)) (i : Nat) : agZ W i = W.getD i []:=by unfold agZ;rw [Nat.zero_add,Int.toNat_natCast];rfl
theorem Ap {W : List (List Sg)} {i : Nat} (h : i < W.length) : cL W (i + 1) = cL W i ++ agZ W i:=by
 rw [LL]
 unfold cL
 rw [List.take_succ_eq_append_getElem h,List.flatten_append,List.flatten_singleton]
 simp [h]
theorem GV {W : List (List Sg)} {i j : Nat} (h : i <= j) : (cL W i).length <= (cL W j).length:=by
 unfold cL
 have e : W.take i = (W.take j).take i:=by rw [List.take_take,Nat.min_eq_left h]
 rw [e]
 conv => rhs;rw [<- List.take_append_drop i (W.take j),List.flatten_append,List.length_append]
 omega
def xz : au:=Pw (fun W => [(aa.of (W.length <= 1000000)),(aa.of ((cL W W.length).length <= 1000000))]) (fun W => ⟨[.arr 48 kG (cL W W.length) true true],.a (.sl 0 [] 0 (cL W W.length).length)⟩)
noncomputable def Il : List (Nat × au):=[(89,De)]
theorem Cq : aR Tryz.prog Γ Il:=(aR.nil.cons (aj Tryz.func89 rfl rfl).fn EI)
attribute [local irreducible] cL
theorem zQ : au.Ok Tryz.prog Γ 49 xz:=ME (d:=0) (aP Cq bq.nil false 0) (aj Tryz.func49 rfl rfl) (by
 intro W K ⟨hW,hF,_⟩ hK
 simp only [aa.ae] at hW hF
 have f0 : cL W 0 = []:=by unfold cL;rfl
 repeat' ((conv => whnf);first | apply And.intro | (intro h9;try (have h8 : (_ : Bool) = _:=h9;clear h8;revert h9;subst_vars;intro h9;exact aq h9 (by assumption))))
 all_goals try (conv => whnf)
 all_goals try first | (apply Tk.mk <;> kernel_rfl) | exact ⟨ah rfl⟩ | exact ⟨rfl⟩ | exact ⟨trivial⟩
 all_goals subst_vars
 all_goals try first | rfl | contradiction | (apply Ob.mk;first | (simp only [ag,ak,aa.ae];omega) | ((try simp only [aa.ae]);(try dsimp only);omega))
 refine ⟨Nat,fun i => i <= W.length,fun i => ⟨aI 36 [0,3,9,10,11] [.a (.sl 0 [] 0 W.length),.a (vI (cL W i).length),.a (.sl 0 [] 0 W.length),.a (vI W.length),.a (vI i)],[],[.arr 52 kH W false false]⟩,fun i => W.length - i,0,[],Nat.zero_le _,?_,?_⟩
 ·repeat' ((conv => whnf);(first | apply And.intro | intro _))
  all_goals first | rfl | trivial | exact ah rfl | exact aS ‹_› rfl | exact aT ‹_› rfl | ((repeat' first | rfl | constructor);done) | (rw [f0];rfl)
 rintro i hi
 by_cases hi1 : i < W.length
 ·have p0 : decide ((i : Int) < (W.length : Int)) = true:=decide_eq_true (by omega)
  have hs:=congrArg List.length (Ap hi1)
  rw [List.length_append] at hs
  have hle:=GV (W:=W) (show i + 1 <= W.length from hi1)
  have p1 : decide (((cL W i).length : Int) + ((agZ W i).length : Int) < 0) = false:=decide_eq_false (by omega)
  repeat' ((conv => whnf);first | apply And.intro | (intro h9;try (have h8 : (_ : Bool) = _:=h9;clear h8;revert h9;subst_vars;intro h9;exact aq h9 (by assumption))))
  all_goals try (conv => whnf)
  all_goals try first | (apply Tk.mk <;> kernel_rfl) | exact ⟨ah rfl⟩ | exact ⟨rfl⟩ | exact ⟨trivial⟩
  all_goals subst_vars
  all_goals try first | rfl | contradiction | (apply Ob.mk;first | (simp only [ag,ak,aa.ae];omega) | ((try simp only [aa.ae]);(try dsimp only);omega))
  all_goals try first
   | exact ⟨show -9223372036854775808 <= ((cL W i).length : Int) + ((agZ W i).length : Int) /\ ((cL W i).length : Int) + ((agZ W i).length : Int) <= 9223372036854775807 by omega⟩
   | exact ⟨show 0 + Int.toNat (i : Int) < W.length by omega⟩
  refine ⟨i + 1,[],hi1,?_,by show W.length - (i + 1) < W.length - i;omega⟩
  repeat' ((conv => whnf);(first | apply And.intro | intro _))
  all_goals first | rfl | trivial | exact ah rfl | exact aS ‹_› rfl | exact aT ‹_› rfl | ((repeat' first | rfl | constructor);done) | (rw [hs];exact (Int.natCast_add ..).symm) | (rw [hs];exact Int.natCast_add ..)
 have p0 : decide ((i : Int) < (W.length : Int)) = false:=decide_eq_false (by omega)
 obtain rfl : i = W.length:=by omega
 clear hi hi1
 repeat' ((conv => whnf);first | apply And.intro | (intro h9;try (have h8 : (_ : Bool) = _:=h9;clear h8;revert h9;subst_vars;intro h9;exact aq h9 (by assumption))))
 all_goals try (conv => whnf)
 all_goals try first | (apply Tk.mk <;> kernel_rfl) | exact ⟨ah rfl⟩ | exact ⟨rfl⟩ | exact ⟨trivial⟩
 all_goals subst_vars
 all_goals try first | rfl | contradiction | (apply Ob.mk;first | (simp only [ag,ak,aa.ae];omega) | ((try simp only [aa.ae]);(try dsimp only);omega))
 refine ⟨Nat,fun i => i <= W.length,fun i => ⟨aI 36 [6,25,26,27] [.a (.sl 1 [] 0 (cL W i).length),.a (.sl 0 [] 0 W.length),.a (vI W.length),.a (vI i)],[],[.arr 52 kH W false false,.arr 48 kG (cL W i) true true]⟩,fun i => W.length - i,0,[],Nat.zero_le _,?_,?_⟩
 ·repeat' ((conv => whnf);(first | apply And.intro | intro _))
  all_goals first | rfl | trivial | exact ah rfl | exact aS ‹_› rfl | exact aT ‹_› rfl | ((repeat' first | rfl | constructor);done) | (rw [f0];rfl) | exact ⟨rfl,rfl,f0.symm⟩
 clear p0
 rintro i hi
 by_cases hi1 : i < W.length
 ·have p0 : decide ((i : Int) < (W.length : Int)) = true:=decide_eq_true (by omega)
  have hfs:=Ap hi1
  have hs:=congrArg List.length hfs
  rw [List.length_append] at hs
  have hle:=GV (W:=W) (show i + 1 <= W.length from hi1)
  have pU : List.drop 0 (cL W i) ++ List.take (agZ W i).length (List.drop 0 (agZ W i)) = cL W i ++ agZ W i:=by rw [List.drop_zero,List.drop_zero,List.take_length]
  repeat' ((conv => whnf);first | apply And.intro | (intro h9;try (have h8 : (_ : Bool) = _:=h9;clear h8;revert h9;subst_vars;intro h9;exact aq h9 (by assumption))))
  all_goals try (conv => whnf)
  all_goals try first | (apply Tk.mk <;> kernel_rfl) | exact ⟨ah rfl⟩ | exact ⟨rfl⟩ | exact ⟨trivial⟩
  all_goals subst_vars
  all_goals try first | rfl | contradiction | (apply Ob.mk;first | (simp only [ag,ak,aa.ae];omega) | ((try simp only [aa.ae]);(try dsimp only);omega))
  all_goals try first
   | exact ⟨show 0 + Int.toNat (i : Int) < W.length by omega⟩
   | exact ⟨Nat.zero_add _⟩
   | exact ⟨show ((cL W i).length + (agZ W i).length) * 2 <= 1099511627776 by omega⟩
  refine ⟨i + 1,[],hi1,?_,by show W.length - (i + 1) < W.length - i;omega⟩
  repeat' ((conv => whnf);(first | apply And.intro | intro _))
  all_goals first | rfl | trivial | exact ah rfl | exact aS ‹_› rfl | exact aT ‹_› rfl | ((repeat' first | rfl | constructor);done) | exact hs.symm | exact ⟨rfl,rfl,pU.trans hfs.symm⟩
 have p0 : decide ((i : Int) < (W.length : Int)) = false:=decide_eq_false (by omega)
 obtain rfl : i = W.length:=by omega
 repeat' ((conv => whnf);first | apply And.intro | (intro h9;try (have h8 : (_ : Bool) = _:=h9;clear h8;revert h9;subst_vars;intro h9;exact aq h9 (by assumption))))
 all_goals try (conv => whnf)
 all_goals try first | (apply Tk.mk <;> kernel_rfl) | exact ⟨ah rfl⟩ | exact ⟨rfl⟩ | exact ⟨trivial⟩
 all_goals subst_vars
 all_goals try first | rfl | contradiction | (apply Ob.mk;first | (simp only [ag,ak,aa.ae];omega) | ((try simp only [aa.ae]);(try dsimp only);omega))
 refine bu.base ⟨_,[1],hK,⟨rfl,rfl,by simp,trivial⟩,rfl,?_⟩
 repeat' ((conv => whnf);(first | apply And.intro | intro _))
 all_goals first | rfl | trivial)
end Go.Proofs.YthejmgnkenokpaaGreatDoor
end
section
namespace Go.Proofs.YthejmgnkenokpaaGreatDoor
open Go Go.Sy Go.bK
variable {Γ : bn}
theorem A2 {p : Int} {g : Sg} : ∀ (E : List bR),br kX ((p,g) : Sp) E = E.findIdx (fun e => e.1 == (p,g))
 | [] => rfl
 | e :: E => by
   have ih:=A2 (p:=p) (g:=g) E
   show jM (fun q : bR => ai.beq kX (p,g) q.1) (e :: E) = _
   rw [jM,List.findIdx_cons]
   have e2 : (((p,g) : Sp) == e.1) = (e.1 == (p,g)):=Bool.eq_iff_iff.2 ⟨fun h => by rw [eq_of_beq h];exact beq_self_eq_true _,fun h => by rw [eq_of_beq h];exact beq_self_eq_true _⟩
   have e0 : ai.beq kX ((p,g) : Sp) e.1 = (e.1 == (p,g)):=(wi (p,g) e.1).trans e2
   have e1 : (match ai.beq kX ((p,g) : Sp) e.1 with | true => 0 | false => br kX ((p,g) : Sp) E + 1) = bif e.1 == (p,g) then 0 else E.findIdx (fun e => e.1 == (p,g)) + 1:=by
    rw [e0,ih]
    cases e.1 == (p,g) <;> rfl
   exact e1
theorem MZ (a b : List Sg) : cL [a,b] 2 = a ++ b:=by unfold cL;simp
abbrev ac6 (l : List Sg) (i : Nat) : List Sg:=cL [List.take ((((i + 1 : Nat) : Int) - 1).toNat - 0) (List.drop (0 + 0) l),List.take (l.length - (((i + 1 : Nat) : Int) - 1 + 1).toNat) (List.drop (0 + (((i + 1 : Nat) : Int) - 1 + 1).toNat) l)] 2
theorem idx (i : Nat) : ((i + 1 : Nat) : Int) - 1 - 1 = (i : Int) - 1:=by omega
theorem NY (l : List Sg) (i : Nat) : ac6 l i = l.take i ++ l.drop (i + 1):=by
 unfold ac6
 rw [MZ,show (((i + 1 : Nat) : Int) - 1).toNat - 0 = i by omega,show (((i + 1 : Nat) : Int) - 1 + 1).toNat = i + 1 by omega,show 0 + 0 = 0 from rfl,List.drop_zero,Nat.zero_add]
 congr 1
 refine List.take_of_length_le ?_
 rw [List.length_drop];exact Nat.le_refl _
theorem JC {n : Int} {i : Nat} {l : List Sg} : jQ n (i + 1) l = match eH n (l.take i ++ l.drop (i + 1)) with | true => jQ n i (l.take i ++ l.drop (i + 1)) | false => jQ n i l:=rfl
theorem LC (n : Int) (G : List Sg) : jQ n G.length G = tU n G:=rfl
theorem LD (n : Int) (L : List Wk) (p : Int) : jO n L p = (tU n (af L p)).map (Vr L p):=rfl
theorem JD {n : Int} {l : List Sg} : jQ n 0 l = l:=rfl
theorem Jn {L : List Wk} {p : Int} {l : List Sg} {i : Nat} (h : i < l.length) : (l.take (i + 1)).map (Vr L p) = (l.take i).map (Vr L p) ++ [Vr L p (sg l i)]:=by
 rw [List.take_succ_eq_append_getElem h,List.map_append]
 simp [sg,h]
end Go.Proofs.YthejmgnkenokpaaGreatDoor
end
section
namespace Go.Proofs
open Go.Shelf
open Go.RowKit Go.Sort Go.Lib in
def Tryz.CP : Go.Shelf.Ren:=⟨fun | 171 => 107 | 243 => 136 | 246 => 162 | 283 => 172 | 284 => 173 | 285 => 174 | 286 => 175 | 129 => 133 | 317 => 182 | 318 => 183 | 319 => 184 | 320 => 185 | 337 => 187 | 338 => 188 | n => n,fun | 3 => 3 | 9 => 9 | 2 => 2 | 4 => 4 | 171 => 221 | 0 => 0 | 53 => 192 | 37 => 167 | 5 => 5 | 173 => 223 | 212 => 231 | 51 => 190 | 20 => 20 | 213 => 232 | 46 => 159 | 232 => 239 | 233 => 240 | n => n,fun | 17 => 3 | 18 => 6 | 19 => 7 | n => n⟩
theorem Tryz.Lw : Go.Proofs.Lays.n171 Tryz.prog Tryz.CP:={
 mixed:=by kernel_rfl
 f129:=Tryz.func133.trans (congrArg some (by kernel_rfl))
 f171:=Tryz.func107.trans (congrArg some (by kernel_rfl))
 f243:=Tryz.func136.trans (congrArg some (by kernel_rfl))
 f246:=Tryz.func162.trans (congrArg some (by kernel_rfl))
 f283:=Tryz.func172.trans (congrArg some (by kernel_rfl))
 f284:=Tryz.func173.trans (congrArg some (by kernel_rfl))
 f285:=Tryz.func174.trans (congrArg some (by kernel_rfl))
 f286:=Tryz.func175.trans (congrArg some (by kernel_rfl))
 f317:=Tryz.func182.trans (congrArg some (by kernel_rfl))
 f318:=Tryz.func183.trans (congrArg some (by kernel_rfl))
 f319:=Tryz.func184.trans (congrArg some (by kernel_rfl))
 f320:=Tryz.func185.trans (congrArg some (by kernel_rfl))
 f337:=Tryz.func187.trans (congrArg some (by kernel_rfl))
 f338:=Tryz.func188.trans (congrArg some (by kernel_rfl))
 t0:=Tryz.underlying0
 a0:=Tryz.isAgg0
 z0:=Tryz.sizeOf0
 v0:=Tryz.zeroValue0
 t2:=Tryz.underlying2
 a2:=Tryz.isAgg2
 z2:=Tryz.sizeOf2
 v2:=Tryz.zeroValue2
 t3:=Tryz.underlying3
 a3:=Tryz.isAgg3
 z3:=Tryz.sizeOf3
 v3:=Tryz.zeroValue3
 t4:=Tryz.underlying4
 a4:=Tryz.isAgg4
 z4:=Tryz.sizeOf4
 v4:=Tryz.zeroValue4
 t5:=Tryz.underlying5
 a5:=Tryz.isAgg5
 z5:=Tryz.sizeOf5
 v5:=Tryz.zeroValue5
 t9:=Tryz.underlying9
 a9:=Tryz.isAgg9
 z9:=Tryz.sizeOf9
 v9:=Tryz.zeroValue9
 t20:=Tryz.underlying20
 a20:=Tryz.isAgg20
 z20:=Tryz.sizeOf20
 v20:=Tryz.zeroValue20
 t37:=Tryz.underlying167
 a37:=Tryz.isAgg167
 z37:=Tryz.sizeOf167
 v37:=Tryz.zeroValue167
 t46:=Tryz.underlying159
 a46:=Tryz.isAgg159
 z46:=Tryz.sizeOf159
 v46:=Tryz.zeroValue159
 t51:=Tryz.underlying190
 a51:=Tryz.isAgg190
 z51:=Tryz.sizeOf190
 v51:=Tryz.zeroValue190
 t53:=Tryz.underlying192
 a53:=Tryz.isAgg192
 z53:=Tryz.sizeOf192
 v53:=Tryz.zeroValue192
 t171:=Tryz.underlying221
 a171:=Tryz.isAgg221
 z171:=Tryz.sizeOf221
 v171:=Tryz.zeroValue221
 t173:=Tryz.underlying223
 a173:=Tryz.isAgg223
 z173:=Tryz.sizeOf223
 v173:=Tryz.zeroValue223
 t212:=Tryz.underlying231
 a212:=Tryz.isAgg231
 z212:=Tryz.sizeOf231
 v212:=Tryz.zeroValue231
 t213:=Tryz.underlying232
 a213:=Tryz.isAgg232
 z213:=Tryz.sizeOf232
 t232:=Tryz.underlying239
 a232:=Tryz.isAgg239
 z232:=Tryz.sizeOf239
 v232:=Tryz.zeroValue239
 t233:=Tryz.underlying240
 a233:=Tryz.isAgg240
 z233:=Tryz.sizeOf240
 v233:=Tryz.zeroValue240
 g17:=by kernel_rfl
 g18:=by kernel_rfl
 g19:=by kernel_rfl }
open Go.RowKit Go.Sort Go.Lib in
theorem Tryz.strconv_Itoa_small (i : Nat) (hi : i < 100) (w : World) :
  Calls Tryz.prog 107 #[.int .i64 i] w fun e w' => e = .returned (.string ⟨(Lib.decDigits i).toArray⟩) /\ w' = w:=Any.strconv_Itoa_small Tryz.Lw i hi w
end Go.Proofs
end
section
namespace Go.Proofs.YthejmgnkenokpaaGreatDoor
open Go Go.Sy Go.bK
variable {Γ : bn}
def Mn (l : List UInt8) : ByteArray:=⟨l.toArray⟩
def lU (n : Int) : ByteArray:=Mn (Lib.decDigits n.toNat)
def Gb : au:=.fn fun args _ => match args with
 | [.a (.v (.int .i64 n))] => some ([(aa.of (0 <= n /\ n < 100))],.a (.v (.string (lU n))))
 | _ => none
theorem Gc : au.Ok Tryz.prog Γ 107 Gb:=by
 intro args rg q t hF hq M w0 ρ w vs hl qR nv hargs s8
 simp only at hF
 split at hF
 next n =>
  obtain ⟨rfl,rfl⟩:=Prod.mk.inj (Option.some.inj hF);clear hF
  obtain ⟨h1,-⟩:=hq
  simp only [aa.ae] at h1
  match vs,hargs with
  | [y],⟨⟨hy,_⟩,_⟩ =>
    subst hy
    obtain ⟨i,rfl⟩ : ∃ i : Nat,n = (i : Int):=⟨n.toNat,by omega⟩
    refine (Tryz.strconv_Itoa_small i (by omega) w).mono fun e w' ⟨he,hw⟩ => ?_
    subst hw
    exact ⟨_,he,⟨rfl,rfl⟩,Go.RowKit.Below.refl _ _⟩
 next => cases hF
def PG (D : ByteArray -> List Int -> List aa) (F : ByteArray -> List Int -> Tm) : au:=.fn fun args rg => match args with
 | [.a (.v (.string s0)),.a x0] => (match ac1 3 kI rg x0 with | some (q0,L0) => some (q0 ++ (D s0 L0),F s0 L0) | _ => none)
 | _ => none
theorem M4 {f : FuncId} {b : Body} {E : Env} {d : Nat} (hP : aL Tryz.prog Γ E) (hb : bQ Tryz.prog f b) {D : ByteArray -> List Int -> List aa} {F : ByteArray -> List Int -> Tm} (hp : ∀ (s0 : ByteArray) (L0 : List Int),(F s0 L0).plain = true)
  (H : ∀ (s0 : ByteArray) (L0 : List Int),bW (D s0 L0) -> cQ E d b [.a (.v (.string s0)),.a (.sl 0 [] 0 L0.length)] [.arr 3 kI L0 false false] (fun x _ => iL x (F s0 L0))) : au.Ok Tryz.prog Γ f (PG D F):=au.er (d:=d) hP hb (by
 intro args rg q t hF hq
 split at hF
 next s0 x0 =>
  split at hF
  next q0 L0 hx0 =>
   obtain ⟨rfl,rfl⟩:=Prod.mk.inj (Option.some.inj hF);clear hF
   rw [aH] at hq
   obtain ⟨dm,hD⟩:=hq
   obtain ⟨e0,Vn⟩:=bP (by simp [kI]) hx0 dm
   obtain ⟨p0,r0⟩:=Vn [e0] 0 1 rfl (by omega)
   refine ⟨hp _ _,[e0],[.a (.v (.string s0)),.a (.sl 0 [] 0 L0.length)],[.arr 3 kI L0 false false],⟨⟨rfl,p0,trivial⟩,fun r g hg => ?_⟩,H _ _ hD⟩
   match r,hg with
   | 0,hg => obtain rfl:=Option.some.inj hg;exact r0
  next => cases hF
 next => cases hF)
def vP : ByteArray:={ data:=#[32] }
def N1 : ByteArray:={ data:=#[10] }
def mR (w : ByteArray) (l : List Int) : Nat -> ByteArray
 | 0 => w
 | k + 1 => mR w l k ++ (vP ++ lU (gi l k))
def abE (w : ByteArray) (l : List Int) : ByteArray:=mR w l l.length ++ N1
theorem AW {v : Int} (h : 0 <= v /\ v < 100) : (lU v).size <= 2:=by
 have h1 : (lU v).size = (Lib.decDigits v.toNat).length:=by simp [lU,Mn,ByteArray.size]
 rw [h1]
 by_cases h2 : v.toNat < 10
 ·rw [Lib.decDigits_one h2];exact Nat.le_succ _
 ·rw [Lib.decDigits_two h2 (by omega)];exact Nat.le_refl _
theorem tN {w : ByteArray} {l : List Int} (hl : ∀ v ∈ l,0 <= v /\ v < 100) : ∀ k,k <= l.length -> (mR w l k).size <= w.size + 3 * k
 | 0,_ => Nat.le_refl _
 | k + 1,hk => by
   have h1:=tN (w:=w) hl k (by omega)
   have h2:=AW (hl (gi l k) (qL hk))
   rw [mR,ByteArray.size_append,ByteArray.size_append]
   have : vP.size = 1:=rfl
   omega
def Gi : au:=PG (fun w l => [(aa.of (l.length <= 10)),(aa.of (∀ v ∈ l,0 <= v /\ v < 100)),(aa.of (w.size <= 100))]) (fun w l => .a (.v (.string (abE w l))))
noncomputable def OQ : List (Nat × au):=[(107,Gb)]
theorem Iw : aR Tryz.prog Γ OQ:=(aR.nil.cons (aj Tryz.func107 rfl rfl).fn Gc)
attribute [local irreducible] lU
theorem Gj : au.Ok Tryz.prog Γ 69 Gi:=M4 (d:=0) (aP Iw bq.nil false 0) (aj Tryz.func69 rfl rfl) (fun _ _ => rfl) (by
 intro w l ⟨hl,hv,hw,_⟩
 simp only [aa.ae] at hl hv hw
 repeat' ((conv => whnf);first | apply And.intro | (intro h9;try (have h8 : (_ : Bool) = _:=h9;clear h8;revert h9;subst_vars;intro h9;exact aq h9 (by assumption))))
 all_goals try (conv => whnf)
 all_goals try first | (apply Tk.mk <;> kernel_rfl) | exact ⟨ah rfl⟩ | exact ⟨rfl⟩ | exact ⟨trivial⟩
 all_goals subst_vars
 all_goals try first | rfl | contradiction | (apply Ob.mk;first | (simp only [ag,ak,aa.ae];omega) | ((try simp only [aa.ae]);(try dsimp only);omega))
 refine ⟨Nat,fun k => k <= l.length,fun k => ⟨aI 21 [0,7,8,9] [.a (.v (.string (mR w l k))),.a (.sl 0 [] 0 l.length),.a (vI l.length),.a (vI k)],[],[.arr 3 kI l false false]⟩,fun k => l.length - k,0,[],Nat.zero_le _,?_,?_⟩
 ·repeat' ((conv => whnf);(first | apply And.intro | intro _))
  all_goals first | rfl | trivial | exact ah rfl | exact aS ‹_› rfl | exact aT ‹_› rfl | ((repeat' first | rfl | constructor);done)
 rintro k hk
 have hsz:=tN (w:=w) hv k hk
 by_cases cB : k < l.length
 ·have p0 : decide ((k : Int) < (l.length : Int)) = true:=decide_eq_true (by omega)
  have ge : av l k = gi l k:=dP l k
  have gv : 0 <= av l k /\ av l k < 100:=by rw [ge];exact hv _ (qL cB)
  have gs:=AW gv
  have DJ : mR w l k ++ (vP ++ lU (av l k)) = mR w l (k + 1):=by rw [ge];rfl
  have pT : (vP ++ lU (av l k)).size <= 3:=by rw [ByteArray.size_append];have : vP.size = 1:=rfl;omega
  repeat' ((conv => whnf);first | apply And.intro | (intro h9;try (have h8 : (_ : Bool) = _:=h9;clear h8;revert h9;subst_vars;intro h9;exact aq h9 (by assumption))))
  all_goals try (conv => whnf)
  all_goals try first | (apply Tk.mk <;> kernel_rfl) | exact ⟨ah rfl⟩ | exact ⟨rfl⟩ | exact ⟨trivial⟩
  all_goals subst_vars
  all_goals try first | rfl | contradiction | (apply Ob.mk;first | (simp only [ag,ak,aa.ae];omega) | ((try simp only [aa.ae]);(try dsimp only);omega))
  all_goals try first
   | exact ⟨show 0 + Int.toNat (k : Int) < l.length by omega⟩
   | exact ⟨show ((1 + (lU (av l k)).size : Nat) <= 9223372036854775807) by omega⟩
   | exact ⟨show (((mR w l k).size + (vP ++ lU (av l k)).size : Nat) <= 9223372036854775807) by omega⟩
  refine ⟨k + 1,[],cB,?_,by show l.length - (k + 1) < l.length - k;omega⟩
  repeat' ((conv => whnf);(first | apply And.intro | intro _))
  all_goals first | rfl | trivial | exact ah rfl | exact aS ‹_› rfl | exact aT ‹_› rfl | ((repeat' first | rfl | constructor);done) | exact congrArg Value.string DJ | exact DJ
 have p0 : decide ((k : Int) < (l.length : Int)) = false:=decide_eq_false (by omega)
 obtain rfl : k = l.length:=by omega
 repeat' ((conv => whnf);first | apply And.intro | (intro h9;try (have h8 : (_ : Bool) = _:=h9;clear h8;revert h9;subst_vars;intro h9;exact aq h9 (by assumption))))
 all_goals try (conv => whnf)
 all_goals try first | (apply Tk.mk <;> kernel_rfl) | exact ⟨ah rfl⟩ | exact ⟨rfl⟩ | exact ⟨trivial⟩
 all_goals subst_vars
 all_goals try first | rfl | contradiction | (apply Ob.mk;first | (simp only [ag,ak,aa.ae];omega) | ((try simp only [aa.ae]);(try dsimp only);omega))
 all_goals first
  | exact ⟨show (((mR w l l.length).size + 1 : Nat) <= 9223372036854775807) by omega⟩)
end Go.Proofs.YthejmgnkenokpaaGreatDoor
end
section
namespace Go.Proofs.YthejmgnkenokpaaGreatDoor
open Go Go.Sy Go.bK
variable {Γ : bn}
def KD : ByteArray:={ data:=#[115,104,111,112] }
def kO : ByteArray:={ data:=#[119,111,114,107] }
def nF (n P : Int) (L : List Wk) : Nat -> ByteArray
 | 0 => abE KD [n,P]
 | k + 1 => nF n P L k ++ abE kO [(wk L k).1,(wk L k).2.1,(wk L k).2.2]
def vF (n P : Int) (L : List Wk) : ByteArray:=match bD n P L == 0 with | true => nF n P L L.length | false => { data:=#[] }
theorem pB {w : ByteArray} {l : List Int} (hl : ∀ v ∈ l,0 <= v /\ v < 100) : (abE w l).size <= w.size + 3 * l.length + 1:=by
 have:=tN (w:=w) hl l.length (Nat.le_refl _)
 unfold abE
 rw [ByteArray.size_append]
 have : N1.size = 1:=rfl
 omega
theorem nX {n P : Int} {L : List Wk} (h : Ep n P L) : (∀ v ∈ [n,P],0 <= v /\ v < 100) /\ ∀ k,k < L.length -> ∀ v ∈ [(wk L k).1,(wk L k).2.1,(wk L k).2.2],0 <= v /\ v < 100:=by
 have h1:=h.n;have h2:=h.p
 refine ⟨fun v hv => ?_,fun k hk v hv => ?_⟩
 ·simp only [List.mem_cons,List.not_mem_nil,or_false] at hv
  rcases hv with rfl | rfl <;> omega
 ·have:=rR (h.w _ (Cf hk))
  simp only [List.mem_cons,List.not_mem_nil,or_false] at hv
  rcases hv with rfl | rfl | rfl <;> omega
theorem tT {n P : Int} {L : List Wk} (h : Ep n P L) : ∀ k,k <= L.length -> (nF n P L k).size <= 11 + 14 * k
 | 0,_ => pB (nX h).1
 | k + 1,hk => by
   have h1:=tT h k (by omega)
   have h2:=pB (w:=kO) ((nX h).2 k (by omega))
   rw [nF,ByteArray.size_append]
   have e1 : kO.size = 4:=rfl
   have e2 : [(wk L k).1,(wk L k).2.1,(wk L k).2.2].length = 3:=rfl
   omega
def Dd : au:=fS (fun _ _ L => [(aa.of (L.length <= 1000000))]) (fun n P L => .bF [.a (.v (.string (vF n P L))),.a (vI (bD n P L))])
noncomputable def Md : List (Nat × au):=[(35,rZ),(69,Gi)]
theorem FO : aR Tryz.prog Γ Md:=((aR.nil.cons (aj Tryz.func69 rfl rfl).fn Gj).cons (aj Tryz.func35 rfl rfl).fn oS)
attribute [local irreducible] abE bD
theorem EF : au.Ok Tryz.prog Γ 32 Dd:=za (d:=0) (aP FO bq.nil false 0) (aj Tryz.func32 rfl rfl) (fun _ _ _ => rfl) (by
 intro n P L ⟨hl,_⟩
 simp only [aa.ae] at hl
 cases h0 : bD n P L == 0
 ·have e0 : (bD n P L != 0) = true:=by unfold bne;rw [h0];rfl
  rw [show vF n P L = { data:=#[] } by unfold vF;rw [h0]]
  repeat' ((conv => whnf);first | apply And.intro | (intro h9;try (have h8 : (_ : Bool) = _:=h9;clear h8;revert h9;subst_vars;intro h9;exact aq h9 (by assumption))))
  all_goals try (conv => whnf)
  all_goals try first | (apply Tk.mk <;> kernel_rfl) | exact ⟨ah rfl⟩ | exact ⟨rfl⟩ | exact ⟨trivial⟩
  all_goals subst_vars
  all_goals try first | rfl | contradiction | (apply Ob.mk;first | (simp only [ag,ak,aa.ae];omega) | ((try simp only [aa.ae]);(try dsimp only);omega))
  all_goals first
   | trivial
   | exact ⟨hl⟩
 have e0 : (bD n P L != 0) = false:=by unfold bne;rw [h0];rfl
 have e1:=eq_of_beq h0
 have hsh:=oe.1 e1
 rw [show vF n P L = nF n P L L.length by unfold vF;rw [h0],e1]
 have hd:=nX hsh
 have Kk:=hd.1
 have fK:=tT hsh 0 (Nat.zero_le _)
 have Np:=hsh.l
 repeat' ((conv => whnf);first | apply And.intro | (intro h9;try (have h8 : (_ : Bool) = _:=h9;clear h8;revert h9;subst_vars;intro h9;exact aq h9 (by assumption))))
 all_goals try (conv => whnf)
 all_goals try first | (apply Tk.mk <;> kernel_rfl) | exact ⟨ah rfl⟩ | exact ⟨rfl⟩ | exact ⟨trivial⟩
 all_goals subst_vars
 all_goals try first | rfl | contradiction | (apply Ob.mk;first | (simp only [ag,ak,aa.ae];omega) | ((try simp only [aa.ae]);(try dsimp only);omega))
 all_goals try first
  | exact ⟨hl⟩
  | exact ⟨Kk⟩
 refine ⟨Nat,fun k => k <= L.length,fun k => ⟨aI 38 [5,20,21,22] [.a (.v (.string (nF n P L k))),.a (.sl 0 [] 0 L.length),.a (vI L.length),.a (vI k)],[],[.arr 46 kW L false false,.box true [vI n,vI P,.sl 0 [] 0 L.length]]⟩,fun k => L.length - k,0,[0,1],Nat.zero_le _,?_,?_⟩
 ·repeat' ((conv => whnf);(first | apply And.intro | intro _))
  all_goals first | rfl | trivial | exact ah rfl | exact aS ‹_› rfl | exact aT ‹_› rfl | ((repeat' first | rfl | constructor);done)
 rintro k hk
 have hsz:=tT hsh k hk
 by_cases cB : k < L.length
 ·have p0 : decide ((k : Int) < (L.length : Int)) = true:=decide_eq_true (by omega)
  have ew : cn L k = wk L k:=jX L k
  have hdk : ∀ v ∈ [(cn L k).1,(cn L k).2.1,(cn L k).2.2],0 <= v /\ v < 100:=by rw [ew];exact hd.2 k cB
  have dZ : (abE kO [(cn L k).1,(cn L k).2.1,(cn L k).2.2]).size <= 14:=pB hdk
  have Kq : nF n P L k ++ abE kO [(cn L k).1,(cn L k).2.1,(cn L k).2.2] = nF n P L (k + 1):=by rw [ew];rfl
  repeat' ((conv => whnf);first | apply And.intro | (intro h9;try (have h8 : (_ : Bool) = _:=h9;clear h8;revert h9;subst_vars;intro h9;exact aq h9 (by assumption))))
  all_goals try (conv => whnf)
  all_goals try first | (apply Tk.mk <;> kernel_rfl) | exact ⟨ah rfl⟩ | exact ⟨rfl⟩ | exact ⟨trivial⟩
  all_goals subst_vars
  all_goals try first | rfl | contradiction | (apply Ob.mk;first | (simp only [ag,ak,aa.ae];omega) | ((try simp only [aa.ae]);(try dsimp only);omega))
  all_goals try first
   | exact ⟨hdk⟩
   | exact ⟨show ((nF n P L k).size + (abE kO [(cn L k).1,(cn L k).2.1,(cn L k).2.2]).size : Nat) <= 9223372036854775807 by omega⟩
   | exact ⟨show 0 + Int.toNat (k : Int) < L.length by omega⟩
  refine ⟨k + 1,[0,1],cB,?_,by show L.length - (k + 1) < L.length - k;omega⟩
  repeat' ((conv => whnf);(first | apply And.intro | intro _))
  all_goals first | rfl | trivial | exact ah rfl | exact aS ‹_› rfl | exact aT ‹_› rfl | ((repeat' first | rfl | constructor);done) | exact Kq | exact congrArg Value.string Kq
 have p0 : decide ((k : Int) < (L.length : Int)) = false:=decide_eq_false (by omega)
 obtain rfl : k = L.length:=by omega
 repeat' ((conv => whnf);first | apply And.intro | (intro h9;try (have h8 : (_ : Bool) = _:=h9;clear h8;revert h9;subst_vars;intro h9;exact aq h9 (by assumption))))
 all_goals try (conv => whnf)
 all_goals try first | (apply Tk.mk <;> kernel_rfl) | exact ⟨ah rfl⟩ | exact ⟨rfl⟩ | exact ⟨trivial⟩
 all_goals subst_vars
 all_goals try first | rfl | contradiction | (apply Ob.mk;first | (simp only [ag,ak,aa.ae];omega) | ((try simp only [aa.ae]);(try dsimp only);omega))
 all_goals first
  | trivial)
/-! ### One digit each -/
def NJ (v : Int) : ByteArray:={ data:=#[UInt8.ofNat (48 + v.toNat)] }
theorem O9 {v : Int} (h : 0 <= v /\ v < 10) : lU v = NJ v:=by
 unfold lU Mn NJ
 rw [Lib.decDigits_one (by omega)]
def Kw (w : ByteArray) (l : List Int) : Nat -> ByteArray
 | 0 => w
 | k + 1 => Kw w l k ++ (vP ++ NJ (gi l k))
def zh (w : ByteArray) (l : List Int) : ByteArray:=Kw w l l.length ++ N1
def N4 (n P : Int) (L : List Wk) : Nat -> ByteArray
 | 0 => zh KD [n,P]
 | k + 1 => N4 n P L k ++ zh kO [(wk L k).1,(wk L k).2.1,(wk L k).2.2]
theorem NW {w : ByteArray} {l : List Int} (hl : ∀ v ∈ l,0 <= v /\ v < 10) : ∀ k,k <= l.length -> mR w l k = Kw w l k
 | 0,_ => rfl
 | k + 1,hk => by rw [mR,Kw,NW hl k (by omega),O9 (hl _ (qL hk))]
theorem HH {w : ByteArray} {l : List Int} (hl : ∀ v ∈ l,0 <= v /\ v < 10) : abE w l = zh w l:=by
 unfold abE zh;rw [NW hl l.length (Nat.le_refl _)]
theorem N5 {n P : Int} {L : List Wk} (h : Ep n P L) : ∀ k,k <= L.length -> nF n P L k = N4 n P L k
 | 0,_ => HH (by
   have h1:=h.n;have h2:=h.p
   intro v hv
   simp only [List.mem_cons,List.not_mem_nil,or_false] at hv
   rcases hv with rfl | rfl <;> omega)
 | k + 1,hk => by
   have h2:=h.p
   have:=rR (h.w _ (Cf (show k < L.length from hk)))
   rw [nF,N4,N5 h k (by omega),HH (by
    intro v hv
    simp only [List.mem_cons,List.not_mem_nil,or_false] at hv
    rcases hv with rfl | rfl | rfl <;> omega)]
end Go.Proofs.YthejmgnkenokpaaGreatDoor
end
