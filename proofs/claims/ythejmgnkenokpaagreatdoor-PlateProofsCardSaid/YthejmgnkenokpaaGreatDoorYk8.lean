/-
  Texts of the claims on chapter 3: Yk8. No condition: lemmas and contracts.
-/
import Derived.Shelf.Small.Bits
import Derived.Shelf.Small.Strs
import Derived.Shelf.Utf8.RuneCount
import Derived.Shelf.Strconv.Itoa0
import Derived.Shelf.Strconv.Itoa1
import Derived.Shelf.LaysM
import Derived.Shelf.Strconv.Itoa2
import Derived.Shelf.Strconv.Itoa3
import Derived.Shelf.Strings.Search1
import Derived.Shelf.Strings.Search2
import Derived.Shelf.Strings.Search3
import Derived.Shelf.Strings.Count
import Derived.Shelf.Strings.Shaped
import Derived.Shelf.Strings.Split
import Derived.Shelf.Strings.SplitShaped
import Derived.Shelf.Unicode.Decode
import Derived.Shelf.Strings.RuneCount
import Derived.Shelf.Strings.Explode
import Derived.Shelf.Unicode.DecodeSlow
import Derived.Shelf.Unicode.DecodeAny
import Derived.Test.YthejmgnkenokpaaGreatDoorProg
import Derived.Test.YthejmgnkenokpaaGreatDoorYk3
import Derived.Test.YthejmgnkenokpaaGreatDoorPl1
import Derived.Test.YthejmgnkenokpaaGreatDoorYk2
import Derived.Test.YthejmgnkenokpaaGreatDoorYk7
set_option linter.all false
set_option maxRecDepth 100000
set_option maxHeartbeats 4000000
section
namespace Go.Proofs
open Go.Shelf
open Go.RowKit Go.Sort Go.Lib in
def Tryz.CP : Go.Shelf.Ren:=⟨fun | 171 => 107 | 243 => 136 | 246 => 162 | 283 => 172 | 284 => 173 | 285 => 174 | 286 => 175 | 129 => 133 | 317 => 182 | 318 => 183 | 319 => 184 | 320 => 185 | 337 => 187 | 338 => 188 | n => n,fun | 3 => 3 | 9 => 9 | 2 => 2 | 4 => 4 | 171 => 221 | 0 => 0 | 53 => 192 | 37 => 167 | 5 => 5 | 173 => 223 | 212 => 231 | 51 => 190 | 20 => 20 | 213 => 232 | 46 => 159 | 232 => 239 | 233 => 240 | n => n,fun | 17 => 3 | 18 => 6 | 19 => 7 | n => n⟩
theorem Tryz.Lw : Go.Proofs.Lays.n171 Tryz.prog Tryz.CP:={
 mixed:=by kernel_rfl
 f129:=Tryz.func133.trans (congrArg some (by kernel_rfl))
 f171:=Tryz.func107.trans (congrArg some (by kernel_rfl))
 f243:=Tryz.func136.trans (congrArg some (by kernel_rfl))
 f246:=Tryz.func162.trans (congrArg some (by kernel_rfl))
 f283:=Tryz.func172.trans (congrArg some (by kernel_rfl))
 f284:=Tryz.func173.trans (congrArg some (by kernel_rfl))
 f285:=Tryz.func174.trans (congrArg some (by kernel_rfl))
 f286:=Tryz.func175.trans (congrArg some (by kernel_rfl))
 f317:=Tryz.func182.trans (congrArg some (by kernel_rfl))
 f318:=Tryz.func183.trans (congrArg some (by kernel_rfl))
 f319:=Tryz.func184.trans (congrArg some (by kernel_rfl))
 f320:=Tryz.func185.trans (congrArg some (by kernel_rfl))
 f337:=Tryz.func187.trans (congrArg some (by kernel_rfl))
 f338:=Tryz.func188.trans (congrArg some (by kernel_rfl))
 t0:=Tryz.underlying0
 a0:=Tryz.isAgg0
 z0:=Tryz.sizeOf0
 v0:=Tryz.zeroValue0
 t2:=Tryz.underlying2
 a2:=Tryz.isAgg2
 z2:=Tryz.sizeOf2
 v2:=Tryz.zeroValue2
 t3:=Tryz.underlying3
 a3:=Tryz.isAgg3
 z3:=Tryz.sizeOf3
 v3:=Tryz.zeroValue3
 t4:=Tryz.underlying4
 a4:=Tryz.isAgg4
 z4:=Tryz.sizeOf4
 v4:=Tryz.zeroValue4
 t5:=Tryz.underlying5
 a5:=Tryz.isAgg5
 z5:=Tryz.sizeOf5
 v5:=Tryz.zeroValue5
 t9:=Tryz.underlying9
 a9:=Tryz.isAgg9
 z9:=Tryz.sizeOf9
 v9:=Tryz.zeroValue9
 t20:=Tryz.underlying20
 a20:=Tryz.isAgg20
 z20:=Tryz.sizeOf20
 v20:=Tryz.zeroValue20
 t37:=Tryz.underlying167
 a37:=Tryz.isAgg167
 z37:=Tryz.sizeOf167
 v37:=Tryz.zeroValue167
 t46:=Tryz.underlying159
 a46:=Tryz.isAgg159
 z46:=Tryz.sizeOf159
 v46:=Tryz.zeroValue159
 t51:=Tryz.underlying190
 a51:=Tryz.isAgg190
 z51:=Tryz.sizeOf190
 v51:=Tryz.zeroValue190
 t53:=Tryz.underlying192
 a53:=Tryz.isAgg192
 z53:=Tryz.sizeOf192
 v53:=Tryz.zeroValue192
 t171:=Tryz.underlying221
 a171:=Tryz.isAgg221
 z171:=Tryz.sizeOf221
 v171:=Tryz.zeroValue221
 t173:=Tryz.underlying223
 a173:=Tryz.isAgg223
 z173:=Tryz.sizeOf223
 v173:=Tryz.zeroValue223
 t212:=Tryz.underlying231
 a212:=Tryz.isAgg231
 z212:=Tryz.sizeOf231
 v212:=Tryz.zeroValue231
 t213:=Tryz.underlying232
 a213:=Tryz.isAgg232
 z213:=Tryz.sizeOf232
 t232:=Tryz.underlying239
 a232:=Tryz.isAgg239
 z232:=Tryz.sizeOf239
 v232:=Tryz.zeroValue239
 t233:=Tryz.underlying240
 a233:=Tryz.isAgg240
 z233:=Tryz.sizeOf240
 v233:=Tryz.zeroValue240
 g17:=by kernel_rfl
 g18:=by kernel_rfl
 g19:=by kernel_rfl }
open Go.RowKit Go.Sort Go.Lib in
theorem Tryz.strconv_Itoa_small (i : Nat) (hi : i < 100) (w : World) :
  Calls Tryz.prog 107 #[.int .i64 i] w fun e w' => e = .returned (.string ⟨(Lib.decDigits i).toArray⟩) /\ w' = w:=Any.strconv_Itoa_small Tryz.Lw i hi w
end Go.Proofs
end
section
namespace Go.Proofs.YthejmgnkenokpaaGreatDoor
open Go Go.Sy Go.bK
variable {Γ : bn}
def Mn (l : List UInt8) : ByteArray:=⟨l.toArray⟩
def lU (n : Int) : ByteArray:=Mn (Lib.decDigits n.toNat)
def Gb : au:=.fn fun args _ => match args with
 | [.a (.v (.int .i64 n))] => some ([(aa.of (0 <= n /\ n < 100))],.a (.v (.string (lU n))))
 | _ => none
theorem Gc : au.Ok Tryz.prog Γ 107 Gb:=by
 intro args rg q t hF hq M w0 ρ w vs hl qR nv hargs s8
 simp only at hF
 split at hF
 next n =>
  obtain ⟨rfl,rfl⟩:=Prod.mk.inj (Option.some.inj hF);clear hF
  obtain ⟨h1,-⟩:=hq
  simp only [aa.ae] at h1
  match vs,hargs with
  | [y],⟨⟨hy,_⟩,_⟩ =>
    subst hy
    obtain ⟨i,rfl⟩ : ∃ i : Nat,n = (i : Int):=⟨n.toNat,by omega⟩
    refine (Tryz.strconv_Itoa_small i (by omega) w).mono fun e w' ⟨he,hw⟩ => ?_
    subst hw
    exact ⟨_,he,⟨rfl,rfl⟩,Go.RowKit.Below.refl _ _⟩
 next => cases hF
def PG (D : ByteArray -> List Int -> List aa) (F : ByteArray -> List Int -> Tm) : au:=.fn fun args rg => match args with
 | [.a (.v (.string s0)),.a x0] => (match ac1 3 kI rg x0 with | some (q0,L0) => some (q0 ++ (D s0 L0),F s0 L0) | _ => none)
 | _ => none
theorem M4 {f : FuncId} {b : Body} {E : Env} {d : Nat} (hP : aL Tryz.prog Γ E) (hb : bQ Tryz.prog f b) {D : ByteArray -> List Int -> List aa} {F : ByteArray -> List Int -> Tm} (hp : ∀ (s0 : ByteArray) (L0 : List Int),(F s0 L0).plain = true)
  (H : ∀ (s0 : ByteArray) (L0 : List Int),bW (D s0 L0) -> cQ E d b [.a (.v (.string s0)),.a (.sl 0 [] 0 L0.length)] [.arr 3 kI L0 false false] (fun x _ => iL x (F s0 L0))) : au.Ok Tryz.prog Γ f (PG D F):=au.er (d:=d) hP hb (by
 intro args rg q t hF hq
 split at hF
 next s0 x0 =>
  split at hF
  next q0 L0 hx0 =>
   obtain ⟨rfl,rfl⟩:=Prod.mk.inj (Option.some.inj hF);clear hF
   rw [aH] at hq
   obtain ⟨dm,hD⟩:=hq
   obtain ⟨e0,Vn⟩:=bP (by simp [kI]) hx0 dm
   obtain ⟨p0,r0⟩:=Vn [e0] 0 1 rfl (by omega)
   refine ⟨hp _ _,[e0],[.a (.v (.string s0)),.a (.sl 0 [] 0 L0.length)],[.arr 3 kI L0 false false],⟨⟨rfl,p0,trivial⟩,fun r g hg => ?_⟩,H _ _ hD⟩
   match r,hg with
   | 0,hg => obtain rfl:=Option.some.inj hg;exact r0
  next => cases hF
 next => cases hF)
def vP : ByteArray:={ data:=#[32] }
def N1 : ByteArray:={ data:=#[10] }
def mR (w : ByteArray) (l : List Int) : Nat -> ByteArray
 | 0 => w
 | k + 1 => mR w l k ++ (vP ++ lU (gi l k))
def abE (w : ByteArray) (l : List Int) : ByteArray:=mR w l l.length ++ N1
theorem AW {v : Int} (h : 0 <= v /\ v < 100) : (lU v).size <= 2:=by
 have h1 : (lU v).size = (Lib.decDigits v.toNat).length:=by simp [lU,Mn,ByteArray.size]
 rw [h1]
 by_cases h2 : v.toNat < 10
 ·rw [Lib.decDigits_one h2];exact Nat.le_succ _
 ·rw [Lib.decDigits_two h2 (by omega)];exact Nat.le_refl _
theorem tN {w : ByteArray} {l : List Int} (hl : ∀ v ∈ l,0 <= v /\ v < 100) : ∀ k,k <= l.length -> (mR w l k).size <= w.size + 3 * k
 | 0,_ => Nat.le_refl _
 | k + 1,hk => by
   have h1:=tN (w:=w) hl k (by omega)
   have h2:=AW (hl (gi l k) (qL hk))
   rw [mR,ByteArray.size_append,ByteArray.size_append]
   have : vP.size = 1:=rfl
   omega
def Gi : au:=PG (fun w l => [(aa.of (l.length <= 10)),(aa.of (∀ v ∈ l,0 <= v /\ v < 100)),(aa.of (w.size <= 100))]) (fun w l => .a (.v (.string (abE w l))))
noncomputable def OQ : List (Nat × au):=[(107,Gb)]
theorem Iw : aR Tryz.prog Γ OQ:=(aR.nil.cons (aj Tryz.func107 rfl rfl).fn Gc)
attribute [local irreducible] lU
theorem Gj : au.Ok Tryz.prog Γ 69 Gi:=M4 (d:=0) (aP Iw bq.nil false 0) (aj Tryz.func69 rfl rfl) (fun _ _ => rfl) (by
 intro w l ⟨hl,hv,hw,_⟩
 simp only [aa.ae] at hl hv hw
 repeat' ((conv => whnf);first | apply And.intro | (intro h9;try (have h8 : (_ : Bool) = _:=h9;clear h8;revert h9;subst_vars;intro h9;exact aq h9 (by assumption))))
 all_goals try (conv => whnf)
 all_goals try first | (apply Tk.mk <;> kernel_rfl) | exact ⟨ah rfl⟩ | exact ⟨rfl⟩ | exact ⟨trivial⟩
 all_goals subst_vars
 all_goals try first | rfl | contradiction | (apply Ob.mk;first | (simp only [ag,ak,aa.ae];omega) | ((try simp only [aa.ae]);(try dsimp only);omega))
 refine ⟨Nat,fun k => k <= l.length,fun k => ⟨aI 21 [0,7,8,9] [.a (.v (.string (mR w l k))),.a (.sl 0 [] 0 l.length),.a (vI l.length),.a (vI k)],[],[.arr 3 kI l false false]⟩,fun k => l.length - k,0,[],Nat.zero_le _,?_,?_⟩
 ·repeat' ((conv => whnf);(first | apply And.intro | intro _))
  all_goals first | rfl | trivial | exact ah rfl | exact aS ‹_› rfl | exact aT ‹_› rfl | ((repeat' first | rfl | constructor);done)
 rintro k hk
 have hsz:=tN (w:=w) hv k hk
 by_cases cB : k < l.length
 ·have p0 : decide ((k : Int) < (l.length : Int)) = true:=decide_eq_true (by omega)
  have ge : av l k = gi l k:=dP l k
  have gv : 0 <= av l k /\ av l k < 100:=by rw [ge];exact hv _ (qL cB)
  have gs:=AW gv
  have DJ : mR w l k ++ (vP ++ lU (av l k)) = mR w l (k + 1):=by rw [ge];rfl
  have pT : (vP ++ lU (av l k)).size <= 3:=by rw [ByteArray.size_append];have : vP.size = 1:=rfl;omega
  repeat' ((conv => whnf);first | apply And.intro | (intro h9;try (have h8 : (_ : Bool) = _:=h9;clear h8;revert h9;subst_vars;intro h9;exact aq h9 (by assumption))))
  all_goals try (conv => whnf)
  all_goals try first | (apply Tk.mk <;> kernel_rfl) | exact ⟨ah rfl⟩ | exact ⟨rfl⟩ | exact ⟨trivial⟩
  all_goals subst_vars
  all_goals try first | rfl | contradiction | (apply Ob.mk;first | (simp only [ag,ak,aa.ae];omega) | ((try simp only [aa.ae]);(try dsimp only);omega))
  all_goals try first
   | exact ⟨show 0 + Int.toNat (k : Int) < l.length by omega⟩
   | exact ⟨show ((1 + (lU (av l k)).size : Nat) <= 9223372036854775807) by omega⟩
   | exact ⟨show (((mR w l k).size + (vP ++ lU (av l k)).size : Nat) <= 9223372036854775807) by omega⟩
  refine ⟨k + 1,[],cB,?_,by show l.length - (k + 1) < l.length - k;omega⟩
  repeat' ((conv => whnf);(first | apply And.intro | intro _))
  all_goals first | rfl | trivial | exact ah rfl | exact aS ‹_› rfl | exact aT ‹_› rfl | ((repeat' first | rfl | constructor);done) | exact congrArg Value.string DJ | exact DJ
 have p0 : decide ((k : Int) < (l.length : Int)) = false:=decide_eq_false (by omega)
 obtain rfl : k = l.length:=by omega
 repeat' ((conv => whnf);first | apply And.intro | (intro h9;try (have h8 : (_ : Bool) = _:=h9;clear h8;revert h9;subst_vars;intro h9;exact aq h9 (by assumption))))
 all_goals try (conv => whnf)
 all_goals try first | (apply Tk.mk <;> kernel_rfl) | exact ⟨ah rfl⟩ | exact ⟨rfl⟩ | exact ⟨trivial⟩
 all_goals subst_vars
 all_goals try first | rfl | contradiction | (apply Ob.mk;first | (simp only [ag,ak,aa.ae];omega) | ((try simp only [aa.ae]);(try dsimp only);omega))
 all_goals first
  | exact ⟨show (((mR w l l.length).size + 1 : Nat) <= 9223372036854775807) by omega⟩)
end Go.Proofs.YthejmgnkenokpaaGreatDoor
end
section
namespace Go.Proofs.YthejmgnkenokpaaGreatDoor
open Go Go.Sy Go.bK
variable {Γ : bn}
def KD : ByteArray:={ data:=#[115,104,111,112] }
def kO : ByteArray:={ data:=#[119,111,114,107] }
def nF (n P : Int) (L : List Wk) : Nat -> ByteArray
 | 0 => abE KD [n,P]
 | k + 1 => nF n P L k ++ abE kO [(wk L k).1,(wk L k).2.1,(wk L k).2.2]
def vF (n P : Int) (L : List Wk) : ByteArray:=match bD n P L == 0 with | true => nF n P L L.length | false => { data:=#[] }
theorem pB {w : ByteArray} {l : List Int} (hl : ∀ v ∈ l,0 <= v /\ v < 100) : (abE w l).size <= w.size + 3 * l.length + 1:=by
 have:=tN (w:=w) hl l.length (Nat.le_refl _)
 unfold abE
 rw [ByteArray.size_append]
 have : N1.size = 1:=rfl
 omega
theorem nX {n P : Int} {L : List Wk} (h : Ep n P L) : (∀ v ∈ [n,P],0 <= v /\ v < 100) /\ ∀ k,k < L.length -> ∀ v ∈ [(wk L k).1,(wk L k).2.1,(wk L k).2.2],0 <= v /\ v < 100:=by
 have h1:=h.n;have h2:=h.p
 refine ⟨fun v hv => ?_,fun k hk v hv => ?_⟩
 ·simp only [List.mem_cons,List.not_mem_nil,or_false] at hv
  rcases hv with rfl | rfl <;> omega
 ·have:=rR (h.w _ (Cf hk))
  simp only [List.mem_cons,List.not_mem_nil,or_false] at hv
  rcases hv with rfl | rfl | rfl <;> omega
theorem tT {n P : Int} {L : List Wk} (h : Ep n P L) : ∀ k,k <= L.length -> (nF n P L k).size <= 11 + 14 * k
 | 0,_ => pB (nX h).1
 | k + 1,hk => by
   have h1:=tT h k (by omega)
   have h2:=pB (w:=kO) ((nX h).2 k (by omega))
   rw [nF,ByteArray.size_append]
   have e1 : kO.size = 4:=rfl
   have e2 : [(wk L k).1,(wk L k).2.1,(wk L k).2.2].length = 3:=rfl
   omega
def Dd : au:=fS (fun _ _ L => [(aa.of (L.length <= 1000000))]) (fun n P L => .bF [.a (.v (.string (vF n P L))),.a (vI (bD n P L))])
noncomputable def Md : List (Nat × au):=[(35,rZ),(69,Gi)]
theorem FO : aR Tryz.prog Γ Md:=((aR.nil.cons (aj Tryz.func69 rfl rfl).fn Gj).cons (aj Tryz.func35 rfl rfl).fn oS)
attribute [local irreducible] abE bD
theorem EF : au.Ok Tryz.prog Γ 32 Dd:=za (d:=0) (aP FO bq.nil false 0) (aj Tryz.func32 rfl rfl) (fun _ _ _ => rfl) (by
 intro n P L ⟨hl,_⟩
 simp only [aa.ae] at hl
 cases h0 : bD n P L == 0
 ·have e0 : (bD n P L != 0) = true:=by unfold bne;rw [h0];rfl
  rw [show vF n P L = { data:=#[] } by unfold vF;rw [h0]]
  repeat' ((conv => whnf);first | apply And.intro | (intro h9;try (have h8 : (_ : Bool) = _:=h9;clear h8;revert h9;subst_vars;intro h9;exact aq h9 (by assumption))))
  all_goals try (conv => whnf)
  all_goals try first | (apply Tk.mk <;> kernel_rfl) | exact ⟨ah rfl⟩ | exact ⟨rfl⟩ | exact ⟨trivial⟩
  all_goals subst_vars
  all_goals try first | rfl | contradiction | (apply Ob.mk;first | (simp only [ag,ak,aa.ae];omega) | ((try simp only [aa.ae]);(try dsimp only);omega))
  all_goals first
   | trivial
   | exact ⟨hl⟩
 have e0 : (bD n P L != 0) = false:=by unfold bne;rw [h0];rfl
 have e1:=eq_of_beq h0
 have hsh:=oe.1 e1
 rw [show vF n P L = nF n P L L.length by unfold vF;rw [h0],e1]
 have hd:=nX hsh
 have Kk:=hd.1
 have fK:=tT hsh 0 (Nat.zero_le _)
 have Np:=hsh.l
 repeat' ((conv => whnf);first | apply And.intro | (intro h9;try (have h8 : (_ : Bool) = _:=h9;clear h8;revert h9;subst_vars;intro h9;exact aq h9 (by assumption))))
 all_goals try (conv => whnf)
 all_goals try first | (apply Tk.mk <;> kernel_rfl) | exact ⟨ah rfl⟩ | exact ⟨rfl⟩ | exact ⟨trivial⟩
 all_goals subst_vars
 all_goals try first | rfl | contradiction | (apply Ob.mk;first | (simp only [ag,ak,aa.ae];omega) | ((try simp only [aa.ae]);(try dsimp only);omega))
 all_goals try first
  | exact ⟨hl⟩
  | exact ⟨Kk⟩
 refine ⟨Nat,fun k => k <= L.length,fun k => ⟨aI 38 [5,20,21,22] [.a (.v (.string (nF n P L k))),.a (.sl 0 [] 0 L.length),.a (vI L.length),.a (vI k)],[],[.arr 46 kW L false false,.box true [vI n,vI P,.sl 0 [] 0 L.length]]⟩,fun k => L.length - k,0,[0,1],Nat.zero_le _,?_,?_⟩
 ·repeat' ((conv => whnf);(first | apply And.intro | intro _))
  all_goals first | rfl | trivial | exact ah rfl | exact aS ‹_› rfl | exact aT ‹_› rfl | ((repeat' first | rfl | constructor);done)
 rintro k hk
 have hsz:=tT hsh k hk
 by_cases cB : k < L.length
 ·have p0 : decide ((k : Int) < (L.length : Int)) = true:=decide_eq_true (by omega)
  have ew : cn L k = wk L k:=jX L k
  have hdk : ∀ v ∈ [(cn L k).1,(cn L k).2.1,(cn L k).2.2],0 <= v /\ v < 100:=by rw [ew];exact hd.2 k cB
  have dZ : (abE kO [(cn L k).1,(cn L k).2.1,(cn L k).2.2]).size <= 14:=pB hdk
  have Kq : nF n P L k ++ abE kO [(cn L k).1,(cn L k).2.1,(cn L k).2.2] = nF n P L (k + 1):=by rw [ew];rfl
  repeat' ((conv => whnf);first | apply And.intro | (intro h9;try (have h8 : (_ : Bool) = _:=h9;clear h8;revert h9;subst_vars;intro h9;exact aq h9 (by assumption))))
  all_goals try (conv => whnf)
  all_goals try first | (apply Tk.mk <;> kernel_rfl) | exact ⟨ah rfl⟩ | exact ⟨rfl⟩ | exact ⟨trivial⟩
  all_goals subst_vars
  all_goals try first | rfl | contradiction | (apply Ob.mk;first | (simp only [ag,ak,aa.ae];omega) | ((try simp only [aa.ae]);(try dsimp only);omega))
  all_goals try first
   | exact ⟨hdk⟩
   | exact ⟨show ((nF n P L k).size + (abE kO [(cn L k).1,(cn L k).2.1,(cn L k).2.2]).size : Nat) <= 9223372036854775807 by omega⟩
   | exact ⟨show 0 + Int.toNat (k : Int) < L.length by omega⟩
  refine ⟨k + 1,[0,1],cB,?_,by show L.length - (k + 1) < L.length - k;omega⟩
  repeat' ((conv => whnf);(first | apply And.intro | intro _))
  all_goals first | rfl | trivial | exact ah rfl | exact aS ‹_› rfl | exact aT ‹_› rfl | ((repeat' first | rfl | constructor);done) | exact Kq | exact congrArg Value.string Kq
 have p0 : decide ((k : Int) < (L.length : Int)) = false:=decide_eq_false (by omega)
 obtain rfl : k = L.length:=by omega
 repeat' ((conv => whnf);first | apply And.intro | (intro h9;try (have h8 : (_ : Bool) = _:=h9;clear h8;revert h9;subst_vars;intro h9;exact aq h9 (by assumption))))
 all_goals try (conv => whnf)
 all_goals try first | (apply Tk.mk <;> kernel_rfl) | exact ⟨ah rfl⟩ | exact ⟨rfl⟩ | exact ⟨trivial⟩
 all_goals subst_vars
 all_goals try first | rfl | contradiction | (apply Ob.mk;first | (simp only [ag,ak,aa.ae];omega) | ((try simp only [aa.ae]);(try dsimp only);omega))
 all_goals first
  | trivial)
/-! ### One digit each -/
def NJ (v : Int) : ByteArray:={ data:=#[UInt8.ofNat (48 + v.toNat)] }
theorem O9 {v : Int} (h : 0 <= v /\ v < 10) : lU v = NJ v:=by
 unfold lU Mn NJ
 rw [Lib.decDigits_one (by omega)]
def Kw (w : ByteArray) (l : List Int) : Nat -> ByteArray
 | 0 => w
 | k + 1 => Kw w l k ++ (vP ++ NJ (gi l k))
def zh (w : ByteArray) (l : List Int) : ByteArray:=Kw w l l.length ++ N1
def N4 (n P : Int) (L : List Wk) : Nat -> ByteArray
 | 0 => zh KD [n,P]
 | k + 1 => N4 n P L k ++ zh kO [(wk L k).1,(wk L k).2.1,(wk L k).2.2]
theorem NW {w : ByteArray} {l : List Int} (hl : ∀ v ∈ l,0 <= v /\ v < 10) : ∀ k,k <= l.length -> mR w l k = Kw w l k
 | 0,_ => rfl
 | k + 1,hk => by rw [mR,Kw,NW hl k (by omega),O9 (hl _ (qL hk))]
theorem HH {w : ByteArray} {l : List Int} (hl : ∀ v ∈ l,0 <= v /\ v < 10) : abE w l = zh w l:=by
 unfold abE zh;rw [NW hl l.length (Nat.le_refl _)]
theorem N5 {n P : Int} {L : List Wk} (h : Ep n P L) : ∀ k,k <= L.length -> nF n P L k = N4 n P L k
 | 0,_ => HH (by
   have h1:=h.n;have h2:=h.p
   intro v hv
   simp only [List.mem_cons,List.not_mem_nil,or_false] at hv
   rcases hv with rfl | rfl <;> omega)
 | k + 1,hk => by
   have h2:=h.p
   have:=rR (h.w _ (Cf (show k < L.length from hk)))
   rw [nF,N4,N5 h k (by omega),HH (by
    intro v hv
    simp only [List.mem_cons,List.not_mem_nil,or_false] at hv
    rcases hv with rfl | rfl | rfl <;> omega)]
end Go.Proofs.YthejmgnkenokpaaGreatDoor
end
section
namespace Go.Proofs.YthejmgnkenokpaaGreatDoor
open Go Go.Sy Go.bK
variable {Γ : bn}
theorem Bp {n : Int} {G : List Sg} {x : Int} {es : List (Int × Bool)} {l : Int} : ∀ k,aO (iD n G x es k) l false = true <-> (aO es l false = true \/ (aK n G x = l /\ ∃ i,i < k /\ lO n G x i = true))
 | 0 => by
   rw [iD]
   refine ⟨.inl,fun h => h.resolve_right ?_⟩
   rintro ⟨_,i,hi,_⟩
   exact absurd hi (Nat.not_lt_zero _)
 | k + 1 => by
   rw [iD]
   have ih:=Bp (n:=n) (G:=G) (x:=x) (es:=es) (l:=l) k
   cases hb : lO n G x k <;> dsimp only
   ·rw [ih]
    refine or_congr Iff.rfl (and_congr Iff.rfl ?_)
    constructor
    ·rintro ⟨i,hi,h⟩;exact ⟨i,by omega,h⟩
    ·rintro ⟨i,hi,h⟩
     rcases Nat.lt_or_ge i k with h1 | h1
     ·exact ⟨i,h1,h⟩
     ·obtain rfl : i = k:=by omega
      rw [hb] at h;cases h
   ·rw [lB]
    by_cases e : aK n G x = l
    ·rw [if_pos e]
     exact ⟨fun _ => .inr ⟨e,k,by omega,hb⟩,fun _ => rfl⟩
    ·rw [if_neg e,ih]
     refine or_congr Iff.rfl ?_
     constructor
     ·rintro ⟨h,_⟩;exact absurd h e
     ·rintro ⟨h,_⟩;exact absurd h e
theorem Ln {n : Int} {G : List Sg} {x : Int} : (∃ i,i < G.length /\ lO n G x i = true) <-> eV n G x = true:=by
 rw [kw]
 constructor
 ·rintro ⟨i,hi,h⟩
  simp only [lO,oP,Bool.and_eq_true,beq_iff_eq] at h
  exact ⟨_,aaq hi,h⟩
 ·rintro ⟨g,hg,h1,h2⟩
  obtain ⟨i,hi,rfl⟩:=vO hg
  exact ⟨i,hi,by simp only [lO,oP,Bool.and_eq_true,beq_iff_eq];exact ⟨h1,h2⟩⟩
theorem Bo {n : Int} {G : List Sg} {l : Int} : ∀ c,aO (gB n G c) l false = true <-> ∃ x : Nat,x < c /\ aK n G (x : Int) = l /\ eV n G (x : Int) = true
 | 0 => by
   rw [gB]
   refine ⟨fun h => (by cases h),?_⟩
   rintro ⟨i,hi,_⟩
   exact absurd hi (Nat.not_lt_zero _)
 | c + 1 => by
   rw [gB,Bp,Bo c,Ln]
   constructor
   ·rintro (⟨x,hx,h⟩ | ⟨h1,h2⟩)
    ·exact ⟨x,by omega,h⟩
    ·exact ⟨c,by omega,h1,h2⟩
   ·rintro ⟨x,hx,h1,h2⟩
    rcases Nat.lt_or_ge x c with h3 | h3
    ·exact .inl ⟨x,h3,h1,h2⟩
    ·obtain rfl : x = c:=by omega
     exact .inr ⟨h1,h2⟩
theorem D9 {n : Int} {G : List Sg} {x : Int} : ∀ k,cH n G x k = if ∃ i,i < k /\ gE n G x i = true then 1 else -1
 | 0 => by
   rw [cH,if_neg]
   rintro ⟨i,hi,_⟩
   exact absurd hi (Nat.not_lt_zero _)
 | k + 1 => by
   rw [cH]
   cases hb : gE n G x k <;> dsimp only
   ·rw [D9 k]
    by_cases h : ∃ i,i < k /\ gE n G x i = true
    ·rw [if_pos h,if_pos]
     obtain ⟨i,hi,h⟩:=h
     exact ⟨i,by omega,h⟩
    ·rw [if_neg h,if_neg]
     rintro ⟨i,hi,h'⟩
     rcases Nat.lt_or_ge i k with h1 | h1
     ·exact h ⟨i,h1,h'⟩
     ·obtain rfl : i = k:=by omega
      rw [hb] at h';cases h'
   ·rw [if_pos ⟨k,by omega,hb⟩]
theorem AY {n : Int} {G : List Sg} {x : Int} : (∃ i,i < G.length /\ gE n G x i = true) <-> q7 n G x = true:=by
 rw [tL]
 constructor
 ·rintro ⟨i,hi,h⟩
  simp only [gE,oP,Bool.and_eq_true,beq_iff_eq,Bool.not_eq_true'] at h
  exact ⟨_,aaq hi,h⟩
 ·rintro ⟨g,hg,h1,h2⟩
  obtain ⟨i,hi,rfl⟩:=vO hg
  exact ⟨i,hi,by simp only [gE,oP,Bool.and_eq_true,beq_iff_eq,Bool.not_eq_true'];exact ⟨h1,h2⟩⟩
theorem LS {n : Int} {G : List Sg} (hG : gH G) (hn : bz n) {x : Int} (hx : aM n x) : bO n G x = fO n G x:=by
 have h1 : aO (gB n G (n * n).toNat) (aK n G x) false = eV n G x:=by
  rw [Bool.eq_iff_iff,Bo]
  constructor
  ·rintro ⟨y,hy,e,hp⟩
   have pS : aM n (y : Int):=(ic hn).2 ⟨y,hy,rfl⟩
   have o1:=gz hG hn pS
   rw [e] at o1
   exact wS hG hn pS (rD hG hn pS o1 (mW hG hn hx (gz hG hn hx))) hp
  ·intro hp
   obtain ⟨k,hk,rfl⟩:=(ic hn).1 hx
   exact ⟨k,hk,rfl,hp⟩
 unfold bO fO
 rw [h1,D9]
 cases eV n G x <;> dsimp only
 by_cases h : ∃ i,i < G.length /\ gE n G x i = true
 ·rw [if_pos h,AY.1 h]
 ·rw [if_neg h]
  cases hk : q7 n G x
  ·rfl
  ·exact absurd (AY.2 hk) h
theorem G2 {n : Int} {G : List Sg} (hn : bz n) {x : Int} (hx : aM n x) : gi (aJ n G) x = aK n G x:=by
 obtain ⟨k,hk,rfl⟩:=(ic hn).1 hx
 exact qg hk
theorem G4 {n : Int} {G : List Sg} (hG : gH G) (hn : bz n) {x : Int} (hx : aM n x) : gi (aU n G) x = fO n G x:=by
 rw [<- LS hG hn hx]
 obtain ⟨k,hk,rfl⟩:=(ic hn).1 hx
 exact qg hk
theorem Dr {n : Int} {G : List Sg} (hG : gH G) (hn : bz n) : ∀ c,c <= (n * n).toNat -> eR (aJ n G) (aU n G) c = fH n G c
 | 0,_ => rfl
 | c + 1,hc => by
   have hx : aM n (c : Int):=(ic hn).2 ⟨c,by omega,rfl⟩
   rw [eR,fH,Dr hG hn c (by omega)]
   have : uQ (aJ n G) (aU n G) c = Z6 n G c:=by
    unfold uQ Z6
    rw [G2 hn hx,G4 hG hn hx]
    congr 2
    rw [Bool.eq_iff_iff,beq_iff_eq]
    exact JR
   rw [this]
   all_goals (cases Z6 n G c <;> rfl)
theorem MD {n : Int} {G : List Sg} (hG : gH G) (hn : bz n) : eR (aJ n G) (aU n G) (aJ n G).length = fH n G (n * n).toNat:=by
 have : (aJ n G).length = (n * n).toNat:=c7
 rw [this];exact Dr hG hn _ (Nat.le_refl _)
theorem Ax {n : Int} {G : List Sg} (hG : gH G) (hn : bz n) : lP n G = zb n G:=by
 unfold lP zb qD
 rw [MD hG hn]
 cases dL G <;> dsimp only
 omega
end Go.Proofs.YthejmgnkenokpaaGreatDoor
end
