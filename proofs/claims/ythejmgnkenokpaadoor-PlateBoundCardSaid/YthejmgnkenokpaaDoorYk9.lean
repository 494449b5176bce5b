/-
  Texts of the claims on chapter 3: Yk9. No condition: lemmas and contracts.
-/
import Derived.Shelf.Strconv.Itoa0
import Derived.Shelf.Strconv.Itoa1
import Derived.Shelf.LaysM
import Derived.Shelf.Strconv.Itoa2
import Derived.Shelf.Strconv.Itoa3
import Derived.Test.YthejmgnkenokpaaDoorProg
import Derived.Test.YthejmgnkenokpaaDoorYk3
import Derived.Test.YthejmgnkenokpaaDoorPl1
import Derived.Test.YthejmgnkenokpaaDoorYk2
import Derived.Test.YthejmgnkenokpaaDoorYk1
import Derived.Test.YthejmgnkenokpaaDoorYk7
import Derived.Test.YthejmgnkenokpaaDoorYk8
import Derived.Test.YthejmgnkenokpaaDoorYk5
import Derived.KernelRfl
import Derived.Test.YthejmgnkenokpaaDoorQ22
set_option linter.all false
set_option maxRecDepth 100000
set_option maxHeartbeats 4000000
section
namespace Go.Proofs
open Go.Shelf
open Go.Lib in
open Go.Lib in
open Go.Lib in
open Go.Lib in
open Go.RowKit Go.Sort Go.Lib in
open Go.RowKit Go.Sort Go.Lib in
open Go.RowKit Go.Sort Go.Lib in
open Go.RowKit Go.Sort Go.Lib in
open Go.RowKit Go.Sort Go.Lib in
open Go.RowKit Go.Sort Go.Lib in
def Tryd.CP : Go.Shelf.Ren:=⟨fun | 171 => 109 | 243 => 122 | 246 => 123 | 283 => 124 | 284 => 125 | 285 => 126 | 286 => 127 | 129 => 129 | 317 => 128 | 318 => 130 | 319 => 131 | 320 => 132 | 337 => 133 | 338 => 134 | n => n,fun | 3 => 3 | 9 => 9 | 2 => 2 | 4 => 4 | 171 => 167 | 0 => 0 | 53 => 168 | 37 => 171 | 5 => 5 | 173 => 172 | 212 => 175 | 51 => 176 | 20 => 20 | 213 => 177 | 46 => 92 | 232 => 180 | 233 => 181 | n => n,fun | 17 => 0 | 18 => 1 | 19 => 2 | n => n⟩
theorem Tryd.Lw : Go.Proofs.Lays.n171 Tryd.prog Tryd.CP:={
 mixed:=by kernel_rfl
 f129:=Tryd.func129.trans (congrArg some (by kernel_rfl))
 f171:=Tryd.func109.trans (congrArg some (by kernel_rfl))
 f243:=Tryd.func122.trans (congrArg some (by kernel_rfl))
 f246:=Tryd.func123.trans (congrArg some (by kernel_rfl))
 f283:=Tryd.func124.trans (congrArg some (by kernel_rfl))
 f284:=Tryd.func125.trans (congrArg some (by kernel_rfl))
 f285:=Tryd.func126.trans (congrArg some (by kernel_rfl))
 f286:=Tryd.func127.trans (congrArg some (by kernel_rfl))
 f317:=Tryd.func128.trans (congrArg some (by kernel_rfl))
 f318:=Tryd.func130.trans (congrArg some (by kernel_rfl))
 f319:=Tryd.func131.trans (congrArg some (by kernel_rfl))
 f320:=Tryd.func132.trans (congrArg some (by kernel_rfl))
 f337:=Tryd.func133.trans (congrArg some (by kernel_rfl))
 f338:=Tryd.func134.trans (congrArg some (by kernel_rfl))
 t0:=Tryd.underlying0
 a0:=Tryd.isAgg0
 z0:=Tryd.sizeOf0
 v0:=Tryd.zeroValue0
 t2:=Tryd.underlying2
 a2:=Tryd.isAgg2
 z2:=Tryd.sizeOf2
 v2:=Tryd.zeroValue2
 t3:=Tryd.underlying3
 a3:=Tryd.isAgg3
 z3:=Tryd.sizeOf3
 v3:=Tryd.zeroValue3
 t4:=Tryd.underlying4
 a4:=Tryd.isAgg4
 z4:=Tryd.sizeOf4
 v4:=Tryd.zeroValue4
 t5:=Tryd.underlying5
 a5:=Tryd.isAgg5
 z5:=Tryd.sizeOf5
 v5:=Tryd.zeroValue5
 t9:=Tryd.underlying9
 a9:=Tryd.isAgg9
 z9:=Tryd.sizeOf9
 v9:=Tryd.zeroValue9
 t20:=Tryd.underlying20
 a20:=Tryd.isAgg20
 z20:=Tryd.sizeOf20
 v20:=Tryd.zeroValue20
 t37:=Tryd.underlying171
 a37:=Tryd.isAgg171
 z37:=Tryd.sizeOf171
 v37:=Tryd.zeroValue171
 t46:=Tryd.underlying92
 a46:=Tryd.isAgg92
 z46:=Tryd.sizeOf92
 v46:=Tryd.zeroValue92
 t51:=Tryd.underlying176
 a51:=Tryd.isAgg176
 z51:=Tryd.sizeOf176
 v51:=Tryd.zeroValue176
 t53:=Tryd.underlying168
 a53:=Tryd.isAgg168
 z53:=Tryd.sizeOf168
 v53:=Tryd.zeroValue168
 t171:=Tryd.underlying167
 a171:=Tryd.isAgg167
 z171:=Tryd.sizeOf167
 v171:=Tryd.zeroValue167
 t173:=Tryd.underlying172
 a173:=Tryd.isAgg172
 z173:=Tryd.sizeOf172
 v173:=Tryd.zeroValue172
 t212:=Tryd.underlying175
 a212:=Tryd.isAgg175
 z212:=Tryd.sizeOf175
 v212:=Tryd.zeroValue175
 t213:=Tryd.underlying177
 a213:=Tryd.isAgg177
 z213:=Tryd.sizeOf177
 t232:=Tryd.underlying180
 a232:=Tryd.isAgg180
 z232:=Tryd.sizeOf180
 v232:=Tryd.zeroValue180
 t233:=Tryd.underlying181
 a233:=Tryd.isAgg181
 z233:=Tryd.sizeOf181
 v233:=Tryd.zeroValue181
 g17:=by kernel_rfl
 g18:=by kernel_rfl
 g19:=by kernel_rfl }
open Go.RowKit Go.Sort Go.Lib in
theorem Tryd.strconv_Itoa_small (i : Nat) (hi : i < 100) (w : World) :
  Calls Tryd.prog 109 #[.int .i64 i] w fun e w' => e = .returned (.string ⟨(Lib.decDigits i).toArray⟩) /\ w' = w:=Any.strconv_Itoa_small Tryd.Lw i hi w
end Go.Proofs
end
section
namespace Go.Proofs.YthejmgnkenokpaaDoor
open Go Go.Sy Go.bK
variable {Γ : bn}
def Mn (l : List UInt8) : ByteArray:=⟨l.toArray⟩
def lU (n : Int) : ByteArray:=Mn (Lib.decDigits n.toNat)
def Gb : au:=.fn fun args _ => match args with
 | [.a (.v (.int .i64 n))] => some ([(aa.of (0 <= n /\ n < 100))],.a (.v (.string (lU n))))
 | _ => none
theorem Gc : au.Ok Tryd.prog Γ 109 Gb:=by
 intro args rg q t hF hq M w0 ρ w vs hl qR nv hargs s8
 simp only at hF
 split at hF
 next n =>
  obtain ⟨rfl,rfl⟩:=Prod.mk.inj (Option.some.inj hF);clear hF
  obtain ⟨h1,-⟩:=hq
  simp only [aa.ae] at h1
  match vs,hargs with
  | [y],⟨⟨hy,_⟩,_⟩ =>
    subst hy
    obtain ⟨i,rfl⟩ : ∃ i : Nat,n = (i : Int):=⟨n.toNat,by omega⟩
    refine (Tryd.strconv_Itoa_small i (by omega) w).mono fun e w' ⟨he,hw⟩ => ?_
    subst hw
    exact ⟨_,he,⟨rfl,rfl⟩,Go.RowKit.Below.refl _ _⟩
 next => cases hF
def PG (D : ByteArray -> List Int -> List aa) (F : ByteArray -> List Int -> Tm) : au:=.fn fun args rg => match args with
 | [.a (.v (.string s0)),.a x0] => (match ca 3 kI rg x0 with | some (q0,L0) => some (q0 ++ (D s0 L0),F s0 L0) | _ => none)
 | _ => none
theorem M4 {f : FuncId} {b : Body} {E : Env} {d : Nat} (hP : aL Tryd.prog Γ E) (hb : bQ Tryd.prog f b) {D : ByteArray -> List Int -> List aa} {F : ByteArray -> List Int -> Tm} (hp : ∀ (s0 : ByteArray) (L0 : List Int),(F s0 L0).plain = true)
  (H : ∀ (s0 : ByteArray) (L0 : List Int),bW (D s0 L0) -> cQ E d b [.a (.v (.string s0)),.a (.sl 0 [] 0 L0.length)] [.arr 3 kI L0 false false] (fun x _ => iL x (F s0 L0))) : au.Ok Tryd.prog Γ f (PG D F):=au.er (d:=d) hP hb (by
 intro args rg q t hF hq
 split at hF
 next s0 x0 =>
  split at hF
  next q0 L0 hx0 =>
   obtain ⟨rfl,rfl⟩:=Prod.mk.inj (Option.some.inj hF);clear hF
   rw [aH] at hq
   obtain ⟨dm,hD⟩:=hq
   obtain ⟨e0,Vn⟩:=bP (by simp [kI]) hx0 dm
   obtain ⟨p0,r0⟩:=Vn [e0] 0 1 rfl (by omega)
   refine ⟨hp _ _,[e0],[.a (.v (.string s0)),.a (.sl 0 [] 0 L0.length)],[.arr 3 kI L0 false false],⟨⟨rfl,p0,trivial⟩,fun r g hg => ?_⟩,H _ _ hD⟩
   match r,hg with
   | 0,hg => obtain rfl:=Option.some.inj hg;exact r0
  next => cases hF
 next => cases hF)
def vP : ByteArray:={ data:=#[32] }
def N1 : ByteArray:={ data:=#[10] }
def mR (w : ByteArray) (l : List Int) : Nat -> ByteArray
 | 0 => w
 | k + 1 => mR w l k ++ (vP ++ lU (gi l k))
def gF (w : ByteArray) (l : List Int) : ByteArray:=mR w l l.length ++ N1
theorem AW {v : Int} (h : 0 <= v /\ v < 100) : (lU v).size <= 2:=by
 have h1 : (lU v).size = (Lib.decDigits v.toNat).length:=by simp [lU,Mn,ByteArray.size]
 rw [h1]
 by_cases h2 : v.toNat < 10
 ·rw [Lib.decDigits_one h2];exact Nat.le_succ _
 ·rw [Lib.decDigits_two h2 (by omega)];exact Nat.le_refl _
theorem tN {w : ByteArray} {l : List Int} (hl : ∀ v ∈ l,0 <= v /\ v < 100) : ∀ k,k <= l.length -> (mR w l k).size <= w.size + 3 * k
 | 0,_ => Nat.le_refl _
 | k + 1,hk => by
   have h1:=tN (w:=w) hl k (by omega)
   have h2:=AW (hl (gi l k) (qL hk))
   rw [mR,ByteArray.size_append,ByteArray.size_append]
   have : vP.size = 1:=rfl
   omega
def Gi : au:=PG (fun w l => [(aa.of (l.length <= 10)),(aa.of (∀ v ∈ l,0 <= v /\ v < 100)),(aa.of (w.size <= 100))]) (fun w l => .a (.v (.string (gF w l))))
noncomputable def OQ : List (Nat × au):=[(109,Gb)]
theorem Iw : aR Tryd.prog Γ OQ:=(aR.nil.cons (aj Tryd.func109 rfl rfl).fn Gc)
attribute [local irreducible] lU
theorem Gj : au.Ok Tryd.prog Γ 86 Gi:=M4 (d:=0) (aP Iw bq.nil false 0) (aj Tryd.func86 rfl rfl) (fun _ _ => rfl) (by
 intro w l ⟨hl,hv,hw,_⟩
 simp only [aa.ae] at hl hv hw
 repeat' ((conv => whnf);first | apply And.intro | (intro h9;try (have h8 : (_ : Bool) = _:=h9;clear h8;revert h9;subst_vars;intro h9;exact aq h9 (by assumption))))
 all_goals try (conv => whnf)
 all_goals try first | (apply Tk.mk <;> kernel_rfl) | exact ⟨ah rfl⟩ | exact ⟨rfl⟩ | exact ⟨trivial⟩
 all_goals subst_vars
 all_goals try first | rfl | contradiction | (apply Ob.mk;first | (simp only [ag,ak,aa.ae];omega) | ((try simp only [aa.ae]);(try dsimp only);omega))
 refine ⟨Nat,fun k => k <= l.length,fun k => ⟨aI 21 [0,7,8,9] [.a (.v (.string (mR w l k))),.a (.sl 0 [] 0 l.length),.a (vI l.length),.a (vI k)],[],[.arr 3 kI l false false]⟩,fun k => l.length - k,0,[],Nat.zero_le _,?_,?_⟩
 ·repeat' ((conv => whnf);(first | apply And.intro | intro _))
  all_goals first | rfl | trivial | exact ah rfl | exact aS ‹_› rfl | exact aT ‹_› rfl | ((repeat' first | rfl | constructor);done)
 rintro k hk
 have hsz:=tN (w:=w) hv k hk
 by_cases cB : k < l.length
 ·have p0 : decide ((k : Int) < (l.length : Int)) = true:=decide_eq_true (by omega)
  have ge : av l k = gi l k:=dP l k
  have gv : 0 <= av l k /\ av l k < 100:=by rw [ge];exact hv _ (qL cB)
  have gs:=AW gv
  have DJ : mR w l k ++ (vP ++ lU (av l k)) = mR w l (k + 1):=by rw [ge];rfl
  have pT : (vP ++ lU (av l k)).size <= 3:=by rw [ByteArray.size_append];have : vP.size = 1:=rfl;omega
  repeat' ((conv => whnf);first | apply And.intro | (intro h9;try (have h8 : (_ : Bool) = _:=h9;clear h8;revert h9;subst_vars;intro h9;exact aq h9 (by assumption))))
  all_goals try (conv => whnf)
  all_goals try first | (apply Tk.mk <;> kernel_rfl) | exact ⟨ah rfl⟩ | exact ⟨rfl⟩ | exact ⟨trivial⟩
  all_goals subst_vars
  all_goals try first | rfl | contradiction | (apply Ob.mk;first | (simp only [ag,ak,aa.ae];omega) | ((try simp only [aa.ae]);(try dsimp only);omega))
  all_goals try first
   | exact ⟨show 0 + Int.toNat (k : Int) < l.length by omega⟩
   | exact ⟨show ((1 + (lU (av l k)).size : Nat) <= 9223372036854775807) by omega⟩
   | exact ⟨show (((mR w l k).size + (vP ++ lU (av l k)).size : Nat) <= 9223372036854775807) by omega⟩
  refine ⟨k + 1,[],cB,?_,by show l.length - (k + 1) < l.length - k;omega⟩
  repeat' ((conv => whnf);(first | apply And.intro | intro _))
  all_goals first | rfl | trivial | exact ah rfl | exact aS ‹_› rfl | exact aT ‹_› rfl | ((repeat' first | rfl | constructor);done) | exact congrArg Value.string DJ | exact DJ
 have p0 : decide ((k : Int) < (l.length : Int)) = false:=decide_eq_false (by omega)
 obtain rfl : k = l.length:=by omega
 repeat' ((conv => whnf);first | apply And.intro | (intro h9;try (have h8 : (_ : Bool) = _:=h9;clear h8;revert h9;subst_vars;intro h9;exact aq h9 (by assumption))))
 all_goals try (conv => whnf)
 all_goals try first | (apply Tk.mk <;> kernel_rfl) | exact ⟨ah rfl⟩ | exact ⟨rfl⟩ | exact ⟨trivial⟩
 all_goals subst_vars
 all_goals try first | rfl | contradiction | (apply Ob.mk;first | (simp only [ag,ak,aa.ae];omega) | ((try simp only [aa.ae]);(try dsimp only);omega))
 all_goals first
  | exact ⟨show (((mR w l l.length).size + 1 : Nat) <= 9223372036854775807) by omega⟩)
end Go.Proofs.YthejmgnkenokpaaDoor
end
section
namespace Go.Proofs.YthejmgnkenokpaaDoor
open Go Go.Sy Go.bK
variable {Γ : bn}
def KD : ByteArray:={ data:=#[115,104,111,112] }
def kO : ByteArray:={ data:=#[119,111,114,107] }
def nF (n P : Int) (L : List Wk) : Nat -> ByteArray
 | 0 => gF KD [n,P]
 | k + 1 => nF n P L k ++ gF kO [(wk L k).1,(wk L k).2.1,(wk L k).2.2]
def vF (n P : Int) (L : List Wk) : ByteArray:=match bD n P L == 0 with | true => nF n P L L.length | false => { data:=#[] }
theorem pB {w : ByteArray} {l : List Int} (hl : ∀ v ∈ l,0 <= v /\ v < 100) : (gF w l).size <= w.size + 3 * l.length + 1:=by
 have:=tN (w:=w) hl l.length (Nat.le_refl _)
 unfold gF
 rw [ByteArray.size_append]
 have : N1.size = 1:=rfl
 omega
theorem nX {n P : Int} {L : List Wk} (h : Ep n P L) : (∀ v ∈ [n,P],0 <= v /\ v < 100) /\ ∀ k,k < L.length -> ∀ v ∈ [(wk L k).1,(wk L k).2.1,(wk L k).2.2],0 <= v /\ v < 100:=by
 have h1:=h.n;have h2:=h.p
 refine ⟨fun v hv => ?_,fun k hk v hv => ?_⟩
 ·simp only [List.mem_cons,List.not_mem_nil,or_false] at hv
  rcases hv with rfl | rfl <;> omega
 ·have:=rR (h.w _ (Cf hk))
  simp only [List.mem_cons,List.not_mem_nil,or_false] at hv
  rcases hv with rfl | rfl | rfl <;> omega
theorem tT {n P : Int} {L : List Wk} (h : Ep n P L) : ∀ k,k <= L.length -> (nF n P L k).size <= 11 + 14 * k
 | 0,_ => pB (nX h).1
 | k + 1,hk => by
   have h1:=tT h k (by omega)
   have h2:=pB (w:=kO) ((nX h).2 k (by omega))
   rw [nF,ByteArray.size_append]
   have e1 : kO.size = 4:=rfl
   have e2 : [(wk L k).1,(wk L k).2.1,(wk L k).2.2].length = 3:=rfl
   omega
def Dd : au:=fS (fun _ _ L => [(aa.of (L.length <= 1000000))]) (fun n P L => .bF [.a (.v (.string (vF n P L))),.a (vI (bD n P L))])
noncomputable def Md : List (Nat × au):=[(74,rZ),(86,Gi)]
theorem FO : aR Tryd.prog Γ Md:=((aR.nil.cons (aj Tryd.func86 rfl rfl).fn Gj).cons (aj Tryd.func74 rfl rfl).fn oS)
attribute [local irreducible] gF bD
theorem EF : au.Ok Tryd.prog Γ 54 Dd:=za (d:=0) (aP FO bq.nil false 0) (aj Tryd.func54 rfl rfl) (fun _ _ _ => rfl) (by
 intro n P L ⟨hl,_⟩
 simp only [aa.ae] at hl
 cases h0 : bD n P L == 0
 ·have e0 : (bD n P L != 0) = true:=by unfold bne;rw [h0];rfl
  rw [show vF n P L = { data:=#[] } by unfold vF;rw [h0]]
  repeat' ((conv => whnf);first | apply And.intro | (intro h9;try (have h8 : (_ : Bool) = _:=h9;clear h8;revert h9;subst_vars;intro h9;exact aq h9 (by assumption))))
  all_goals try (conv => whnf)
  all_goals try first | (apply Tk.mk <;> kernel_rfl) | exact ⟨ah rfl⟩ | exact ⟨rfl⟩ | exact ⟨trivial⟩
  all_goals subst_vars
  all_goals try first | rfl | contradiction | (apply Ob.mk;first | (simp only [ag,ak,aa.ae];omega) | ((try simp only [aa.ae]);(try dsimp only);omega))
  all_goals first
   | trivial
   | exact ⟨hl⟩
 have e0 : (bD n P L != 0) = false:=by unfold bne;rw [h0];rfl
 have e1:=eq_of_beq h0
 have hsh:=oe.1 e1
 rw [show vF n P L = nF n P L L.length by unfold vF;rw [h0],e1]
 have hd:=nX hsh
 have Kk:=hd.1
 have fK:=tT hsh 0 (Nat.zero_le _)
 have Np:=hsh.l
 repeat' ((conv => whnf);first | apply And.intro | (intro h9;try (have h8 : (_ : Bool) = _:=h9;clear h8;revert h9;subst_vars;intro h9;exact aq h9 (by assumption))))
 all_goals try (conv => whnf)
 all_goals try first | (apply Tk.mk <;> kernel_rfl) | exact ⟨ah rfl⟩ | exact ⟨rfl⟩ | exact ⟨trivial⟩
 all_goals subst_vars
 all_goals try first | rfl | contradiction | (apply Ob.mk;first | (simp only [ag,ak,aa.ae];omega) | ((try simp only [aa.ae]);(try dsimp only);omega))
 all_goals try first
  | exact ⟨hl⟩
  | exact ⟨Kk⟩
 refine ⟨Nat,fun k => k <= L.length,fun k => ⟨aI 38 [5,20,21,22] [.a (.v (.string (nF n P L k))),.a (.sl 0 [] 0 L.length),.a (vI L.length),.a (vI k)],[],[.arr 60 kW L false false,.box true [vI n,vI P,.sl 0 [] 0 L.length]]⟩,fun k => L.length - k,0,[0,1],Nat.zero_le _,?_,?_⟩
 ·repeat' ((conv => whnf);(first | apply And.intro | intro _))
  all_goals first | rfl | trivial | exact ah rfl | exact aS ‹_› rfl | exact aT ‹_› rfl | ((repeat' first | rfl | constructor);done)
 rintro k hk
 have hsz:=tT hsh k hk
 by_cases cB : k < L.length
 ·have p0 : decide ((k : Int) < (L.length : Int)) = true:=decide_eq_true (by omega)
  have ew : cn L k = wk L k:=jX L k
  have Hi : ∀ v ∈ [(cn L k).1,(cn L k).2.1,(cn L k).2.2],0 <= v /\ v < 100:=by rw [ew];exact hd.2 k cB
  have dZ : (gF kO [(cn L k).1,(cn L k).2.1,(cn L k).2.2]).size <= 14:=pB Hi
  have Kq : nF n P L k ++ gF kO [(cn L k).1,(cn L k).2.1,(cn L k).2.2] = nF n P L (k + 1):=by rw [ew];rfl
  repeat' ((conv => whnf);first | apply And.intro | (intro h9;try (have h8 : (_ : Bool) = _:=h9;clear h8;revert h9;subst_vars;intro h9;exact aq h9 (by assumption))))
  all_goals try (conv => whnf)
  all_goals try first | (apply Tk.mk <;> kernel_rfl) | exact ⟨ah rfl⟩ | exact ⟨rfl⟩ | exact ⟨trivial⟩
  all_goals subst_vars
  all_goals try first | rfl | contradiction | (apply Ob.mk;first | (simp only [ag,ak,aa.ae];omega) | ((try simp only [aa.ae]);(try dsimp only);omega))
  all_goals try first
   | exact ⟨Hi⟩
   | exact ⟨show ((nF n P L k).size + (gF kO [(cn L k).1,(cn L k).2.1,(cn L k).2.2]).size : Nat) <= 9223372036854775807 by omega⟩
   | exact ⟨show 0 + Int.toNat (k : Int) < L.length by omega⟩
  refine ⟨k + 1,[0,1],cB,?_,by show L.length - (k + 1) < L.length - k;omega⟩
  repeat' ((conv => whnf);(first | apply And.intro | intro _))
  all_goals first | rfl | trivial | exact ah rfl | exact aS ‹_› rfl | exact aT ‹_› rfl | ((repeat' first | rfl | constructor);done) | exact Kq | exact congrArg Value.string Kq
 have p0 : decide ((k : Int) < (L.length : Int)) = false:=decide_eq_false (by omega)
 obtain rfl : k = L.length:=by omega
 repeat' ((conv => whnf);first | apply And.intro | (intro h9;try (have h8 : (_ : Bool) = _:=h9;clear h8;revert h9;subst_vars;intro h9;exact aq h9 (by assumption))))
 all_goals try (conv => whnf)
 all_goals try first | (apply Tk.mk <;> kernel_rfl) | exact ⟨ah rfl⟩ | exact ⟨rfl⟩ | exact ⟨trivial⟩
 all_goals subst_vars
 all_goals try first | rfl | contradiction | (apply Ob.mk;first | (simp only [ag,ak,aa.ae];omega) | ((try simp only [aa.ae]);(try dsimp only);omega))
 all_goals first
  | trivial)
/-! ### One digit each -/
def NJ (v : Int) : ByteArray:={ data:=#[UInt8.ofNat (48 + v.toNat)] }
theorem O9 {v : Int} (h : 0 <= v /\ v < 10) : lU v = NJ v:=by
 unfold lU Mn NJ
 rw [Lib.decDigits_one (by omega)]
def Kw (w : ByteArray) (l : List Int) : Nat -> ByteArray
 | 0 => w
 | k + 1 => Kw w l k ++ (vP ++ NJ (gi l k))
def zh (w : ByteArray) (l : List Int) : ByteArray:=Kw w l l.length ++ N1
def N4 (n P : Int) (L : List Wk) : Nat -> ByteArray
 | 0 => zh KD [n,P]
 | k + 1 => N4 n P L k ++ zh kO [(wk L k).1,(wk L k).2.1,(wk L k).2.2]
theorem NW {w : ByteArray} {l : List Int} (hl : ∀ v ∈ l,0 <= v /\ v < 10) : ∀ k,k <= l.length -> mR w l k = Kw w l k
 | 0,_ => rfl
 | k + 1,hk => by rw [mR,Kw,NW hl k (by omega),O9 (hl _ (qL hk))]
theorem HH {w : ByteArray} {l : List Int} (hl : ∀ v ∈ l,0 <= v /\ v < 10) : gF w l = zh w l:=by
 unfold gF zh;rw [NW hl l.length (Nat.le_refl _)]
theorem N5 {n P : Int} {L : List Wk} (h : Ep n P L) : ∀ k,k <= L.length -> nF n P L k = N4 n P L k
 | 0,_ => HH (by
   have h1:=h.n;have h2:=h.p
   intro v hv
   simp only [List.mem_cons,List.not_mem_nil,or_false] at hv
   rcases hv with rfl | rfl <;> omega)
 | k + 1,hk => by
   have h2:=h.p
   have:=rR (h.w _ (Cf (show k < L.length from hk)))
   rw [nF,N4,N5 h k (by omega),HH (by
    intro v hv
    simp only [List.mem_cons,List.not_mem_nil,or_false] at hv
    rcases hv with rfl | rfl | rfl <;> omega)]
end Go.Proofs.YthejmgnkenokpaaDoor
end
section
namespace Go.Proofs.YthejmgnkenokpaaDoor
open Go Go.Sy Go.bK
variable {Γ : bn}
abbrev bC : List Wk:=bp ++ [(0,1,1)]
theorem OH : (af bp 0 == [(0,false),(4,true)]) = true:=by decide +kernel
theorem OC : (aJ 2 (af bp 0) == [0,0,2,2]) = true:=by decide +kernel
theorem OI : (aU 2 (af bp 0) == [1,-1,1,-1]) = true:=by decide +kernel
theorem OG : (bh (eI 2 3 bp 0 (hF (aB 2 bp 0) [5,7])) 1 == [-5,5,-7,7]) = true:=by decide +kernel
theorem OB : (aJ 2 (af bp 0)).length = 4 /\ (aU 2 (af bp 0)).length = 4 /\ (af bp 0).length = 2 /\ (eI 2 3 bp 0 (hF (aB 2 bp 0) [5,7])).length = 3 /\ (bh (eI 2 3 bp 0 (hF (aB 2 bp 0) [5,7])) 1).length = 4:=by decide +kernel
theorem vZ : (bf 2 3 bp 0 == 0) = true:=by decide +kernel
theorem jq : (bf 2 3 bC 0 == 0) = true:=by decide +kernel
theorem L8 : (pb 2 3 bp 0 != 2) = false:=by decide +kernel
theorem Pq : lP 2 (af bp 0) = 2:=by decide +kernel
theorem Ig : lP 2 (af bC 0) = 0:=by decide +kernel
theorem L7 : (!o6 2 3 bC 0) = false:=by decide +kernel
theorem Pr : AP 2 bp 0 [5,7] = true:=by decide +kernel
theorem v7 : (bD 2 3 bp == 0) = true:=by decide +kernel
theorem L4 : (bD 2 3 bC == 0) = true:=by decide +kernel
theorem JU : ((cz 4 7 1).1 != 11) = false:=by decide +kernel
theorem JV : ((cz 4 7 1).2 != 0) = false:=by decide +kernel
theorem L5 : ((aY 1 4).1 != 5) = false:=by decide +kernel
theorem L6 : ((aY 1 4).2 != 0) = false:=by decide +kernel
theorem OF : vF 2 3 bp = { data:=#[115,104,111,112,32,50,32,51,10,119,111,114,107,32,48,32,49,32,48,10,119,111,114,107,32,49,32,50,32,48,10,119,111,114,107,32,50,32,48,32,52,10] }:=by
 unfold vF
 rw [v7]
 dsimp only
 rw [N5 (oe.1 (eq_of_beq v7)) _ (Nat.le_refl _)]
 kernel_rfl
theorem rU {L : List Wk} (h : (bf 2 3 L 0 == 0) = true) : gH (af L 0):=by
 obtain ⟨hw,hP,hp,hn⟩:=gg (eq_of_beq h)
 exact nK (cW.1 hw) hP hp
theorem OE : iE 2 (af bC 0):=(xN (rU jq) (by unfold bz;omega)).1 ((Ax (rU jq) (by unfold bz;omega)).symm.trans Ig)
theorem OD : ¬ iE 2 (af bp 0):=fun h => by
 have h1:=(xN (rU vZ) (by unfold bz;omega)).2 h
 rw [<- Ax (rU vZ) (by unfold bz;omega),Pq] at h1
 cases h1
theorem Ci : kV 2 bC 0 (jO 2 bC 0) = 0 /\ (jO 2 bC 0).length <= 16 /\ ∀ w ∈ jO 2 bC 0,bN bC w = true /\ w.length <= 95:=by
 obtain ⟨hw,hP,hp,hn⟩:=gg (eq_of_beq jq)
 exact N6 (cW.1 hw) hP hp OE
theorem H7 {L : List Wk} {W : List (List Int)} (h : ∀ w ∈ W,bN L w = true /\ w.length <= 96) : cK L W = 0:=by
 unfold cK
 have h1 : W.any fW = false:=List.any_eq_false.2 fun w hw => by
  have:=(h w hw).2
  simp only [fW,decide_eq_true_eq];omega
 have h2 : W.any (fun w => !bN L w) = false:=List.any_eq_false.2 fun w hw => by rw [(h w hw).1];simp
 rw [h1,h2]
theorem Mu {n P : Int} {L : List Wk} {p : Int} {W : List (List Int)} (ha : (bf n P L p == 0) = true) (hl : W.length <= 40) (hs : cK L W = 0) : jZ n P L p W = kV n L p W:=by
 unfold jZ
 rw [ha]
 dsimp only
 rw [decide_eq_false (by omega)]
 dsimp only
 rw [hs];rfl
theorem Mt {n P : Int} {L : List Wk} {p : Int} {W : List (List Int)} (h : jZ n P L p W = 0) : (bf n P L p == 0) = true /\ cK L W = 0 /\ kV n L p W = 0:=by
 unfold jZ at h
 cases h0 : bf n P L p == 0 <;> rw [h0] at h <;> dsimp only at h
 ·rw [h] at h0;cases h0
 ·cases h1 : decide ((W.length : Int) > 40) <;> rw [h1] at h <;> dsimp only at h
  ·cases h2 : cK L W == 0 <;> rw [h2] at h <;> dsimp only at h
   ·rw [h] at h2;cases h2
   ·exact ⟨rfl,eq_of_beq h2,h⟩
  ·cases h
theorem Oz : (jZ 2 3 bC 0 (jO 2 bC 0) == 0) = true:=by
 obtain ⟨h1,h2,h3⟩:=Ci
 rw [Mu jq (by omega) (H7 fun w hw => ⟨(h3 w hw).1,by have:=(h3 w hw).2;omega⟩),h1];rfl
theorem OA : (jZ 2 3 bp 0 (jO 2 bC 0) != 0) = true:=by
 rw [bne_iff_ne]
 intro h
 obtain ⟨ha,hs,hc⟩:=Mt h
 obtain ⟨hw,hP,hp,hn⟩:=gg (eq_of_beq ha)
 exact OD (K9 (cW.1 hw) hP hp hn (fun w hw => (tv hs w hw).1) hc)
def tC : au:=.fn fun args _ => match args with
 | [] => some ([],bl true)
 | _ => none
noncomputable def Qi : List (Nat × au):=[(53,Dg),(42,DL),(17,yc),(18,ZZ),(25,DK),(36,Hz),(19,F9),(30,zN),(31,qm),(54,Dd),(50,ql),(55,sQ),(24,uA),(56,jf),(59,qo),(68,r5),(58,mh),(82,xz),(83,tB)]
theorem KT : aR Tryd.prog Γ Qi:=(((((((((((((((((((aR.nil.cons (aj Tryd.func83 rfl rfl).fn sU).cons (aj Tryd.func82 rfl rfl).fn zQ).cons (aj Tryd.func58 rfl rfl).fn jy).cons (aj Tryd.func68 rfl rfl).fn oU).cons (aj Tryd.func59 rfl rfl).fn qp).cons (aj Tryd.func56 rfl rfl).fn fQ).cons (aj Tryd.func24 rfl rfl).fn yG).cons (aj Tryd.func55 rfl rfl).fn Z0).cons (aj Tryd.func50 rfl rfl).fn ux).cons (aj Tryd.func54 rfl rfl).fn EF).cons (aj Tryd.func31 rfl rfl).fn qn).cons (aj Tryd.func30 rfl rfl).fn xy).cons (aj Tryd.func19 rfl rfl).fn Ga).cons (aj Tryd.func36 rfl rfl).fn HA).cons (aj Tryd.func25 rfl rfl).fn Fb).cons (aj Tryd.func18 rfl rfl).fn zI).cons (aj Tryd.func17 rfl rfl).fn AX).cons (aj Tryd.func42 rfl rfl).fn Fc).cons (aj Tryd.func53 rfl rfl).fn EK)
noncomputable def OR : List (Nat × Body):=[(49,bo Tryd.f49)]
theorem IG : bq Tryd.prog OR:=(bq.nil.cons (cg Tryd.func49 rfl rfl))
attribute [local irreducible] bf eH af ap lP cL jQ Vr eI hF aB pb o6 AP bD cz aY vF jZ aJ aU jO tU bp
theorem sW : au.Ok Tryd.prog Γ 16 tC:=au.er (d:=3) (aP KT IG false 0) (aj Tryd.func16 rfl rfl) (by
 intro args rg q t hF hq
 split at hF
 next =>
  obtain ⟨rfl,rfl⟩:=Prod.mk.inj (Option.some.inj hF);clear hF
  refine ⟨rfl,[],[],[],⟨trivial,fun r g hg => by cases hg⟩,?_⟩
  have z0 : ((0 : Int) != 0) = false:=rfl
  have oz : bp.length = 3:=by unfold bp;rfl
  have DF : bC.length = 4:=by unfold bC;rw [List.length_append,oz];rfl
  have z1 : (bf 2 3 bp 0 != 0) = false:=by unfold bne;rw [vZ];rfl
  have z2 : (bf 2 3 bC 0 != 0) = false:=by unfold bne;rw [jq];rfl
  have z3 : (bD 2 3 bp != 0) = false:=by unfold bne;rw [v7];rfl
  have z4 : (lP 2 (af bC 0) != 0) = false:=by rw [Ig];rfl
  have z5 : (((Int.toNat 3 : Nat) : Int) != 3) = false:=rfl
  obtain ⟨hw,hP,hp,hn⟩:=gg (eq_of_beq jq)
  have hl : bC.length <= 1000000:=by omega
  have Vo:=rU jq
  have hgo : ∀ g ∈ af bC 0,0 <= g.1 /\ g.1 <= 7:=Vo.ok
  have x1:=OH;have x2:=OC;have x3:=OI;have x4:=OG;have x5:=vZ;have x6:=jq;have x7:=L8
  have x8:=L7;have x9:=Pr;have y1:=v7;have y2:=L4;have y3:=JU;have y4:=JV;have y5:=L5;have y6:=L6
  repeat' ((conv => whnf);first | apply And.intro | (intro h9;try (have h8 : (_ : Bool) = _:=h9;clear h8;revert h9;subst_vars;intro h9;exact aq h9 (by assumption))))
  all_goals try (conv => whnf)
  all_goals try first | (apply Tk.mk <;> kernel_rfl) | exact ⟨ah rfl⟩ | exact ⟨rfl⟩ | exact ⟨trivial⟩
  all_goals subst_vars
  all_goals try first | rfl | contradiction | (apply Ob.mk;first | (simp only [ag,ak,aa.ae];omega) | ((try simp only [aa.ae]);(try dsimp only);omega))
  all_goals try first
   | exact ⟨show bp.length + 1 = bC.length by omega⟩
   | exact ⟨oz.symm⟩
   | exact ⟨show bp.length <= 1000000 by omega⟩
   | exact ⟨show bC.length <= 1000000 by omega⟩
   | exact ⟨show bp.length <= 900000 by omega⟩
   | exact ⟨hw⟩
   | exact ⟨show -9223372036854775808 <= ((af bC 0).length : Int) - 1 /\ ((af bC 0).length : Int) - 1 <= 9223372036854775807 by have:=fj bC 0;omega⟩
  have Sm : bp.length + 1 = bC.length:=by omega
  refine ⟨Nat × List Sg,fun s => s.1 <= s.2.length /\ s.2.length <= 16 /\ (∀ g ∈ s.2,g ∈ (af bC 0)) /\ jQ 2 s.1 s.2 = tU 2 (af bC 0),fun s => ⟨aI 67 [1,2,7,8,9] [.a (vI 0),.a (.p 9 [] 0 0),.a (.mp 10),.a (.sl 11 [] 0 s.2.length),.a (vI ((s.1 : Int) - 1))],[aI 170 [1,2,4,5,9,11,15,16,17,18] [.a (.p 1 [] 0 0),.a (.sl 2 [] 0 (af bp 0).length),.a (.sl 3 [] 0 4),.a (.sl 4 [] 0 4),.a (.sl 6 [] 0 3),.a (.p 8 [] 0 0),.a (vI (cz 4 7 1).1),.a (vI (cz 4 7 1).2),.a (vI (aY 1 4).1),.a (vI (aY 1 4).2)]],[.arr 60 kW bp true true,.box true [vI 2,vI 3,.sl 0 [] 0 3],.arr 64 kG (af bp 0) true true,.arr 3 kI (aJ 2 (af bp 0)) true true,.arr 3 kI (aU 2 (af bp 0)) true true,.dead,.arr 27 kT (eI 2 3 bp 0 (hF (aB 2 bp 0) [5,7])) true true,.arr 60 kW bC true true,.box true [vI 2,vI 3,.sl 7 [] 0 (bp.length + 1)],.box true [vI 2,vI 3,.sl 7 [] 0 (bC).length],.bH 111 kX 3 kI (ap bC 0) true true,.arr 64 kG s.2 false false]⟩,fun s => s.1,((af bC 0).length,(af bC 0)),[0,1,2,3,4,5,6,7,8,9,10,11],⟨Nat.le_refl _,fj _ _,fun g hg => hg,LC _ _⟩,?_,?_⟩
  ·repeat' ((conv => whnf);(first | apply And.intro | intro _))
   all_goals first | rfl | trivial | exact ah rfl | exact aS ‹_› rfl | exact aT ‹_› rfl | ((repeat' first | rfl | constructor);done) | assumption
  rintro ⟨i,l⟩ ⟨hi,Np,hls,hr⟩
  dsimp only at hi Np hls hr
  cases i with
  | succ i =>
    have p0 : decide ((((i + 1 : Nat) : Int) - 1) >= 0) = true:=decide_eq_true (by omega)
    have hx:=NY l i
    have aaj : (tb l i).length = l.length - 1:=by rw [hx,List.length_append,List.length_take,List.length_drop];omega
    have hxs : ∀ g ∈ tb l i,g ∈ l:=fun g hg => by
     rw [hx] at hg
     rcases List.mem_append.1 hg with hg | hg
     ·exact List.mem_of_mem_take hg
     ·exact List.mem_of_mem_drop hg
    have hfl : (tb l i).length <= 1000000:=by omega
    have hfg : ∀ g ∈ tb l i,0 <= g.1 /\ g.1 <= 7:=fun g hg => hgo g (hls g (hxs g hg))
    rw [JC,<- hx] at hr
    cases hb : eH 2 (tb l i) <;> rw [hb] at hr <;> dsimp only at hr
    ·repeat' ((conv => whnf);first | apply And.intro | (intro h9;try (have h8 : (_ : Bool) = _:=h9;clear h8;revert h9;subst_vars;intro h9;exact aq h9 (by assumption))))
     all_goals try (conv => whnf)
     all_goals try first | (apply Tk.mk <;> kernel_rfl) | exact ⟨ah rfl⟩ | exact ⟨rfl⟩ | exact ⟨trivial⟩
     all_goals subst_vars
     all_goals try first | rfl | contradiction | (apply Ob.mk;first | (simp only [ag,ak,aa.ae];omega) | ((try simp only [aa.ae]);(try dsimp only);omega))
     all_goals try first
      | exact ⟨show 0 + 0 + ((((i + 1 : Nat) : Int) - 1).toNat - 0) <= l.length by omega⟩
      | exact ⟨show 0 + (((i + 1 : Nat) : Int) - 1 + 1).toNat + (l.length - (((i + 1 : Nat) : Int) - 1 + 1).toNat) <= l.length by omega⟩
      | exact ⟨hfl⟩
      | exact ⟨hfg⟩
     refine ⟨(i,l),[0,1,2,3,4,5,6,7,8,9,10,11],⟨by show i <= l.length;omega,Np,hls,hr⟩,?_,by show i < i + 1;omega⟩
     repeat' ((conv => whnf);(first | apply And.intro | intro _))
     all_goals first | rfl | trivial | exact ah rfl | exact aS ‹_› rfl | exact aT ‹_› rfl | ((repeat' first | rfl | constructor);done) | exact idx i
    repeat' ((conv => whnf);first | apply And.intro | (intro h9;try (have h8 : (_ : Bool) = _:=h9;clear h8;revert h9;subst_vars;intro h9;exact aq h9 (by assumption))))
    all_goals try (conv => whnf)
    all_goals try first | (apply Tk.mk <;> kernel_rfl) | exact ⟨ah rfl⟩ | exact ⟨rfl⟩ | exact ⟨trivial⟩
    all_goals subst_vars
    all_goals try first | rfl | contradiction | (apply Ob.mk;first | (simp only [ag,ak,aa.ae];omega) | ((try simp only [aa.ae]);(try dsimp only);omega))
    all_goals try first
     | exact ⟨show 0 + 0 + ((((i + 1 : Nat) : Int) - 1).toNat - 0) <= l.length by omega⟩
     | exact ⟨show 0 + (((i + 1 : Nat) : Int) - 1 + 1).toNat + (l.length - (((i + 1 : Nat) : Int) - 1 + 1).toNat) <= l.length by omega⟩
     | exact ⟨hfl⟩
     | exact ⟨hfg⟩
    refine ⟨(i,tb l i),[0,1,2,3,4,5,6,7,8,9,10,13],⟨by show i <= (tb l i).length;omega,by show (tb l i).length <= 16;omega,fun g hg => hls g (hxs g hg),hr⟩,?_,by show i < i + 1;omega⟩
    repeat' ((conv => whnf);(first | apply And.intro | intro _))
    all_goals first | rfl | trivial | exact ah rfl | exact aS ‹_› rfl | exact aT ‹_› rfl | ((repeat' first | rfl | constructor);done) | exact idx i
  | zero =>
  rw [JD] at hr
  have p0 : decide ((((0 : Nat) : Int) - 1) >= 0) = false:=rfl
  have hz : jO 2 bC 0 = l.map (Vr bC 0):=by rw [LD,<- hr]
  clear hr
  repeat' ((conv => whnf);first | apply And.intro | (intro h9;try (have h8 : (_ : Bool) = _:=h9;clear h8;revert h9;subst_vars;intro h9;exact aq h9 (by assumption))))
  all_goals try (conv => whnf)
  all_goals try first | (apply Tk.mk <;> kernel_rfl) | exact ⟨ah rfl⟩ | exact ⟨rfl⟩ | exact ⟨trivial⟩
  all_goals subst_vars
  all_goals try first | rfl | contradiction | (apply Ob.mk;first | (simp only [ag,ak,aa.ae];omega) | ((try simp only [aa.ae]);(try dsimp only);omega))
  refine ⟨Nat,fun i => i <= l.length,fun i => ⟨aI 67 [1,7,11,51,52,53] [.a (vI 0),.a (.mp 10),.a (.sl 12 [] 0 ((l.take i).map (Vr bC 0)).length),.a (.sl 11 [] 0 l.length),.a (vI l.length),.a (vI i)],[aI 170 [1,2,4,5,9,11,15,16,17,18] [.a (.p 1 [] 0 0),.a (.sl 2 [] 0 (af bp 0).length),.a (.sl 3 [] 0 4),.a (.sl 4 [] 0 4),.a (.sl 6 [] 0 3),.a (.p 8 [] 0 0),.a (vI (cz 4 7 1).1),.a (vI (cz 4 7 1).2),.a (vI (aY 1 4).1),.a (vI (aY 1 4).2)]],[.arr 60 kW bp true true,.box true [vI 2,vI 3,.sl 0 [] 0 3],.arr 64 kG (af bp 0) true true,.arr 3 kI (aJ 2 (af bp 0)) true true,.arr 3 kI (aU 2 (af bp 0)) true true,.dead,.arr 27 kT (eI 2 3 bp 0 (hF (aB 2 bp 0) [5,7])) true true,.arr 60 kW bC true true,.box true [vI 2,vI 3,.sl 7 [] 0 (bp.length + 1)],.box true [vI 2,vI 3,.sl 7 [] 0 (bC).length],.bH 111 kX 3 kI (ap bC 0) false false,.arr 64 kG l false false,.arr 27 kT ((l.take i).map (Vr bC 0)) true false]⟩,fun i => l.length - i,0,[0,1,2,3,4,5,6,7,8,9,10,11,1000],Nat.zero_le _,?_,?_⟩
  ·repeat' ((conv => whnf);(first | apply And.intro | intro _))
   all_goals first | rfl | trivial | exact ah rfl | exact aS ‹_› rfl | exact aT ‹_› rfl | ((repeat' first | rfl | constructor);done) | assumption
  clear hi
  rintro i hi
  by_cases hi1 : i < l.length
  ·have p1 : decide ((i : Int) < (l.length : Int)) = true:=decide_eq_true (by omega)
   have PP:=Jn (L:=bC) (p:=0) hi1
   have hml:=congrArg List.length PP
   rw [List.length_append,List.length_singleton] at hml
   have es:=rL l i
   have qQ : bI l i ∈ (af bC 0):=by rw [es];exact hls _ (aaq hi1)
   have oy : br kX ((0,(bI l i).1,(bI l i).2) : Sp) (ap bC 0) < (ap bC 0).length:=A4 ((kD (cW.1 hw) hP hp).2 ((eo (cW.1 hw) hP hp).1 qQ))
   have PU : ((ap bC 0).getD (br kX ((0,(bI l i).1,(bI l i).2) : Sp) (ap bC 0)) aG).2 = Vr bC 0 (sg l i):=by
    rw [<- es]
    unfold Vr
    rw [<- A2 (p:=0) (g:=bI l i)]
    rfl
   have hel : List.drop 0 ((l.take i).map (Vr bC 0)) ++ List.take 1 (List.drop 0 [List.take ((ap bC 0).getD (br kX ((0,(bI l i).1,(bI l i).2) : Sp) (ap bC 0)) aG).2.length (List.drop 0 ((ap bC 0).getD (br kX ((0,(bI l i).1,(bI l i).2) : Sp) (ap bC 0)) aG).2)]) = (l.take (i + 1)).map (Vr bC 0):=by
    rw [PU,PP,List.drop_zero,List.drop_zero,List.drop_zero,List.take_length];rfl
   have Kp : ((l.take i).map (Vr bC 0)).length <= 16:=by rw [List.length_map,List.length_take];omega
   clear PU
   repeat' ((conv => whnf);first | apply And.intro | (intro h9;try (have h8 : (_ : Bool) = _:=h9;clear h8;revert h9;subst_vars;intro h9;exact aq h9 (by assumption))))
   all_goals try (conv => whnf)
   all_goals try first | (apply Tk.mk <;> kernel_rfl) | exact ⟨ah rfl⟩ | exact ⟨rfl⟩ | exact ⟨trivial⟩
   all_goals subst_vars
   all_goals try first | rfl | contradiction | (apply Ob.mk;first | (simp only [ag,ak,aa.ae];omega) | ((try simp only [aa.ae]);(try dsimp only);omega))
   all_goals try first
    | exact ⟨oy⟩
    | exact ⟨Nat.zero_add _⟩
    | exact ⟨show (((l.take i).map (Vr bC 0)).length + 1) * 1 <= 1099511627776 by omega⟩
    | exact ⟨show 0 + Int.toNat (i : Int) < l.length by omega⟩
   refine ⟨i + 1,[0,1,2,3,4,5,6,7,8,9,10,11,12],hi1,?_,by show l.length - (i + 1) < l.length - i;omega⟩
   repeat' ((conv => whnf);(first | apply And.intro | intro _))
   all_goals first | rfl | trivial | exact ah rfl | exact aS ‹_› rfl | exact aT ‹_› rfl | ((repeat' first | rfl | constructor);done) | exact hml.symm | exact ⟨rfl,rfl,hel⟩
  have p1 : decide ((i : Int) < (l.length : Int)) = false:=decide_eq_false (by omega)
  obtain rfl : i = l.length:=by omega
  have pU : (l.take l.length).map (Vr bC 0) = jO 2 bC 0:=by rw [List.take_length];exact hz.symm
  clear hz hi1
  have c1 : (jZ 2 3 bC 0 ((l.take l.length).map (Vr bC 0)) == 0) = true:=by rw [pU];exact Oz
  have c2 : (jZ 2 3 bp 0 ((l.take l.length).map (Vr bC 0)) != 0) = true:=by rw [pU];exact OA
  have DA : ((l.take l.length).map (Vr bC 0)).length <= 1000000:=by rw [pU];have:=Ci.2.1;omega
  have DB : ∀ w ∈ (l.take l.length).map (Vr bC 0),w.length <= 1000000:=by rw [pU];intro w hw;have:=(Ci.2.2 w hw).2;omega
  have y7 : (!((vF 2 3 bp).toList == ByteArray.toList { data:=#[115,104,111,112,32,50,32,51,10,119,111,114,107,32,48,32,49,32,48,10,119,111,114,107,32,49,32,50,32,48,10,119,111,114,107,32,50,32,48,32,52,10] })) = false:=by rw [OF];simp
  obtain ⟨v1,v2,v3,v4,v5⟩:=OB
  repeat' ((conv => whnf);first | apply And.intro | (intro h9;try (have h8 : (_ : Bool) = _:=h9;clear h8;revert h9;subst_vars;intro h9;exact aq h9 (by assumption))))
  all_goals try (conv => whnf)
  all_goals try first | (apply Tk.mk <;> kernel_rfl) | exact ⟨ah rfl⟩ | exact ⟨rfl⟩ | exact ⟨trivial⟩
  all_goals subst_vars
  all_goals try first | rfl | contradiction | (apply Ob.mk;first | (simp only [ag,ak,aa.ae];omega) | ((try simp only [aa.ae]);(try dsimp only);omega))
  all_goals first
   | trivial
   | exact ⟨DA⟩
   | exact ⟨DB⟩
   | exact ⟨show (aJ 2 (af bp 0)).length <= 1000000 by omega⟩
   | exact ⟨show (aU 2 (af bp 0)).length <= 1000000 by omega⟩
   | exact ⟨show (af bp 0).length <= 1000000 by omega⟩
   | exact ⟨show (bh (eI 2 3 bp 0 (hF (aB 2 bp 0) [5,7])) 1).length <= 1000000 by omega⟩
   | exact ⟨show 0 + Int.toNat 1 < (eI 2 3 bp 0 (hF (aB 2 bp 0) [5,7])).length by omega⟩
   | exact ⟨v1.symm⟩
   | exact ⟨v2.symm⟩
   | exact ⟨show bp.length + 1 = bC.length by omega⟩
   | exact ⟨oz.symm⟩
   | exact ⟨show bp.length <= 1000000 by omega⟩
   | exact ⟨show bC.length <= 1000000 by omega⟩
 next => cases hF)
end Go.Proofs.YthejmgnkenokpaaDoor
end
section
namespace Go.Proofs.YthejmgnkenokpaaDoor
open Go Go.Sy Go.bK
variable {Γ : bn}
theorem di {a b : Int} (ha : aQ a 0 7 = true) (hb : aQ b 0 7 = true) : aY a b = (bJ a b,0):=by unfold aY;rw [ha,hb]
attribute [local irreducible] cz aY aQ bJ cD aX
end Go.Proofs.YthejmgnkenokpaaDoor
end
section
namespace Go.Proofs.YthejmgnkenokpaaDoor
open Go Go.Sy Go.bK
variable {Γ : bn}
theorem Tj {n P : Int} {L : List Wk} {p : Int} (h : bD n P L = 0) (hp : 0 <= p /\ p <= P - 1) : bf n P L p = 0:=by unfold bf;rw [if_pos h,if_pos (bA.2 hp)]
theorem Te {n P : Int} {L : List Wk} {p : Int} (h : bD n P L = 0) (hp : 0 <= p /\ p <= P - 1) : o6 n P L p = (zb n (af L p) == 0):=by
 have hs:=oe.1 h
 unfold o6;rw [Tj h hp]
 show (lP n (af L p) == 0) = _
 rw [Ax (nK (fun w hw => hs.w w hw) hs.p.2 hp) hs.n]
theorem Ut {n P : Int} {L : List Wk} {p : Int} (h : bD n P L = 0) (hp : 0 <= p /\ p <= P - 1) : pb n P L p = zb n (af L p):=by
 have hs:=oe.1 h
 unfold pb;rw [Tj h hp]
 show lP n (af L p) = _
 rw [Ax (nK (fun w hw => hs.w w hw) hs.p.2 hp) hs.n]
attribute [local irreducible] aY aQ bJ cD aX bD bf o6 pb
end Go.Proofs.YthejmgnkenokpaaDoor
end
section
namespace Go.Proofs.YthejmgnkenokpaaDoor
open Go Go.Sy Go.bK
variable {Γ : bn}
attribute [local irreducible] bM bw
end Go.Proofs.YthejmgnkenokpaaDoor
end
