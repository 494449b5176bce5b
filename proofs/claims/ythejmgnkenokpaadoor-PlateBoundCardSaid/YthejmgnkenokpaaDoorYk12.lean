/-
  Texts of the claims on chapter 3: Yk12. No condition: lemmas and contracts.
-/
import Derived.Test.YthejmgnkenokpaaDoorYk1
import Derived.Test.YthejmgnkenokpaaDoorYk4
import Derived.Test.YthejmgnkenokpaaDoorYk6
import Derived.Test.YthejmgnkenokpaaDoorYk9
import Derived.Test.YthejmgnkenokpaaDoorYk7
import Derived.Test.YthejmgnkenokpaaDoorQ20
import Derived.Test.YthejmgnkenokpaaDoorYk5
import Derived.Test.YthejmgnkenokpaaDoorPl1
set_option linter.all false
set_option maxRecDepth 100000
set_option maxHeartbeats 4000000
section
namespace Go.Proofs.YthejmgnkenokpaaDoor
open Go Go.Sy Go.bK Go.ChangeShapes Go.WideShapes Go.RowKit
section
variable {H : Type} {enc : TypeId × Value -> H} {w : World} {base : Nat} {held : Bool}
theorem Zh {t te : TypeId} {tg : List CK} (ci : tg ≠ []) (ht : Tryd.prog.underlying t = some (.slice te)) (hc : Tryd.prog.cellsOf te = tg.length)
  (hone : ∀ (fuel : Nat) (cs : List Value) (y : DataW H × List MemPlace),cs.length = tg.length -> DataW.trod enc Tryd.prog w base (fun _ => true) held fuel te cs = some y -> ∃ x : ai tg,∀ η i,ai.aA η [] i 0 tg x cs)
  {fuel : Nat} {v : Value} {y : DataW H × List MemPlace} (h : DataW.trod enc Tryd.prog w base (fun _ => true) held fuel t [v] = some y) :
  ∃ (I : RI) (xs : List (ai tg)),I.head 0 xs.length v /\ Er w te tg xs I:=by
 have h':=h
 rcases Go.Deep.open_slice ht h with ⟨hv,_⟩ | ⟨a,len,cap,m,n,D,Pl,hv,_,hl,hm,Ns,_,hx⟩
 ·exact KF ci ht hc hone (fun a len cap e => by simp only [List.cons.injEq,and_true] at hv;rw [hv] at e;cases e) h'
 ·simp only [List.cons.injEq,and_true] at hv
  simp only [if_true] at Ns
  by_cases h0 : cap = 0
  ·obtain rfl : len = 0:=by omega
   subst h0 hv
   exact ⟨⟨0,0,tg.length,0,true⟩,[],⟨fun _ => ⟨rfl,_,rfl⟩,(fun h => by cases h)⟩,⟨ci,rfl,fun _ => rfl,(fun h => by cases h),fun i hi => by simp at hi⟩,(fun h => by cases h)⟩
  ·refine KF ci ht hc hone (fun a' len' cap' e => ?_) h'
   rw [hv] at e
   obtain ⟨rfl,rfl,rfl⟩ : a = a' /\ len = len' /\ cap = cap':=by simpa using e
   obtain ⟨cs,h1,_⟩:=hx 0 (by omega)
   obtain ⟨_,h3,h4⟩:=World.cells?_some h1
   have hp : 0 < Tryd.prog.cellsOf te:=by rw [hc];exact List.length_pos_iff.2 ci
   have h5:=h4 0 hp
   have e0 : (a.add (0 * Tryd.prog.cellsOf te)).add 0 = a:=by simp [Addr.add]
   rw [e0,List.getElem?_eq_getElem (by omega)] at h5
   unfold World.cell? at h5
   split at h5
   ·rename_i hb
    refine ⟨?_,?_⟩
    ·cases hs : a.spot with
     | none => rfl
     | some _ => rw [hs] at h5;simp at h5
    ·rcases Nat.lt_or_ge a.block w.heap.size with h6 | h6
     ·exact h6
     ·rw [Array.getElem?_eq_none h6] at hb;cases hb
   ·cases h5
structure VZ where
 te : TypeId
 tg : List CK
 xs : List (ai tg)
 η : Path -> RI
def VZ.ok (w : World) (A : VZ) : Prop:=∀ π B,Ar.has ⟨A.te,A.tg,A.xs⟩ π B -> B.aA w A.η π /\ ((A.η π).aC = false -> (A.η π).b < w.heap.size)
def VZ.Kz (A : VZ) : az:=.arr A.te A.tg A.xs false false
def Wx (Is : List (Path -> RI)) : Keys:=fun r π => (Is.getD r (fun _ => ⟨0,0,0,0,true⟩)) π
theorem Wb {te : TypeId} {tg : List CK} {xs : List (ai tg)} {I : RI} (hf : aaa tg = true) (h : Er w te tg xs I) : VZ.ok w ⟨te,tg,xs,fun _ => I⟩:=by
 intro π B hB
 obtain ⟨rfl,_,e⟩:=I4 (te:=te) hf (show (az.arr te tg xs false false).has π false (.arr B) from ⟨by cases π <;> rfl,B,hB,rfl⟩)
 obtain rfl:=e6.arr.inj e
 exact ⟨h.ar,h.lt⟩
theorem WQ {xs : List (List Int)} : ∀ {π : Path} {B : Ar},Ar.has ⟨27,kT,xs⟩ π B -> (π = [] /\ B = ⟨27,kT,xs⟩) \/ ∃ i,i < xs.length /\ π = [(i,0)] /\ B = ⟨3,kI,xs.getD i []⟩
 | [],B,h => .inl ⟨rfl,h⟩
 | (i,j) :: π,B,h => by
   obtain ⟨C,hC,hi,hs⟩:=h
   rcases WQ hC with ⟨rfl,rfl⟩ | ⟨k,hk,rfl,rfl⟩
   ·match j,hs with
    | 0,hs => exact .inr ⟨i,hi,rfl,(Option.some.inj hs).symm⟩
    | j + 1,hs => cases hs
   ·match j,hs with
    | 0,hs => cases hs
    | j + 1,hs => cases hs
theorem Ws {r : Reach} {b0 : Nat} {v : Value} {d : DataW H} {p : List MemPlace} (hv : Value.okWide Tryd.prog w r b0 44 v) (h : DataW.Trod enc Tryd.prog w base (fun _ => true) held 44 v d p) :
  ∃ (η : Path -> RI) (xs : List (List Int)),(η []).head 0 xs.length v /\ VZ.ok w ⟨27,kT,xs,η⟩:=by
 obtain ⟨a0,Sd,R7,rfl⟩:=okWide_slice Tryd.underlying44 hv
 have hlt:=BS Tryd.underlying44 (CR Tryd.underlying44 hv)
 obtain ⟨fuel,hf⟩:=h
 have hf : DataW.trod enc Tryd.prog w base (fun _ => true) held fuel 44 [.slice a0 Sd R7] = some (d,p):=by simpa [Value.cells] using hf
 rcases Go.Deep.open_slice Tryd.underlying44 hf with ⟨hv,_⟩ | ⟨a,len,cap,m,n,D,Pl,hv,_,hl,hm,Ns,_,hx⟩
 ·simp only [List.cons.injEq,and_true] at hv
  refine ⟨fun _ => ⟨0,0,1,0,true⟩,[],⟨fun _ => ⟨rfl,_,hv⟩,(fun h => by cases h)⟩,fun π B hB => ?_⟩
  rcases WQ hB with ⟨rfl,rfl⟩ | ⟨k,hk,_⟩
  ·exact ⟨⟨by simp [kT],rfl,fun _ => rfl,(fun h => by cases h),fun i hi => absurd hi (Nat.not_lt_zero i)⟩,(fun h => by cases h)⟩
  ·exact absurd hk (Nat.not_lt_zero k)
 ·simp only [List.cons.injEq,and_true] at hv
  obtain ⟨rfl,rfl,rfl⟩ : a0 = some a /\ Sd = len /\ R7 = cap:=by simpa using hv
  obtain ⟨hs,hb⟩:=hlt a Sd R7 rfl
  simp only [if_true] at Ns
  have hc : Tryd.prog.cellsOf 27 = 1:=by kernel_rfl
  rw [hc] at hx
  have hX : ∀ i,i < Sd -> ∃ q : Value × RI × List Int,w.cell? (a.add i) = some q.1 /\ q.2.1.head 0 q.2.2.length q.1 /\ Er w 3 kI q.2.2 q.2.1:=fun i hi => by
   obtain ⟨cs,h1,h2⟩:=hx i (by omega)
   obtain ⟨_,h3,h4⟩:=World.cells?_some h1
   match cs,h3 with
   | [c],_ =>
     obtain ⟨I,ys,g1,g2⟩:=Zh (by simp [kI]) Tryd.underlying27 (by kernel_rfl) NN h2
     refine ⟨(c,I,ys),?_,g1,g2⟩
     have:=h4 0 (by omega)
     simpa [Addr.add] using this
  have : Inhabited (Value × RI × List Int):=⟨(.int .i64 0,⟨0,0,0,0,true⟩,[])⟩
  obtain ⟨X,hX⟩:=Go.Deep.choose_lt hX
  obtain ⟨blk,off,spot⟩:=a
  obtain rfl : spot = none:=hs
  have hlen : ((List.range Sd).map fun i => (X i).2.2).length = Sd:=by rw [List.length_map,List.length_range]
  have eN : ∀ i,i < Sd -> ((List.range Sd).map fun i => (X i).2.2).getD i [] = (X i).2.2:=fun i hi => by
   simp [hi]
  refine ⟨fun π => match π with | [(i,_)] => (X i).2.1 | _ => ⟨blk,off,1,R7,false⟩,(List.range Sd).map fun i => (X i).2.2,⟨(fun h => by cases h),fun _ => ⟨by simpa using hl,some ⟨blk,off,none⟩,by simp,fun _ => by simp [RI.at]⟩⟩,fun π B hB => ?_⟩
  rcases WQ hB with ⟨rfl,rfl⟩ | ⟨k,hk,rfl,rfl⟩
  ·refine ⟨⟨by simp [kT],rfl,(fun h => by cases h),fun _ => Nat.le_trans (Nat.le_of_eq hlen) hl,fun i hi => ?_⟩,fun _ => hb⟩
   have hi' : i < Sd:=Nat.lt_of_lt_of_eq hi hlen
   obtain ⟨h1,h2,_⟩:=hX i hi'
   refine ⟨[(X i).1],⟨_,rfl,?_⟩,fun s y hs => ?_⟩
   ·show (X i).2.1.head 0 (Ar.get ⟨27,kT,(List.range Sd).map fun i => (X i).2.2⟩ i : List Int).length (X i).1
    have : (Ar.get ⟨27,kT,(List.range Sd).map fun i => (X i).2.2⟩ i : List Int) = (X i).2.2:=eN i hi'
    rw [this];exact h2
   ·match s,hs with
    | 0,hs =>
      obtain rfl:=Option.some.inj hs
      rw [<- h1]
      congr 1
      show (⟨blk,off + (i * 1 + 0),none⟩ : Addr) = _
      rw [Addr.add_lit,Nat.mul_one,Nat.add_zero]
  ·have hk' : k < Sd:=Nat.lt_of_lt_of_eq hk hlen
   obtain ⟨_,_,h3⟩:=hX k hk'
   dsimp only
   rw [eN k hk']
   refine ⟨⟨h3.ar.tg,h3.ar.m,h3.ar.aC,h3.ar.len,fun i hi => ?_⟩,h3.lt⟩
   obtain ⟨ys,g1,g2⟩:=h3.ar.cell i hi
   exact ⟨ys,lA (by simp [aaa,CK.flat]) g1,g2⟩
end
theorem Yg {w : World} (As : List VZ) (h : ∀ A ∈ As,A.ok w) : cA (fun _ => False) w As.length (Wx (As.map (·.η))) (As.map VZ.Kz) w:=by
 have one : ∀ (r : Nat) (g : az) π o B,(As.map VZ.Kz)[r]? = some g -> g.has π o B -> ∃ A C,A ∈ As /\ Wx (As.map (·.η)) r π = A.η π /\ Wx (As.map (·.η)) r = A.η /\ o = false /\ Ar.has ⟨A.te,A.tg,A.xs⟩ π C /\ B = .arr C:=by
  intro r g π o B hg hh
  rw [List.getElem?_map] at hg
  obtain ⟨A,hA,rfl⟩:=Option.map_eq_some_iff.1 hg
  have hm:=List.mem_of_getElem? hA
  obtain ⟨ho,C,hC,rfl⟩:=hh
  have e : Wx (As.map (·.η)) r = A.η:=by funext π;simp [Wx,List.getD_eq_getElem?_getD,List.getElem?_map,hA]
  exact ⟨A,C,hm,by rw [e],e,by rw [ho];cases π <;> rfl,hC,rfl⟩
 constructor
 ·intro r g π o B hg hh
  obtain ⟨A,C,hm,_,he,_,hC,rfl⟩:=one r g π o B hg hh
  show C.aA w (Wx (As.map (·.η)) r) π
  rw [he]
  exact (h A hm π C hC).1
 ·intro r g π o B hg hh hv
  obtain ⟨A,C,hm,hk,_,_,hC,rfl⟩:=one r g π o B hg hh
  rw [hk] at hv ⊢
  exact (h A hm π C hC).2 hv
 ·intro r g π B hg hh
  obtain ⟨_,_,_,_,_,ho,_⟩:=one r g π _ B hg hh
  cases ho
 ·intro r r' g g' π aW o' B B' hg _ hh
  obtain ⟨_,_,_,_,_,ho,_⟩:=one r g π _ B hg hh
  cases ho
theorem Wi {f : FuncId} {F : List Tm -> List az -> Option (List aa × Tm)} (hc : au.Ok Tryd.prog RZ f (.fn F)) (As : List VZ) {args : List Tm} {q : List aa} (hF : F args (As.map VZ.Kz) = some (q,bl true)) (hq : bW q) {W : World} {vs : List Value}
  (hA : ∀ A ∈ As,A.ok W) (hargs : be (Tm.ok As.length (Wx (As.map (·.η)))) args vs) : Calls Tryd.prog f vs.toArray W fun e W' => e = .returned (.bool true) /\ Below W.heap.size W W':=by
 have hl : (As.map VZ.Kz).length = As.length:=List.length_map _
 exact (hc args _ q _ hF hq (fun _ => False) W (Wx (As.map (·.η))) W vs (Nat.le_refl _) (fun b hb => absurd hb (Nat.not_lt_zero b)) trivial (by rw [hl];exact hargs) (by rw [hl];exact Yg As hA)).mono fun e w' ⟨v,he,hv,hb⟩ => by
  obtain ⟨rfl,_⟩:=hv
  exact ⟨he,hb⟩
def lD (t : TypeId) : Bool:=BC t || t == 44
theorem WV (t : TypeId) (h : lD t = true) : Tryd.prog.wantsStandIn t = false:=by
 rcases Bool.or_eq_true _ _ ▸ h with h | h
 ·exact CS t h
 ·rw [eq_of_beq h];exact (show Tryd.prog.wantsStandIn 44 = false by kernel_rfl)
theorem Xp {name : String} {g : FuncId} {gn : Func} {ps : Array TypeId} (h1 : Tryd.prog.funcNamed name = some g) (h2 : Tryd.prog.funcs[g]? = some gn) (h3 : gn.params = ps) (h4 : ps.toList.all lD = true) (f : FuncId) (fn : Func) (hf : Tryd.pinned.checked.prog.funcNamed name = some f) (hfn : Tryd.pinned.checked.prog.funcs[f]? = some fn) :
  false = Tryd.pinned.checked.prog.looks [] /\ ∀ (j : Nat) t,fn.params[j]? = some t -> Tryd.pinned.checked.prog.wantsStandIn t = false:=by
 rw [Fq] at hf hfn ⊢
 obtain rfl : g = f:=Option.some.inj (h1.symm.trans hf)
 obtain rfl : gn = fn:=Option.some.inj (h2.symm.trans hfn)
 refine ⟨NX,fun j t ht => ?_⟩
 rw [h3] at ht
 exact WV t (List.all_eq_true.1 h4 t (Array.mem_toList_iff.2 (Array.mem_of_getElem? ht)))
end Go.Proofs.YthejmgnkenokpaaDoor
end
section
namespace Go.Proofs.YthejmgnkenokpaaDoor
open Go Go.Sy Go.bK
variable {Γ : bn}
theorem UC (n : Int) (A B : List Int) (t : Int) (j : Nat) : SN n A B t (j : Nat) = gi A j + gi B (aX n t j).toNat:=by
 unfold SN;rw [dP];congr 1;unfold av gi;rw [Nat.zero_add];rfl
attribute [local irreducible] aQ aX SH
end Go.Proofs.YthejmgnkenokpaaDoor
end
section
namespace Go.Proofs.YthejmgnkenokpaaDoor
open Go Go.Sy Go.bK
variable {Γ : bn}
theorem TM {n : Int} {A B : List Int} {t : Int} {N j : Nat} (h : j < N) : gi (ur n A B t N) j = SN n A B t (j : Nat):=by simp [gi,ur,h]
attribute [local irreducible] aQ SD
end Go.Proofs.YthejmgnkenokpaaDoor
end
section
namespace Go.Proofs.YthejmgnkenokpaaDoor
open Go Go.Sy Go.bK
variable {Γ : bn}
def Y3 (D : List (List Int) -> Int -> Int -> List aa) (F : List (List Int) -> Int -> Int -> Tm) : au:=.fn fun args rg => match args with
 | [.a x0,.a (.v (.int .i64 n0)),.a (.v (.int .i64 n1))] => (match ca 27 kT rg x0 with | some (q0,L0) => some (q0 ++ (D L0 n0 n1),F L0 n0 n1) | _ => none)
 | _ => none
theorem YF {f : FuncId} {b : Body} {E : Env} {d : Nat} (hP : aL Tryd.prog Γ E) (hb : bQ Tryd.prog f b) {D : List (List Int) -> Int -> Int -> List aa} {F : List (List Int) -> Int -> Int -> Tm} (hp : ∀ (L0 : List (List Int)) (n0 : Int) (n1 : Int),(F L0 n0 n1).plain = true)
  (H : ∀ (L0 : List (List Int)) (n0 : Int) (n1 : Int),bW (D L0 n0 n1) -> cQ E d b [.a (.sl 0 [] 0 L0.length),.a (vI n0),.a (vI n1)] [.arr 27 kT L0 false false] (fun x _ => iL x (F L0 n0 n1))) : au.Ok Tryd.prog Γ f (Y3 D F):=au.er (d:=d) hP hb (by
 intro args rg q t hF hq
 split at hF
 next x0 n0 n1 =>
  split at hF
  next q0 L0 hx0 =>
   obtain ⟨rfl,rfl⟩:=Prod.mk.inj (Option.some.inj hF);clear hF
   rw [aH] at hq
   obtain ⟨dm,hD⟩:=hq
   obtain ⟨e0,Vn⟩:=bP (by simp [kT]) hx0 dm
   obtain ⟨p0,r0⟩:=Vn [e0] 0 1 rfl (by omega)
   refine ⟨hp _ _ _,[e0],[.a (.sl 0 [] 0 L0.length),.a (vI n0),.a (vI n1)],[.arr 27 kT L0 false false],⟨⟨p0,rfl,rfl,trivial⟩,fun r g hg => ?_⟩,H _ _ _ hD⟩
   match r,hg with
   | 0,hg => obtain rfl:=Option.some.inj hg;exact r0
  next => cases hF
 next => cases hF)
theorem Xy {l : List Int} : ∀ k j : Nat,j <= k -> VP l k <= gi l j
 | 0,j,h => by
   obtain rfl : j = 0:=by omega
   rw [VP];exact Int.le_of_eq (dP l 0)
 | k + 1,j,h => by
   rw [VP,dP]
   rcases Nat.lt_or_ge j (k + 1) with h1 | h1
   ·have:=Xy (l:=l) k j (by omega)
    split <;> omega
   ·obtain rfl : j = k + 1:=by omega
    split <;> omega
theorem Xz {l : List Int} : ∀ k j : Nat,j <= k -> gi l j <= SO l k
 | 0,j,h => by
   obtain rfl : j = 0:=by omega
   rw [SO];exact Int.le_of_eq (dP l 0).symm
 | k + 1,j,h => by
   rw [SO,dP]
   rcases Nat.lt_or_ge j (k + 1) with h1 | h1
   ·have:=Xz (l:=l) k j (by omega)
    split <;> omega
   ·obtain rfl : j = k + 1:=by omega
    split <;> omega
theorem XQ {l : List Int} {c : Int} : ∀ k : Nat,(∀ j : Nat,j <= k -> gi l j = c) -> VP l k = c /\ SO l k = c
 | 0,h => by
   have e:=(dP l 0).trans (h 0 (Nat.le_refl _))
   rw [VP,SO];exact ⟨e,e⟩
 | k + 1,h => by
   obtain ⟨h1,h2⟩:=XQ (l:=l) k (fun j hj => h j (by omega))
   rw [VP,SO,dP,h1,h2,h (k + 1) (Nat.le_refl _)]
   simp
def hX (X : List (List Int)) (q x : Int) : Int:=gi (bh X q) x
theorem VT (X : List (List Int)) (q x : Int) : KC X q x = hX X q x:=by unfold KC hX gi;rw [Nat.zero_add];rfl
theorem W1 {n : Int} {X : List (List Int)} {w : Wk} {j : Nat} (hj : j < (n * n).toNat) : gi (VQ n X w) j = hX X w.1 (j : Nat) + hX X w.2.1 (aX n w.2.2 (j : Nat)):=by
 unfold VQ
 rw [TM hj,UC]
 rfl
theorem Xu {n : Int} (hn : bz n) {X : List (List Int)} {w : Wk} : Vv n X w = true <-> Yw n (hX X) w:=by
 have hp : 0 < n * n:=(gM hn).2
 have hN : (VQ n X w).length - 1 = (n * n).toNat - 1:=by rw [YS]
 unfold Vv Yw
 rw [hN,beq_iff_eq]
 have e0 : gi (VQ n X w) (0 : Nat) = hX X w.1 0 + hX X w.2.1 (aX n w.2.2 0):=W1 (by omega)
 constructor
 ·intro h x hx
  obtain ⟨k,hk,rfl⟩:=(ic hn).1 hx
  rw [<- W1 hk,<- e0]
  have a1:=Xy (l:=VQ n X w) ((n * n).toNat - 1) k (by omega)
  have a2:=Xz (l:=VQ n X w) ((n * n).toNat - 1) k (by omega)
  have b1:=Xy (l:=VQ n X w) ((n * n).toNat - 1) 0 (by omega)
  have b2:=Xz (l:=VQ n X w) ((n * n).toNat - 1) 0 (by omega)
  omega
 ·intro h
  obtain ⟨h1,h2⟩:=XQ (l:=VQ n X w) (c:=gi (VQ n X w) (0 : Nat)) ((n * n).toNat - 1) (fun j hj => by
   rw [W1 (by omega),e0];exact h _ ((ic hn).2 ⟨j,by omega,rfl⟩))
  rw [h1,h2]
theorem Xb {n : Int} (hn : bz n) {X : List (List Int)} {L : List Wk} : L.all (Vv n X) = true <-> V0 n (hX X) L:=by
 rw [List.all_eq_true]
 exact ⟨fun h w hw => (Xu hn).1 (h w hw),fun h w hw => (Xu hn).2 (h w hw)⟩
def VC (X : List (List Int)) (m k : Int) : Bool:=decide ((X.length : Int) <= m) && X.all (fun l => decide ((l.length : Int) <= k))
theorem XP {X : List (List Int)} {m k : Int} (h : VC X m k = true) : (X.length : Int) <= m /\ ∀ l ∈ X,(l.length : Int) <= k:=by
 unfold VC at h
 simp only [Bool.and_eq_true,decide_eq_true_eq,List.all_eq_true] at h
 exact h
def Wn : au:=Y3 (fun _ m _ => [(aa.of (0 <= m /\ m <= 1000))]) (fun X m k => bl (VC X m k))
theorem Wh : au.Ok Tryd.prog Γ 48 Wn:=YF (d:=0) (aP aR.nil bq.nil false 0) (aj Tryd.func48 rfl rfl) (fun _ _ _ => rfl) (by
 intro X m k ⟨hm,_⟩
 simp only [aa.ae] at hm
 obtain h0 | h0 : decide ((X.length : Int) > m) = true \/ decide ((X.length : Int) > m) = false:=by cases decide ((X.length : Int) > m) <;> simp
 ·have h1:=of_decide_eq_true h0
  rw [show VC X m k = false by unfold VC;rw [decide_eq_false (by omega)];rfl]
  repeat' ((conv => whnf);first | apply And.intro | (intro h9;try (have h8 : (_ : Bool) = _:=h9;clear h8;revert h9;subst_vars;intro h9;exact aq h9 (by assumption))))
  all_goals try (conv => whnf)
  all_goals try first | (apply Tk.mk <;> kernel_rfl) | exact ⟨ah rfl⟩ | exact ⟨rfl⟩ | exact ⟨trivial⟩
  all_goals subst_vars
  all_goals try first | rfl | contradiction | (apply Ob.mk;first | (simp only [ag,ak,aa.ae];omega) | ((try simp only [aa.ae]);(try dsimp only);omega))
 have h1:=of_decide_eq_false h0
 rw [show VC X m k = X.all (fun l => decide ((l.length : Int) <= k)) by unfold VC;rw [decide_eq_true (by omega)];rfl]
 repeat' ((conv => whnf);first | apply And.intro | (intro h9;try (have h8 : (_ : Bool) = _:=h9;clear h8;revert h9;subst_vars;intro h9;exact aq h9 (by assumption))))
 all_goals try (conv => whnf)
 all_goals try first | (apply Tk.mk <;> kernel_rfl) | exact ⟨ah rfl⟩ | exact ⟨rfl⟩ | exact ⟨trivial⟩
 all_goals subst_vars
 all_goals try first | rfl | contradiction | (apply Ob.mk;first | (simp only [ag,ak,aa.ae];omega) | ((try simp only [aa.ae]);(try dsimp only);omega))
 refine ⟨Nat,fun i => i <= X.length /\ X.all (fun l => decide ((l.length : Int) <= k)) = (X.drop i).all (fun l => decide ((l.length : Int) <= k)),fun i => ⟨aI 25 [0,2,7] [.a (.sl 0 [] 0 X.length),.a (vI k),.a (vI i)],[],[.arr 27 kT X false false]⟩,fun i => X.length - i,0,[],⟨Nat.zero_le _,rfl⟩,?_,?_⟩
 ·repeat' ((conv => whnf);(first | apply And.intro | intro _))
  all_goals first | rfl | trivial | exact ah rfl | exact aS ‹_› rfl | exact aT ‹_› rfl | ((repeat' first | rfl | constructor);done)
 rintro i ⟨hi,hf⟩
 by_cases hi1 : i < X.length
 ·have p0 : decide ((i : Int) < (X.length : Int)) = true:=decide_eq_true (by omega)
  have gr:=wV X i
  obtain hb | hb : decide (((bh X i).length : Int) > k) = false \/ decide (((bh X i).length : Int) > k) = true:=by cases decide (((bh X i).length : Int) > k) <;> simp
  ·have e2:=of_decide_eq_false hb
   have jH:=hf.trans (C7 hi1 (d:=[]) (by show decide (((gL X i).length : Int) <= k) = true;rw [<- gr];exact decide_eq_true (by omega)))
   repeat' ((conv => whnf);first | apply And.intro | (intro h9;try (have h8 : (_ : Bool) = _:=h9;clear h8;revert h9;subst_vars;intro h9;exact aq h9 (by assumption))))
   all_goals try (conv => whnf)
   all_goals try first | (apply Tk.mk <;> kernel_rfl) | exact ⟨ah rfl⟩ | exact ⟨rfl⟩ | exact ⟨trivial⟩
   all_goals subst_vars
   all_goals try first | rfl | contradiction | (apply Ob.mk;first | (simp only [ag,ak,aa.ae];omega) | ((try simp only [aa.ae]);(try dsimp only);omega))
   all_goals try first
    | exact ⟨show 0 + Int.toNat (i : Int) < X.length by omega⟩
   refine ⟨i + 1,[],⟨hi1,jH⟩,?_,by show X.length - (i + 1) < X.length - i;omega⟩
   repeat' ((conv => whnf);(first | apply And.intro | intro _))
   all_goals first | rfl | trivial | exact ah rfl | exact aS ‹_› rfl | exact aT ‹_› rfl | ((repeat' first | rfl | constructor);done)
  have e2:=of_decide_eq_true hb
  rw [hf.trans (zw hi1 (d:=[]) (by show decide (((gL X i).length : Int) <= k) = false;rw [<- gr];exact decide_eq_false (by omega)))]
  repeat' ((conv => whnf);first | apply And.intro | (intro h9;try (have h8 : (_ : Bool) = _:=h9;clear h8;revert h9;subst_vars;intro h9;exact aq h9 (by assumption))))
  all_goals try (conv => whnf)
  all_goals try first | (apply Tk.mk <;> kernel_rfl) | exact ⟨ah rfl⟩ | exact ⟨rfl⟩ | exact ⟨trivial⟩
  all_goals subst_vars
  all_goals try first | rfl | contradiction | (apply Ob.mk;first | (simp only [ag,ak,aa.ae];omega) | ((try simp only [aa.ae]);(try dsimp only);omega))
  all_goals first
   | exact ⟨show 0 + Int.toNat (i : Int) < X.length by omega⟩
 have p0 : decide ((i : Int) < (X.length : Int)) = false:=decide_eq_false (by omega)
 rw [hf.trans (C6 (by omega))]
 repeat' ((conv => whnf);first | apply And.intro | (intro h9;try (have h8 : (_ : Bool) = _:=h9;clear h8;revert h9;subst_vars;intro h9;exact aq h9 (by assumption))))
 all_goals try (conv => whnf)
 all_goals try first | (apply Tk.mk <;> kernel_rfl) | exact ⟨ah rfl⟩ | exact ⟨rfl⟩ | exact ⟨trivial⟩
 all_goals subst_vars
 all_goals try first | rfl | contradiction | (apply Ob.mk;first | (simp only [ag,ak,aa.ae];omega) | ((try simp only [aa.ae]);(try dsimp only);omega)))
end Go.Proofs.YthejmgnkenokpaaDoor
end
section
namespace Go.Proofs.YthejmgnkenokpaaDoor
open Go Go.Sy Go.bK
variable {Γ : bn}
theorem Wc {n P : Int} {L : List Wk} {p : Int} {F : Int -> Int} : (eI n P L p F).length = P.toNat:=by simp [eI]
theorem WW {n P : Int} {L : List Wk} {p : Int} {F : Int -> Int} {q : Int} (hq : 0 <= q /\ q < P) : bh (eI n P L p F) q = (List.range (n * n).toNat).map fun z => rN n L p F q (z : Nat):=by
 obtain ⟨k,rfl⟩ : ∃ k : Nat,q = (k : Int):=⟨q.toNat,by omega⟩
 rw [wV]
 unfold gL eI
 exact ov (by omega)
theorem V3 {n P : Int} {L : List Wk} {p : Int} {F : Int -> Int} {q z : Int} (hn : bz n) (hq : 0 <= q /\ q < P) (hz : aM n z) : hX (eI n P L p F) q z = rN n L p F q z:=by
 obtain ⟨k,hk,rfl⟩:=(ic hn).1 hz
 unfold hX gi
 rw [WW hq,Int.toNat_natCast]
 exact ov hk
theorem YP {n P : Int} {L : List Wk} {p : Int} {F : Int -> Int} (hn : bz n) (hP : 1 <= P) (hF : ∀ v,-1099511627776 <= F v /\ F v <= 1099511627776) : Vw n P (eI n P L p F) = true:=by
 have j4 : 0 < n * n:=(gM hn).2
 unfold Vw
 simp only [Bool.and_eq_true,beq_iff_eq,Bool.not_eq_true',List.any_eq_false,Bool.not_eq_true,Bool.not_eq_false']
 refine ⟨by rw [Wc];omega,fun l hl => ?_⟩
 obtain ⟨q,hq,rfl⟩:=List.mem_map.1 hl
 have e : SD n ((List.range (n * n).toNat).map fun z => rN n L p F (q : Nat) (z : Nat)) = true:=by
  unfold SD
  simp only [Bool.and_eq_true,beq_iff_eq,Bool.not_eq_true',List.any_eq_false,Bool.not_eq_true]
  refine ⟨by simp;omega,fun v hv => ?_⟩
  obtain ⟨z,_,rfl⟩:=List.mem_map.1 hv
  unfold SH
  rw [bA.2 (Ze hF _ _)];rfl
 simpa using e
theorem YN {n P : Int} {L : List Wk} {p : Int} {F : Int -> Int} (hw : cx P L) (hP : P <= 6) (hp : 0 <= p /\ p <= P - 1) (hn : bz n) : L.all (Vv n (eI n P L p F)) = true:=by
 refine (Xb hn).2 fun w mL x hx => ?_
 have hk:=rR (hw w mL)
 have ht : cT w.2.2:=hk.2.2.2
 rw [V3 hn (by omega) hx,V3 hn (by omega) (ng hn ht hx),V3 hn (by omega) (gM hn),V3 hn (by omega) (ng hn ht (gM hn))]
 exact YQ hw hP hp hn F w mL x hx
theorem Xf {n P : Int} {L : List Wk} {p : Int} {F : Int -> Int} (hc : bD n P L = 0) (hp : 0 <= p /\ p <= P - 1) (hF : ∀ v,-1099511627776 <= F v /\ F v <= 1099511627776) : Vu n P L (eI n P L p F) = (true,0):=by
 have hs:=oe.1 hc
 unfold Vu
 rw [hc,YP hs.n hs.p.1 hF,YN (fun w h => hs.w w h) hs.p.2 hp hs.n];rfl
theorem YJ {es : List (Int × Int)} {M : Int} (hM : 0 <= M) (h : ∀ e ∈ es,-M <= e.2 /\ e.2 <= M) (v : Int) : -M <= aO es v 0 /\ aO es v 0 <= M:=by
 induction es with
 | nil => unfold aO;omega
 | cons e es ih =>
   obtain ⟨k,x⟩:=e
   unfold aO
   split
   ·exact h _ (List.mem_cons_self ..)
   ·exact ih (fun e he => h e (List.mem_cons_of_mem _ he))
theorem Yf {es : List (Int × Int)} {n v : Int} {e : Int × Int} : e ∈ dF es n v -> e.2 = v \/ e ∈ es:=by
 induction es with
 | nil => intro h;rw [dF,List.mem_singleton] at h;rw [h];exact .inl rfl
 | cons d es ih =>
   obtain ⟨k,x⟩:=d
   intro h
   unfold dF at h
   split at h
   ·rcases List.mem_cons.1 h with rfl | h
    ·exact .inl rfl
    ·exact .inr (List.mem_cons_of_mem _ h)
   ·rcases List.mem_cons.1 h with rfl | h
    ·exact .inr (List.mem_cons_self ..)
    ·rcases ih h with h | h
     ·exact .inl h
     ·exact .inr (List.mem_cons_of_mem _ h)
theorem Yu {F H : List Int} {M : Int} (hM : 0 <= M) (h : ∀ i,-M <= gi H i /\ gi H i <= M) (v : Int) : -M <= hF F H v /\ hF F H v <= M:=by
 unfold hF
 refine YJ hM ?_ v
 have : ∀ k,∀ e ∈ bG F H k,-M <= e.2 /\ e.2 <= M:=fun k => by
  induction k with
  | zero => intro e he;unfold bG at he;cases he
  | succ k ih =>
    intro e he
    unfold bG at he
    rcases Yf he with h1 | h1
    ·rw [h1];exact h _
    ·exact ih e h1
 exact this _
theorem XN {H : List Int} (h : H.all hB = true) (i : Int) : -1099511627776 <= gi H i /\ gi H i <= 1099511627776:=by
 unfold gi
 rcases Nat.lt_or_ge i.toNat H.length with h1 | h1
 ·have:=List.all_eq_true.1 h _ (List.getElem_mem h1)
  rw [List.getD_eq_getElem?_getD,List.getElem?_eq_getElem h1]
  exact bA.1 this
 ·rw [List.getD_eq_getElem?_getD,List.getElem?_eq_none h1]
  show _ <= (0 : Int) /\ (0 : Int) <= _;omega
def yM (k : Nat) : List Int:=(List.replicate k (0 : Int)).set 0 1
theorem WN {k : Nat} : (yM k).length = k:=by simp [yM]
theorem WM (k : Nat) : (yM k).all hB = true:=by
 rw [List.all_eq_true]
 intro x hx
 rcases List.mem_or_eq_of_mem_set hx with h | h
 ·rw [(List.mem_replicate.1 h).2];decide +kernel
 ·rw [h];decide +kernel
theorem Xj {k i : Nat} (h : i < k) : gi (yM k) i = if i = 0 then 1 else 0:=by
 unfold gi yM
 rw [Int.toNat_natCast,List.getD_eq_getElem?_getD]
 by_cases h0 : i = 0
 ·subst h0
  rw [if_pos rfl,List.getElem?_set_self (by simpa using h)];rfl
 ·rw [if_neg h0,List.getElem?_set_ne (fun e => h0 e.symm),List.getElem?_replicate,if_pos h];rfl
theorem Wo {n : Int} {L : List Wk} {p : Int} (hG : gH (af L p)) (hn : bz n) : aB n L p = fH n (af L p) (n * n).toNat:=MD hG hn
theorem YH {n : Int} {L : List Wk} {p : Int} (hG : gH (af L p)) (hn : bz n) : ∀ f l,fH n (af L p) (n * n).toNat = f :: l -> hF (aB n L p) (yM (aB n L p).length) f = 1 /\ ∀ v ∈ l,hF (aB n L p) (yM (aB n L p).length) v = 0:=by
 intro f l e
 have hd : (aB n L p).Nodup:=by rw [Wo hG hn];exact TO (wH n (af L p) _)
 have e2 : aB n L p = f :: l:=(Wo hG hn).trans e
 have hlen : (aB n L p).length = l.length + 1:=by rw [e2];rfl
 constructor
 ·have h1:=Yt (F:=aB n L p) (H:=yM (aB n L p).length) hd (i:=0) (by omega)
  rw [Xj (by omega),if_pos rfl] at h1
  have h2 : gi (aB n L p) (0 : Nat) = f:=by rw [e2];rfl
  rw [h2] at h1;exact h1
 ·intro v hv
  obtain ⟨i,hi,e3⟩:=List.mem_iff_getElem.1 hv
  have h1:=Yt (F:=aB n L p) (H:=yM (aB n L p).length) hd (i:=i + 1) (by omega)
  rw [Xj (by omega),if_neg (by omega)] at h1
  have h2 : gi (aB n L p) ((i + 1 : Nat) : Int) = v:=by
   rw [e2];unfold gi;rw [Int.toNat_natCast];simp [hi,e3]
  rw [h2] at h1;exact h1
def VS (X : List (List Int)) (p : Int) : Nat -> Bool
 | 0 => true
 | x + 1 => match VS X p x with | true => (hX X p (x : Nat) == hX X p 0) | false => false
theorem Wa (X : List (List Int)) (p : Int) (x : Nat) : VS X p (x + 1) = match VS X p x with | true => (hX X p (x : Nat) == hX X p 0) | false => false:=rfl
theorem Xo {X : List (List Int)} {p : Int} : ∀ x,VS X p x = true <-> ∀ y,y < x -> hX X p (y : Nat) = hX X p 0
 | 0 => ⟨fun _ y h => absurd h (Nat.not_lt_zero y),fun _ => rfl⟩
 | x + 1 => by
   have ih:=Xo (X:=X) (p:=p) x
   rw [Wa]
   cases hb : VS X p x <;> dsimp only
   ·rw [hb] at ih
    refine ⟨fun h => (by cases h),fun h => ?_⟩
    exact absurd (ih.2 fun y hy => h y (by omega)) (by simp)
   ·have ih:=ih.1 hb
    rw [beq_iff_eq]
    refine ⟨fun h y hy => ?_,fun h => h x (by omega)⟩
    rcases Nat.lt_or_ge y x with h1 | h1
    ·exact ih y h1
    ·obtain rfl : y = x:=by omega
     exact h
theorem YI {n P : Int} {L : List Wk} {p : Int} (hc : bD n P L = 0) (hp : 0 <= p /\ p <= P - 1) : VS (eI n P L p (hF (aB n L p) (yM (aB n L p).length))) p (n * n).toNat = (zb n (af L p) == 0):=by
 have hs:=oe.1 hc
 have hw : cx P L:=fun w h => hs.w w h
 have hn : bz n:=hs.n
 have hG:=nK hw hs.p.2 hp
 rw [Bool.eq_iff_iff,Xo,beq_iff_eq,<- XS hG hn (YH hG hn)]
 have e : ∀ x,aM n x -> hX (eI n P L p (hF (aB n L p) (yM (aB n L p).length))) p x = tS n (af L p) (hF (aB n L p) (yM (aB n L p).length)) x:=fun x hx => by
  rw [V3 hn (by omega) hx,YO hw hs.p.2 hp hn _ hx]
 constructor
 ·intro h x hx
  obtain ⟨k,hk,rfl⟩:=(ic hn).1 hx
  rw [<- e _ hx,<- e _ (gM hn)];exact h k hk
 ·intro h y hy
  have hx:=(ic hn).2 ⟨y,hy,rfl⟩
  rw [e _ hx,e _ (gM hn)];exact h _ hx
end Go.Proofs.YthejmgnkenokpaaDoor
end
