/-
  Texts of the claims on chapter 3: Q25c. No condition: lemmas and contracts.
-/
import Derived.Test.YthejmgnkenokpaaGreatDoorPl1c
import Derived.Lib.Split
import Derived.Lib.AtoiAll
import Derived.Lib.Strings
set_option linter.all false
set_option maxRecDepth 100000
set_option maxHeartbeats 4000000
section
namespace Go.bK
def ajE : ByteArray:={ data:=#[10] }
def o5 : ByteArray:={ data:=#[32] }
def aic : ByteArray:={ data:=#[115,104,111,112] }
def ahN : ByteArray:={ data:=#[119,111,114,107] }
def bA (l : List UInt8) : ByteArray:=⟨l.toArray⟩
def dg (v : Int) : UInt8:=UInt8.ofNat (48 + v.toNat)
def ot (n P : Int) : List UInt8:=[115,104,111,112,32,dg n,32,dg P,10]
def E0 (w : Wk) : List UInt8:=[119,111,114,107,32,dg w.1,32,dg w.2.1,32,dg w.2.2,10]
def gx : List Wk -> List UInt8
 | [] => []
 | w :: L => E0 w ++ gx L
def ld (n P : Int) (L : List Wk) : List UInt8:=ot n P ++ gx L
/-! ### Line by line -/
def fk (r : ByteArray) : Int:=Lib.indexByte r.data.toList 10
def ey (r : ByteArray) : ByteArray:=match decide (fk r >= 0) with | true => r.extract 0 (fk r + 1).toNat | false => r
def n9 (r : ByteArray) : ByteArray:=match decide (fk r >= 0) with | true => r.extract (fk r + 1).toNat r.size | false => { data:=#[] }
def ez (row : ByteArray) : ByteArray:=bA (Lib.trimSuffix row.data.toList ajE.data.toList)
def bt (t : ByteArray) : List ByteArray:=Lib.splitB o5 0 (Lib.countB t o5) t
def ahB (row : ByteArray) : List ByteArray:=bt (ez row)
def D0 : List ByteArray -> Option (List Int)
 | [] => some []
 | x :: r => match Lib.atoiAll x.data.toList with
   | .ok v => (match D0 r with | some l => some (v :: l) | none => none)
   | _ => none
abbrev Sh:=Int × Int × List Wk
def g3 (l : List Int) (i : Nat) : Int:=l.getD i 0
def ahs (w : List ByteArray) : ByteArray:=w.getD 0 ByteArray.empty
def ag7 (s : Sh) (h : ByteArray) (l : List Int) : Option Sh:=match h.toList == aic.toList && decide (l.length = 2) with
 | true => some (g3 l 0,g3 l 1,s.2.2)
 | false => match h.toList == ahN.toList && decide (l.length = 3) with
   | true => some (s.1,s.2.1,s.2.2 ++ [(g3 l 0,g3 l 1,g3 l 2)])
   | false => none
def ahA (s : Sh) (row : ByteArray) : Option Sh:=match D0 (ahB row).tail with
 | none => none
 | some l => ag7 s (ahs (ahB row)) l
def gy : Nat -> ByteArray -> Sh -> Option Sh
 | 0,_,s => some s
 | f + 1,r,s => match decide ((r.size : Int) > 0) with
   | false => some s
   | true => match ahA s (ey r) with
     | none => none
     | some s' => gy f (n9 r) s'
/-! ### What shops' texts give -/
theorem Wy (l : List UInt8) : (bA l).size = l.length:=by simp [bA,ByteArray.size]
theorem ahh (l : List UInt8) : (bA l).data.toList = l:=rfl
theorem ag6 {a b : ByteArray} (h : a.data.toList = b.data.toList) : a = b:=by
 obtain ⟨⟨a⟩⟩:=a;obtain ⟨⟨b⟩⟩:=b
 have : a = b:=h
 rw [this]
theorem ah2 (a : ByteArray) (i j : Nat) : (a.extract i j).data.toList = (a.data.toList.take j).drop i:=by
 rw [ByteArray.data_extract,Array.toList_extract]
 simp [List.extract,List.drop_take]
theorem ajk {l r : List UInt8} {c : UInt8} (h : ∀ x ∈ l,x ≠ c) : Lib.indexByte (l ++ c :: r) c = l.length:=by
 induction l with
 | nil => simp [Lib.indexByte]
 | cons a l ih =>
   have ha : a ≠ c:=h a (List.mem_cons_self ..)
   have ih:=ih (fun x hx => h x (List.mem_cons_of_mem _ hx))
   have e : (a == c) = false:=by simp [ha]
   rw [List.cons_append,Lib.indexByte,e,ih]
   simp only [Bool.false_eq_true,if_false]
   rw [if_neg]
   ·simp
   ·simp
    try omega
theorem aiM {l r : List UInt8} (h : ∀ x ∈ l,x ≠ 10) : ey (bA (l ++ 10 :: r)) = bA (l ++ [10]) /\ n9 (bA (l ++ 10 :: r)) = bA r:=by
 have e : fk (bA (l ++ 10 :: r)) = l.length:=ajk h
 have d : decide (fk (bA (l ++ 10 :: r)) >= 0) = true:=by rw [e];exact decide_eq_true (by omega)
 have e2 : ((l.length : Int) + 1).toNat = l.length + 1:=by omega
 constructor
 ·unfold ey
  rw [d]
  dsimp only
  rw [e,e2]
  refine ag6 ?_
  rw [ah2,ahh,ahh,List.drop_zero]
  have : l ++ 10 :: r = (l ++ [10]) ++ r:=by simp
  rw [this,List.take_append_of_le_length (by simp)]
  exact List.take_of_length_le (by simp)
 ·unfold n9
  rw [d]
  dsimp only
  rw [e,e2]
  refine ag6 ?_
  rw [ah2,ahh,ahh,Wy,List.take_length]
  have : l ++ 10 :: r = (l ++ [10]) ++ r:=by simp
  rw [this,List.drop_append_of_le_length (by simp),List.drop_of_length_le (by simp)]
  rfl
theorem ai2 {v : Int} (h : 0 <= v /\ v < 10) : dg v ≠ 10:=by
 obtain ⟨a,rfl⟩ : ∃ a : Nat,v = (a : Int):=⟨v.toNat,by omega⟩
 have : ∀ a : Nat,a < 10 -> dg (a : Int) ≠ 10:=by decide +kernel
 exact this a (by omega)
theorem ajo (s : Sh) {n P : Int} (hn : 1 <= n /\ n <= 6) (hP : 1 <= P /\ P <= 6) : ahA s (bA (ot n P)) = some (n,P,s.2.2):=by
 obtain ⟨a,rfl⟩ : ∃ a : Nat,n = (a : Int):=⟨n.toNat,by omega⟩
 obtain ⟨b,rfl⟩ : ∃ b : Nat,P = (b : Int):=⟨P.toNat,by omega⟩
 have k : ∀ a : Nat,a < 7 -> ∀ b : Nat,b < 7 -> D0 (ahB (bA (ot (a : Int) (b : Int)))).tail = some [(a : Int),(b : Int)] /\ (ahs (ahB (bA (ot (a : Int) (b : Int))))).toList == aic.toList:=by decide +kernel
 obtain ⟨k1,k2⟩:=k a (by omega) b (by omega)
 unfold ahA ag7
 rw [k1]
 dsimp only
 rw [k2]
 rfl
theorem ajJ (s : Sh) {w : Wk} (h1 : 0 <= w.1 /\ w.1 < 6) (h2 : 0 <= w.2.1 /\ w.2.1 < 6) (h3 : 0 <= w.2.2 /\ w.2.2 < 8) : ahA s (bA (E0 w)) = some (s.1,s.2.1,s.2.2 ++ [w]):=by
 obtain ⟨x,y,z⟩:=w
 obtain ⟨a,rfl⟩ : ∃ a : Nat,x = (a : Int):=⟨x.toNat,by simp only at h1;omega⟩
 obtain ⟨b,rfl⟩ : ∃ b : Nat,y = (b : Int):=⟨y.toNat,by simp only at h2;omega⟩
 obtain ⟨c,rfl⟩ : ∃ c : Nat,z = (c : Int):=⟨z.toNat,by simp only at h3;omega⟩
 have k : ∀ a : Nat,a < 6 -> ∀ b : Nat,b < 6 -> ∀ c : Nat,c < 8 -> D0 (ahB (bA (E0 ((a : Int),(b : Int),(c : Int))))).tail = some [(a : Int),(b : Int),(c : Int)] /\ ((ahs (ahB (bA (E0 ((a : Int),(b : Int),(c : Int)))))).toList == aic.toList) = false /\ ((ahs (ahB (bA (E0 ((a : Int),(b : Int),(c : Int)))))).toList == ahN.toList) = true:=by decide +kernel
 simp only at h1 h2 h3
 obtain ⟨k1,k2,k3⟩:=k a (by omega) b (by omega) c (by omega)
 unfold ahA ag7
 rw [k1]
 dsimp only
 rw [k2,k3]
 rfl
theorem aiU {P : Int} (hP : P <= 6) {w : Wk} (h : eJ P w = true) : (0 <= w.1 /\ w.1 < 6) /\ (0 <= w.2.1 /\ w.2.1 < 6) /\ (0 <= w.2.2 /\ w.2.2 < 8):=by
 simp only [eJ,Bool.and_eq_true] at h
 obtain ⟨⟨⟨h1,h2⟩,_⟩,h3⟩:=h
 have h1:=akk.1 h1;have h2:=akk.1 h2;have h3:=akk.1 h3
 omega
theorem aip (w : Wk) : E0 w = [119,111,114,107,32,dg w.1,32,dg w.2.1,32,dg w.2.2] ++ [10]:=rfl
theorem ah4 (n P : Int) : ot n P = [115,104,111,112,32,dg n,32,dg P] ++ [10]:=rfl
theorem ahK {P : Int} (hP : P <= 6) : ∀ (L : List Wk) (f : Nat) (s : Sh),(∀ w ∈ L,eJ P w = true) -> L.length <= f -> gy f (bA (gx L)) s = some (s.1,s.2.1,s.2.2 ++ L)
 | [],f,s,_,_ => by
   cases f with
   | zero => simp [gy]
   | succ f =>
     have e : decide (((bA (gx [])).size : Int) > 0) = false:=by decide
     rw [gy,e];simp
 | w :: L,0,_,_,h => by simp at h
 | w :: L,f + 1,s,hw,h => by
   obtain ⟨h1,h2,h3⟩:=aiU hP (hw w (List.mem_cons_self ..))
   have e0 : gx (w :: L) = [119,111,114,107,32,dg w.1,32,dg w.2.1,32,dg w.2.2] ++ 10 :: gx L:=by rw [gx,aip];simp
   have hne : ∀ x ∈ [119,111,114,107,32,dg w.1,32,dg w.2.1,32,dg w.2.2],x ≠ 10:=by
    intro x hx
    simp only [List.mem_cons,List.not_mem_nil,or_false] at hx
    rcases hx with rfl | rfl | rfl | rfl | rfl | rfl | rfl | rfl | rfl | rfl <;> first | decide | exact ai2 (by omega)
   obtain ⟨l1,l2⟩:=aiM (r:=gx L) hne
   have e : decide (((bA (gx (w :: L))).size : Int) > 0) = true:=by rw [Wy,e0];simp;omega
   rw [gy,e]
   dsimp only
   rw [e0,l1,l2,<- aip,ajJ s h1 h2 h3]
   dsimp only
   rw [ahK hP L f _ (fun x hx => hw x (List.mem_cons_of_mem _ hx)) (by simpa using h)]
   simp
theorem ajh {n P : Int} {L : List Wk} (hn : 1 <= n /\ n <= 6) (hP : 1 <= P /\ P <= 6) (hw : ∀ w ∈ L,eJ P w = true) {f : Nat} (hf : L.length + 1 <= f) : gy f (bA (ld n P L)) (0,0,[]) = some (n,P,L):=by
 cases f with
 | zero => omega
 | succ f =>
   have e0 : ld n P L = [115,104,111,112,32,dg n,32,dg P] ++ 10 :: gx L:=by rw [ld,ah4];simp
   have hne : ∀ x ∈ [115,104,111,112,32,dg n,32,dg P],x ≠ 10:=by
    intro x hx
    simp only [List.mem_cons,List.not_mem_nil,or_false] at hx
    rcases hx with rfl | rfl | rfl | rfl | rfl | rfl | rfl | rfl <;> first | decide | exact ai2 (by omega)
   obtain ⟨l1,l2⟩:=aiM (r:=gx L) hne
   have e : decide (((bA (ld n P L)).size : Int) > 0) = true:=by rw [Wy,e0];simp;omega
   rw [gy,e]
   dsimp only
   rw [e0,l1,l2,<- ah4,ajo _ hn hP]
   dsimp only
   rw [ahK hP.2 L f _ hw (by omega)]
   simp
/-! ### Place by place -/
def e9 (s : ByteArray) (i : Nat) : Int:=((s.data.getD i 0).toNat : Int)
def eX (s : ByteArray) : Nat -> List Wk
 | 0 => []
 | k + 1 => eX s k ++ [(e9 s (9 + 11 * k + 5) - 48,e9 s (9 + 11 * k + 7) - 48,e9 s (9 + 11 * k + 9) - 48)]
theorem aiq (s : ByteArray) : ∀ k,(eX s k).length = k
 | 0 => rfl
 | k + 1 => by rw [eX,List.length_append,aiq s k];rfl
def kM (s : ByteArray) : Nat:=min ((s.size - 9) / 11) 17
theorem ahU (l : List UInt8) (i : Nat) : e9 (bA l) i = ((l.getD i 0).toNat : Int):=by
 unfold e9 bA
 simp [Array.getD_eq_getD_getElem?,List.getD_eq_getElem?_getD]
theorem ahg {v : Int} (h : 0 <= v /\ v < 10) : ((dg v).toNat : Int) - 48 = v:=by
 obtain ⟨a,rfl⟩ : ∃ a : Nat,v = (a : Int):=⟨v.toNat,by omega⟩
 have : ∀ a : Nat,a < 10 -> ((dg (a : Int)).toNat : Int) - 48 = (a : Int):=by decide +kernel
 exact this a (by omega)
theorem ahH : ∀ L : List Wk,(gx L).length = 11 * L.length
 | [] => rfl
 | w :: L => by rw [gx,List.length_append,ahH L];simp [E0];omega
theorem ahi (n P : Int) (L : List Wk) : (bA (ld n P L)).size = 9 + 11 * L.length:=by
 rw [Wy,ld,List.length_append,ahH];rfl
theorem aiR : ∀ (L : List Wk) (k j : Nat),k < L.length -> j < 11 -> (gx L).getD (11 * k + j) 0 = (E0 (wk L k)).getD j 0
 | [],k,j,h,_ => by simp at h
 | w :: L,0,j,_,hj => by
   rw [gx,Nat.mul_zero,Nat.zero_add,List.getD_eq_getElem?_getD,List.getElem?_append_left (by simpa [E0] using hj),<- List.getD_eq_getElem?_getD]
   rfl
 | w :: L,k + 1,j,h,hj => by
   have e : (E0 w).length = 11:=rfl
   rw [gx,List.getD_eq_getElem?_getD,List.getElem?_append_right (by omega),e,show 11 * (k + 1) + j - 11 = 11 * k + j by omega,<- List.getD_eq_getElem?_getD,aiR L k j (by simpa using h) hj]
   simp [wk]
theorem aiS {n P : Int} {L : List Wk} (hP : P <= 6) (hw : ∀ w ∈ L,eJ P w = true) : ∀ k,k <= L.length -> eX (bA (ld n P L)) k = L.take k
 | 0,_ => by simp [eX]
 | k + 1,hk => by
   have hk' : k < L.length:=hk
   have hm : wk L k ∈ L:=by unfold wk;rw [List.getD_eq_getElem?_getD,List.getElem?_eq_getElem hk'];exact List.getElem_mem hk'
   obtain ⟨h1,h2,h3⟩:=aiU hP (hw _ hm)
   have at' : ∀ j,j < 11 -> e9 (bA (ld n P L)) (9 + 11 * k + j) = (((E0 (wk L k)).getD j 0).toNat : Int):=fun j hj => by
    have e : (ot n P).length = 9:=rfl
    rw [ahU,ld,List.getD_eq_getElem?_getD,List.getElem?_append_right (by omega),e,show 9 + 11 * k + j - 9 = 11 * k + j by omega,<- List.getD_eq_getElem?_getD,aiR L k j hk' hj]
   rw [eX,aiS hP hw k (by omega),at' 5 (by omega),at' 7 (by omega),at' 9 (by omega),List.take_succ_eq_append_getElem hk']
   congr 1
   have e : L[k] = wk L k:=by unfold wk;rw [List.getD_eq_getElem?_getD,List.getElem?_eq_getElem hk'];rfl
   rw [e]
   have a1:=ahg (v:=(wk L k).1) (by omega)
   have a2:=ahg (v:=(wk L k).2.1) (by omega)
   have a3:=ahg (v:=(wk L k).2.2) (by omega)
   show [(((dg (wk L k).1).toNat : Int) - 48,((dg (wk L k).2.1).toNat : Int) - 48,((dg (wk L k).2.2).toNat : Int) - 48)] = [wk L k]
   rw [a1,a2,a3]
theorem ajL {n P : Int} {L : List Wk} (hn : 1 <= n /\ n <= 6) (hP : 1 <= P /\ P <= 6) (hl : L.length <= 16) (hw : ∀ w ∈ L,eJ P w = true) : e9 (bA (ld n P L)) 5 - 48 = n /\ e9 (bA (ld n P L)) 7 - 48 = P /\ eX (bA (ld n P L)) (kM (bA (ld n P L))) = L:=by
 have ek : kM (bA (ld n P L)) = L.length:=by unfold kM;rw [ahi,show 9 + 11 * L.length - 9 = 11 * L.length by omega,Nat.mul_div_cancel_left _ (by omega)];omega
 refine ⟨?_,?_,by rw [ek,aiS hP.2 hw _ (Nat.le_refl _),List.take_length]⟩
 ·rw [ahU];exact ahg (by omega)
 ·rw [ahU];exact ahg (by omega)
/-! ### Which texts are shops' texts -/
def ahE (s : ByteArray) (t : Sh) : Prop:=bD t.1 t.2.1 t.2.2 = 0 /\ s = bA (ld t.1 t.2.1 t.2.2)
def eY (s : ByteArray) : Sh:=(e9 s 5 - 48,e9 s 7 - 48,eX s (kM s))
noncomputable def pB (s : ByteArray) : Bool:=@decide (ahE s (eY s)) (Classical.propDecidable _)
theorem D1 {s : ByteArray} : pB s = true <-> ahE s (eY s):=@decide_eq_true_iff _ (Classical.propDecidable _)
theorem ain {s : ByteArray} {t : Sh} (h : ahE s t) : eY s = t:=by
 obtain ⟨h1,rfl⟩:=h
 have hs:=oe.1 h1
 obtain ⟨e1,e2,e3⟩:=ajL hs.n hs.p hs.l hs.w
 unfold eY
 rw [e1,e2,e3]
theorem aiK {s : ByteArray} {t : Sh} (h : ahE s t) : pB s = true /\ eY s = t:=⟨D1.2 (by rw [ain h];exact h),ain h⟩
theorem ahL {s : ByteArray} {t : Sh} (h : ahE s t) {f : Nat} (hf : s.size <= f) : gy f s (0,0,[]) = some t:=by
 obtain ⟨h1,rfl⟩:=h
 have hs:=oe.1 h1
 exact ajh hs.n hs.p hs.w (by rw [ahi] at hf;omega)
end Go.bK
end
