/-
  Texts of the claims on chapter 3: Q23. No condition: lemmas and contracts.
-/
import Derived.Test.YthejmgnkenokpaaGreatDoorPl1
set_option linter.all false
set_option maxRecDepth 100000
set_option maxHeartbeats 4000000
section
namespace Go.bK
def pf (E D : List Bool) (b : Bool) (v : Int) : Bool:=match b with | true => gb D v | false => gb E v
def ac8 (m : Bool) (E D : List Bool) (x y : Int) : List Bool:=match m with
 | true => (E.set y.toNat (gb E y || gb D x)).set x.toNat (gb E x || gb D y)
 | false => (E.set y.toNat (gb E y || gb E x)).set x.toNat (gb E x || gb E y)
def ac7 (m : Bool) (E D : List Bool) (x y : Int) : List Bool:=match m with
 | true => (D.set y.toNat (gb D y || gb E x)).set x.toNat (gb D x || gb E y)
 | false => (D.set y.toNat (gb D y || gb D x)).set x.toNat (gb D x || gb D y)
theorem adK {m : Bool} {E D : List Bool} {x y : Int} : (ac8 m E D x y).length = E.length:=by cases m <;> simp [ac8]
theorem adJ {m : Bool} {E D : List Bool} {x y : Int} : (ac7 m E D x y).length = D.length:=by cases m <;> simp [ac7]
theorem adY {l : List Bool} {x w : Int} {v : Bool} (hx : 0 <= x) (hw : 0 <= w) (hl : x.toNat < l.length) : gb (l.set x.toNat v) w = if w = x then v else gb l w:=by
 unfold gb
 by_cases h : w = x
 ·subst h;rw [if_pos rfl];simp [hl]
 ·rw [if_neg h,List.getD_eq_getElem?_getD,List.getElem?_set_ne (by omega),<- List.getD_eq_getElem?_getD]
theorem adw {m : Bool} {E D : List Bool} {x y v : Int} (b : Bool) (hE : x.toNat < E.length /\ y.toNat < E.length) (hD : x.toNat < D.length /\ y.toNat < D.length) (hx : 0 <= x) (hy : 0 <= y) (hv : 0 <= v) :
  pf (ac8 m E D x y) (ac7 m E D x y) b v = if v = x then pf E D b x || pf E D (b != m) y else if v = y then pf E D b y || pf E D (b != m) x else pf E D b v:=by
 cases m <;> cases b <;> simp only [pf,ac8,ac7] <;> rw [adY hx hv (by simp only [List.length_set];omega)] <;> by_cases h1 : v = x <;> simp only [h1,if_true,if_false] <;> first | rfl | (rw [adY hy hv (by omega)];rfl)
def nf (l : List Bool) : Nat:=(l.filter (fun b => !b)).length
theorem adM : ∀ {l l' : List Bool},l.length = l'.length -> (∀ i,l.getD i false = true -> l'.getD i false = true) -> nf l' <= nf l /\ (nf l' = nf l -> l' = l)
 | [],[],_,_ => ⟨Nat.le_refl _,fun _ => rfl⟩
 | [],_ :: _,h,_ => by simp at h
 | _ :: _,[],h,_ => by simp at h
 | a :: l,c :: l',h,hm => by
   have h0 : a = true -> c = true:=by simpa using hm 0
   obtain ⟨i1,i2⟩:=adM (l:=l) (l':=l') (by simpa using h) (fun i hi => by simpa using hm (i + 1) (by simpa using hi))
   cases a <;> cases c
   ·simp only [nf,List.filter_cons,Bool.not_false,if_true,List.length_cons] at i1 i2 ⊢
    exact ⟨by omega,fun e => by rw [i2 (by omega)]⟩
   ·simp only [nf,List.filter_cons,Bool.not_false,Bool.not_true,if_true,List.length_cons] at i1 i2 ⊢
    refine ⟨by simp only [Bool.false_eq_true,if_false];omega,fun e => ?_⟩
    simp only [Bool.false_eq_true,if_false] at e;omega
   ·exact absurd (h0 rfl) (by decide)
   ·simp only [nf,List.filter_cons,Bool.not_true,Bool.false_eq_true,if_false] at i1 i2 ⊢
    exact ⟨i1,fun e => by rw [i2 e]⟩
theorem adH {N : Nat} {l l' : List Bool} (h : l.length = N) (h' : l'.length = N) (he : ∀ k : Nat,k < N -> gb l k = gb l' k) : l = l':=by
 refine List.ext_getElem (h.trans h'.symm) fun i h1 h2 => ?_
 have:=he i (by omega)
 unfold gb at this
 simp only [Int.toNat_natCast] at this
 simpa [h1,h2] using this
structure JI (n : Int) (G : List Sg) (f : Int) (E D : List Bool) : Prop where
 le : E.length = (n * n).toNat
 ld : D.length = (n * n).toNat
 st : pf E D false f = true
 snd : ∀ v,aM n v -> ∀ b,pf E D b v = true -> Cn (jG n G) f v b
def ad4 (E D : List Bool) (x y : Int) (m : Bool) : Prop:=∀ b,(pf E D (b != m) y = true -> pf E D b x = true) /\ (pf E D (b != m) x = true -> pf E D b y = true)
theorem adb {n : Int} {v : Int} (h : aM n v) {N : Nat} (e : N = (n * n).toNat) : v.toNat < N:=by unfold aM at h;omega
theorem JI.step {n : Int} {G : List Sg} {f : Int} {E D : List Bool} (h : JI n G f E D) (hn : bz n) (hf : aM n f) {g : Sg} (hg : g ∈ G) (ht : cT g.1) {x : Int} (hx : aM n x) : JI n G f (ac8 g.2 E D x (aX n g.1 x)) (ac7 g.2 E D x (aX n g.1 x)):=by
 have hy:=ng hn ht hx
 have he : x.toNat < E.length /\ (aX n g.1 x).toNat < E.length:=⟨adb hx h.le,adb hy h.le⟩
 have hd : x.toNat < D.length /\ (aX n g.1 x).toNat < D.length:=⟨adb hx h.ld,adb hy h.ld⟩
 have hj : jG n G x (aX n g.1 x) g.2:=⟨g,hg,hx,rfl,rfl⟩
 have xR : ∀ b : Bool,((b != g.2) != g.2) = b:=fun b => by cases b <;> cases g.2 <;> rfl
 refine ⟨adK.trans h.le,adJ.trans h.ld,?_,fun v hv b hb => ?_⟩
 ·rw [adw false he hd hx.1 hy.1 hf.1]
  have:=h.st
  split
  ·rename_i e;rw [<- e,this];rfl
  ·split
   ·rename_i e;rw [<- e,this];rfl
   ·exact this
 ·rw [adw b he hd hx.1 hy.1 hv.1] at hb
  split at hb
  ·rename_i e;subst e
   rcases (Bool.or_eq_true _ _).mp hb with hb | hb
   ·exact h.snd _ hv _ hb
   ·have:=Cn.bwd (h.snd _ hy _ hb) hj
    rwa [xR] at this
  ·split at hb
   ·rename_i e;subst e
    rcases (Bool.or_eq_true _ _).mp hb with hb | hb
    ·exact h.snd _ hv _ hb
    ·have:=Cn.fwd (h.snd _ hx _ hb) hj
     rwa [xR] at this
   ·exact h.snd _ hv _ hb
def adf (m : Bool) (E D : List Bool) (x y : Int) : Bool:=(gb (ac8 m E D x y) x != gb E x) || (gb (ac7 m E D x y) x != gb D x) || (gb (ac8 m E D x y) y != gb E y) || (gb (ac7 m E D x y) y != gb D y)
theorem afL {n : Int} {m : Bool} {E D : List Bool} {x y : Int} (le : E.length = (n * n).toNat) (ld : D.length = (n * n).toNat) (hx : aM n x) (hy : aM n y) (h : adf m E D x y = false) : ac8 m E D x y = E /\ ac7 m E D x y = D /\ ad4 E D x y m:=by
 have he : x.toNat < E.length /\ y.toNat < E.length:=⟨adb hx le,adb hy le⟩
 have hd : x.toNat < D.length /\ y.toNat < D.length:=⟨adb hx ld,adb hy ld⟩
 unfold adf at h
 simp only [Bool.or_eq_false_iff,bne_eq_false_iff_eq] at h
 obtain ⟨⟨⟨h1,h2⟩,h3⟩,h4⟩:=h
 have ex : ∀ b,pf (ac8 m E D x y) (ac7 m E D x y) b x = pf E D b x:=fun b => by cases b <;> assumption
 have ey : ∀ b,pf (ac8 m E D x y) (ac7 m E D x y) b y = pf E D b y:=fun b => by cases b <;> assumption
 have all : ∀ b v,0 <= v -> pf (ac8 m E D x y) (ac7 m E D x y) b v = pf E D b v:=fun b v hv => by
  by_cases e : v = x
  ·subst e;exact ex b
  ·by_cases e2 : v = y
   ·subst e2;exact ey b
   ·rw [adw b he hd hx.1 hy.1 hv,if_neg e,if_neg e2]
 refine ⟨adH (adK.trans le) le fun k _ => all false k (by omega),adH (adJ.trans ld) ld fun k _ => all true k (by omega),fun b => ⟨fun hb => ?_,fun hb => ?_⟩⟩
 ·rw [<- ex b,adw b he hd hx.1 hy.1 hx.1,if_pos rfl,hb,Bool.or_true]
 ·rw [<- ey b,adw b he hd hx.1 hy.1 hy.1]
  split
  ·rename_i e;subst e;rw [hb,Bool.or_true]
  ·rw [if_pos rfl,hb,Bool.or_true]
theorem afU {n : Int} {m : Bool} {E D : List Bool} {x y : Int} (le : E.length = (n * n).toNat) (ld : D.length = (n * n).toNat) (hx : aM n x) (hy : aM n y) : nf (ac8 m E D x y) + nf (ac7 m E D x y) <= nf E + nf D /\ (adf m E D x y = true -> nf (ac8 m E D x y) + nf (ac7 m E D x y) < nf E + nf D):=by
 have he : x.toNat < E.length /\ y.toNat < E.length:=⟨adb hx le,adb hy le⟩
 have hd : x.toNat < D.length /\ y.toNat < D.length:=⟨adb hx ld,adb hy ld⟩
 have up : ∀ b v,0 <= v -> pf E D b v = true -> pf (ac8 m E D x y) (ac7 m E D x y) b v = true:=fun b v hv h => by
  rw [adw b he hd hx.1 hy.1 hv]
  split
  ·rename_i e;rw [<- e,h];rfl
  ·split
   ·rename_i e;rw [<- e,h];rfl
   ·exact h
 obtain ⟨a1,a2⟩:=adM (l:=E) (l':=ac8 m E D x y) adK.symm (fun i hi => by have:=up false i (by omega) (by show gb E i = true;unfold gb;rw [Int.toNat_natCast];exact hi);unfold pf gb at this;dsimp only at this;rwa [Int.toNat_natCast] at this)
 obtain ⟨b1,b2⟩:=adM (l:=D) (l':=ac7 m E D x y) adJ.symm (fun i hi => by have:=up true i (by omega) (by show gb D i = true;unfold gb;rw [Int.toNat_natCast];exact hi);unfold pf gb at this;dsimp only at this;rwa [Int.toNat_natCast] at this)
 refine ⟨by omega,fun h => ?_⟩
 rcases Nat.lt_or_ge (nf (ac8 m E D x y) + nf (ac7 m E D x y)) (nf E + nf D) with h1 | h1
 ·exact h1
 ·exfalso
  have e1:=a2 (by omega)
  have e2:=b2 (by omega)
  unfold adf at h
  rw [e1,e2] at h
  simp at h
noncomputable def ac9 (n : Int) (G : List Sg) (f : Int) (b : Bool) : List Bool:=(List.range (n * n).toNat).map fun v : Nat => @decide (Cn (jG n G) f (v : Int) b) (Classical.propDecidable _)
theorem adl {n : Int} {G : List Sg} {f : Int} {b : Bool} : (ac9 n G f b).length = (n * n).toNat:=by simp [ac9]
theorem adF {n : Int} {G : List Sg} {f : Int} {b : Bool} {k : Nat} (h : k < (n * n).toNat) : gb (ac9 n G f b) k = true <-> Cn (jG n G) f (k : Int) b:=by
 unfold gb ac9
 rw [Int.toNat_natCast,List.getD_eq_getElem?_getD,List.getElem?_map,List.getElem?_range h]
 exact @decide_eq_true_iff _ (Classical.propDecidable _)
theorem JI.all {n : Int} {G : List Sg} {f : Int} {E D : List Bool} (h : JI n G f E D) (hn : bz n) (hc : ∀ g ∈ G,∀ x,aM n x -> ad4 E D x (aX n g.1 x) g.2) : E = ac9 n G f false /\ D = ac9 n G f true:=by
 have key : ∀ v b,Cn (jG n G) f v b -> pf E D b v = true:=fun v b c => by
  induction c with
  | refl => exact h.st
  | @fwd v w b m _ j ih =>
    obtain ⟨g,hg,hv,rfl,rfl⟩:=j
    refine ((hc g hg v hv) (b != g.2)).2 ?_
    rw [show ((b != g.2) != g.2) = b by cases b <;> cases g.2 <;> rfl];exact ih
  | @bwd v w b m _ j ih =>
    obtain ⟨g,hg,hv,rfl,rfl⟩:=j
    refine ((hc g hg v hv) (b != g.2)).1 ?_
    rw [show ((b != g.2) != g.2) = b by cases b <;> cases g.2 <;> rfl];exact ih
 have hb : ∀ b (k : Nat),k < (n * n).toNat -> pf E D b k = gb (ac9 n G f b) k:=fun b k hk => by
  rw [Bool.eq_iff_iff,adF hk]
  exact ⟨h.snd _ ((ic hn).2 ⟨k,hk,rfl⟩) b,key _ _⟩
 exact ⟨adH h.le adl (hb false),adH h.ld adl (hb true)⟩
theorem afs {n : Int} {G : List Sg} (hn : bz n) (hm : dL G = false) : eH n G = (ac9 n G 0 false).all id:=by
 rw [Bool.eq_iff_iff,jp,List.all_eq_true]
 unfold iE
 rw [hm]
 constructor
 ·intro h b hb
  obtain ⟨k,hk,rfl⟩:=List.mem_map.1 hb
  obtain ⟨b,hc⟩:=h k ((ic hn).2 ⟨k,List.mem_range.1 hk,rfl⟩)
  obtain rfl:=Dj hm hc
  exact @decide_eq_true _ (Classical.propDecidable _) hc
 ·intro h x hx
  obtain ⟨k,hk,rfl⟩:=(ic hn).1 hx
  refine ⟨false,(adF hk).1 ?_⟩
  have hl : k < (ac9 n G 0 false).length:=by rw [adl];exact hk
  have:=h _ (List.getElem_mem hl)
  unfold gb
  rw [Int.toNat_natCast]
  simpa [hl] using this
theorem aft {n : Int} {G : List Sg} (hn : bz n) (hm : dL G = true) : eH n G = true <-> ∀ k : Nat,k < (n * n).toNat -> gb (ac9 n G (k : Int) true) k = true:=by
 rw [jp]
 unfold iE
 rw [hm]
 constructor
 ·intro h k hk
  exact (adF hk).2 (h k ((ic hn).2 ⟨k,hk,rfl⟩))
 ·intro h x hx
  obtain ⟨k,hk,rfl⟩:=(ic hn).1 hx
  exact (adF hk).1 (h k hk)
end Go.bK
end
