/-
  Texts of the claims on chapter 3: Pl1c. No condition: lemmas and contracts.
-/
import Derived.Test.YthejmgnkenokpaaGreatDoorSy1c
set_option linter.all false
set_option maxRecDepth 100000
set_option maxHeartbeats 4000000
section
namespace Go.bK
abbrev Sg:=Int × Bool
abbrev Sp:=Int × Int × Bool
abbrev Wk:=Int × Int × Int
/-! ### Turns -/
def lW (n : Nat) : Nat -> Nat -> Nat -> Nat × Nat
 | 0,r,c => (r,c)
 | 1,r,c => (c,n - 1 - r)
 | 2,r,c => (n - 1 - r,n - 1 - c)
 | 3,r,c => (n - 1 - c,r)
 | 4,r,c => (r,n - 1 - c)
 | 5,r,c => (c,r)
 | 6,r,c => (n - 1 - r,c)
 | _,r,c => (n - 1 - c,n - 1 - r)
def td (n t x : Nat) : Nat:=(lW n t (x / n) (x % n)).1 * n + (lW n t (x / n) (x % n)).2
def dG (n : Nat) (p : Nat -> Bool) : Bool:=(List.range n).all p
theorem bV {n : Nat} {p : Nat -> Bool} : dG n p = true <-> ∀ i,i < n -> p i = true:=by simp [dG,List.all_eq_true]
def Ms : List Nat:=[0,1,2,3,4,5,6,7,1,2,3,0,5,6,7,4,2,3,0,1,6,7,4,5,3,0,1,2,7,4,5,6,4,7,6,5,0,3,2,1,5,4,7,6,1,0,3,2,6,5,4,7,2,1,0,3,7,6,5,4,3,2,1,0]
def cmp (a b : Nat) : Nat:=Ms.getD (8 * a + b) 0
def inv (a : Nat) : Nat:=[0,3,2,1,4,5,6,7].getD a 0
theorem GQ : dG 8 (fun a => dG 8 fun b => decide (cmp a b < 8) && (dG 8 fun c => cmp (cmp a b) c == cmp a (cmp b c))) = true:=by decide +kernel
theorem MR : dG 8 (fun a => decide (inv a < 8) && (cmp a (inv a) == 0 && (cmp (inv a) a == 0 && (cmp a 0 == a && cmp 0 a == a)))) = true:=by decide +kernel
theorem MS : dG 7 (fun n => dG 8 fun a => dG (n * n) fun x => decide (td n a x < n * n)) = true:=by decide +kernel
theorem MT : dG 7 (fun n => dG (n * n) fun x => dG 8 fun a => dG 8 fun b => td n b (td n a x) == td n (cmp a b) x) = true:=by decide +kernel
theorem MU : dG 7 (fun n => dG (n * n) fun x => td n 0 x == x) = true:=by decide +kernel
theorem og {a b : Nat} (ha : a < 8) (hb : b < 8) : cmp a b < 8:=by
 have h:=bV.1 (bV.1 GQ a ha) b hb
 simp only [Bool.and_eq_true,decide_eq_true_eq] at h
 exact h.1
theorem xD {a b c : Nat} (ha : a < 8) (hb : b < 8) (hc : c < 8) : cmp (cmp a b) c = cmp a (cmp b c):=by
 have h:=bV.1 (bV.1 GQ a ha) b hb
 simp only [Bool.and_eq_true] at h
 exact eq_of_beq (bV.1 h.2 c hc)
theorem gW {a : Nat} (ha : a < 8) : inv a < 8 /\ cmp a (inv a) = 0 /\ cmp (inv a) a = 0 /\ cmp a 0 = a /\ cmp 0 a = a:=by
 have h:=bV.1 MR a ha
 simp only [Bool.and_eq_true,decide_eq_true_eq,beq_iff_eq] at h
 exact h
theorem FA {n a x : Nat} (hn : n < 7) (ha : a < 8) (hx : x < n * n) : td n a x < n * n:=by
 have h:=bV.1 (bV.1 (bV.1 MS n hn) a ha) x hx
 simpa using h
theorem KG {n a b x : Nat} (hn : n < 7) (ha : a < 8) (hb : b < 8) (hx : x < n * n) : td n b (td n a x) = td n (cmp a b) x:=by
 have h:=bV.1 (bV.1 (bV.1 (bV.1 MT n hn) x hx) a ha) b hb
 exact eq_of_beq h
theorem LY {n x : Nat} (hn : n < 7) (hx : x < n * n) : td n 0 x = x:=by
 have h:=bV.1 (bV.1 MU n hn) x hx
 exact eq_of_beq h
/-! ### The same with integers -/
def aX (n t x : Int) : Int:=(td n.toNat t.toNat x.toNat : Nat)
def bJ (a b : Int) : Int:=(cmp a.toNat b.toNat : Nat)
def cD (a : Int) : Int:=(inv a.toNat : Nat)
/-! ### How the program composes -/
def agree (a b t : Nat) : Bool:=dG 9 fun x => td 3 t x == td 3 b (td 3 a x)
theorem MV : dG 8 (fun a => dG 8 fun b => dG 8 fun t => agree a b t == (t == cmp a b)) = true:=by decide +kernel
theorem xk {a b t : Nat} (ha : a < 8) (hb : b < 8) (ht : t < 8) : agree a b t = (t == cmp a b):=by
 have h:=bV.1 (bV.1 (bV.1 MV a ha) b hb) t ht
 exact eq_of_beq h
theorem MX : dG 8 (fun a => dG 8 fun t => (cmp a t == 0) == (t == inv a)) = true:=by decide +kernel
theorem wK {a t : Nat} (ha : a < 8) (ht : t < 8) : (cmp a t == 0) = (t == inv a):=by
 have h:=bV.1 (bV.1 MX a ha) t ht
 exact eq_of_beq h
end Go.bK
namespace Go.bK
/-! ### The specification's way to turn -/
end Go.bK
end
section
namespace Go.bK
def aQ (n lo hi : Int) : Bool:=decide (lo <= n) && decide (n <= hi)
theorem akk {n lo hi : Int} : aQ n lo hi = true <-> lo <= n /\ n <= hi:=by simp [aQ]
def eJ (P : Int) (w : Wk) : Bool:=aQ w.1 0 (P - 1) && aQ w.2.1 0 (P - 1) && (w.1 != w.2.1) && aQ w.2.2 0 7
def dY (P : Int) : List Wk -> Bool
 | [] => true
 | w :: L => eJ P w && dY P L
def wk (L : List Wk) (i : Nat) : Wk:=L.getD i (0,0,0)
theorem Dm {L : List Wk} {i : Nat} (h : i < L.length) : L.drop i = wk L i :: L.drop (i + 1):=by
 rw [List.drop_eq_getElem_cons h];congr 1;simp [wk,h]
theorem rS {P : Int} {L : List Wk} {i : Nat} (h : i < L.length) (hb : eJ P (wk L i) = false) : dY P (L.drop i) = false:=by
 rw [Dm h,dY,hb];rfl
theorem Ei {P : Int} {L : List Wk} {i : Nat} (h : i < L.length) (hb : eJ P (wk L i) = true) : dY P (L.drop i) = dY P (L.drop (i + 1)):=by
 rw [Dm h,dY,hb];rfl
theorem Eh {P : Int} {L : List Wk} {i : Nat} (h : L.length <= i) : dY P (L.drop i) = true:=by
 rw [List.drop_eq_nil_of_le h];rfl
theorem cW {P : Int} {L : List Wk} : dY P L = true <-> ∀ w ∈ L,eJ P w = true:=by
 induction L with
 | nil => simp [dY]
 | cons w L ih => simp [dY,ih]
def bD (n P : Int) (L : List Wk) : Int:=if (aQ n 1 6 && aQ P 1 6) = false then 1 else if L.length > 16 then 2 else if dY P L = true then 0 else 1
structure Ep (n P : Int) (L : List Wk) : Prop where
 n : 1 <= n /\ n <= 6
 p : 1 <= P /\ P <= 6
 l : L.length <= 16
 w : ∀ w ∈ L,eJ P w = true
theorem oe {n P : Int} {L : List Wk} : bD n P L = 0 <-> Ep n P L:=by
 unfold bD
 constructor
 ·intro h
  split at h
  ·cases h
  ·rename_i h1
   simp only [Bool.not_eq_false,Bool.and_eq_true] at h1
   split at h
   ·cases h
   ·split at h
    ·rename_i h2 h3
     exact ⟨akk.1 h1.1,akk.1 h1.2,by omega,cW.1 h3⟩
    ·cases h
 ·rintro ⟨h1,h2,h3,h4⟩
  rw [if_neg (by rw [akk.2 h1,akk.2 h2];decide),if_neg (by omega),if_pos (cW.2 h4)]
theorem rR {P : Int} {w : Wk} (h : eJ P w = true) : (0 <= w.1 /\ w.1 <= P - 1) /\ (0 <= w.2.1 /\ w.2.1 <= P - 1) /\ w.1 ≠ w.2.1 /\ (0 <= w.2.2 /\ w.2.2 <= 7):=by
 simp only [eJ,Bool.and_eq_true,akk,bne_iff_ne,ne_eq] at h
 exact ⟨h.1.1.1,h.1.1.2,h.1.2,h.2⟩
theorem Cf {L : List Wk} {i : Nat} (h : i < L.length) : wk L i ∈ L:=by simp [wk,h]
end Go.bK
end
section
namespace Go.bK
def dy (L : List Wk) (s : Int) : Int × Int × Int :=
 if s < 0 then ((wk L (-1 - s).toNat).2.1,(wk L (-1 - s).toNat).1,cD (wk L (-1 - s).toNat).2.2) else ((wk L s.toNat).1,(wk L s.toNat).2.1,(wk L s.toNat).2.2)
def bw (L : List Wk) (x : Sp) (s : Int) : Sp:=((dy L s).2.1,bJ x.2.1 (dy L s).2.2,!x.2.2)
def bM (L : List Wk) (x : Sp) (s : Int) : Bool:=(dy L s).1 == x.1
def cT (t : Int) : Prop:=0 <= t /\ t <= 7
theorem Di {a b : Int} (ha : cT a) (hb : cT b) : cT (bJ a b):=by
 have:=og (a:=a.toNat) (b:=b.toNat) (by unfold cT at ha;omega) (by unfold cT at hb;omega)
 unfold cT bJ;omega
theorem abD {a : Int} (ha : cT a) : cT (cD a):=by
 have:=(gW (a:=a.toNat) (by unfold cT at ha;omega)).1
 unfold cT cD;omega
def cx (P : Int) (L : List Wk) : Prop:=∀ w ∈ L,eJ P w = true
theorem cx.at {P : Int} {L : List Wk} (h : cx P L) {i : Nat} (hi : i < L.length) : (0 <= (wk L i).1 /\ (wk L i).1 <= P - 1) /\ (0 <= (wk L i).2.1 /\ (wk L i).2.1 <= P - 1) /\ (wk L i).1 ≠ (wk L i).2.1 /\ (0 <= (wk L i).2.2 /\ (wk L i).2.2 <= 7) :=
 rR (h _ (Cf hi))
def bS (L : List Wk) (s : Int) : Prop:=-(L.length : Int) <= s /\ s < (L.length : Int)
theorem r8 {P : Int} {L : List Wk} (h : cx P L) {s : Int} (hs : bS L s) : (0 <= (dy L s).1 /\ (dy L s).1 <= P - 1) /\ (0 <= (dy L s).2.1 /\ (dy L s).2.1 <= P - 1) /\ cT (dy L s).2.2:=by
 unfold dy
 split
 ·have:=h.at (i:=(-1 - s).toNat) (by unfold bS at hs;omega)
  exact ⟨this.2.1,this.1,abD this.2.2.2⟩
 ·have:=h.at (i:=s.toNat) (by unfold bS at hs;omega)
  exact ⟨this.1,this.2.1,this.2.2.2⟩
end Go.bK
end
section
namespace Go.bK
def gi (x : List Int) (v : Int) : Int:=x.getD v.toNat 0
theorem r7 {c : List Int} {lo : Nat} (h : lo < c.length) : c.drop lo = gi c lo :: c.drop (lo + 1):=by
 rw [List.drop_eq_getElem_cons h];congr 1;simp [gi,h]
theorem qL {c : List Int} {i : Nat} (h : i < c.length) : gi c i ∈ c:=by simp [gi,h]
def bj (L : List Wk) : Sp -> List Int -> Sp × Bool
 | x,[] => (x,true)
 | x,s :: w => match bM L x s with | true => bj L (bw L x s) w | false => ((0,0,false),false)
theorem GX {L : List Wk} {x : Sp} {w : List Int} {i : Nat} (h : i < w.length) (hb : bM L x (gi w i) = false) : bj L x (w.drop i) = ((0,0,false),false):=by
 rw [r7 h,bj,hb]
theorem Dy {L : List Wk} {x : Sp} {w : List Int} {i : Nat} (h : i < w.length) (hb : bM L x (gi w i) = true) : bj L x (w.drop i) = bj L (bw L x (gi w i)) (w.drop (i + 1)):=by
 rw [r7 h];conv => lhs;rw [bj,hb]
theorem Dw {L : List Wk} {x : Sp} {w : List Int} {i : Nat} (h : w.length <= i) : bj L x (w.drop i) = (x,true):=by
 rw [List.drop_eq_nil_of_le h];rfl
def fm (L : List Wk) (s : Int) : Bool:=aQ s (-(L.length : Int)) ((L.length : Int) - 1)
def bN (L : List Wk) : List Int -> Bool
 | [] => true
 | s :: w => fm L s && bN L w
theorem yw {L : List Wk} {w : List Int} (h : bN L w = true) : ∀ s ∈ w,-(L.length : Int) <= s /\ s < (L.length : Int):=by
 induction w with
 | nil => simp
 | cons a w ih =>
   simp only [bN,Bool.and_eq_true,fm,akk] at h
   intro s hs
   rcases List.mem_cons.1 hs with rfl | hs
   ·omega
   ·exact ih h.2 s hs
theorem BU {L : List Wk} {w : List Int} {i : Nat} (h : i < w.length) (hb : fm L (gi w i) = false) : bN L (w.drop i) = false:=by
 rw [r7 h,bN,hb];rfl
theorem yx {L : List Wk} {w : List Int} {i : Nat} (h : i < w.length) (hb : fm L (gi w i) = true) : bN L (w.drop i) = bN L (w.drop (i + 1)):=by
 rw [r7 h,bN,hb];rfl
theorem yu {L : List Wk} {w : List Int} {i : Nat} (h : w.length <= i) : bN L (w.drop i) = true:=by
 rw [List.drop_eq_nil_of_le h];rfl
theorem mu {P : Int} {L : List Wk} (h : dY P L = true) {x : Sp} (hx : cT x.2.1) {s : Int} (hs : bS L s) : cT (bw L x s).2.1 /\ 0 <= (bw L x s).1 /\ (bw L x s).1 <= P - 1:=by
 have:=r8 (cW.1 h) hs
 exact ⟨Di hx this.2.2,this.2.1⟩
end Go.bK
end
section
namespace Go.bK
theorem wg {α : Type} {f : α -> Bool} {L : List α} {i : Nat} {d : α} (h : i < L.length) (hf : f (L.getD i d) = true) : (L.drop i).any f = true:=by
 rw [List.drop_eq_getElem_cons h,List.any_cons]
 have : L.getD i d = L[i]:=by simp [h]
 rw [<- this,hf];rfl
theorem zx {α : Type} {f : α -> Bool} {L : List α} {i : Nat} {d : α} (h : i < L.length) (hf : f (L.getD i d) = false) : (L.drop i).any f = (L.drop (i + 1)).any f:=by
 rw [List.drop_eq_getElem_cons h,List.any_cons]
 have : L.getD i d = L[i]:=by simp [h]
 rw [<- this,hf];rfl
theorem we {α : Type} {f : α -> Bool} {L : List α} {i : Nat} (h : L.length <= i) : (L.drop i).any f = false:=by
 rw [List.drop_eq_nil_of_le h];rfl
def fW (w : List Int) : Bool:=decide ((w.length : Int) > 96)
def cK (L : List Wk) (W : List (List Int)) : Int:=match W.any fW with | true => 2 | false => match W.any (fun w => !bN L w) with | true => 1 | false => 0
def gL (W : List (List Int)) (i : Nat) : List Int:=W.getD i []
theorem AA {W : List (List Int)} {i : Nat} (h : i < W.length) : gL W i ∈ W:=by simp [gL,h]
end Go.bK
end
section
namespace Go.bK
abbrev bR:=Sp × List Int
def aG : bR:=((0,0,false),[])
def dh (E : List bR) (x : Sp) : Bool:=E.any (fun e => e.1 == x)
def j9 (L : List Wk) (h : Nat) (E : List bR) (s : Int) : List bR :=
 match bM L (E.getD h aG).1 s && !dh E (bw L (E.getD h aG).1 s) with
 | true => E ++ [(bw L (E.getD h aG).1 s,(E.getD h aG).2 ++ [s])]
 | false => E
def gC (L : List Wk) (h : Nat) : Nat -> List bR -> List bR
 | 0,E => E
 | n + 1,E => gC L h n (j9 L h E ((L.length : Int) - (n + 1 : Nat)))
def iv (L : List Wk) : Nat -> Nat -> List bR -> List bR
 | 0,_,E => E
 | f + 1,h,E => match decide (h < E.length) with | true => iv L f (h + 1) (gC L h (2 * L.length) E) | false => E
def ag5 (L : List Wk) (p : Int) : List bR:=iv L 97 0 [((p,0,false),[])]
structure da (P : Int) (L : List Wk) (E : List bR) : Prop where
 nd : (E.map (·.1)).Nodup
 ok : ∀ e ∈ E,(0 <= e.1.1 /\ e.1.1 <= P - 1) /\ cT e.1.2.1
 len : ∀ i,i < E.length -> (E.getD i aG).2.length <= i
theorem Bn : ∀ (N : Nat) (l : List Int),l.Nodup -> (∀ x ∈ l,0 <= x /\ x < N) -> l.length <= N
 | 0,l,_,h => by
   cases l with
   | nil => simp
   | cons a l => have:=h a (List.mem_cons_self ..);omega
 | N + 1,l,hd,h => by
   have h1:=Bn N (l.erase (N : Int)) (hd.erase _) (fun x hx => by
    have h2:=h x (List.mem_of_mem_erase hx)
    have h3 : x ≠ (N : Int):=fun e => by subst e;exact (hd.not_mem_erase) hx
    omega)
   by_cases hm : (N : Int) ∈ l
   ·rw [List.length_erase_of_mem hm] at h1;omega
   ·rw [List.erase_of_not_mem hm] at h1;omega
def uM (x : Sp) : Int:=x.1 * 16 + x.2.1 * 2 + (match x.2.2 with | true => 1 | false => 0)
theorem IU {x y : Sp} (hx : cT x.2.1) (hy : cT y.2.1) (h : uM x = uM y) : x = y:=by
 obtain ⟨a,t,m⟩:=x
 obtain ⟨b,u,k⟩:=y
 unfold cT at hx hy
 unfold uM at h
 dsimp only at hx hy h
 cases m <;> cases k <;> dsimp only at h
 ·obtain rfl : a = b:=by omega
  obtain rfl : t = u:=by omega
  rfl
 ·omega
 ·omega
 ·obtain rfl : a = b:=by omega
  obtain rfl : t = u:=by omega
  rfl
theorem ym {α β : Type} {f : α -> β} : ∀ {l : List α},l.Nodup -> (∀ x ∈ l,∀ y ∈ l,f x = f y -> x = y) -> (l.map f).Nodup
 | [],_,_ => List.nodup_nil
 | a :: l,hd,h => by
   rw [List.map_cons,List.nodup_cons]
   rw [List.nodup_cons] at hd
   refine ⟨fun hm => ?_,ym hd.2 fun x hx y hy => h x (List.mem_cons_of_mem _ hx) y (List.mem_cons_of_mem _ hy)⟩
   obtain ⟨y,hy,e⟩:=List.mem_map.1 hm
   exact hd.1 (h y (List.mem_cons_of_mem _ hy) a (List.mem_cons_self ..) e ▸ hy)
theorem da.Kg {P : Int} {L : List Wk} {E : List bR} (h : da P L E) (hP : P <= 6) : E.length <= 96:=by
 have h1 : ((E.map (·.1)).map uM).Nodup:=ym h.nd fun x hx y hy e => by
  obtain ⟨a,ha,rfl⟩:=List.mem_map.1 hx
  obtain ⟨b,hb,rfl⟩:=List.mem_map.1 hy
  exact IU (h.ok a ha).2 (h.ok b hb).2 e
 have h2:=Bn 96 _ h1 fun x hx => by
  obtain ⟨y,hy,rfl⟩:=List.mem_map.1 hx
  obtain ⟨a,ha,rfl⟩:=List.mem_map.1 hy
  have:=h.ok a ha
  unfold cT at this
  unfold uM
  cases a.1.2.2 <;> dsimp only <;> omega
 simpa using h2
theorem kC {E : List bR} {x : Sp} : dh E x = true <-> x ∈ E.map (·.1):=by
 simp only [dh,List.any_eq_true,List.mem_map,beq_iff_eq]
theorem da.at {P : Int} {L : List Wk} {E : List bR} (h : da P L E) {i : Nat} (hi : i < E.length) : (0 <= (E.getD i aG).1.1 /\ (E.getD i aG).1.1 <= P - 1) /\ cT (E.getD i aG).1.2.1 :=
 h.ok _ (by simp [hi])
theorem da.snoc {P : Int} {L : List Wk} {E : List bR} (hE : da P L E) (hw : cx P L) {h : Nat} (hh : h < E.length) {s : Int} (hs : bS L s) (hn : dh E (bw L (E.getD h aG).1 s) = false) :
  da P L (E ++ [(bw L (E.getD h aG).1 s,(E.getD h aG).2 ++ [s])]) where
 nd:=by
  rw [List.map_append,List.map_cons,List.map_nil]
  refine List.nodup_append.2 ⟨hE.nd,by simp,?_⟩
  intro a ha b hb
  rw [List.mem_singleton] at hb
  rintro rfl
  subst hb
  rw [kC.2 ha] at hn
  cases hn
 ok:=fun e he => by
  rcases List.mem_append.1 he with he | he
  ·exact hE.ok e he
  ·rw [List.mem_singleton] at he
   subst he
   have:=mu (cW.2 hw) (hE.at hh).2 hs
   exact ⟨this.2,this.1⟩
 len:=fun i hi => by
  rw [List.length_append,List.length_singleton] at hi
  by_cases h1 : i < E.length
  ·rw [List.getD_eq_getElem?_getD,List.getElem?_append_left h1,<- List.getD_eq_getElem?_getD];exact hE.len i h1
  ·obtain rfl : i = E.length:=by omega
   have:=hE.len h hh
   rw [List.getD_eq_getElem?_getD,List.getElem?_append_right (Nat.le_refl _)]
   simp only [Nat.sub_self,List.getElem?_cons_zero,Option.getD_some,List.length_append,List.length_singleton]
   omega
theorem fP {E : List bR} {e : bR} {h : Nat} (hh : h < E.length) : (E ++ [e]).getD h aG = E.getD h aG:=by
 rw [List.getD_eq_getElem?_getD,List.getElem?_append_left hh,<- List.getD_eq_getElem?_getD]
theorem da.one {P p : Int} {L : List Wk} (hp : 0 <= p /\ p <= P - 1) : da P L [((p,0,false),[])] where
 nd:=by simp
 ok:=fun e he => by rw [List.mem_singleton] at he;subst he;exact ⟨hp,by unfold cT;dsimp only;omega⟩
 len:=fun i hi => by
  obtain rfl : i = 0:=by simp only [List.length_singleton] at hi;omega
  exact Nat.le_refl _
theorem me {L : List Wk} {h : Nat} {E : List bR} {s : Int} (h1 : bM L (E.getD h aG).1 s = true) (h2 : dh E (bw L (E.getD h aG).1 s) = false) : j9 L h E s = E ++ [(bw L (E.getD h aG).1 s,(E.getD h aG).2 ++ [s])]:=by
 unfold j9;rw [h1,h2];rfl
theorem n6 {L : List Wk} {h : Nat} {E : List bR} {s : Int} (h1 : bM L (E.getD h aG).1 s = false) : j9 L h E s = E:=by
 unfold j9;rw [h1];rfl
theorem mc {L : List Wk} {h : Nat} {E : List bR} {s : Int} (h2 : dh E (bw L (E.getD h aG).1 s) = true) : j9 L h E s = E:=by
 unfold j9;rw [h2];cases bM L (E.getD h aG).1 s <;> rfl
theorem BJ {P : Int} {L : List Wk} (hw : cx P L) {h : Nat} : ∀ (n : Nat) {E : List bR},n <= 2 * L.length -> da P L E -> h < E.length -> da P L (gC L h n E) /\ E.length <= (gC L h n E).length
 | 0,E,_,hE,_ => ⟨hE,Nat.le_refl _⟩
 | n + 1,E,hn,hE,hh => by
   have hs : bS L ((L.length : Int) - (n + 1 : Nat)):=by unfold bS;omega
   have key : da P L (j9 L h E ((L.length : Int) - (n + 1 : Nat))) /\ E.length <= (j9 L h E ((L.length : Int) - (n + 1 : Nat))).length:=by
    cases h1 : bM L (E.getD h aG).1 ((L.length : Int) - (n + 1 : Nat))
    ·rw [n6 h1];exact ⟨hE,Nat.le_refl _⟩
    cases h2 : dh E (bw L (E.getD h aG).1 ((L.length : Int) - (n + 1 : Nat)))
    ·rw [me h1 h2];exact ⟨hE.snoc hw hh hs h2,by simp⟩
    ·rw [mc h2];exact ⟨hE,Nat.le_refl _⟩
   have:=BJ hw n (by omega) key.1 (Nat.lt_of_lt_of_le hh key.2)
   exact ⟨this.1,Nat.le_trans key.2 this.2⟩
theorem yB {L : List Wk} {f h : Nat} {E : List bR} (hh : h < E.length) : iv L (f + 1) h E = iv L f (h + 1) (gC L h (2 * L.length) E):=by
 rw [iv,decide_eq_true hh]
theorem Cc {L : List Wk} {f h : Nat} {E : List bR} (hh : E.length <= h) : iv L f h E = E:=by
 cases f with
 | zero => rfl
 | succ f => rw [iv,decide_eq_false (by omega)]
end Go.bK
end
section
namespace Go.bK
def fA (c : Nat) : Sg:=(((c / 2 : Nat) : Int),c % 2 == 1)
def akt (W : List bR) (p : Int) (g : Sg) : Bool:=dh W (p,g.1,g.2)
def ee (W : List bR) (p : Int) : Nat -> List Sg
 | 0 => []
 | c + 1 => match akt W p (fA c) with | true => ee W p c ++ [fA c] | false => ee W p c
def af (L : List Wk) (p : Int) : List Sg:=ee (ag5 L p) p 16
theorem D7 {W : List bR} {p : Int} {c : Nat} (h : akt W p (fA c) = true) : ee W p (c + 1) = ee W p c ++ [fA c]:=by rw [ee,h]
theorem HY {W : List bR} {p : Int} {c : Nat} (h : akt W p (fA c) = false) : ee W p (c + 1) = ee W p c:=by rw [ee,h]
theorem oK (W : List bR) (p : Int) : ∀ c,(ee W p c).length <= c
 | 0 => Nat.le_refl _
 | c + 1 => by
   rw [ee]
   have:=oK W p c
   cases akt W p (fA c) <;> simp only [List.length_append,List.length_singleton] <;> omega
theorem HW (i : Nat) : fA (2 * i) = ((i : Int),false):=by
 unfold fA;rw [show 2 * i / 2 = i by omega,show 2 * i % 2 = 0 by omega];rfl
theorem HX (i : Nat) : fA (2 * i + 1) = ((i : Int),true):=by
 unfold fA;rw [show (2 * i + 1) / 2 = i by omega,show (2 * i + 1) % 2 = 1 by omega];rfl
end Go.bK
end
section
namespace Go.bK
def uQ (A S : List Int) (x : Nat) : Bool:=gi A x == (x : Int) && !(gi S x == 0)
def eR (A S : List Int) : Nat -> List Int
 | 0 => []
 | c + 1 => match uQ A S c with | true => eR A S c ++ [(c : Int)] | false => eR A S c
theorem Lf {A S : List Int} {c : Nat} (h : uQ A S c = true) : eR A S (c + 1) = eR A S c ++ [(c : Int)]:=by rw [eR,h]
theorem GK {A S : List Int} {c : Nat} (h : uQ A S c = false) : eR A S (c + 1) = eR A S c:=by rw [eR,h]
theorem r9 (A S : List Int) : ∀ c,(eR A S c).length <= c
 | 0 => Nat.le_refl _
 | c + 1 => by
   rw [eR]
   have:=r9 A S c
   cases uQ A S c <;> simp only [List.length_append,List.length_singleton] <;> omega
end Go.bK
end
section
namespace Go.bK
theorem BN {α : Type} [BEq α] [LawfulBEq α] {A B : List α} (h : A.length ≠ B.length) : (A == B) = false:=by
 rw [Bool.eq_false_iff];intro e;exact h (congrArg List.length (eq_of_beq e))
theorem D5 {α : Type} [BEq α] [LawfulBEq α] {A B : List α} {d : α} {i : Nat} (h : A.getD i d ≠ B.getD i d) : (A == B) = false:=by
 rw [Bool.eq_false_iff];intro e;rw [eq_of_beq e] at h;exact h rfl
theorem BO {α : Type} [BEq α] [LawfulBEq α] {A B : List α} {d : α} (hl : A.length = B.length) (h : ∀ j,j < A.length -> A.getD j d = B.getD j d) : (A == B) = true:=by
 rw [beq_iff_eq]
 refine List.ext_getElem hl fun j h1 h2 => ?_
 have:=h j h1
 rw [List.getD_eq_getElem?_getD,List.getD_eq_getElem?_getD,List.getElem?_eq_getElem h1,List.getElem?_eq_getElem h2] at this
 simpa using this
def dL (G : List Sg) : Bool:=G.any (fun g => g.2)
def sg (G : List Sg) (i : Nat) : Sg:=G.getD i (0,false)
theorem aaq {G : List Sg} {i : Nat} (h : i < G.length) : sg G i ∈ G:=by simp [sg,h]
end Go.bK
end
section
namespace Go.bK
def oP (n : Int) (G : List Sg) (k : Nat) (x : Int) : Int:=aX n (sg G k).1 x
def cU (n : Int) (G : List Sg) (x : Int) : Nat -> Int
 | 0 => x
 | k + 1 => if oP n G k x < cU n G x k then oP n G k x else cU n G x k
def aK (n : Int) (G : List Sg) (x : Int) : Int:=cU n G x G.length
def ay (f : Int -> Int) (N x : Nat) : List Int:=(List.range N).map fun y => if y < x then f (y : Nat) else 0
theorem c7 {f : Int -> Int} {N x : Nat} : (ay f N x).length = N:=by simp [ay]
theorem qh {f : Int -> Int} {N : Nat} : ay f N 0 = List.replicate N 0:=by
 refine List.ext_getElem (by simp [ay]) fun j h1 h2 => ?_
 simp [ay]
theorem oQ {f : Int -> Int} {N x : Nat} : (ay f N x).set x (f (x : Nat)) = ay f N (x + 1):=by
 refine List.ext_getElem (by simp [ay]) fun j h1 h2 => ?_
 rw [List.getElem_set]
 simp only [ay,List.getElem_map,List.getElem_range]
 by_cases h : x = j
 ·subst h;rw [if_pos rfl,if_pos (by omega)]
 ·rw [if_neg h]
  by_cases h3 : j < x
  ·rw [if_pos h3,if_pos (by omega)]
  ·rw [if_neg h3,if_neg (by omega)]
theorem yt {l : List Int} {i : Nat} {a b : Int} : (l.set i a).set i b = l.set i b:=List.set_set ..
theorem G3 {l : List Int} {i : Nat} {v : Int} (h : i < l.length) : gi (l.set i v) i = v:=by simp [gi,h]
theorem K1 {f : Int -> Int} {N x : Nat} (h : x < N) : gi (ay f N (x + 1)) x = f (x : Nat):=by
 rw [<- oQ];exact G3 (by rw [c7];exact h)
theorem rP {n t x : Int} (hn : 1 <= n /\ n <= 6) (ht : 0 <= t /\ t <= 7) (hx : 0 <= x /\ x < n * n) : 0 <= aX n t x /\ aX n t x < n * n:=by
 unfold aX
 have h1 : (n.toNat : Int) = n:=Int.toNat_of_nonneg (by omega)
 have cO : x.toNat < n.toNat * n.toNat:=by
  have : (x.toNat : Int) < ((n.toNat * n.toNat : Nat) : Int):=by
   rw [Int.natCast_mul,h1,Int.toNat_of_nonneg hx.1];exact hx.2
  exact_mod_cast this
 have:=FA (n:=n.toNat) (a:=t.toNat) (x:=x.toNat) (by omega) (by omega) cO
 refine ⟨Int.natCast_nonneg _,?_⟩
 have h2 : ((td n.toNat t.toNat x.toNat : Nat) : Int) < ((n.toNat * n.toNat : Nat) : Int):=by exact_mod_cast this
 rwa [Int.natCast_mul,h1] at h2
end Go.bK
end
section
namespace Go.bK
theorem tH {L : List Wk} : ∀ {w : List Int} {x y : Sp} {s : Int},bj L x w = (y,true) -> bM L y s = true -> bj L x (w ++ [s]) = (bw L y s,true)
 | [],x,y,s,h,hs => by
   obtain rfl : x = y:=(Prod.mk.inj h).1
   show bj L x [s] = _
   rw [bj,hs];rfl
 | a :: w,x,y,s,h,hs => by
   show bj L x (a :: (w ++ [s])) = _
   rw [bj] at h ⊢
   cases hb : bM L x a <;> rw [hb] at h <;> dsimp only at h ⊢
   ·cases h
   ·exact tH h hs
theorem uW {L : List Wk} : ∀ {w v : List Int} {x y : Sp},bj L x w = (y,true) -> bj L x (w ++ v) = bj L y v
 | [],v,x,y,h => by
   obtain rfl : x = y:=(Prod.mk.inj h).1
   rfl
 | a :: w,v,x,y,h => by
   show bj L x (a :: (w ++ v)) = _
   rw [bj] at h ⊢
   cases hb : bM L x a <;> rw [hb] at h <;> dsimp only at h ⊢
   ·cases h
   ·exact uW h
theorem vR {L : List Wk} {w : List Int} : bN L w = true <-> ∀ s ∈ w,bS L s:=by
 induction w with
 | nil => simp [bN]
 | cons a w ih =>
   simp only [bN,Bool.and_eq_true,ih,List.forall_mem_cons]
   refine and_congr ?_ Iff.rfl
   simp only [fm,akk,bS]
   omega
/-! ### What the search does -/
theorem sH {P : Int} {L : List Wk} (hw : cx P L) {h : Nat} (D : Nat -> List bR -> Prop)
  (hD : ∀ n E,n < 2 * L.length -> da P L E -> h < E.length -> D (n + 1) E -> D n (j9 L h E ((L.length : Int) - (n + 1 : Nat)))) :
  ∀ (n : Nat) {E : List bR},n <= 2 * L.length -> da P L E -> h < E.length -> D n E -> D 0 (gC L h n E)
 | 0,E,_,_,_,d => d
 | n + 1,E,hn,hE,hh,d => by
   have h1:=BJ hw (h:=h) 1 (E:=E) (by omega) hE hh
   have hs : bS L ((L.length : Int) - (n + 1 : Nat)):=by unfold bS;omega
   have key : da P L (j9 L h E ((L.length : Int) - (n + 1 : Nat))) /\ E.length <= (j9 L h E ((L.length : Int) - (n + 1 : Nat))).length:=by
    cases h1 : bM L (E.getD h aG).1 ((L.length : Int) - (n + 1 : Nat))
    ·rw [n6 h1];exact ⟨hE,Nat.le_refl _⟩
    cases h2 : dh E (bw L (E.getD h aG).1 ((L.length : Int) - (n + 1 : Nat)))
    ·rw [me h1 h2];exact ⟨hE.snoc hw hh hs h2,by simp⟩
    ·rw [mc h2];exact ⟨hE,Nat.le_refl _⟩
   exact sH hw D hD n (by omega) key.1 (Nat.lt_of_lt_of_le hh key.2) (hD n E (by omega) hE hh d)
theorem ug {P : Int} {L : List Wk} (hw : cx P L) (hP : P <= 6) (C : Nat -> List bR -> Prop)
  (hC : ∀ h E,da P L E -> h < E.length -> C h E -> C (h + 1) (gC L h (2 * L.length) E)) :
  ∀ (f h : Nat) (E : List bR),da P L E -> h <= E.length -> 97 <= h + f -> C h E -> da P L (iv L f h E) /\ C (iv L f h E).length (iv L f h E)
 | 0,h,E,hE,hh,hf,c => by have:=hE.Kg hP;omega
 | f + 1,h,E,hE,hh,hf,c => by
   rcases Nat.lt_or_ge h E.length with h1 | h1
   ·rw [yB h1]
    have:=BJ hw (2 * L.length) (Nat.le_refl _) hE h1
    exact ug hw hP C hC f (h + 1) _ this.1 (by omega) (by omega) (hC h E hE h1 c)
   ·rw [Cc h1]
    obtain rfl : h = E.length:=by omega
    exact ⟨hE,c⟩
theorem Ca {P : Int} {L : List Wk} (hw : cx P L) (hP : P <= 6) {p : Int} (hp : 0 <= p /\ p <= P - 1) (C : Nat -> List bR -> Prop)
  (hC : ∀ h E,da P L E -> h < E.length -> C h E -> C (h + 1) (gC L h (2 * L.length) E)) (h0 : C 0 [((p,0,false),[])]) :
  C (ag5 L p).length (ag5 L p) :=
 (ug hw hP C hC 97 0 _ (da.one hp) (Nat.zero_le _) (by omega) h0).2
theorem xh {P : Int} {L : List Wk} (hw : cx P L) (hP : P <= 6) {p : Int} (hp : 0 <= p /\ p <= P - 1) : da P L (ag5 L p) :=
 (ug hw hP (fun _ _ => True) (fun _ _ _ _ _ => trivial) 97 0 _ (da.one hp) (Nat.zero_le _) (by omega) trivial).1
def B9 (L : List Wk) (p : Int) (e : bR) : Prop:=bj L (p,0,false) e.2 = (e.1,true) /\ ∀ s ∈ e.2,bS L s
theorem pc {E : List bR} {h : Nat} (hh : h < E.length) : E.getD h aG ∈ E:=by simp [hh]
theorem yC {P : Int} {L : List Wk} (hw : cx P L) (hP : P <= 6) {p : Int} (hp : 0 <= p /\ p <= P - 1) : ∀ e ∈ ag5 L p,B9 L p e:=by
 refine Ca hw hP hp (fun _ E => ∀ e ∈ E,B9 L p e) (fun h E hE hh c => ?_) (fun e he => ?_)
 ·refine sH hw (h:=h) (fun _ E => ∀ e ∈ E,B9 L p e) (fun n E hn hE hh c => ?_) (2 * L.length) (Nat.le_refl _) hE hh c
  have hs : bS L ((L.length : Int) - (n + 1 : Nat)):=by unfold bS;omega
  cases h1 : bM L (E.getD h aG).1 ((L.length : Int) - (n + 1 : Nat))
  ·rw [n6 h1];exact c
  cases h2 : dh E (bw L (E.getD h aG).1 ((L.length : Int) - (n + 1 : Nat)))
  ·rw [me h1 h2]
   intro e he
   rcases List.mem_append.1 he with he | he
   ·exact c e he
   ·rw [List.mem_singleton] at he
    subst he
    have hc:=c _ (pc hh)
    refine ⟨tH hc.1 h1,fun s hs' => ?_⟩
    rcases List.mem_append.1 hs' with hs' | hs'
    ·exact hc.2 s hs'
    ·rw [List.mem_singleton] at hs';subst hs';exact hs
  ·rw [mc h2];exact c
 ·rw [List.mem_singleton] at he;subst he
  exact ⟨rfl,fun s hs => by cases hs⟩
def dp (E : List bR) (i : Nat) : Nat:=(E.getD i aG).2.length
def HJ (L : List Wk) (E : List bR) (i : Nat) (s : Int) : Prop:=bM L (E.getD i aG).1 s = true -> ∃ j,j < E.length /\ (E.getD j aG).1 = bw L (E.getD i aG).1 s /\ dp E j <= dp E i + 1
structure Bf (L : List Wk) (h : Nat) (E : List bR) : Prop where
 up : ∀ i j,i <= j -> j < E.length -> dp E i <= dp E j
 cl : h < E.length -> ∀ j,j < E.length -> dp E j <= dp E h + 1
 nb : ∀ i,i < h -> ∀ s,bS L s -> HJ L E i s
theorem Bj {L : List Wk} {E : List bR} {e : bR} {i : Nat} {s : Int} (hi : i < E.length) (h : HJ L E i s) : HJ L (E ++ [e]) i s:=by
 intro hf
 rw [fP hi] at hf ⊢
 obtain ⟨j,hj,e1,e2⟩:=h hf
 refine ⟨j,by rw [List.length_append];omega,by rw [fP hj];exact e1,?_⟩
 unfold dp at e2 ⊢
 rw [fP hj,fP hi];exact e2
theorem xO {E : List bR} {e : bR} : (E ++ [e]).getD E.length aG = e:=by simp
theorem LN {E : List bR} {x : Sp} (h : dh E x = true) : ∃ j,j < E.length /\ (E.getD j aG).1 = x:=by
 obtain ⟨e,he,rfl⟩:=List.mem_map.1 (kC.1 h)
 obtain ⟨j,hj,rfl⟩:=List.mem_iff_getElem.1 he
 exact ⟨j,hj,by simp [hj]⟩
theorem Z4 {E : List bR} {e : bR} {i : Nat} (hi : i < E.length) : dp (E ++ [e]) i = dp E i:=by unfold dp;rw [fP hi]
theorem r6 {E : List bR} {e : bR} : dp (E ++ [e]) E.length = e.2.length:=by unfold dp;rw [xO]
theorem Ml {P : Int} {L : List Wk} (hw : cx P L) {h : Nat} {E : List bR} (hE : da P L E) (hh : h < E.length) (c : Bf L h E) : Bf L (h + 1) (gC L h (2 * L.length) E):=by
 have:=sH hw (h:=h) (fun n E => h < E.length /\ (∀ i j,i <= j -> j < E.length -> dp E i <= dp E j) /\ (∀ j,j < E.length -> dp E j <= dp E h + 1) /\ (∀ i,i < h -> ∀ s,bS L s -> HJ L E i s) /\ ∀ s,bS L s -> s < (L.length : Int) - n -> HJ L E h s) (fun n E hn hE hh ⟨_,c1,c2,c3,c4⟩ => ?_) (2 * L.length) (Nat.le_refl _) hE hh ⟨hh,c.up,c.cl hh,c.nb,fun s hs h1 => by unfold bS at hs;omega⟩
 ·obtain ⟨h0,c1,c2,c3,c4⟩:=this
  refine ⟨c1,fun h1 j hj => Nat.le_trans (c2 j hj) (by have:=c1 h (h + 1) (by omega) h1;omega),fun i hi s hs => ?_⟩
  rcases Nat.lt_or_ge i h with h1 | h1
  ·exact c3 i h1 s hs
  ·obtain rfl : i = h:=by omega
   exact c4 s hs (by unfold bS at hs;omega)
 ·have fK : ∀ s,bS L s -> s < (L.length : Int) - n -> ¬ s < (L.length : Int) - (n + 1 : Nat) -> s = (L.length : Int) - (n + 1 : Nat):=fun s _ h1 h2 => by omega
  cases h1 : bM L (E.getD h aG).1 ((L.length : Int) - (n + 1 : Nat))
  ·rw [n6 h1]
   refine ⟨hh,c1,c2,c3,fun s hs h2 => ?_⟩
   by_cases h3 : s < (L.length : Int) - (n + 1 : Nat)
   ·exact c4 s hs h3
   ·rw [fK s hs h2 h3];intro h4;rw [h1] at h4;cases h4
  cases h2 : dh E (bw L (E.getD h aG).1 ((L.length : Int) - (n + 1 : Nat)))
  ·rw [me h1 h2]
   have hlen : ∀ e : bR,(E ++ [e]).length = E.length + 1:=fun e => by simp
   refine ⟨by rw [hlen];omega,fun i j hij hj => ?_,fun j hj => ?_,fun i hi s hs => Bj (by omega) (c3 i hi s hs),fun s hs h3 => ?_⟩
   ·rw [hlen] at hj
    rcases Nat.lt_or_ge j E.length with h3 | h3
    ·rw [Z4 h3,Z4 (by omega)];exact c1 i j hij h3
    ·obtain rfl : j = E.length:=by omega
     rw [r6,List.length_append,List.length_singleton]
     rcases Nat.lt_or_ge i E.length with h4 | h4
     ·rw [Z4 h4];exact c2 i h4
     ·obtain rfl : i = E.length:=by omega
      rw [r6,List.length_append,List.length_singleton];exact Nat.le_refl _
   ·rw [hlen] at hj
    rw [Z4 hh]
    rcases Nat.lt_or_ge j E.length with h3 | h3
    ·rw [Z4 h3];exact c2 j h3
    ·obtain rfl : j = E.length:=by omega
     rw [r6,List.length_append,List.length_singleton];exact Nat.le_refl _
   ·by_cases h4 : s < (L.length : Int) - (n + 1 : Nat)
    ·exact Bj hh (c4 s hs h4)
    ·rw [fK s hs h3 h4]
     intro _
     refine ⟨E.length,by rw [hlen];omega,?_,?_⟩
     ·rw [xO,fP hh]
     ·rw [r6,Z4 hh,List.length_append,List.length_singleton];exact Nat.le_refl _
  ·rw [mc h2]
   refine ⟨hh,c1,c2,c3,fun s hs h3 => ?_⟩
   by_cases h4 : s < (L.length : Int) - (n + 1 : Nat)
   ·exact c4 s hs h4
   ·rw [fK s hs h3 h4]
    intro _
    obtain ⟨j,hj,e⟩:=LN h2
    exact ⟨j,hj,e,c2 j hj⟩
theorem aaw {P : Int} {L : List Wk} (hw : cx P L) (hP : P <= 6) {p : Int} (hp : 0 <= p /\ p <= P - 1) : Bf L (ag5 L p).length (ag5 L p):=by
 refine Ca hw hP hp (Bf L) (fun h E hE hh c => Ml hw hE hh c) ⟨fun i j hij hj => ?_,fun _ j hj => ?_,fun i hi => absurd hi (Nat.not_lt_zero _)⟩
 ·have : j = 0:=by simp at hj;omega
  subst this
  obtain rfl : i = 0:=by omega
  exact Nat.le_refl _
 ·have : j = 0:=by simp at hj;omega
  subst this
  exact Nat.le_succ _
theorem Ic {P : Int} {L : List Wk} (hw : cx P L) (hP : P <= 6) {p : Int} (hp : 0 <= p /\ p <= P - 1) : 0 < (ag5 L p).length /\ (ag5 L p).getD 0 aG = ((p,0,false),[]):=by
 refine Ca hw hP hp (fun _ E => 0 < E.length /\ E.getD 0 aG = ((p,0,false),[])) (fun h E hE hh c => ?_) ⟨Nat.one_pos,rfl⟩
 refine sH hw (h:=h) (fun _ E => 0 < E.length /\ E.getD 0 aG = ((p,0,false),[])) (fun n E hn hE hh c => ?_) (2 * L.length) (Nat.le_refl _) hE hh c
 cases h1 : bM L (E.getD h aG).1 ((L.length : Int) - (n + 1 : Nat))
 ·rw [n6 h1];exact c
 cases h2 : dh E (bw L (E.getD h aG).1 ((L.length : Int) - (n + 1 : Nat)))
 ·rw [me h1 h2];exact ⟨by simp,by rw [fP c.1];exact c.2⟩
 ·rw [mc h2];exact c
theorem Cb {P : Int} {L : List Wk} (hw : cx P L) (hP : P <= 6) {p : Int} (hp : 0 <= p /\ p <= P - 1) {y : Sp} : ∀ (w : List Int) (i : Nat),i < (ag5 L p).length -> (∀ s ∈ w,bS L s) -> bj L ((ag5 L p).getD i aG).1 w = (y,true) -> ∃ j,j < (ag5 L p).length /\ ((ag5 L p).getD j aG).1 = y /\ dp (ag5 L p) j <= dp (ag5 L p) i + w.length
 | [],i,hi,_,h => ⟨i,hi,(Prod.mk.inj h).1,Nat.le_refl _⟩
 | s :: w,i,hi,hs,h => by
   rw [bj] at h
   cases hb : bM L ((ag5 L p).getD i aG).1 s <;> rw [hb] at h <;> dsimp only at h
   ·cases h
   obtain ⟨j,hj,e1,e2⟩:=(aaw hw hP hp).nb i hi s (hs s (List.mem_cons_self ..)) hb
   rw [<- e1] at h
   obtain ⟨k,hk,e3,e4⟩:=Cb hw hP hp w j hj (fun t ht => hs t (List.mem_cons_of_mem _ ht)) h
   exact ⟨k,hk,e3,by rw [List.length_cons];omega⟩
theorem FF {P : Int} {L : List Wk} (hw : cx P L) (hP : P <= 6) {p : Int} (hp : 0 <= p /\ p <= P - 1) {y : Sp} {w : List Int} (hs : ∀ s ∈ w,bS L s) (h : bj L (p,0,false) w = (y,true)) : ∃ j,j < (ag5 L p).length /\ ((ag5 L p).getD j aG).1 = y /\ dp (ag5 L p) j <= w.length:=by
 obtain ⟨h0,h1⟩:=Ic hw hP hp
 obtain ⟨j,hj,e1,e2⟩:=Cb hw hP hp w 0 h0 hs (by rw [h1];exact h)
 refine ⟨j,hj,e1,Nat.le_trans e2 ?_⟩
 unfold dp;rw [h1];simp
theorem Ie {P : Int} {L : List Wk} (hw : cx P L) (hP : P <= 6) {p : Int} (hp : 0 <= p /\ p <= P - 1) {y : Sp} : dh (ag5 L p) y = true <-> ∃ w : List Int,(∀ s ∈ w,bS L s) /\ bj L (p,0,false) w = (y,true):=by
 constructor
 ·intro h
  obtain ⟨e,he,rfl⟩:=List.mem_map.1 (kC.1 h)
  have:=yC hw hP hp e he
  exact ⟨e.2,this.2,this.1⟩
 ·rintro ⟨w,hs,h⟩
  obtain ⟨j,hj,e,_⟩:=FF hw hP hp hs h
  exact kC.2 (List.mem_map.2 ⟨_,pc hj,e⟩)
end Go.bK
end
section
namespace Go.bK
def gm (a b : Sg) : Sg:=(bJ a.1 b.1,a.2 != b.2)
def gv (a : Sg) : Sg:=(cD a.1,a.2)
theorem ir {t : Int} (h : cT t) : ∃ k : Nat,k < 8 /\ t = (k : Int):=by
 unfold cT at h;exact ⟨t.toNat,by omega,by omega⟩
theorem uK {a b c : Int} (ha : cT a) (hb : cT b) (hc : cT c) : bJ (bJ a b) c = bJ a (bJ b c):=by
 obtain ⟨a,ox,rfl⟩:=ir ha
 obtain ⟨b,Kj,rfl⟩:=ir hb
 obtain ⟨c,Rl,rfl⟩:=ir hc
 unfold bJ
 simp only [Int.toNat_natCast]
 rw [xD ox Kj Rl]
theorem xC {a : Int} (ha : cT a) : bJ a 0 = a /\ bJ 0 a = a:=by
 obtain ⟨a,ox,rfl⟩:=ir ha
 have:=gW ox
 unfold bJ
 simp only [Int.toNat_natCast,Int.toNat_zero]
 omega
theorem acF {a : Int} (ha : cT a) : bJ a (cD a) = 0 /\ bJ (cD a) a = 0:=by
 obtain ⟨a,ox,rfl⟩:=ir ha
 have:=gW ox
 unfold bJ cD
 simp only [Int.toNat_natCast]
 omega
theorem xor_assoc (a b c : Bool) : ((a != b) != c) = (a != (b != c)):=by cases a <;> cases b <;> cases c <;> rfl
theorem G5 {a : Sg} (ha : cT a.1) : gm a (0,false) = a /\ gm (0,false) a = a:=by
 obtain ⟨t,m⟩:=a
 unfold gm
 have:=xC ha
 dsimp only at this ⊢
 rw [this.1,this.2]
 cases m <;> exact ⟨rfl,rfl⟩
theorem M7 {a : Sg} (ha : cT a.1) : gm a (gv a) = (0,false) /\ gm (gv a) a = (0,false):=by
 obtain ⟨t,m⟩:=a
 unfold gm gv
 have:=acF ha
 dsimp only at this ⊢
 rw [this.1,this.2]
 cases m <;> exact ⟨rfl,rfl⟩
theorem Ki {a : Sg} (ha : cT a.1) : cT (gv a).1:=abD ha
/-! ### Walks from elsewhere -/
theorem Dx {P : Int} {L : List Wk} (hw : cx P L) : ∀ {w : List Int} {x y : Sp},cT x.2.1 -> (∀ s ∈ w,bS L s) -> bj L x w = (y,true) -> cT y.2.1
 | [],x,y,hx,_,h => by obtain rfl : x = y:=(Prod.mk.inj h).1;exact hx
 | s :: w,x,y,hx,hs,h => by
   rw [bj] at h
   cases hb : bM L x s <;> rw [hb] at h <;> dsimp only at h
   ·cases h
   exact Dx hw (mu (cW.2 hw) hx (hs s (List.mem_cons_self ..))).1 (fun t ht => hs t (List.mem_cons_of_mem _ ht)) h
theorem qG {P : Int} {L : List Wk} (hw : cx P L) {g : Sg} (hg : cT g.1) : ∀ {w : List Int} {x y : Sp},cT x.2.1 -> (∀ s ∈ w,bS L s) -> bj L x w = (y,true) -> bj L (x.1,gm g x.2) w = ((y.1,gm g y.2),true)
 | [],x,y,hx,_,h => by obtain rfl : x = y:=(Prod.mk.inj h).1;rfl
 | s :: w,x,y,hx,hs,h => by
   rw [bj] at h ⊢
   have ed:=hs s (List.mem_cons_self ..)
   have e1 : bM L (x.1,gm g x.2) s = bM L x s:=rfl
   rw [e1]
   cases hb : bM L x s <;> rw [hb] at h <;> dsimp only at h ⊢
   ·cases h
   have e2 : bw L (x.1,gm g x.2) s = ((bw L x s).1,gm g (bw L x s).2):=by
    have:=(r8 hw ed).2.2
    unfold bw gm
    dsimp only
    rw [uK hg hx this]
    cases g.2 <;> cases x.2.2 <;> rfl
   rw [e2]
   exact qG hw hg (mu (cW.2 hw) hx ed).1 (fun t ht => hs t (List.mem_cons_of_mem _ ht)) h
theorem Hx {t : Int} (h : cT t) : cD (cD t) = t:=by
 obtain ⟨k,hk,rfl⟩:=ir h
 unfold cD
 simp only [Int.toNat_natCast]
 have : ∀ k,k < 8 -> inv (inv k) = k:=by decide
 rw [this k hk]
theorem H6 {P : Int} {L : List Wk} (hw : cx P L) {x : Sp} (hx : cT x.2.1) {s : Int} (hs : bS L s) (hf : bM L x s = true) :
  bS L (-1 - s) /\ bM L (bw L x s) (-1 - s) = true /\ bw L (bw L x s) (-1 - s) = x:=by
 have ed : bS L (-1 - s):=by unfold bS at hs ⊢;omega
 have h1:=(r8 hw hs).2.2
 have e0:=eq_of_beq hf
 have he : dy L (-1 - s) = ((dy L s).2.1,(dy L s).1,cD (dy L s).2.2):=by
  unfold dy at h1 ⊢
  by_cases h : s < 0
  ·rw [if_pos h] at h1 ⊢
   rw [if_neg (by omega)]
   dsimp only at h1 ⊢
   have:=hw.at (i:=(-1 - s).toNat) (by unfold bS at hs;omega)
   rw [Hx this.2.2.2]
  ·rw [if_neg h] at h1 ⊢
   rw [if_pos (by omega),show -1 - (-1 - s) = s by omega]
 refine ⟨ed,?_,?_⟩
 ·unfold bM;rw [he];exact beq_self_eq_true _
 ·unfold bw
  rw [he]
  dsimp only
  rw [uK hx h1 (abD h1),(acF h1).1,(xC hx).1,e0]
  obtain ⟨a,t,m⟩:=x
  cases m <;> rfl
def C9 (w : List Int) : List Int:=(w.map fun s => -1 - s).reverse
theorem Au {P : Int} {L : List Wk} (hw : cx P L) : ∀ {w : List Int} {x y : Sp},cT x.2.1 -> (∀ s ∈ w,bS L s) -> bj L x w = (y,true) -> (∀ s ∈ C9 w,bS L s) /\ bj L y (C9 w) = (x,true)
 | [],x,y,_,_,h => by obtain rfl : x = y:=(Prod.mk.inj h).1;exact ⟨fun s hs => (List.not_mem_nil hs).elim,rfl⟩
 | s :: w,x,y,hx,hs,h => by
   rw [bj] at h
   have ed:=hs s (List.mem_cons_self ..)
   cases hb : bM L x s <;> rw [hb] at h <;> dsimp only at h
   ·cases h
   obtain ⟨b1,b2,b3⟩:=H6 hw hx ed hb
   obtain ⟨h1,h2⟩:=Au hw (mu (cW.2 hw) hx ed).1 (fun t ht => hs t (List.mem_cons_of_mem _ ht)) h
   have e : C9 (s :: w) = C9 w ++ [-1 - s]:=by unfold C9;rw [List.map_cons,List.reverse_cons]
   rw [e]
   refine ⟨fun t ht => ?_,?_⟩
   ·rcases List.mem_append.1 ht with ht | ht
    ·exact h1 t ht
    ·rw [List.mem_singleton] at ht;subst ht;exact b1
   ·rw [tH h2 b2,b3]
def qa (L : List Wk) (a b : Int) (g : Sg) : Prop:=∃ w : List Int,(∀ s ∈ w,bS L s) /\ bj L (a,0,false) w = ((b,g),true)
theorem ud : cT 0:=⟨by omega,by omega⟩
theorem JS (L : List Wk) (a : Int) : qa L a a (0,false):=⟨[],fun s hs => (List.not_mem_nil hs).elim,rfl⟩
theorem rT {P : Int} {L : List Wk} (hw : cx P L) {a b : Int} {g : Sg} (h : qa L a b g) : cT g.1:=by
 obtain ⟨w,hs,h⟩:=h
 exact Dx hw ud hs h
theorem yD {P : Int} {L : List Wk} (hw : cx P L) {a b c : Int} {g h : Sg} (h1 : qa L a b g) (h2 : qa L b c h) : qa L a c (gm g h):=by
 have hg:=rT hw h1
 obtain ⟨w,hs,h1⟩:=h1
 obtain ⟨v,ht,h2⟩:=h2
 refine ⟨w ++ v,fun s hs' => (List.mem_append.1 hs').elim (hs s) (ht s),?_⟩
 rw [uW h1]
 have:=qG hw hg ud ht h2
 rwa [show gm g (0,false) = g from (G5 hg).1] at this
theorem Cg {P : Int} {L : List Wk} (hw : cx P L) {a b : Int} {g : Sg} (h : qa L a b g) : qa L b a (gv g):=by
 have hg:=rT hw h
 obtain ⟨w,hs,h1⟩:=h
 obtain ⟨b1,b2⟩:=Au hw ud hs h1
 refine ⟨C9 w,b1,?_⟩
 have:=qG hw (Ki hg) hg b1 b2
 dsimp only at this
 rwa [(M7 hg).2,(G5 (Ki hg)).1] at this
theorem kD {P : Int} {L : List Wk} (hw : cx P L) (hP : P <= 6) {p : Int} (hp : 0 <= p /\ p <= P - 1) {q : Int} {g : Sg} : dh (ag5 L p) (q,g) = true <-> qa L p q g:=Ie hw hP hp
/-! ### The list of signs -/
theorem w7 {W : List bR} {p : Int} {g : Sg} : ∀ c,g ∈ ee W p c <-> ∃ i,i < c /\ akt W p (fA i) = true /\ g = fA i
 | 0 => by simp [ee]
 | c + 1 => by
   rw [ee]
   cases hb : akt W p (fA c) <;> dsimp only
   ·rw [w7 c]
    constructor
    ·rintro ⟨i,hi,h1,h2⟩;exact ⟨i,by omega,h1,h2⟩
    ·rintro ⟨i,hi,h1,h2⟩
     rcases Nat.lt_or_ge i c with h3 | h3
     ·exact ⟨i,h3,h1,h2⟩
     ·obtain rfl : i = c:=by omega
      rw [hb] at h1;cases h1
   ·rw [List.mem_append,w7 c,List.mem_singleton]
    constructor
    ·rintro (⟨i,hi,h1,h2⟩ | rfl)
     ·exact ⟨i,by omega,h1,h2⟩
     ·exact ⟨c,by omega,hb,rfl⟩
    ·rintro ⟨i,hi,h1,h2⟩
     rcases Nat.lt_or_ge i c with h3 | h3
     ·exact .inl ⟨i,h3,h1,h2⟩
     ·obtain rfl : i = c:=by omega
      exact .inr h2
theorem LO {g : Sg} (h : cT g.1) : ∃ c,c < 16 /\ fA c = g:=by
 obtain ⟨t,m⟩:=g
 obtain ⟨k,hk,e⟩:=ir h
 dsimp only at e
 subst e
 cases m
 ·exact ⟨2 * k,by omega,HW k⟩
 ·exact ⟨2 * k + 1,by omega,HX k⟩
theorem eo {P : Int} {L : List Wk} (hw : cx P L) (hP : P <= 6) {p : Int} (hp : 0 <= p /\ p <= P - 1) {g : Sg} : g ∈ af L p <-> qa L p p g:=by
 unfold af
 rw [w7]
 constructor
 ·rintro ⟨i,_,h1,rfl⟩
  exact (kD hw hP hp).1 h1
 ·intro h
  obtain ⟨c,hc,rfl⟩:=LO (rT hw h)
  exact ⟨c,hc,(kD hw hP hp).2 h,rfl⟩
structure gH (G : List Sg) : Prop where
 ok : ∀ g ∈ G,cT g.1
 one : (0,false) ∈ G
 mul : ∀ g ∈ G,∀ h ∈ G,gm g h ∈ G
 inv : ∀ g ∈ G,gv g ∈ G
theorem nK {P : Int} {L : List Wk} (hw : cx P L) (hP : P <= 6) {p : Int} (hp : 0 <= p /\ p <= P - 1) : gH (af L p) where
 ok:=fun g hg => rT hw ((eo hw hP hp).1 hg)
 one:=(eo hw hP hp).2 (JS L p)
 mul:=fun g hg h hh => (eo hw hP hp).2 (yD hw ((eo hw hP hp).1 hg) ((eo hw hP hp).1 hh))
 inv:=fun g hg => (eo hw hP hp).2 (Cg hw ((eo hw hP hp).1 hg))
end Go.bK
end
section
namespace Go.bK
def aM (n x : Int) : Prop:=0 <= x /\ x < n * n
def bz (n : Int) : Prop:=1 <= n /\ n <= 6
theorem ng {n t x : Int} (hn : bz n) (ht : cT t) (hx : aM n x) : aM n (aX n t x):=rP hn ht hx
theorem zV {n x : Int} (hn : bz n) (hx : aM n x) : ∃ (m k : Nat),m < 7 /\ k < m * m /\ n = (m : Int) /\ x = (k : Int):=by
 refine ⟨n.toNat,x.toNat,by unfold bz at hn;omega,?_,by unfold bz at hn;omega,by unfold aM at hx;omega⟩
 have h1 : (n.toNat : Int) = n:=Int.toNat_of_nonneg (by unfold bz at hn;omega)
 have h2 : (x.toNat : Int) = x:=Int.toNat_of_nonneg hx.1
 have : (x.toNat : Int) < ((n.toNat * n.toNat : Nat) : Int):=by rw [Int.natCast_mul,h1,h2];exact hx.2
 exact_mod_cast this
theorem iT {n a b x : Int} (hn : bz n) (ha : cT a) (hb : cT b) (hx : aM n x) : aX n b (aX n a x) = aX n (bJ a b) x:=by
 obtain ⟨m,k,hm,hk,rfl,rfl⟩:=zV hn hx
 obtain ⟨a,ox,rfl⟩:=ir ha
 obtain ⟨b,Kj,rfl⟩:=ir hb
 unfold aX bJ
 simp only [Int.toNat_natCast]
 rw [KG hm ox Kj hk]
theorem ue {n x : Int} (hn : bz n) (hx : aM n x) : aX n 0 x = x:=by
 obtain ⟨m,k,hm,hk,rfl,rfl⟩:=zV hn hx
 unfold aX
 simp only [Int.toNat_natCast,Int.toNat_zero]
 rw [LY hm hk]
theorem oN {n a x : Int} (hn : bz n) (ha : cT a) (hx : aM n x) : aX n (cD a) (aX n a x) = x /\ aX n a (aX n (cD a) x) = x:=by
 rw [iT hn ha (abD ha) hx,iT hn (abD ha) ha hx,(acF ha).1,(acF ha).2,ue hn hx]
 exact ⟨rfl,rfl⟩
def mV (n : Int) (G : List Sg) (x y : Int) : Prop:=∃ g ∈ G,aX n g.1 x = y
theorem Bx {n : Int} {G : List Sg} (hG : gH G) (hn : bz n) {x : Int} (hx : aM n x) : mV n G x x:=⟨_,hG.one,ue hn hx⟩
theorem mW {n : Int} {G : List Sg} (hG : gH G) (hn : bz n) {x y : Int} (hx : aM n x) (h : mV n G x y) : mV n G y x:=by
 obtain ⟨g,hg,rfl⟩:=h
 exact ⟨gv g,hG.inv g hg,(oN hn (hG.ok g hg) hx).1⟩
theorem rD {n : Int} {G : List Sg} (hG : gH G) (hn : bz n) {x y z : Int} (hx : aM n x) (h : mV n G x y) (h' : mV n G y z) : mV n G x z:=by
 obtain ⟨g,hg,rfl⟩:=h
 obtain ⟨k,hk,rfl⟩:=h'
 exact ⟨gm g k,hG.mul g hg k hk,(iT hn (hG.ok g hg) (hG.ok k hk) hx).symm⟩
theorem tR {n : Int} {G : List Sg} (hG : ∀ g ∈ G,cT g.1) (hn : bz n) {x y : Int} (hx : aM n x) (h : mV n G x y) : aM n y:=by
 obtain ⟨g,hg,rfl⟩:=h
 exact ng hn (hG g hg) hx
theorem vO {G : List Sg} {g : Sg} (h : g ∈ G) : ∃ i,i < G.length /\ sg G i = g:=by
 obtain ⟨i,hi,rfl⟩:=List.mem_iff_getElem.1 h
 exact ⟨i,hi,by simp [sg,hi]⟩
theorem rp (n : Int) (G : List Sg) (x : Int) : ∀ k,k <= G.length -> (cU n G x k = x \/ mV n G x (cU n G x k)) /\ cU n G x k <= x /\ ∀ i,i < k -> cU n G x k <= oP n G i x
 | 0,_ => ⟨.inl rfl,Int.le_refl _,fun i hi => absurd hi (Nat.not_lt_zero _)⟩
 | k + 1,hk => by
   obtain ⟨h1,h2,h3⟩:=rp n G x k (by omega)
   rw [cU]
   split
   ·rename_i h
    refine ⟨.inr ⟨_,aaq (by omega),rfl⟩,by omega,fun i hi => ?_⟩
    rcases Nat.lt_or_ge i k with h4 | h4
    ·have:=h3 i h4;omega
    ·obtain rfl : i = k:=by omega
     exact Int.le_refl _
   ·rename_i h
    refine ⟨h1,h2,fun i hi => ?_⟩
    rcases Nat.lt_or_ge i k with h4 | h4
    ·exact h3 i h4
    ·obtain rfl : i = k:=by omega
     omega
theorem gz {n : Int} {G : List Sg} (hG : gH G) (hn : bz n) {x : Int} (hx : aM n x) : mV n G x (aK n G x):=by
 rcases (rp n G x G.length (Nat.le_refl _)).1 with h | h
 ·unfold aK;rw [h];exact Bx hG hn hx
 ·exact h
theorem Bd {n : Int} {G : List Sg} {x y : Int} (h : mV n G x y) : aK n G x <= y:=by
 obtain ⟨g,hg,rfl⟩:=h
 obtain ⟨i,hi,rfl⟩:=vO hg
 exact (rp n G x G.length (Nat.le_refl _)).2.2 i hi
theorem vw {n : Int} {G : List Sg} (hG : gH G) (hn : bz n) {x y : Int} (hx : aM n x) (h : mV n G x y) : aK n G x = aK n G y:=by
 have hy:=tR hG.ok hn hx h
 have h1:=Bd (rD hG hn hx h (gz hG hn hy))
 have h2:=Bd (rD hG hn hy (mW hG hn hx h) (gz hG hn hx))
 omega
theorem mS {n : Int} {G : List Sg} (hG : gH G) (hn : bz n) {x : Int} (hx : aM n x) : aM n (aK n G x):=tR hG.ok hn hx (gz hG hn hx)
theorem DU {n : Int} {G : List Sg} (hG : gH G) (hn : bz n) {x : Int} (hx : aM n x) : aK n G (aK n G x) = aK n G x:=(vw hG hn hx (gz hG hn hx)).symm
def eV (n : Int) (G : List Sg) (x : Int) : Bool:=G.any fun g => g.2 && aX n g.1 x == x
def q7 (n : Int) (G : List Sg) (x : Int) : Bool:=G.any fun g => !g.2 && aX n g.1 (aK n G x) == x
def fO (n : Int) (G : List Sg) (x : Int) : Int:=match eV n G x with | true => 0 | false => match q7 n G x with | true => 1 | false => -1
theorem kw {n : Int} {G : List Sg} {x : Int} : eV n G x = true <-> ∃ g ∈ G,g.2 = true /\ aX n g.1 x = x:=by
 simp only [eV,List.any_eq_true,Bool.and_eq_true,beq_iff_eq]
theorem tL {n : Int} {G : List Sg} {x : Int} : q7 n G x = true <-> ∃ g ∈ G,g.2 = false /\ aX n g.1 (aK n G x) = x:=by
 simp only [q7,List.any_eq_true,Bool.and_eq_true,beq_iff_eq,Bool.not_eq_true']
theorem wS {n : Int} {G : List Sg} (hG : gH G) (hn : bz n) {x y : Int} (hx : aM n x) (h : mV n G x y) (hp : eV n G x = true) : eV n G y = true:=by
 obtain ⟨k,hk,rfl⟩:=h
 obtain ⟨g,hg,h2,h3⟩:=kw.1 hp
 have hgo:=hG.ok g hg
 have qU:=hG.ok k hk
 refine kw.2 ⟨gm (gm (gv k) g) k,hG.mul _ (hG.mul _ (hG.inv k hk) g hg) k hk,?_,?_⟩
 ·unfold gm gv;dsimp only;rw [h2];cases k.2 <;> rfl
 ·have hy:=ng hn qU hx
  show aX n (bJ (bJ (cD k.1) g.1) k.1) (aX n k.1 x) = _
  rw [<- iT hn (Di (abD qU) hgo) qU hy,<- iT hn (abD qU) hgo hy,(oN hn qU hx).1,h3]
theorem BA {n : Int} {G : List Sg} (hG : gH G) (hn : bz n) {x y : Int} (hx : aM n x) (h : mV n G x y) : eV n G x = eV n G y:=by
 rw [Bool.eq_iff_iff]
 exact ⟨wS hG hn hx h,wS hG hn (tR hG.ok hn hx h) (mW hG hn hx h)⟩
theorem Ib {n : Int} {G : List Sg} (hG : gH G) (hn : bz n) {x : Int} (hx : aM n x) (hp : eV n G x = false) {h : Sg} (hh : h ∈ G) (e : aX n h.1 (aK n G x) = x) : fO n G x = if h.2 = true then -1 else 1:=by
 have hl:=mS hG hn hx
 unfold fO
 rw [hp]
 cases hk : q7 n G x
 ·cases h2 : h.2
  ·rw [tL.2 ⟨h,hh,h2,e⟩] at hk;cases hk
  ·rfl
 ·obtain ⟨g,hg,g2,e2⟩:=tL.1 hk
  cases h2 : h.2
  ·rfl
  ·have : eV n G (aK n G x) = true:=kw.2 ⟨gm h (gv g),hG.mul h hh _ (hG.inv g hg),by unfold gm gv;dsimp only;rw [h2,g2];rfl,by
    show aX n (bJ h.1 (cD g.1)) (aK n G x) = _
    rw [<- iT hn (hG.ok h hh) (abD (hG.ok g hg)) hl,e]
    exact (congrArg (aX n (cD g.1)) e2.symm).trans (oN hn (hG.ok g hg) hl).1⟩
   rw [<- BA hG hn hx (gz hG hn hx),hp] at this
   cases this
def rM (b : Bool) (v : Int) : Int:=match b with | true => -v | false => v
theorem LZ {n : Int} {G : List Sg} (hG : gH G) (hn : bz n) {x : Int} (hx : aM n x) {g : Sg} (hg : g ∈ G) : fO n G (aX n g.1 x) = rM g.2 (fO n G x):=by
 have ho : mV n G x (aX n g.1 x):=⟨g,hg,rfl⟩
 have hy:=ng hn (hG.ok g hg) hx
 have hpe:=BA hG hn hx ho
 cases hp : eV n G x
 ·obtain ⟨h,hh,e⟩:=mW hG hn hx (gz hG hn hx)
  rw [Ib hG hn hx hp hh e]
  have e2 : aX n (gm h g).1 (aK n G (aX n g.1 x)) = aX n g.1 x:=by
   rw [<- vw hG hn hx ho]
   show aX n (bJ h.1 g.1) _ = _
   rw [<- iT hn (hG.ok h hh) (hG.ok g hg) (mS hG hn hx),e]
  rw [Ib hG hn hy (hpe ▸ hp) (hG.mul h hh g hg) e2]
  unfold gm
  dsimp only
  cases h.2 <;> cases g.2 <;> rfl
 ·have h1 : fO n G x = 0:=by unfold fO;rw [hp]
  have h2 : fO n G (aX n g.1 x) = 0:=by unfold fO;rw [<- hpe,hp]
  rw [h1,h2];cases g.2 <;> rfl
theorem JQ (n : Int) (G : List Sg) (x : Int) : fO n G x = 0 \/ fO n G x = 1 \/ fO n G x = -1:=by
 unfold fO
 cases eV n G x
 ·cases q7 n G x
  ·exact .inr (.inr rfl)
  ·exact .inr (.inl rfl)
 ·exact .inl rfl
theorem JR {n : Int} {G : List Sg} {x : Int} : fO n G x = 0 <-> eV n G x = true:=by
 unfold fO
 cases eV n G x
 ·cases q7 n G x <;> simp
 ·simp
/-! ### Heights that are alike within classes -/
def tS (n : Int) (G : List Sg) (H : Int -> Int) (x : Int) : Int:=fO n G x * H (aK n G x)
theorem LQ (b : Bool) (v w : Int) : rM b v * w = rM b (v * w):=by cases b <;> simp [rM,Int.neg_mul]
theorem LR (a b : Bool) (v : Int) : rM a (rM b v) = rM (a != b) v:=by cases a <;> cases b <;> simp [rM]
theorem LB {n : Int} {G : List Sg} (hG : gH G) (hn : bz n) (H : Int -> Int) {x : Int} (hx : aM n x) {g : Sg} (hg : g ∈ G) : tS n G H (aX n g.1 x) = rM g.2 (tS n G H x):=by
 unfold tS
 rw [LZ hG hn hx hg,<- vw hG hn hx ⟨g,hg,rfl⟩,LQ]
def rN (n : Int) (L : List Wk) (p : Int) (H : Int -> Int) (q z : Int) : Int :=
 match (ag5 L p).find? (fun e => e.1.1 == q) with
 | some e => rM e.1.2.2 (tS n (af L p) H (aX n (cD e.1.2.1) z))
 | none => 0
theorem Oj {n P : Int} {L : List Wk} (hw : cx P L) (hP : P <= 6) {p : Int} (hp : 0 <= p /\ p <= P - 1) (hn : bz n) (H : Int -> Int) {e : bR} (he : e ∈ ag5 L p) {x : Int} (hx : aM n x) :
  rN n L p H e.1.1 (aX n e.1.2.1 x) = rM e.1.2.2 (tS n (af L p) H x):=by
 have hG:=nK hw hP hp
 have hE:=xh hw hP hp
 unfold rN
 cases hf : (ag5 L p).find? (fun e' => e'.1.1 == e.1.1) with
 | none => rw [List.find?_eq_none] at hf;exact absurd (beq_self_eq_true e.1.1) (hf e he)
 | some d =>
   have hd:=List.mem_of_find?_eq_some hf
   have hq:=List.find?_some hf
   have hq : d.1.1 = e.1.1:=eq_of_beq hq
   dsimp only
   have AH:=(hE.ok e he).2
   have Nh:=(hE.ok d hd).2
   have w1 : qa L p e.1.1 e.1.2:=(kD hw hP hp).1 (kC.2 (List.mem_map.2 ⟨e,he,rfl⟩))
   have w2 : qa L p d.1.1 d.1.2:=(kD hw hP hp).1 (kC.2 (List.mem_map.2 ⟨d,hd,rfl⟩))
   rw [hq] at w2
   have hg:=(eo hw hP hp).2 (yD hw w1 (Cg hw w2))
   have e3 : aX n (cD d.1.2.1) (aX n e.1.2.1 x) = aX n (gm e.1.2 (gv d.1.2)).1 x:=iT hn AH (abD Nh) hx
   rw [e3,LB hG hn H hx hg,LR]
   unfold gm gv
   dsimp only
   cases e.1.2.2 <;> cases d.1.2.2 <;> rfl
theorem Ol {n : Int} {L : List Wk} {p : Int} {H : Int -> Int} {q z : Int} (h : ∀ e ∈ ag5 L p,e.1.1 ≠ q) : rN n L p H q z = 0:=by
 unfold rN
 rw [List.find?_eq_none.2 (fun e he => by simpa using h e he)]
end Go.bK
end
section
namespace Go.bK
inductive Cn (J : Int -> Int -> Bool -> Prop) (u : Int) : Int -> Bool -> Prop
 | refl : Cn J u u false
 | fwd {v w : Int} {b m : Bool} : Cn J u v b -> J v w m -> Cn J u w (b != m)
 | bwd {v w : Int} {b m : Bool} : Cn J u w b -> J v w m -> Cn J u v (b != m)
theorem Cn.mono {J J' : Int -> Int -> Bool -> Prop} (h : ∀ v w m,J v w m -> J' v w m) {u v : Int} {b : Bool} (c : Cn J u v b) : Cn J' u v b:=by
 induction c with
 | refl => exact .refl
 | fwd _ j ih => exact .fwd ih (h _ _ _ j)
 | bwd _ j ih => exact .bwd ih (h _ _ _ j)
theorem J1 (b : Bool) : (b != false) = b:=by cases b <;> rfl
theorem EW (b : Bool) : (false != b) = b:=by cases b <;> rfl
theorem zz (b : Bool) : (b != b) = false:=by cases b <;> rfl
theorem Cn.trans {J : Int -> Int -> Bool -> Prop} {u v w : Int} {b c : Bool} (h : Cn J u v b) (h' : Cn J v w c) : Cn J u w (b != c):=by
 induction h' with
 | refl => rw [J1];exact h
 | fwd _ j ih => rw [<- xor_assoc];exact .fwd ih j
 | bwd _ j ih => rw [<- xor_assoc];exact .bwd ih j
theorem Cn.one {J : Int -> Int -> Bool -> Prop} {v w : Int} {m : Bool} (j : J v w m) : Cn J v w m:=by
 have:=Cn.fwd (J:=J) .refl j
 rwa [EW] at this
theorem Cn.back {J : Int -> Int -> Bool -> Prop} {v w : Int} {m : Bool} (j : J v w m) : Cn J w v m:=by
 have:=Cn.bwd (J:=J) .refl j
 rwa [EW] at this
theorem xn (a b : Bool) : (a != b) = (b != a):=by cases a <;> cases b <;> rfl
theorem Cn.symm {J : Int -> Int -> Bool -> Prop} {u v : Int} {b : Bool} (h : Cn J u v b) : Cn J v u b:=by
 induction h with
 | refl => exact .refl
 | fwd _ j ih => rw [xn];exact (Cn.back j).trans ih
 | bwd _ j ih => rw [xn];exact (Cn.one j).trans ih
/-! ### Parts -/
structure Uf (J : Int -> Int -> Bool -> Prop) (R : Int -> Int) (Q : Int -> Bool) (od : Int -> Bool) : Prop where
 way : ∀ u,Cn J u (R u) (Q u)
 jt : ∀ v w m,J v w m -> R v = R w /\ ((Q v != Q w) = m \/ od (R v) = true)
 rr : ∀ u,R (R u) = R u
 od : ∀ u,od (R u) = true -> Cn J (R u) (R u) true
theorem Uf.of {J : Int -> Int -> Bool -> Prop} {R : Int -> Int} {Q od : Int -> Bool} (h : Uf J R Q od) {u v : Int} {b : Bool} (c : Cn J u v b) : R u = R v /\ ((Q u != Q v) = b \/ od (R u) = true):=by
 induction c with
 | refl => exact ⟨rfl,.inl (zz _)⟩
 | fwd _ j ih =>
   obtain ⟨e1,e2⟩:=ih
   obtain ⟨e3,e4⟩:=h.jt _ _ _ j
   refine ⟨e1.trans e3,?_⟩
   rcases e2 with e2 | e2
   ·rcases e4 with e4 | e4
    ·left;rw [<- e2,<- e4];rename_i v w _ _ _;cases Q u <;> cases Q v <;> cases Q w <;> rfl
    ·right;rw [e1];exact e4
   ·exact .inr e2
 | bwd _ j ih =>
   obtain ⟨e1,e2⟩:=ih
   obtain ⟨e3,e4⟩:=h.jt _ _ _ j
   refine ⟨e1.trans e3.symm,?_⟩
   rcases e2 with e2 | e2
   ·rcases e4 with e4 | e4
    ·left;rw [<- e2,<- e4];rename_i v w _ _ _;cases Q u <;> cases Q v <;> cases Q w <;> rfl
    ·right;rw [e1,<- e3];exact e4
   ·exact .inr e2
theorem Uf.same {J : Int -> Int -> Bool -> Prop} {R : Int -> Int} {Q od : Int -> Bool} (h : Uf J R Q od) {u v : Int} : R u = R v <-> ∃ b,Cn J u v b :=
 ⟨fun e => ⟨_,(h.way u).trans (e ▸ (h.way v).symm)⟩,fun ⟨_,c⟩ => (h.of c).1⟩
theorem Uf.loop {J : Int -> Int -> Bool -> Prop} {R : Int -> Int} {Q od : Int -> Bool} (h : Uf J R Q od) {u : Int} : od (R u) = true <-> Cn J u u true:=by
 constructor
 ·intro e
  have:=((h.way u).trans (h.od u e)).trans (h.way u).symm
  rwa [show ((Q u != true) != Q u) = true by cases Q u <;> rfl] at this
 ·intro c
  rcases (h.of c).2 with e | e
  ·rw [zz] at e;cases e
  ·exact e
def qZ (J : Int -> Int -> Bool -> Prop) (x y : Int) (m : Bool) : Int -> Int -> Bool -> Prop:=fun v w k => J v w k \/ (v = x /\ w = y /\ k = m)
theorem Uf.JH {J : Int -> Int -> Bool -> Prop} {R : Int -> Int} {Q od Bq : Int -> Bool} (h : Uf J R Q od) {x y : Int} {m : Bool} (e : R x = R y)
  (ho : ∀ v,Bq v = (if v = R x then od v || ((Q x != Q y) != m) else od v)) : Uf (qZ J x y m) R Q Bq:=by
 have hm : ∀ v w k,J v w k -> qZ J x y m v w k:=fun v w k j => .inl j
 have hle : ∀ v,od v = true -> Bq v = true:=fun v hv => by rw [ho];split <;> simp [hv]
 refine ⟨fun u => (h.way u).mono hm,fun v w k j => ?_,h.rr,fun u hu => ?_⟩
 ·rcases j with j | ⟨rfl,rfl,rfl⟩
  ·obtain ⟨e1,e2⟩:=h.jt v w k j
   exact ⟨e1,e2.imp id (hle _)⟩
  ·refine ⟨e,?_⟩
   cases hc : ((Q v != Q w) != k)
   ·left;revert hc;cases Q v <;> cases Q w <;> cases k <;> decide
   ·right;rw [ho,if_pos rfl,hc,Bool.or_true]
 ·by_cases h1 : od (R u) = true
  ·exact (h.od u h1).mono hm
  ·rw [ho] at hu
   split at hu
   ·rename_i e1
    have e2 : ((Q x != Q y) != m) = true:=by simpa [h1] using hu
    rw [e1]
    have:=(((h.way x).symm.mono hm).trans (Cn.one (.inr ⟨rfl,rfl,rfl⟩))).trans ((h.way y).mono hm)
    rw [<- e] at this
    rwa [show ((Q x != m) != Q y) = ((Q x != Q y) != m) by cases Q x <;> cases Q y <;> cases m <;> rfl,e2] at this
   ·exact absurd hu h1
theorem Uf.join {J : Int -> Int -> Bool -> Prop} {R : Int -> Int} {Q od Bq : Int -> Bool} (h : Uf J R Q od) {x y : Int} {m : Bool} (e : R x ≠ R y)
  (ho : ∀ v,v ≠ R x -> Bq v = (if v = R y then od v || od (R x) else od v)) :
  Uf (qZ J x y m) (fun v => if R v = R x then R y else R v) (fun v => if R v = R x then Q v != ((Q x != Q y) != m) else Q v) Bq:=by
 have hm : ∀ v w k,J v w k -> qZ J x y m v w k:=fun v w k j => .inl j
 have hxy : Cn (qZ J x y m) (R x) (R y) ((Q x != Q y) != m):=by
  have:=(((h.way x).symm.mono hm).trans (Cn.one (.inr ⟨rfl,rfl,rfl⟩))).trans ((h.way y).mono hm)
  rwa [show ((Q x != m) != Q y) = ((Q x != Q y) != m) by cases Q x <;> cases Q y <;> cases m <;> rfl] at this
 have hne : R y ≠ R x:=fun e' => e e'.symm
 refine ⟨fun u => ?_,fun v w k j => ?_,fun u => ?_,fun u hu => ?_⟩
 ·
  by_cases hu : R u = R x
  ·rw [if_pos hu,if_pos hu]
   have:=(h.way u).mono hm
   rw [hu] at this
   exact this.trans hxy
  ·rw [if_neg hu,if_neg hu];exact (h.way u).mono hm
 ·
  rcases j with j | ⟨rfl,rfl,rfl⟩
  ·obtain ⟨e1,e2⟩:=h.jt v w k j
   rw [<- e1]
   refine ⟨rfl,?_⟩
   by_cases hv : R v = R x
   ·rw [if_pos hv,if_pos hv,if_pos hv]
    rcases e2 with e2 | e2
    ·left;rw [<- e2];generalize ((Q x != Q y) != m) = c;cases Q v <;> cases Q w <;> cases c <;> rfl
    ·right;rw [ho _ hne,if_pos rfl,<- hv,e2,Bool.or_true]
   ·rw [if_neg hv,if_neg hv,if_neg hv]
    rcases e2 with e2 | e2
    ·left;exact e2
    ·right;rw [ho _ hv,e2];split <;> rfl
  ·rw [if_pos rfl,if_neg hne,if_pos rfl,if_neg hne]
   exact ⟨rfl,.inl (by cases Q v <;> cases Q w <;> cases k <;> rfl)⟩
 ·
  by_cases hu : R u = R x
  ·rw [if_pos hu,h.rr,if_neg hne]
  ·rw [if_neg hu,h.rr,if_neg hu]
 ·
  by_cases NB : R u = R x
  ·rw [if_pos NB] at hu ⊢
   rw [ho _ hne,if_pos rfl,Bool.or_eq_true] at hu
   rcases hu with hu | hu
   ·have:=h.od y (by exact hu)
    exact this.mono hm
   ·have:=((hxy.symm).trans ((h.od x hu).mono hm)).trans hxy
    rwa [show ((((Q x != Q y) != m) != true) != ((Q x != Q y) != m)) = true by cases ((Q x != Q y) != m) <;> rfl] at this
  ·rw [if_neg NB] at hu ⊢
   rw [ho _ NB] at hu
   by_cases h3 : R u = R y
   ·rw [if_pos h3,Bool.or_eq_true] at hu
    rcases hu with hu | hu
    ·exact (h.od u hu).mono hm
    ·rw [h3]
     have:=((hxy.symm).trans ((h.od x hu).mono hm)).trans hxy
     rwa [show ((((Q x != Q y) != m) != true) != ((Q x != Q y) != m)) = true by cases ((Q x != Q y) != m) <;> rfl] at this
   ·rw [if_neg h3] at hu;exact (h.od u hu).mono hm
/-! ### The joints of signs -/
def jG (n : Int) (G : List Sg) (v w : Int) (m : Bool) : Prop:=∃ g ∈ G,aM n v /\ w = aX n g.1 v /\ m = g.2
def iE (n : Int) (G : List Sg) : Prop:=match dL G with
 | true => ∀ x,aM n x -> Cn (jG n G) x x true
 | false => ∀ x,aM n x -> ∃ b,Cn (jG n G) 0 x b
theorem su {n : Int} {G G' : List Sg} (h : ∀ g ∈ G,g ∈ G') (v w : Int) (m : Bool) (j : jG n G v w m) : jG n G' v w m:=by
 obtain ⟨g,hg,h1⟩:=j
 exact ⟨g,h g hg,h1⟩
theorem jo {G : List Sg} : dL G = true <-> ∃ g ∈ G,g.2 = true:=by simp only [dL,List.any_eq_true]
theorem gM {n : Int} (hn : bz n) : aM n 0:=⟨Int.le_refl _,by unfold bz at hn;have:=Int.mul_pos (show 0 < n by omega) (show 0 < n by omega);exact this⟩
theorem Dj {n : Int} {G : List Sg} (hm : dL G = false) {u v : Int} {b : Bool} (c : Cn (jG n G) u v b) : b = false:=by
 have h0 : ∀ g ∈ G,g.2 = false:=fun g hg => by
  cases h : g.2
  ·rfl
  ·rw [jo.2 ⟨g,hg,h⟩] at hm;cases hm
 induction c with
 | refl => rfl
 | fwd _ j ih => obtain ⟨g,hg,_,_,rfl⟩:=j;rw [ih,h0 g hg];rfl
 | bwd _ j ih => obtain ⟨g,hg,_,_,rfl⟩:=j;rw [ih,h0 g hg];rfl
theorem HS {n : Int} {G G' : List Sg} (hn : bz n) (Q6 : ∀ g ∈ G',cT g.1) (h : ∀ g ∈ G,g ∈ G') (hp : iE n G) : iE n G':=by
 unfold iE at hp ⊢
 cases hm : dL G <;> rw [hm] at hp <;> dsimp only at hp
 ·cases hm' : dL G' <;> dsimp only
  ·intro x hx
   obtain ⟨b,c⟩:=hp x hx
   exact ⟨b,c.mono (su h)⟩
  ·intro x hx
   obtain ⟨g,hg,g2⟩:=jo.1 hm'
   have hy:=ng hn (Q6 g hg) hx
   obtain ⟨b,c⟩:=hp x hx
   obtain ⟨b',c'⟩:=hp _ hy
   obtain rfl:=Dj hm c
   obtain rfl:=Dj hm c'
   have c1:=c.mono (su h)
   have c2:=c'.mono (su h)
   have:=((Cn.one (J:=jG n G') ⟨g,hg,hx,rfl,rfl⟩).trans c2.symm).trans c1
   rw [g2] at this
   exact this
 ·have hm' : dL G' = true:=by
   obtain ⟨g,hg,g2⟩:=jo.1 hm
   exact jo.2 ⟨g,h g hg,g2⟩
  rw [hm']
  dsimp only
  exact fun x hx => (hp x hx).mono (su h)
theorem Gt {n : Int} {G : List Sg} (hG : gH G) (hn : bz n) {u v : Int} (hu : aM n u) {b : Bool} (c : Cn (jG n G) u v b) : ∃ g ∈ G,g.2 = b /\ aX n g.1 u = v:=by
 induction c with
 | refl => exact ⟨_,hG.one,rfl,ue hn hu⟩
 | fwd _ j ih =>
   obtain ⟨g,hg,rfl,rfl⟩:=ih
   obtain ⟨k,hk,_,rfl,rfl⟩:=j
   exact ⟨gm g k,hG.mul g hg k hk,rfl,(iT hn (hG.ok g hg) (hG.ok k hk) hu).symm⟩
 | bwd _ j ih =>
   obtain ⟨g,hg,rfl,e⟩:=ih
   obtain ⟨k,hk,hv,rfl,rfl⟩:=j
   refine ⟨gm g (gv k),hG.mul g hg _ (hG.inv k hk),rfl,?_⟩
   show aX n (bJ g.1 (cD k.1)) u = _
   rw [<- iT hn (hG.ok g hg) (abD (hG.ok k hk)) hu,e,(oN hn (hG.ok k hk) hv).1]
theorem Gv {n : Int} {G : List Sg} (hG : gH G) (hn : bz n) {x : Int} (hx : aM n x) : Cn (jG n G) x x true <-> eV n G x = true:=by
 rw [kw]
 constructor
 ·intro c;exact Gt hG hn hx c
 ·rintro ⟨g,hg,g2,e⟩
  have:=Cn.one (J:=jG n G) (v:=x) (w:=x) (m:=true) ⟨g,hg,hx,e.symm,g2.symm⟩
  exact this
theorem Gu {n : Int} {G : List Sg} (hG : gH G) (hn : bz n) {x y : Int} (hx : aM n x) : (∃ b,Cn (jG n G) x y b) <-> mV n G x y:=by
 constructor
 ·rintro ⟨b,c⟩;obtain ⟨g,hg,_,e⟩:=Gt hG hn hx c;exact ⟨g,hg,e⟩
 ·rintro ⟨g,hg,e⟩;exact ⟨g.2,Cn.one ⟨g,hg,hx,e.symm,rfl⟩⟩
/-! ### Freedom -/
def Z6 (n : Int) (G : List Sg) (x : Nat) : Bool:=(aK n G (x : Int) == (x : Int)) && !eV n G (x : Int)
def fH (n : Int) (G : List Sg) : Nat -> List Int
 | 0 => []
 | c + 1 => match Z6 n G c with | true => fH n G c ++ [(c : Int)] | false => fH n G c
def zb (n : Int) (G : List Sg) : Int:=((fH n G (n * n).toNat).length : Int) - (match dL G with | true => 0 | false => 1)
theorem Z7 {n : Int} {G : List Sg} {v : Int} : ∀ c,v ∈ fH n G c <-> ∃ x : Nat,x < c /\ v = (x : Int) /\ Z6 n G x = true
 | 0 => by simp [fH]
 | c + 1 => by
   rw [fH]
   cases hb : Z6 n G c <;> dsimp only
   ·rw [Z7 c]
    constructor
    ·rintro ⟨x,hx,h1,h2⟩;exact ⟨x,by omega,h1,h2⟩
    ·rintro ⟨x,hx,h1,h2⟩
     rcases Nat.lt_or_ge x c with h3 | h3
     ·exact ⟨x,h3,h1,h2⟩
     ·obtain rfl : x = c:=by omega
      rw [hb] at h2;cases h2
   ·rw [List.mem_append,Z7 c,List.mem_singleton]
    constructor
    ·rintro (⟨x,hx,h1,h2⟩ | rfl)
     ·exact ⟨x,by omega,h1,h2⟩
     ·exact ⟨c,by omega,rfl,hb⟩
    ·rintro ⟨x,hx,h1,h2⟩
     rcases Nat.lt_or_ge x c with h3 | h3
     ·exact .inl ⟨x,h3,h1,h2⟩
     ·obtain rfl : x = c:=by omega
      exact .inr h1
theorem wH (n : Int) (G : List Sg) : ∀ c,(fH n G c).Pairwise (· < ·)
 | 0 => List.Pairwise.nil
 | c + 1 => by
   rw [fH]
   cases hb : Z6 n G c <;> dsimp only
   ·exact wH n G c
   ·refine List.pairwise_append.2 ⟨wH n G c,List.pairwise_singleton ..,fun a ha b hb => ?_⟩
    rw [List.mem_singleton] at hb
    subst hb
    obtain ⟨x,hx,rfl,_⟩:=(Z7 c).1 ha
    omega
theorem ic {n : Int} (hn : bz n) {x : Int} : aM n x <-> ∃ k : Nat,k < (n * n).toNat /\ x = (k : Int):=by
 unfold aM
 constructor
 ·intro h;exact ⟨x.toNat,by omega,by omega⟩
 ·rintro ⟨k,hk,rfl⟩;omega
theorem abB {n : Int} {G : List Sg} (hn : bz n) {v : Int} : v ∈ fH n G (n * n).toNat <-> aM n v /\ aK n G v = v /\ eV n G v = false:=by
 rw [Z7]
 constructor
 ·rintro ⟨x,hx,rfl,h⟩
  simp only [Z6,Bool.and_eq_true,beq_iff_eq,Bool.not_eq_true'] at h
  exact ⟨(ic hn).2 ⟨x,hx,rfl⟩,h⟩
 ·rintro ⟨h1,h2,h3⟩
  obtain ⟨k,hk,rfl⟩:=(ic hn).1 h1
  refine ⟨k,hk,rfl,?_⟩
  simp only [Z6,Bool.and_eq_true,beq_iff_eq,Bool.not_eq_true']
  exact ⟨h2,h3⟩
theorem xN {n : Int} {G : List Sg} (hG : gH G) (hn : bz n) : zb n G = 0 <-> iE n G:=by
 unfold zb iE
 cases hm : dL G <;> dsimp only
 ·have hp : ∀ x,eV n G x = false:=fun x => by
   rw [Bool.eq_false_iff];intro h
   obtain ⟨g,hg,h2,_⟩:=kw.1 h
   rw [jo.2 ⟨g,hg,h2⟩] at hm;cases hm
  have h0 : aK n G 0 = 0:=by
   have h1:=Bd (Bx hG hn (gM hn))
   have h2:=(mS hG hn (gM hn)).1
   omega
  have hm0 : (0 : Int) ∈ fH n G (n * n).toNat:=(abB hn).2 ⟨gM hn,h0,hp 0⟩
  constructor
  ·intro h x hx
   have hlen : (fH n G (n * n).toNat).length = 1:=by omega
   obtain ⟨a,ha⟩:=List.length_eq_one_iff.1 hlen
   rw [ha,List.mem_singleton] at hm0
   have hl : aK n G x ∈ fH n G (n * n).toNat:=(abB hn).2 ⟨mS hG hn hx,DU hG hn hx,hp _⟩
   rw [ha,List.mem_singleton,<- hm0] at hl
   exact (Gu hG hn (gM hn)).2 (mW hG hn hx (hl ▸ gz hG hn hx))
  ·intro h
   have hall : ∀ v ∈ fH n G (n * n).toNat,v = 0:=fun v hv => by
    obtain ⟨h1,h2,_⟩:=(abB hn).1 hv
    have:=vw hG hn (gM hn) ((Gu hG hn (gM hn)).1 (h v h1))
    rw [h0,h2] at this;exact this.symm
   have ND:=wH n G (n * n).toNat
   generalize fH n G (n * n).toNat = l at *
   match l,hm0,hall,ND with
   | [a],_,_,_ => rfl
   | a :: b :: l,_,ha,hu =>
     have h1:=ha a (List.mem_cons_self ..)
     have h2:=ha b (List.mem_cons_of_mem _ (List.mem_cons_self ..))
     have h3:=(List.pairwise_cons.1 hu).1 b (List.mem_cons_self ..)
     omega
 ·constructor
  ·intro h x hx
   rw [Gv hG hn hx]
   cases hp : eV n G x
   ·have hl : aK n G x ∈ fH n G (n * n).toNat:=(abB hn).2 ⟨mS hG hn hx,DU hG hn hx,by rw [<- BA hG hn hx (gz hG hn hx)];exact hp⟩
    have : 0 < (fH n G (n * n).toNat).length:=List.length_pos_of_mem hl
    omega
   ·rfl
  ·intro h
   have : fH n G (n * n).toNat = []:=by
    refine List.eq_nil_iff_forall_not_mem.2 fun v hv => ?_
    obtain ⟨h1,_,h3⟩:=(abB hn).1 hv
    rw [(Gv hG hn h1).1 (h v h1)] at h3;cases h3
   rw [this];rfl
end Go.bK
end
section
namespace Go.bK
open Go.Sy (aO dF)
def gb (l : List Bool) (v : Int) : Bool:=l.getD v.toNat false
theorem lB {α : Type} {n m : Int} {v d : α} : ∀ {es : List (Int × α)},aO (dF es n v) m d = if n = m then v else aO es m d
 | [] => by
   by_cases h : n = m
   ·subst h;simp [dF,aO]
   ·have : (n == m) = false:=by simp [h]
    simp [dF,aO,this,h]
 | (k,w) :: es => by
   by_cases hk : k = n
   ·subst hk
    by_cases h : k = m
    ·subst h;simp [dF,aO]
    ·have : (k == m) = false:=by simp [h]
     simp [dF,aO,this,h]
   ·have h1 : (k == n) = false:=by simp [hk]
    have e : dF ((k,w) :: es) n v = (k,w) :: dF es n v:=by simp only [dF,h1]
    rw [e]
    by_cases h : k = m
    ·subst h
     have h2 : ¬ n = k:=fun h => hk h.symm
     simp [aO,h2]
    ·have h2 : (k == m) = false:=by simp [h]
     have ih:=lB (n:=n) (m:=m) (v:=v) (d:=d) (es:=es)
     simp only [aO,h2];exact ih
structure xj (n : Int) (U : List Int) (Pa : List Bool) (R : Int -> Int) (Q : Int -> Bool) (rk : Int -> Nat) : Prop where
 lu : U.length = (n * n).toNat
 lp : Pa.length = (n * n).toNat
 cell : ∀ v,aM n v -> aM n (gi U v)
 root : ∀ v,aM n v -> gi U v = v -> R v = v /\ Q v = false
 step : ∀ v,aM n v -> gi U v ≠ v -> R (gi U v) = R v /\ Q v = (gb Pa v != Q (gi U v)) /\ rk (gi U v) < rk v
 rc : ∀ v,aM n v -> aM n (R v) /\ gi U (R v) = R v
def zq (n : Int) (J : Int -> Int -> Bool -> Prop) (U : List Int) (Pa : List Bool) (M : List (Int × Bool)) : Prop :=
 ∃ R Q rk,xj n U Pa R Q rk /\ Uf J R Q (fun v => aO M v false)
theorem kL {l : List Int} {p v : Int} (h : p.toNat < l.length) : gi (l.set p.toNat v) p = v:=by simp [gi,h]
theorem gP {l : List Int} {p q v : Int} (hp : 0 <= p) (hq : 0 <= q) (h : q ≠ p) : gi (l.set p.toNat v) q = gi l q:=by
 unfold gi
 rw [List.getD_eq_getElem?_getD,List.getElem?_set_ne (by omega),<- List.getD_eq_getElem?_getD]
theorem CO {l : List Bool} {p : Int} {v : Bool} (h : p.toNat < l.length) : gb (l.set p.toNat v) p = v:=by simp [gb,h]
theorem G1 {l : List Bool} {p q : Int} {v : Bool} (hp : 0 <= p) (hq : 0 <= q) (h : q ≠ p) : gb (l.set p.toNat v) q = gb l q:=by
 unfold gb
 rw [List.getD_eq_getElem?_getD,List.getElem?_set_ne (by omega),<- List.getD_eq_getElem?_getD]
theorem Ed {n : Int} {J : Int -> Int -> Bool -> Prop} {U : List Int} {Pa : List Bool} {M : List (Int × Bool)} {R : Int -> Int} {Q : Int -> Bool} {rk : Int -> Nat} (hr : xj n U Pa R Q rk) (hu : Uf J R Q (fun v => aO M v false)) {x y : Int} {m b : Bool}
  (e : R x = R y) (hb : b = (aO M (R x) false || ((Q x != Q y) != m))) : zq n (qZ J x y m) U Pa (dF M (R x) b):=by
 refine ⟨R,Q,rk,hr,hu.JH e fun v => ?_⟩
 show aO (dF M (R x) b) v false = _
 rw [lB]
 by_cases h : R x = v
 ·subst h;rw [if_pos rfl,if_pos rfl,hb]
 ·rw [if_neg h,if_neg (fun h' => h h'.symm)]
theorem Ec {n : Int} {J : Int -> Int -> Bool -> Prop} {U : List Int} {Pa : List Bool} {M : List (Int × Bool)} {R : Int -> Int} {Q : Int -> Bool} {rk : Int -> Nat} (hr : xj n U Pa R Q rk) (hu : Uf J R Q (fun v => aO M v false)) {x y : Int} {m b : Bool} (hx : aM n x) (hy : aM n y)
  (e : R x ≠ R y) (hb : b = (aO M (R y) false || aO M (R x) false)) : zq n (qZ J x y m) (U.set (R x).toNat (R y)) (Pa.set (R x).toNat ((Q x != Q y) != m)) (dF M (R y) b):=by
 obtain ⟨px,RR⟩:=hr.rc x hx
 obtain ⟨py,P3⟩:=hr.rc y hy
 have Ko : (R x).toNat < U.length:=by rw [hr.lu];unfold aM at px;omega
 have PO : (R x).toNat < Pa.length:=by rw [hr.lp];unfold aM at px;omega
 have hne : R y ≠ R x:=fun h => e h.symm
 have P5:=hr.root _ px RR
 have P6:=hr.root _ py P3
 refine ⟨_,_,fun v => if R v = R x then rk v + rk (R y) + 1 else rk v,⟨by rw [List.length_set];exact hr.lu,by rw [List.length_set];exact hr.lp,fun v hv => ?_,fun v hv h => ?_,fun v hv h => ?_,fun v hv => ?_⟩,hu.join (Bq:=fun v => aO (dF M (R y) b) v false) e fun v hv => ?_⟩
 ·by_cases h1 : v = R x
  ·subst h1;rw [kL Ko];exact py
  ·rw [gP px.1 hv.1 h1];exact hr.cell v hv
 ·by_cases h1 : v = R x
  ·subst h1;rw [kL Ko] at h;exact absurd h hne
  ·rw [gP px.1 hv.1 h1] at h
   obtain ⟨a1,a2⟩:=hr.root v hv h
   have h2 : ¬ R v = R x:=by rw [a1];exact h1
   simp only [if_neg h2]
   exact ⟨a1,a2⟩
 ·by_cases h1 : v = R x
  ·subst h1
   rw [kL Ko,CO PO]
   rw [P5.1]
   simp only [if_true]
   rw [P6.1]
   rw [if_neg hne,if_neg hne]
   rw [if_neg hne]
   rw [P5.2,P6.2]
   exact ⟨rfl,by cases ((Q x != Q y) != m) <;> rfl,by omega⟩
  ·rw [gP px.1 hv.1 h1] at h ⊢
   rw [G1 px.1 hv.1 h1]
   obtain ⟨a1,a2,a3⟩:=hr.step v hv h
   rw [a1]
   by_cases h2 : R v = R x
   ·simp only [if_pos h2]
    exact ⟨trivial,by rw [a2];generalize ((Q x != Q y) != m) = c;cases gb Pa v <;> cases Q (gi U v) <;> cases c <;> rfl,by omega⟩
   ·simp only [if_neg h2]
    exact ⟨trivial,a2,a3⟩
 ·by_cases h2 : R v = R x
  ·simp only [if_pos h2]
   exact ⟨py,by rw [gP px.1 py.1 hne];exact P3⟩
  ·simp only [if_neg h2]
   have:=hr.rc v hv
   exact ⟨this.1,by rw [gP px.1 this.1.1 h2];exact this.2⟩
 ·rw [lB]
  by_cases h : R y = v
  ·subst h;rw [if_pos rfl,if_pos rfl,hb]
  ·rw [if_neg h,if_neg (fun h' => h h'.symm)]
/-! ### The joints of signs,one behind the other -/
def jP (n : Int) (G : List Sg) (k x : Nat) (v w : Int) (m : Bool) : Prop:=∃ i,(i < k \/ (i = k /\ v < (x : Int))) /\ i < G.length /\ aM n v /\ w = aX n (sg G i).1 v /\ m = (sg G i).2
theorem sw {n : Int} {G : List Sg} {k x : Nat} (hk : k < G.length) (hx : aM n (x : Int)) : jP n G k (x + 1) = qZ (jP n G k x) (x : Int) (aX n (sg G k).1 (x : Int)) (sg G k).2:=by
 funext v w m
 refine propext ⟨?_,?_⟩
 ·rintro ⟨i,hi,h1,h2,h3,h4⟩
  by_cases h5 : i = k /\ v = (x : Int)
  ·obtain ⟨rfl,rfl⟩:=h5;exact .inr ⟨rfl,h3,h4⟩
  ·refine .inl ⟨i,?_,h1,h2,h3,h4⟩
   rcases hi with hi | ⟨hi,hi'⟩
   ·exact .inl hi
   ·exact .inr ⟨hi,by have : v ≠ (x : Int):=fun h => h5 ⟨hi,h⟩;omega⟩
 ·rintro (⟨i,hi,h1⟩ | ⟨rfl,rfl,rfl⟩)
  ·exact ⟨i,hi.imp id (fun h => ⟨h.1,by omega⟩),h1⟩
  ·exact ⟨k,.inr ⟨rfl,by omega⟩,hk,hx,rfl,rfl⟩
theorem NM {n : Int} {G : List Sg} {k : Nat} (hk : k < G.length) : jP n G k (n * n).toNat = jP n G (k + 1) 0:=by
 funext v w m
 refine propext ⟨?_,?_⟩
 ·rintro ⟨i,hi,h1,h2,h3⟩
  exact ⟨i,.inl (by omega),h1,h2,h3⟩
 ·rintro ⟨i,hi,h1,h2,h3⟩
  refine ⟨i,?_,h1,h2,h3⟩
  unfold aM at h2
  rcases hi with hi | ⟨_,hi⟩
  ·rcases Nat.lt_or_ge i k with h4 | h4
   ·exact .inl h4
   ·exact .inr ⟨by omega,by omega⟩
  ·omega
theorem NL {n : Int} {G : List Sg} : jP n G G.length 0 = jG n G:=by
 funext v w m
 refine propext ⟨?_,?_⟩
 ·rintro ⟨i,hi,h1,h2,h3,h4⟩
  exact ⟨_,aaq h1,h2,h3,h4⟩
 ·rintro ⟨g,hg,h2,h3,h4⟩
  obtain ⟨i,hi,rfl⟩:=vO hg
  exact ⟨i,.inl hi,hi,h2,h3,h4⟩
theorem Lv {n : Int} {G : List Sg} {v w : Int} {m : Bool} : ¬ jP n G 0 0 v w m:=by
 rintro ⟨i,hi,h1,h2,_⟩
 unfold aM at h2
 omega
theorem OY {N : Nat} {v : Int} (h : 0 <= v) (h2 : v < (N : Int)) : gi (ay (fun y => y) N N) v = v:=by
 have h3 : v.toNat < N:=by omega
 simp [gi,ay,h3];omega
theorem JN {n : Int} {G : List Sg} (hn : bz n) : zq n (jP n G 0 0) (ay (fun y => y) (n * n).toNat (n * n).toNat) (List.replicate (n * n).toNat false) []:=by
 have j4 : 0 < n * n:=Int.mul_pos (by unfold bz at hn;omega) (by unfold bz at hn;omega)
 have hid : ∀ v,aM n v -> gi (ay (fun y => y) (n * n).toNat (n * n).toNat) v = v:=fun v hv => OY hv.1 (by unfold aM at hv;omega)
 exact ⟨id,fun _ => false,fun _ => 0,⟨c7,by simp,fun v hv => by rw [hid v hv];exact hv,fun v _ _ => ⟨rfl,rfl⟩,fun v hv h => absurd (hid v hv) h,fun v hv => ⟨hv,hid v hv⟩⟩,
  ⟨fun u => .refl,fun v w m j => absurd j Lv,fun _ => rfl,fun u h => by cases h⟩⟩
def gp (G : List Sg) : Nat -> Bool
 | 0 => false
 | k + 1 => gp G k || (sg G k).2
theorem DV {G : List Sg} : ∀ k,k <= G.length -> (gp G k = true <-> ∃ i,i < k /\ (sg G i).2 = true)
 | 0,_ => by simp [gp]
 | k + 1,hk => by
   rw [gp,Bool.or_eq_true,DV k (by omega)]
   constructor
   ·rintro (⟨i,hi,h⟩ | h)
    ·exact ⟨i,by omega,h⟩
    ·exact ⟨k,by omega,h⟩
   ·rintro ⟨i,hi,h⟩
    rcases Nat.lt_or_ge i k with h4 | h4
    ·exact .inl ⟨i,h4,h⟩
    ·obtain rfl : i = k:=by omega
     exact .inr h
theorem wP (G : List Sg) : gp G G.length = dL G:=by
 rw [Bool.eq_iff_iff,DV _ (Nat.le_refl _),jo]
 constructor
 ·rintro ⟨i,hi,h⟩;exact ⟨_,aaq hi,h⟩
 ·rintro ⟨g,hg,h⟩
  obtain ⟨i,hi,rfl⟩:=vO hg
  exact ⟨i,hi,h⟩
noncomputable def eH (n : Int) (G : List Sg) : Bool:=@decide (iE n G) (Classical.propDecidable _)
theorem jp {n : Int} {G : List Sg} : eH n G = true <-> iE n G:=@decide_eq_true_iff _ (Classical.propDecidable _)
theorem Jx {n : Int} {G : List Sg} {R : Int -> Int} {Q od : Int -> Bool} (h : Uf (jG n G) R Q od) (hm : dL G = true) {x : Int} (hx : aM n x) (ho : od (R x) = false) : eH n G = false:=by
 rw [Bool.eq_false_iff];intro hp
 have:=jp.1 hp
 unfold iE at this
 rw [hm] at this
 rw [h.loop.2 (this x hx)] at ho;cases ho
theorem Jy {n : Int} {G : List Sg} {R : Int -> Int} {Q od : Int -> Bool} (h : Uf (jG n G) R Q od) (hm : dL G = false) {x : Int} (hx : aM n x) (ho : R x ≠ R 0) : eH n G = false:=by
 rw [Bool.eq_false_iff];intro hp
 have:=jp.1 hp
 unfold iE at this
 rw [hm] at this
 exact ho (h.same.2 (this x hx)).symm
theorem Jz {n : Int} {G : List Sg} {R : Int -> Int} {Q od : Int -> Bool} (h : Uf (jG n G) R Q od) (hall : ∀ x,aM n x -> match dL G with | true => od (R x) = true | false => R x = R 0) : eH n G = true:=by
 rw [jp]
 unfold iE
 cases hm : dL G <;> rw [hm] at hall <;> dsimp only at hall ⊢
 ·exact fun x hx => h.same.1 (hall x hx).symm
 ·exact fun x hx => h.loop.1 (hall x hx)
end Go.bK
namespace Go.bK
theorem Fu {n n' : Int} {U : List Int} {Pa : List Bool} {R R' : Int -> Int} {Q Q' : Int -> Bool} {rk Oa : Int -> Nat} (h : xj n U Pa R Q rk) (h' : xj n' U Pa R' Q' Oa) : ∀ (k : Nat) (v : Int),rk v <= k -> aM n v -> aM n' v -> R v = R' v /\ Q v = Q' v:=by
 intro k
 induction k with
 | zero =>
   intro v hk hv j6
   by_cases hr : gi U v = v
   ·rw [(h.root v hv hr).1,(h.root v hv hr).2,(h'.root v j6 hr).1,(h'.root v j6 hr).2];exact ⟨rfl,rfl⟩
   ·have:=(h.step v hv hr).2.2;omega
 | succ k ih =>
   intro v hk hv j6
   by_cases hr : gi U v = v
   ·rw [(h.root v hv hr).1,(h.root v hv hr).2,(h'.root v j6 hr).1,(h'.root v j6 hr).2];exact ⟨rfl,rfl⟩
   ·obtain ⟨a1,a2,a3⟩:=h.step v hv hr
    obtain ⟨b1,b2,_⟩:=h'.step v j6 hr
    obtain ⟨c1,c2⟩:=ih _ (by omega) (h.cell v hv) (h'.cell v j6)
    rw [<- a1,<- b1,a2,b2,c1,c2];exact ⟨rfl,rfl⟩
def akh (U : List Int) (Pa : List Bool) (x : Int) : Prop:=∃ (n : Int) (R : Int -> Int) (Q : Int -> Bool) (rk : Int -> Nat),xj n U Pa R Q rk /\ aM n x /\ n * n <= 36
noncomputable def cm (U : List Int) (Pa : List Bool) (x : Int) : Int × Bool :=
 @dite _ (akh U Pa x) (Classical.propDecidable _) (fun h => (h.choose_spec.choose x,h.choose_spec.choose_spec.choose x)) (fun _ => (0,false))
theorem rH {n : Int} {U : List Int} {Pa : List Bool} {R : Int -> Int} {Q : Int -> Bool} {rk : Int -> Nat} (h : xj n U Pa R Q rk) {x : Int} (hx : aM n x) (hn : n * n <= 36) : cm U Pa x = (R x,Q x):=by
 have he : akh U Pa x:=⟨n,R,Q,rk,h,hx,hn⟩
 unfold cm
 rw [dif_pos he]
 obtain ⟨Oa,h',hx',_⟩:=he.choose_spec.choose_spec.choose_spec
 obtain ⟨e1,e2⟩:=Fu h' h (Oa x) x (Nat.le_refl _) hx' hx
 rw [e1,e2]
noncomputable def OV (p : Prop) : Go.Sy.aa:=@Go.Sy.aa.of p (Classical.propDecidable p)
end Go.bK
end
section
namespace Go.bK
/-! ### A proof looked at -/
def qK (L : List Wk) (p : Int) (w : List Int) : Bool:=(bj L (p,0,false) w).2 && ((bj L (p,0,false) w).1.1 == p)
def ag2 (L : List Wk) (p : Int) (W : List (List Int)) : List Sg:=W.map fun w => (bj L (p,0,false) w).1.2
noncomputable def abz (n : Int) (L : List Wk) (p : Int) (W : List (List Int)) : Int:=match W.all (qK L p) with | false => 8 | true => match eH n (ag2 L p W) with | true => 0 | false => 8
theorem zw {α : Type} {f : α -> Bool} {L : List α} {i : Nat} {d : α} (h : i < L.length) (hf : f (L.getD i d) = false) : (L.drop i).all f = false:=by
 rw [List.drop_eq_getElem_cons h,List.all_cons]
 have : L.getD i d = L[i]:=by simp [h]
 rw [<- this,hf];rfl
theorem C7 {α : Type} {f : α -> Bool} {L : List α} {i : Nat} {d : α} (h : i < L.length) (hf : f (L.getD i d) = true) : (L.drop i).all f = (L.drop (i + 1)).all f:=by
 rw [List.drop_eq_getElem_cons h,List.all_cons]
 have : L.getD i d = L[i]:=by simp [h]
 rw [<- this,hf];rfl
theorem C6 {α : Type} {f : α -> Bool} {L : List α} {i : Nat} (h : L.length <= i) : (L.drop i).all f = true:=by
 rw [List.drop_eq_nil_of_le h];rfl
theorem ag3 {L : List Wk} {p : Int} {W : List (List Int)} {i : Nat} (h : i < W.length) : ag2 L p (W.take (i + 1)) = ag2 L p (W.take i) ++ [(bj L (p,0,false) (gL W i)).1.2]:=by
 unfold ag2 gL
 rw [List.take_succ_eq_append_getElem h,List.map_append]
 simp [h]
theorem D8 {L : List Wk} {p : Int} {W : List (List Int)} {i : Nat} (h : i <= W.length) : (ag2 L p (W.take i)).length = i:=by
 unfold ag2;rw [List.length_map,List.length_take];omega
theorem tv {L : List Wk} {W : List (List Int)} (h : cK L W = 0) : ∀ w ∈ W,bN L w = true /\ w.length <= 96:=by
 unfold cK at h
 cases h1 : W.any fW <;> rw [h1] at h <;> dsimp only at h
 ·cases h2 : W.any (fun w => !bN L w) <;> rw [h2] at h <;> dsimp only at h
  ·intro w hw
   constructor
   ·have:=List.any_eq_false.1 h2 w hw
    simpa using this
   ·have:=List.any_eq_false.1 h1 w hw
    simp only [fW,decide_eq_true_eq] at this
    omega
  ·cases h
 ·cases h
theorem HZ {P : Int} {L : List Wk} (hw : cx P L) {p : Int} {W : List (List Int)} (hs : ∀ w ∈ W,bN L w = true) (hg : W.all (qK L p) = true) : ∀ g ∈ ag2 L p W,qa L p p g:=by
 intro g qQ
 obtain ⟨w,hw',rfl⟩:=List.mem_map.1 qQ
 have h1:=List.all_eq_true.1 hg w hw'
 simp only [qK,Bool.and_eq_true,beq_iff_eq] at h1
 refine ⟨w,vR.1 (hs w hw'),?_⟩
 have e : (bj L (p,0,false) w) = ((bj L (p,0,false) w).1,(bj L (p,0,false) w).2):=rfl
 rw [e,h1.1]
 congr 1
 exact Prod.ext h1.2 rfl
theorem K9 {P : Int} {L : List Wk} (hw : cx P L) (hP : P <= 6) {p : Int} (hp : 0 <= p /\ p <= P - 1) {n : Int} (hn : bz n) {W : List (List Int)} (hs : ∀ w ∈ W,bN L w = true) (h : abz n L p W = 0) : iE n (af L p):=by
 unfold abz at h
 cases h1 : W.all (qK L p) <;> rw [h1] at h <;> dsimp only at h
 ·cases h
 cases h2 : eH n (ag2 L p W) <;> rw [h2] at h <;> dsimp only at h
 ·cases h
 exact HS hn (nK hw hP hp).ok (fun g hg => (eo hw hP hp).2 (HZ hw hs h1 g hg)) (jp.1 h2)
/-! ### A proof made -/
noncomputable def jQ (n : Int) : Nat -> List Sg -> List Sg
 | 0,l => l
 | i + 1,l => match eH n (l.take i ++ l.drop (i + 1)) with | true => jQ n i (l.take i ++ l.drop (i + 1)) | false => jQ n i l
noncomputable def tU (n : Int) (G : List Sg) : List Sg:=jQ n G.length G
theorem sF {n : Int} : ∀ (i : Nat) (l : List Sg),(jQ n i l).Sublist l
 | 0,l => List.Sublist.refl l
 | i + 1,l => by
   rw [jQ]
   cases eH n (l.take i ++ l.drop (i + 1)) <;> dsimp only
   ·exact sF i l
   ·refine (sF i _).trans ?_
    conv => rhs;rw [<- List.take_append_drop i l]
    exact (List.Sublist.refl _).append (by rw [<- List.drop_drop];exact List.drop_sublist 1 _)
theorem tV {n : Int} : ∀ (i : Nat) (l : List Sg),iE n l -> iE n (jQ n i l)
 | 0,_,h => h
 | i + 1,l,h => by
   rw [jQ]
   cases hb : eH n (l.take i ++ l.drop (i + 1)) <;> dsimp only
   ·exact tV i l h
   ·exact tV i _ (jp.1 hb)
def Vr (L : List Wk) (p : Int) (g : Sg) : List Int:=((ag5 L p).getD ((ag5 L p).findIdx (fun e => e.1 == (p,g))) aG).2
theorem JP {P : Int} {L : List Wk} (hw : cx P L) (hP : P <= 6) {p : Int} (hp : 0 <= p /\ p <= P - 1) {g : Sg} (hg : g ∈ af L p) : bj L (p,0,false) (Vr L p g) = ((p,g),true) /\ (∀ s ∈ Vr L p g,bS L s) /\ (Vr L p g).length <= 95:=by
 have h1:=(kD hw hP hp).2 ((eo hw hP hp).1 hg)
 have hlt : (ag5 L p).findIdx (fun e => e.1 == (p,g)) < (ag5 L p).length:=by
  rw [List.findIdx_lt_length]
  obtain ⟨e,he,h2⟩:=List.any_eq_true.1 h1
  exact ⟨e,he,h2⟩
 have hk : ((ag5 L p).getD ((ag5 L p).findIdx (fun e => e.1 == (p,g))) aG).1 = (p,g):=by
  have:=List.findIdx_getElem (xs:=ag5 L p) (p:=fun e => e.1 == (p,g)) (w:=hlt)
  rw [List.getD_eq_getElem?_getD,List.getElem?_eq_getElem hlt]
  exact eq_of_beq this
 have lS:=yC hw hP hp _ (pc hlt)
 have hE:=xh hw hP hp
 refine ⟨?_,lS.2,?_⟩
 ·have:=lS.1
  rw [hk] at this
  exact this
 ·have:=hE.len _ hlt
  have:=hE.Kg hP
  unfold Vr
  omega
noncomputable def jO (n : Int) (L : List Wk) (p : Int) : List (List Int):=(tU n (af L p)).map (Vr L p)
theorem D2 {P : Int} {L : List Wk} (hw : cx P L) (hP : P <= 6) {p : Int} (hp : 0 <= p /\ p <= P - 1) : ∀ {l : List Sg},(∀ g ∈ l,g ∈ af L p) -> ag2 L p (l.map (Vr L p)) = l /\ (l.map (Vr L p)).all (qK L p) = true /\ ∀ w ∈ l.map (Vr L p),bN L w = true /\ w.length <= 95
 | [],_ => ⟨rfl,rfl,fun w hw => by cases hw⟩
 | g :: l,h => by
   obtain ⟨h1,h2,h3⟩:=D2 hw hP hp (l:=l) (fun g hg => h g (List.mem_cons_of_mem _ hg))
   obtain ⟨k1,k2,k3⟩:=JP hw hP hp (h g (List.mem_cons_self ..))
   refine ⟨?_,?_,?_⟩
   ·rw [List.map_cons]
    show (bj L (p,0,false) (Vr L p g)).1.2 :: ag2 L p (l.map (Vr L p)) = _
    rw [h1,k1]
   ·rw [List.map_cons,List.all_cons,h2,Bool.and_true]
    unfold qK;rw [k1];simp
   ·intro w hw'
    rw [List.map_cons,List.mem_cons] at hw'
    rcases hw' with rfl | hw'
    ·exact ⟨vR.2 k2,k3⟩
    ·exact h3 w hw'
theorem ag4 (L : List Wk) (p : Int) : (af L p).length <= 16:=oK _ _ 16
theorem N6 {P : Int} {L : List Wk} (hw : cx P L) (hP : P <= 6) {p : Int} (hp : 0 <= p /\ p <= P - 1) {n : Int} (Kq : iE n (af L p)) : abz n L p (jO n L p) = 0 /\ (jO n L p).length <= 16 /\ ∀ w ∈ jO n L p,bN L w = true /\ w.length <= 95:=by
 have hsub : ∀ g ∈ tU n (af L p),g ∈ af L p:=fun g hg => (sF _ _).subset hg
 obtain ⟨h1,h2,h3⟩:=D2 hw hP hp hsub
 refine ⟨?_,?_,h3⟩
 ·unfold abz jO
  have hb : eH n (tU n (af L p)) = true:=jp.2 (tV _ _ Kq)
  rw [h2,h1,hb]
 ·unfold jO
  rw [List.length_map]
  exact Nat.le_trans (sF _ _).length_le (ag4 L p)
end Go.bK
end
section
namespace Go.bK
open Go.Sy (aO dF)
def bG (F H : List Int) : Nat -> List (Int × Int)
 | 0 => []
 | i + 1 => dF (bG F H i) (gi F i) (gi H i)
def hF (F H : List Int) (v : Int) : Int:=aO (bG F H F.length) v 0
def eI (n P : Int) (L : List Wk) (p : Int) (Hf : Int -> Int) : List (List Int):=(List.range P.toNat).map fun q => (List.range (n * n).toNat).map fun z => rN n L p Hf (q : Nat) (z : Nat)
def l8 (E : List bR) (seen : List Nat) (q : Int) : Prop:=∃ j ∈ seen,(E.getD j aG).1.1 = q
def je (X : List (List Int)) (q : Nat) : List Int:=X.getD q []
structure um (n P : Int) (L : List Wk) (p : Int) (Hf : Int -> Int) (C : Int -> Int -> Prop) (X : List (List Int)) : Prop where
 len : X.length = P.toNat
 row : ∀ q,q < P.toNat -> (je X q).length = (n * n).toNat
 ni : ∀ q,q < P.toNat -> ∀ z,aM n z -> C (q : Nat) z -> gi (je X q) z = rN n L p Hf (q : Nat) z
 no : ∀ q,q < P.toNat -> ∀ z,aM n z -> ¬ C (q : Nat) z -> gi (je X q) z = 0
theorem um.congr {n P : Int} {L : List Wk} {p : Int} {Hf : Int -> Int} {C C' : Int -> Int -> Prop} {X : List (List Int)} (h : um n P L p Hf C X) (hc : ∀ q z,aM n z -> (C q z <-> C' q z)) : um n P L p Hf C' X :=
 ⟨h.len,h.row,fun q hq z hz c => h.ni q hq z hz ((hc _ _ hz).2 c),fun q hq z hz c => h.no q hq z hz (fun h' => c ((hc _ _ hz).1 h'))⟩
theorem tW {X : List (List Int)} {q q' : Nat} {v : List Int} (hq : q < X.length) : je (X.set q v) q' = if q = q' then v else je X q':=by
 unfold je
 by_cases h : q = q'
 ·subst h;rw [if_pos rfl];simp [hq]
 ·rw [if_neg h,List.getD_eq_getElem?_getD,List.getElem?_set_ne h,<- List.getD_eq_getElem?_getD]
theorem Ea {n P : Int} {L : List Wk} {p : Int} {Hf : Int -> Int} {C : Int -> Int -> Prop} {X : List (List Int)} (h : um n P L p Hf C X) {q0 : Nat} (hq : q0 < P.toNat) {t : Int} (ht : aM n t) {v : Int} (hv : v = rN n L p Hf (q0 : Nat) t) :
  um n P L p Hf (fun q z => C q z \/ (q = (q0 : Nat) /\ z = t)) (X.set q0 ((je X q0).set t.toNat v)):=by
 have Nu : q0 < X.length:=by rw [h.len];exact hq
 have ac3 : t.toNat < (je X q0).length:=by rw [h.row q0 hq];unfold aM at ht;omega
 refine ⟨by rw [List.length_set];exact h.len,fun q Ht => ?_,fun q Ht z hz c => ?_,fun q Ht z hz c => ?_⟩
 ·rw [tW Nu];split
  ·rw [List.length_set];exact h.row q0 hq
  ·exact h.row q Ht
 ·rw [tW Nu]
  by_cases e : q0 = q
  ·subst e;rw [if_pos rfl]
   by_cases e2 : z = t
   ·subst e2;rw [kL ac3];exact hv
   ·rw [gP ht.1 hz.1 e2]
    exact h.ni q0 hq z hz (c.resolve_right (fun c => e2 c.2))
  ·rw [if_neg e]
   exact h.ni q Ht z hz (c.resolve_right (fun c => e (by have:=c.1;omega)))
 ·rw [tW Nu]
  by_cases e : q0 = q
  ·subst e;rw [if_pos rfl]
   by_cases e2 : z = t
   ·exact absurd (.inr ⟨rfl,e2⟩) c
   ·rw [gP ht.1 hz.1 e2]
    exact h.no q0 hq z hz (fun c' => c (.inl c'))
  ·rw [if_neg e]
   exact h.no q Ht z hz (fun c' => c (.inl c'))
def cX (E : List bR) (n : Int) (seen : List Nat) (j : Nat) (x : Nat) (q z : Int) : Prop:=l8 E seen q \/ (q = (E.getD j aG).1.1 /\ ∃ y : Nat,y < x /\ aX n (E.getD j aG).1.2.1 (y : Int) = z)
theorem K5 {E : List bR} {n : Int} {seen : List Nat} {j : Nat} {q z : Int} : l8 E seen q <-> cX E n seen j 0 q z:=by
 unfold cX
 refine ⟨.inl,fun h => h.resolve_right ?_⟩
 rintro ⟨_,y,hy,_⟩
 exact absurd hy (Nat.not_lt_zero _)
theorem Dc {E : List bR} {n : Int} {seen : List Nat} {j x : Nat} {q z : Int} : (cX E n seen j x q z \/ (q = (E.getD j aG).1.1 /\ z = aX n (E.getD j aG).1.2.1 (x : Int))) <-> cX E n seen j (x + 1) q z:=by
 unfold cX
 constructor
 ·rintro ((h | ⟨h,y,hy,e⟩) | ⟨h,e⟩)
  ·exact .inl h
  ·exact .inr ⟨h,y,by omega,e⟩
  ·exact .inr ⟨h,x,by omega,e.symm⟩
 ·rintro (h | ⟨h,y,hy,e⟩)
  ·exact .inl (.inl h)
  ·rcases Nat.lt_or_ge y x with h1 | h1
   ·exact .inl (.inr ⟨h,y,h1,e⟩)
   ·obtain rfl : y = x:=by omega
    exact .inr ⟨h,e.symm⟩
theorem Mo {E : List bR} {n : Int} (hn : bz n) {seen : List Nat} {j : Nat} (ht : cT (E.getD j aG).1.2.1) {q z : Int} (hz : aM n z) : cX E n seen j (n * n).toNat q z <-> l8 E (j :: seen) q:=by
 unfold cX l8
 constructor
 ·rintro (⟨k,hk,e⟩ | ⟨h,_⟩)
  ·exact ⟨k,List.mem_cons_of_mem _ hk,e⟩
  ·exact ⟨j,List.mem_cons_self ..,h.symm⟩
 ·rintro ⟨k,hk,e⟩
  rcases List.mem_cons.1 hk with rfl | hk
  ·refine .inr ⟨e.symm,?_⟩
   have h1:=oN hn ht hz
   have h2:=ng hn (abD ht) hz
   obtain ⟨y,hy,e2⟩:=(ic hn).1 h2
   exact ⟨y,hy,by rw [<- e2];exact h1.2⟩
  ·exact .inl ⟨k,hk,e⟩
theorem ov {α : Type} {f : Nat -> α} {N q : Nat} {d : α} (h : q < N) : ((List.range N).map f).getD q d = f q:=by
 rw [List.getD_eq_getElem?_getD,List.getElem?_map,List.getElem?_range h];rfl
theorem JJ {n P : Int} {L : List Wk} {p : Int} {Hf : Int -> Int} : um n P L p Hf (fun q _ => l8 (ag5 L p) [] q) ((List.range P.toNat).map fun _ => List.replicate (n * n).toNat 0):=by
 refine ⟨by simp,fun q hq => ?_,fun q hq z hz c => ?_,fun q hq z hz c => ?_⟩
 ·unfold je;rw [ov hq,List.length_replicate]
 ·obtain ⟨j,hj,_⟩:=c;cases hj
 ·unfold je;rw [ov hq]
  unfold gi
  rw [List.getD_eq_getElem?_getD,List.getElem?_replicate]
  split <;> rfl
theorem Oi {n P : Int} {L : List Wk} {p : Int} {Hf : Int -> Int} {seen : List Nat} {X : List (List Int)} (h : um n P L p Hf (fun q _ => l8 (ag5 L p) seen q) X) (hall : ∀ j,j < (ag5 L p).length -> j ∈ seen) : X = eI n P L p Hf:=by
 have key : ∀ q,q < P.toNat -> ∀ z,aM n z -> gi (je X q) z = rN n L p Hf (q : Nat) z:=fun q hq z hz => by
  by_cases c : l8 (ag5 L p) seen (q : Nat)
  ·exact h.ni q hq z hz c
  ·rw [h.no q hq z hz c,Ol fun e he eq => ?_]
   obtain ⟨j,hj,rfl⟩:=List.mem_iff_getElem.1 he
   exact c ⟨j,hall j hj,by rw [List.getD_eq_getElem?_getD,List.getElem?_eq_getElem hj];exact eq⟩
 unfold eI
 refine List.ext_getElem (by simp [h.len]) fun q h1 h2 => ?_
 have hq : q < P.toNat:=by rw [<- h.len];exact h1
 simp only [List.getElem_map,List.getElem_range]
 have hr : X[q] = je X q:=by unfold je;simp [h1]
 rw [hr]
 refine List.ext_getElem (by simp [h.row q hq]) fun z h3 h4 => ?_
 simp only [List.getElem_map,List.getElem_range]
 have hz : aM n (z : Int):=by rw [h.row q hq] at h3;unfold aM;omega
 have:=key q hq z hz
 unfold gi at this
 simp only [Int.toNat_natCast] at this
 rw [<- this];simp [h3]
end Go.bK
end
