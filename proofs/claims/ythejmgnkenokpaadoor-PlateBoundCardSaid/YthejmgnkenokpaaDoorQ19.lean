/-
  Texts of the claims on chapter 3: Q19. No condition: lemmas and contracts.
-/
import Derived.Test.YthejmgnkenokpaaDoorQ18
set_option linter.all false
set_option maxRecDepth 100000
set_option maxHeartbeats 4000000
section
namespace Go.bK
def Vt (f : Nat -> Int) : Nat -> Int
 | 0 => 0
 | k + 1 => Vt f k + f k
theorem Wr {f g : Nat -> Int} : ∀ k,Vt (fun i => f i + g i) k = Vt f k + Vt g k
 | 0 => rfl
 | k + 1 => by simp only [Vt];rw [Wr k];omega
theorem VV {c : Int} : ∀ k : Nat,Vt (fun _ => c) k = (k : Int) * c
 | 0 => by simp [Vt]
 | k + 1 => by
   simp only [Vt];rw [VV k]
   have : ((k + 1 : Nat) : Int) * c = (k : Int) * c + c:=by rw [Int.natCast_add,Int.add_mul];simp
   omega
theorem VU {f g : Nat -> Int} : ∀ k,(∀ i,i < k -> f i = g i) -> Vt f k = Vt g k
 | 0,_ => rfl
 | k + 1,h => by simp only [Vt];rw [VU k (fun i hi => h i (by omega)),h k (by omega)]
theorem Xt {c : Int} {f : Nat -> Int} : ∀ k,Vt (fun i => c * f i) k = c * Vt f k
 | 0 => by simp [Vt]
 | k + 1 => by simp only [Vt];rw [Xt k,Int.mul_add]
def VM : List Nat -> (Nat -> Int) -> Int
 | [],_ => 0
 | a :: l,f => f a + VM l f
theorem Yj {f : Nat -> Int} {l m : List Nat} (h : l.Perm m) : VM l f = VM m f:=by
 induction h with
 | nil => rfl
 | cons x _ ih => simp only [VM,ih]
 | swap x y l => simp only [VM];omega
 | trans _ _ h1 h2 => rw [h1,h2]
theorem Xq {f : Nat -> Int} : ∀ l m : List Nat,VM (l ++ m) f = VM l f + VM m f
 | [],m => by simp [VM]
 | a :: l,m => by simp only [List.cons_append,VM];rw [Xq l m];omega
theorem V5 {f : Nat -> Int} : ∀ k,Vt f k = VM (List.range k) f
 | 0 => rfl
 | k + 1 => by
   rw [List.range_succ,Xq,<- V5 k,Vt]
   simp [VM]
theorem Xr {f : Nat -> Int} {h : Nat -> Nat} : ∀ l : List Nat,VM (l.map h) f = VM l (fun x => f (h x))
 | [] => rfl
 | a :: l => by simp only [List.map_cons,VM];rw [Xr l]
theorem YG : dG 7 (fun n => dG 8 fun t => ((List.range (n * n)).map (td n t)).isPerm (List.range (n * n))) = true:=by decide +kernel
theorem Yl {n t : Nat} (hn : n < 7) (ht : t < 8) (f : Nat -> Int) : Vt (fun x => f (td n t x)) (n * n) = Vt f (n * n):=by
 have h:=bV.1 (bV.1 YG n hn) t ht
 rw [V5,<- Xr,Yj (List.isPerm_iff.1 h),<- V5]
def Vy (n : Int) (H : Int -> Int -> Int) (q x : Int) : Int:=n * n * H q x - Vt (fun k => H q (k : Int)) (n * n).toNat
def Yw (n : Int) (H : Int -> Int -> Int) (w : Wk) : Prop:=∀ x,aM n x -> H w.1 x + H w.2.1 (aX n w.2.2 x) = H w.1 0 + H w.2.1 (aX n w.2.2 0)
theorem X3 {n : Int} (hn : bz n) (H : Int -> Int -> Int) (q : Int) : Vt (fun k => Vy n H q (k : Int)) (n * n).toNat = 0:=by
 have h1 : Vt (fun k => Vy n H q (k : Int)) (n * n).toNat = Vt (fun k => (n * n) * H q (k : Int)) (n * n).toNat + Vt (fun _ => - Vt (fun k => H q (k : Int)) (n * n).toNat) (n * n).toNat:=by
  rw [<- Wr];exact VU _ (fun i _ => by unfold Vy;omega)
 rw [h1,Xt,VV]
 have hp : 0 < n * n:=Int.mul_pos (by unfold bz at hn;omega) (by unfold bz at hn;omega)
 rw [Int.toNat_of_nonneg (by omega)]
 rw [Int.mul_neg];omega
theorem WH {n : Int} (hn : bz n) {H : Int -> Int -> Int} {w : Wk} (ht : cT w.2.2) (h : Yw n H w) {x : Int} (hx : aM n x) : Vy n H w.1 x + Vy n H w.2.1 (aX n w.2.2 x) = 0:=by
 obtain ⟨m,k,hm,hk,rfl,rfl⟩:=zV hn hx
 obtain ⟨t,ZM,e⟩:=ir ht
 have hN : ((m : Int) * (m : Int)).toNat = m * m:=by rw [<- Int.natCast_mul];exact Int.toNat_natCast _
 have hs : Vt (fun k => H w.1 (k : Int)) (m * m) + Vt (fun k => H w.2.1 (k : Int)) (m * m) = ((m * m : Nat) : Int) * (H w.1 0 + H w.2.1 (aX m w.2.2 0)):=by
  rw [<- Yl hm ZM (fun k => H w.2.1 (k : Int)),<- Wr,<- VV]
  refine VU _ fun i hi => ?_
  have:=h (i : Int) ⟨by omega,by rw [<- Int.natCast_mul];omega⟩
  rw [<- this]
  rw [e];rfl
 have hc:=h _ hx
 unfold Vy
 rw [hN]
 have e1 : (m : Int) * (m : Int) * H w.1 (k : Int) + (m : Int) * (m : Int) * H w.2.1 (aX m w.2.2 k) = ((m * m : Nat) : Int) * (H w.1 0 + H w.2.1 (aX m w.2.2 0)):=by
  rw [<- Int.mul_add,hc,Int.natCast_mul]
 omega
def V0 (n : Int) (H : Int -> Int -> Int) (L : List Wk) : Prop:=∀ w ∈ L,Yw n H w
theorem XG {n P : Int} (hn : bz n) {H : Int -> Int -> Int} {L : List Wk} (hw : cx P L) (h : V0 n H L) {s : Int} (hs : bS L s) {x : Int} (hx : aM n x) : Vy n H (dy L s).2.1 (aX n (dy L s).2.2 x) = - Vy n H (dy L s).1 x:=by
 unfold dy
 split
 ·have hi : (-1 - s).toNat < L.length:=by unfold bS at hs;omega
  have ht : cT (wk L (-1 - s).toNat).2.2:=(hw.at hi).2.2.2
  have h1:=WH hn ht (h _ (Cf hi)) (ng hn (eX ht) hx)
  rw [(oN hn ht hx).2] at h1
  dsimp only;omega
 ·have hi : s.toNat < L.length:=by unfold bS at hs;omega
  have ht : cT (wk L s.toNat).2.2:=(hw.at hi).2.2.2
  have h1:=WH hn ht (h _ (Cf hi)) hx
  dsimp only;omega
theorem YM (b : Bool) (v : Int) : rM (!b) v = - rM b v:=by cases b <;> simp [rM]
theorem Wv {n P : Int} (hn : bz n) {H : Int -> Int -> Int} {L : List Wk} (hw : cx P L) (h : V0 n H L) {K : Int -> Int} : ∀ {w : List Int} {x y : Sp},cT x.2.1 -> (∀ s ∈ w,bS L s) -> bj L x w = (y,true) ->
  (∀ c,aM n c -> Vy n H x.1 (aX n x.2.1 c) = rM x.2.2 (K c)) -> ∀ c,aM n c -> Vy n H y.1 (aX n y.2.1 c) = rM y.2.2 (K c)
 | [],x,y,_,_,hf,hK => by
   have : x = y:=congrArg Prod.fst hf
   subst this;exact hK
 | s :: w,x,y,hx,hs,hf,hK => by
   have xX:=hs s (List.mem_cons_self ..)
   rw [bj] at hf
   cases hb : bM L x s <;> rw [hb] at hf
   ·cases hf
   ·have he:=r8 hw xX
    refine Wv hn hw h (x:=bw L x s) (Di hx he.2.2) (fun s pT => hs s (List.mem_cons_of_mem _ pT)) hf fun c hc => ?_
    have h1:=XG hn hw h xX (ng hn hx hc)
    have h2 : (dy L s).1 = x.1:=eq_of_beq hb
    show Vy n H (dy L s).2.1 (aX n (bJ x.2.1 (dy L s).2.2) c) = rM (!x.2.2) (K c)
    rw [<- iT hn hx he.2.2 hc,h1,h2,hK c hc,YM]
theorem WI {n P : Int} (hn : bz n) {H : Int -> Int -> Int} {L : List Wk} (hw : cx P L) (h : V0 n H L) {a b : Int} {g : Sg} (hg : qa L a b g) {c : Int} (hc : aM n c) : Vy n H b (aX n g.1 c) = rM g.2 (Vy n H a c):=by
 obtain ⟨w,h1,h2⟩:=hg
 exact Wv hn hw h (K:=Vy n H a) (x:=(a,0,false)) ud h1 h2 (fun c hc => by rw [ue hn hc];rfl) c hc
theorem X4 {n P : Int} (hn : bz n) {H : Int -> Int -> Int} {L : List Wk} (hw : cx P L) (hP : P <= 6) (h : V0 n H L) {p : Int} (hp : 0 <= p /\ p <= P - 1) {x : Int} (hx : aM n x) :
  Vy n H p x = fO n (af L p) x * Vy n H p (aK n (af L p) x):=by
 have hG:=nK hw hP hp
 have act : ∀ g ∈ af L p,∀ c,aM n c -> Vy n H p (aX n g.1 c) = rM g.2 (Vy n H p c):=fun g hg c hc => WI hn hw h ((eo hw hP hp).1 hg) hc
 cases Ye : eV n (af L p) x
 ·obtain ⟨g,hg,e⟩:=mW hG hn hx (gz hG hn hx)
  rw [Ib hG hn hx Ye hg e]
  have:=act g hg _ (mS hG hn hx)
  rw [e] at this
  rw [this]
  cases g.2 <;> simp [rM]
 ·rw [JR.2 Ye,Int.zero_mul]
  obtain ⟨g,hg,h2,e⟩:=kw.1 Ye
  have:=act g hg x hx
  rw [e,h2] at this
  unfold rM at this;dsimp only at this;omega
theorem XF {n P : Int} (hn : bz n) {H : Int -> Int -> Int} {L : List Wk} (hw : cx P L) (hP : P <= 6) (h : V0 n H L) {p : Int} (hp : 0 <= p /\ p <= P - 1) (hf : zb n (af L p) = 0) {x : Int} (hx : aM n x) : Vy n H p x = 0:=by
 have hG:=nK hw hP hp
 have act : ∀ g ∈ af L p,∀ c,aM n c -> Vy n H p (aX n g.1 c) = rM g.2 (Vy n H p c):=fun g hg c hc => WI hn hw h ((eo hw hP hp).1 hg) hc
 have Kq:=(xN hG hn).1 hf
 unfold iE at Kq
 cases hm : dL (af L p) <;> rw [hm] at Kq <;> dsimp only at Kq
 ·have bT : ∀ c,aM n c -> Vy n H p c = Vy n H p 0:=fun c hc => by
   obtain ⟨b,cb⟩:=(show ∃ b,Cn (jG n (af L p)) 0 c b from Kq c hc)
   obtain ⟨g,hg,e⟩:=(Gu hG hn (gM hn)).1 ⟨b,cb⟩
   have h2 : g.2 = false:=by
    cases hq : g.2
    ·rfl
    ·rw [jo.2 ⟨g,hg,hq⟩] at hm;cases hm
   have:=act g hg 0 (gM hn)
   rw [e,h2] at this;exact this
  have hs:=X3 hn H p
  rw [VU (g:=fun _ => Vy n H p 0) _ (fun i hi => bT i ((ic hn).2 ⟨i,hi,rfl⟩)),VV] at hs
  have hpos : 0 < n * n:=(gM hn).2
  rw [Int.toNat_of_nonneg (by omega)] at hs
  rw [bT x hx]
  rcases Int.mul_eq_zero.1 hs with h0 | h0
  ·omega
  ·exact h0
 ·obtain ⟨g,hg,h2,e⟩:=kw.1 ((Gv hG hn hx).1 (Kq x hx))
  have:=act g hg x hx
  rw [e,h2] at this
  unfold rM at this;dsimp only at this;omega
end Go.bK
end
