/-
  Texts of the claims on chapter 3: Q20. No condition: lemmas and contracts.
-/
import Derived.Test.YthejmgnkenokpaaDoorQ19
set_option linter.all false
set_option maxRecDepth 100000
set_option maxHeartbeats 4000000
section
namespace Go.bK
theorem Wq {n P : Int} {L : List Wk} (hw : cx P L) (hP : P <= 6) {p : Int} (hp : 0 <= p /\ p <= P - 1) (hn : bz n) (H : Int -> Int) {q : Int} {g : Sg} (h : qa L p q g) {x : Int} (hx : aM n x) :
  rN n L p H q (aX n g.1 x) = rM g.2 (tS n (af L p) H x):=by
 obtain ⟨e,he,e1⟩:=List.mem_map.1 (kC.1 ((kD hw hP hp).2 h))
 have:=Oj hw hP hp hn H he hx
 rw [e1] at this;exact this
theorem Ts {P : Int} {L : List Wk} (hw : cx P L) {w : Wk} (h : w ∈ L) : qa L w.1 w.2.1 (w.2.2,true):=by
 obtain ⟨i,hi,e⟩:=List.mem_iff_getElem.1 h
 have ew : wk L i = w:=by simp [wk,hi,e]
 have ht : cT w.2.2:=by have:=(hw.at hi).2.2.2;rw [ew] at this;exact this
 refine ⟨[(i : Int)],fun s hs => ?_,?_⟩
 ·rw [List.mem_singleton] at hs;subst hs;unfold bS;omega
 ·have e2 : dy L (i : Int) = w:=by
   unfold dy;rw [if_neg (by omega),Int.toNat_natCast,ew]
  have e3 : bM L (w.1,0,false) (i : Int) = true:=by unfold bM;rw [e2];exact beq_self_eq_true _
  have e4 : bw L (w.1,0,false) (i : Int) = (w.2.1,w.2.2,true):=by
   unfold bw;rw [e2];dsimp only;rw [(xC ht).2];rfl
  rw [bj,e3];dsimp only;rw [e4];rfl
theorem WY {n P : Int} {L : List Wk} (hw : cx P L) (hP : P <= 6) {p : Int} (hp : 0 <= p /\ p <= P - 1) {H : Int -> Int} {q z : Int} (h : ∀ g,¬ qa L p q g) : rN n L p H q z = 0:=by
 refine Ol fun e he e1 => h e.1.2 ?_
 subst e1
 exact (kD hw hP hp).1 (kC.2 (List.mem_map.2 ⟨e,he,rfl⟩))
theorem WX {n P : Int} {L : List Wk} (hw : cx P L) (hP : P <= 6) {p : Int} (hp : 0 <= p /\ p <= P - 1) (hn : bz n) (H : Int -> Int) {w : Wk} (h : w ∈ L) {x : Int} (hx : aM n x) :
  rN n L p H w.1 x + rN n L p H w.2.1 (aX n w.2.2 x) = 0:=by
 have ht : cT w.2.2:=(rR (hw w h)).2.2.2
 have hs:=Ts hw h
 by_cases hr : ∃ g,qa L p w.1 g
 ·obtain ⟨g,hg⟩:=hr
  have hg1:=rT hw hg
  have h2:=yD hw hg hs
  have hy : aM n (aX n (cD g.1) x):=ng hn (eX hg1) hx
  have a:=Wq hw hP hp hn H hg hy
  have b:=Wq hw hP hp hn H h2 hy
  rw [(oN hn hg1 hx).2] at a
  have e : aX n (gm g (w.2.2,true)).1 (aX n (cD g.1) x) = aX n w.2.2 x:=by
   show aX n (bJ g.1 w.2.2) _ = _
   rw [<- iT hn hg1 ht hy,(oN hn hg1 hx).2]
  rw [e] at b
  rw [a,b]
  unfold gm;dsimp only
  cases g.2 <;> simp [rM] <;> omega
 ·have c6 : ∀ g,¬ qa L p w.2.1 g:=fun g hg => hr ⟨_,yD hw hg (Cg hw hs)⟩
  rw [WY hw hP hp (fun g hg => hr ⟨g,hg⟩),WY hw hP hp c6];rfl
theorem YQ {n P : Int} {L : List Wk} (hw : cx P L) (hP : P <= 6) {p : Int} (hp : 0 <= p /\ p <= P - 1) (hn : bz n) (H : Int -> Int) : V0 n (rN n L p H) L:=fun w h x hx => by
 rw [WX hw hP hp hn H h hx,WX hw hP hp hn H h (gM hn)]
theorem YO {n P : Int} {L : List Wk} (hw : cx P L) (hP : P <= 6) {p : Int} (hp : 0 <= p /\ p <= P - 1) (hn : bz n) (H : Int -> Int) {x : Int} (hx : aM n x) : rN n L p H p x = tS n (af L p) H x:=by
 have:=Wq hw hP hp hn H (JS L p) hx
 rw [ue hn hx] at this;exact this
theorem XS {n : Int} {G : List Sg} (hG : gH G) (hn : bz n) {H : Int -> Int} (hH : ∀ f l,fH n G (n * n).toNat = f :: l -> H f = 1 /\ ∀ v ∈ l,H v = 0) :
  (∀ x,aM n x -> tS n G H x = tS n G H 0) <-> zb n G = 0:=by
 have aag : ∀ v,v ∈ fH n G (n * n).toNat -> tS n G H v = H v:=fun v hv => by
  obtain ⟨h1,h2,h3⟩:=(ot hn).1 hv
  unfold tS
  rcases YT hG hn h1 h2 with h4 | h4
  ·rw [JR.1 h4] at h3;cases h3
  ·rw [h4,h2,Int.one_mul]
 have c0:=gM hn
 constructor
 ·intro h
  unfold zb
  cases he : fH n G (n * n).toNat with
  | nil =>
    cases hm : dL G <;> dsimp only
    ·have h0 : aK n G 0 = 0:=by
      have h1:=Bd (Bx hG hn c0)
      have h2:=(mS hG hn c0).1
      omega
     have : (0 : Int) ∈ fH n G (n * n).toNat:=(ot hn).2 ⟨c0,h0,Ui hm 0⟩
     rw [he] at this;cases this
    ·rfl
  | cons f l =>
    obtain ⟨h1,h2⟩:=hH f l he
    have hf : f ∈ fH n G (n * n).toNat:=by rw [he];exact List.mem_cons_self ..
    have cf:=((ot hn).1 hf).1
    have e1 : tS n G H 0 = 1:=by rw [<- h f cf,aag f hf,h1]
    cases hm : dL G <;> dsimp only
    ·match l,h2,he with
     | [],_,_ => rfl
     | b :: l,h2,he =>
       have hb : b ∈ fH n G (n * n).toNat:=by rw [he];simp
       have:=h b ((ot hn).1 hb).1
       rw [aag b hb,h2 b (List.mem_cons_self ..),e1] at this;cases this
    ·obtain ⟨g,hg,h3⟩:=jo.1 hm
     have h4:=LB hG hn H c0 hg
     rw [h _ (ng hn (hG.ok g hg) c0),e1,h3] at h4
     cases h4
 ·intro h
  have Kq:=(xN hG hn).1 h
  unfold iE at Kq
  cases hm : dL G <;> rw [hm] at Kq <;> dsimp only at Kq
  ·intro x hx
   have hl : aK n G x = aK n G 0:=(vw hG hn c0 ((Gu hG hn c0).1 (Kq x hx))).symm
   unfold tS
   rw [Wd hG hn hm hx,Wd hG hn hm c0,hl]
  ·have hz : ∀ x,aM n x -> tS n G H x = 0:=fun x hx => by
    unfold tS
    rw [JR.2 ((Gv hG hn hx).1 (Kq x hx)),Int.zero_mul]
   intro x hx
   rw [hz x hx,hz 0 c0]
theorem Zd {b : Bool} {v M : Int} (h : -M <= v /\ v <= M) : -M <= rM b v /\ rM b v <= M:=by cases b <;> simp only [rM] <;> omega
theorem Zc {n : Int} {G : List Sg} {H : Int -> Int} {M : Int} (hM : ∀ v,-M <= H v /\ H v <= M) (x : Int) : -M <= tS n G H x /\ tS n G H x <= M:=by
 unfold tS
 have:=hM (aK n G x)
 rcases JQ n G x with h | h | h <;> rw [h] <;> omega
theorem Ze {n : Int} {L : List Wk} {p : Int} {H : Int -> Int} {M : Int} (hM : ∀ v,-M <= H v /\ H v <= M) (q z : Int) : -M <= rN n L p H q z /\ rN n L p H q z <= M:=by
 unfold rN
 split
 ·exact Zd (Zc hM _)
 ·have:=hM 0;omega
end Go.bK
end
