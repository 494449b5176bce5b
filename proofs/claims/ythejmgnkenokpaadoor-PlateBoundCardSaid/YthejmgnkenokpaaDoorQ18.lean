/-
  Texts of the claims on chapter 3: Q18. No condition: lemmas and contracts.
-/
import Derived.Test.YthejmgnkenokpaaDoorPl1
set_option linter.all false
set_option maxRecDepth 100000
set_option maxHeartbeats 4000000
section
namespace Go.bK
theorem XW {L : List Wk} {w : Wk} {i : Nat} (h : i < L.length) : wk (L ++ [w]) i = wk L i:=by simp [wk,List.getElem?_append_left h]
theorem WK {L : List Wk} {w : Wk} {s : Int} (hs : bS L s) : dy (L ++ [w]) s = dy L s:=by
 unfold bS at hs
 unfold dy
 split
 ·rw [XW (by omega)]
 ·rw [XW (by omega)]
theorem Ym {L : List Wk} {w : Wk} {s : Int} (hs : bS L s) : bS (L ++ [w]) s:=by
 unfold bS at hs ⊢;rw [List.length_append];simp only [List.length_singleton];omega
theorem Xi {L : List Wk} {u : Wk} : ∀ {w : List Int} {x : Sp},(∀ s ∈ w,bS L s) -> bj (L ++ [u]) x w = bj L x w
 | [],_,_ => rfl
 | s :: w,x,h => by
   have hs:=h s (List.mem_cons_self ..)
   have e : bw (L ++ [u]) x s = bw L x s:=by unfold bw;rw [WK hs]
   have e' : bM (L ++ [u]) x s = bM L x s:=by unfold bM;rw [WK hs]
   rw [bj,bj,e',e,Xi (fun s hs => h s (List.mem_cons_of_mem _ hs))]
theorem YU {L : List Wk} {u : Wk} {a b : Int} {g : Sg} (h : qa L a b g) : qa (L ++ [u]) a b g:=by
 obtain ⟨w,h1,h2⟩:=h
 exact ⟨w,fun s hs => Ym (h1 s hs),by rw [Xi h1];exact h2⟩
theorem XU {P : Int} {L : List Wk} {u : Wk} (hw : cx P (L ++ [u])) (hP : P <= 6) {p : Int} (hp : 0 <= p /\ p <= P - 1) {g : Sg} (h : g ∈ af L p) : g ∈ af (L ++ [u]) p:=by
 have Kt : cx P L:=fun w h => hw w (List.mem_append_left _ h)
 exact (eo hw hP hp).2 (YU ((eo Kt hP hp).1 h))
theorem S9 {α : Type} [BEq α] [LawfulBEq α] : ∀ {l m : List α},l.Nodup -> (∀ x ∈ l,x ∈ m) -> l.length <= m.length
 | [],_,_,_ => Nat.zero_le _
 | a :: l,m,hd,h => by
   have hd:=List.nodup_cons.1 hd
   have h1 : ∀ x ∈ l,x ∈ m.erase a:=fun x hx => (List.mem_erase_of_ne (fun (e : x = a) => hd.1 (by rw [<- e];exact hx))).2 (h x (List.mem_cons_of_mem _ hx))
   have h2:=S9 hd.2 h1
   have h3:=h a (List.mem_cons_self ..)
   have h4:=List.length_pos_of_mem h3
   rw [List.length_erase_of_mem h3] at h2
   simp only [List.length_cons];omega
theorem TO {l : List Int} (h : l.Pairwise (· < ·)) : l.Nodup:=h.imp (fun h e => by omega)
theorem UY {n : Int} {G G' : List Sg} (h : ∀ g ∈ G,g ∈ G') {x : Int} (hp : eV n G' x = false) : eV n G x = false:=by
 rw [Bool.eq_false_iff] at hp ⊢
 intro h1
 obtain ⟨g,hg,h2⟩:=kw.1 h1
 exact hp (kw.2 ⟨g,h g hg,h2⟩)
theorem Ui {n : Int} {G : List Sg} (hm : dL G = false) (x : Int) : eV n G x = false:=by
 rw [Bool.eq_false_iff];intro h
 obtain ⟨g,hg,h2,_⟩:=kw.1 h
 rw [jo.2 ⟨g,hg,h2⟩] at hm;cases hm
theorem Uj {n : Int} {G G' : List Sg} (h : ∀ g ∈ G,g ∈ G') {x y : Int} (o : mV n G x y) : mV n G' x y:=by
 obtain ⟨g,hg,e⟩:=o;exact ⟨g,h g hg,e⟩
theorem T8 {n : Int} {G G' : List Sg} (hG : gH G) (hn : bz n) (h : ∀ g ∈ G,g ∈ G') {v : Int} (hv : v ∈ fH n G' (n * n).toNat) : v ∈ fH n G (n * n).toNat:=by
 obtain ⟨h1,h2,h3⟩:=(ot hn).1 hv
 have h4:=Bd (Uj h (gz hG hn h1))
 have h5:=Bd (Bx hG hn h1)
 exact (ot hn).2 ⟨h1,by omega,UY h h3⟩
theorem W8 {n : Int} {G : List Sg} (hG : gH G) (hn : bz n) : 0 <= zb n G:=by
 unfold zb
 cases hm : dL G <;> dsimp only
 ·have h0 : aK n G 0 = 0:=by
   have h1:=Bd (Bx hG hn (gM hn))
   have h2:=(mS hG hn (gM hn)).1
   omega
  have hm0 : (0 : Int) ∈ fH n G (n * n).toNat:=(ot hn).2 ⟨gM hn,h0,Ui hm 0⟩
  have:=List.length_pos_of_mem hm0
  omega
 ·omega
theorem TQ {n : Int} {G G' : List Sg} (hG : gH G) (Q6 : gH G') (hn : bz n) (h : ∀ g ∈ G,g ∈ G') : zb n G' <= zb n G:=by
 have hle : (fH n G' (n * n).toNat).length <= (fH n G (n * n).toNat).length:=S9 (TO (wH n G' _)) (fun x hx => T8 hG hn h hx)
 unfold zb
 cases hm : dL G <;> cases hm' : dL G' <;> dsimp only
 ·omega
 ·-- no sign with a minus before,one then: some class is lost
  obtain ⟨t,ht,UW⟩:=jo.1 hm'
  have hex : ∃ x,x ∈ fH n G (n * n).toNat /\ x ∉ fH n G' (n * n).toNat:=by
   refine Classical.byContradiction fun hno => ?_
   have bT : ∀ x,x ∈ fH n G (n * n).toNat -> x ∈ fH n G' (n * n).toNat:=fun x hx => Classical.byContradiction fun h => hno ⟨x,hx,h⟩
   have hls : ∀ x,aM n x -> aK n G' x = aK n G x:=fun x hx => by
    have h1 : aK n G x ∈ fH n G (n * n).toNat:=(ot hn).2 ⟨mS hG hn hx,DU hG hn hx,Ui hm _⟩
    have h2:=(ot hn).1 (bT _ h1)
    rw [vw Q6 hn hx (Uj h (gz hG hn hx))];exact h2.2.1
   have c0:=gM hn
   have hy : mV n G' 0 (aX n t.1 0):=⟨t,ht,rfl⟩
   have cy:=tR Q6.ok hn c0 hy
   have e:=vw Q6 hn c0 hy
   rw [hls 0 c0,hls _ cy] at e
   obtain ⟨s,hs,es⟩:=rD hG hn cy (gz hG hn cy) (e ▸ mW hG hn c0 (gz hG hn c0))
   have pT : s.2 = false:=by
    cases hq : s.2
    ·rfl
    ·rw [jo.2 ⟨s,hs,hq⟩] at hm;cases hm
   have hp : eV n G' 0 = true:=kw.2 ⟨gm t s,Q6.mul t ht s (h s hs),by rw [gm,UW,pT];rfl,by
    show aX n (bJ t.1 s.1) 0 = 0
    rw [<- iT hn (Q6.ok t ht) (hG.ok s hs) c0];exact es⟩
   have h0 : aK n G 0 = 0:=by
    have h1:=Bd (Bx hG hn c0)
    have h2:=(mS hG hn c0).1
    omega
   have hm0:=((ot hn).1 (bT 0 ((ot hn).2 ⟨c0,h0,Ui hm 0⟩))).2.2
   rw [hp] at hm0;cases hm0
  obtain ⟨x,h1,h2⟩:=hex
  have : (x :: fH n G' (n * n).toNat).length <= (fH n G (n * n).toNat).length:=S9 (List.nodup_cons.2 ⟨h2,TO (wH n G' _)⟩) (fun y hy => by
   rcases List.mem_cons.1 hy with rfl | hy
   ·exact h1
   ·exact T8 hG hn h hy)
  simp only [List.length_cons] at this
  omega
 ·exfalso
  obtain ⟨t,ht,UW⟩:=jo.1 hm
  rw [jo.2 ⟨t,h t ht,UW⟩] at hm';cases hm'
 ·omega
end Go.bK
end
