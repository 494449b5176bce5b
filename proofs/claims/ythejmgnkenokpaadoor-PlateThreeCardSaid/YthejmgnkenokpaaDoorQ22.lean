/-
  Texts of the claims on chapter 3: Q22. No condition: lemmas and contracts.
-/
import Derived.Test.YthejmgnkenokpaaDoorQ20
set_option linter.all false
set_option maxRecDepth 100000
set_option maxHeartbeats 4000000
section
namespace Go.bK
theorem Ur {L : List Wk} {i : Nat} : dy L (i : Int) = wk L i:=by
 unfold dy;rw [if_neg (by omega),Int.toNat_natCast]
theorem Uq {L : List Wk} {i : Nat} : dy L (-1 - (i : Int)) = ((wk L i).2.1,(wk L i).1,cD (wk L i).2.2):=by
 unfold dy
 have e : (-1 - (-1 - (i : Int))).toNat = i:=by omega
 rw [if_pos (by omega),e]
theorem Tx {P : Int} {L : List Wk} (hw : cx P L) {I : Sp -> Prop}
  (hf : ∀ w ∈ L,∀ g : Sg,cT g.1 -> I (w.1,g) -> I (w.2.1,bJ g.1 w.2.2,!g.2))
  (hb : ∀ w ∈ L,∀ g : Sg,cT g.1 -> I (w.2.1,g) -> I (w.1,bJ g.1 (cD w.2.2),!g.2)) : ∀ {w : List Int} {x y : Sp},cT x.2.1 -> (∀ s ∈ w,bS L s) -> bj L x w = (y,true) -> I x -> I y
 | [],x,y,_,_,h,hx => by
   have : x = y:=congrArg Prod.fst h
   exact this ▸ hx
 | s :: w,x,y,ht,hs,h,hx => by
   have xX:=hs s (List.mem_cons_self ..)
   rw [bj] at h
   cases Kj : bM L x s <;> rw [Kj] at h
   ·cases h
   ·have he:=r8 hw xX
    refine Tx hw hf hb (x:=bw L x s) (Di ht he.2.2) (fun s h => hs s (List.mem_cons_of_mem _ h)) h ?_
    have h2 : (dy L s).1 = x.1:=eq_of_beq Kj
    unfold bw
    unfold bS at xX
    by_cases hneg : s < 0
    ·obtain ⟨i,rfl⟩ : ∃ i : Nat,s = -1 - (i : Int):=⟨(-1 - s).toNat,by omega⟩
     rw [Uq] at h2 ⊢
     dsimp only at h2 ⊢
     refine hb _ (Cf (by omega)) x.2 ht ?_
     rw [h2];exact hx
    ·obtain ⟨i,rfl⟩ : ∃ i : Nat,s = (i : Int):=⟨s.toNat,by omega⟩
     rw [Ur] at h2 ⊢
     refine hf _ (Cf (by omega)) x.2 ht ?_
     rw [h2];exact hx
def SE (t : Int) : Bool:=decide (4 <= t)
theorem Tu : dG 8 (fun a => dG 8 fun b => (decide (4 <= cmp a b) == (decide (4 <= a) != decide (4 <= b))) && (decide (4 <= inv a) == decide (4 <= a))) = true:=by decide +kernel
theorem SV (k : Nat) : SE (k : Int) = decide (4 <= k):=by unfold SE;simp only [decide_eq_decide];omega
theorem SJ {a b : Int} (ha : cT a) (hb : cT b) : SE (bJ a b) = (SE a != SE b):=by
 obtain ⟨i,hi,rfl⟩:=ir ha
 obtain ⟨j,hj,rfl⟩:=ir hb
 have h:=bV.1 (bV.1 Tu i hi) j hj
 simp only [Bool.and_eq_true,beq_iff_eq] at h
 have:=h.1
 unfold bJ;simp only [Int.toNat_natCast]
 rw [SV,SV,SV];exact this
theorem SZ {a : Int} (ha : cT a) : SE (cD a) = SE a:=by
 obtain ⟨i,hi,rfl⟩:=ir ha
 have h:=bV.1 (bV.1 Tu i hi) 0 (by omega)
 simp only [Bool.and_eq_true,beq_iff_eq] at h
 have:=h.2
 unfold cD;simp only [Int.toNat_natCast]
 rw [SV,SV];exact this
theorem TC {a b : Int} (ha : cT a) (hb : cT b) : bJ (bJ a b) (cD b) = a:=by
 rw [uK ha hb (eX hb),(oV hb).1,(xC ha).1]
theorem TB {a b : Int} (ha : cT a) (hb : cT b) : bJ a (bJ (cD a) b) = b:=by
 rw [<- uK ha (eX ha) hb,(oV ha).1,(xC hb).2]
theorem UG : dG 8 (fun a => (!decide (4 <= a)) || (cmp a a == 0)) = true:=by decide +kernel
theorem Tf {l : Int} (hl : cT l) (h : 4 <= l) : bJ l l = 0:=by
 obtain ⟨i,hi,rfl⟩:=ir hl
 have:=bV.1 UG i hi
 simp only [Bool.or_eq_true,Bool.not_eq_true',decide_eq_false_iff_not,beq_iff_eq] at this
 unfold bJ;simp only [Int.toNat_natCast]
 omega
section
variable {a b l : Int}
def SY (a b l : Int) : Int:=bJ (cD (bJ a b)) l
def SL (a b l : Int) : List Wk:=[(0,1,a),(1,2,b),(2,0,SY a b l)]
def S3 (a b l : Int) : List Wk:=SL a b l ++ [(0,1,bJ a 1)]
theorem TU : cT 1:=⟨by omega,by omega⟩
theorem Uk (ha : cT a) (hb : cT b) (hl : cT l) : cT (SY a b l):=Di (eX (Di ha hb)) hl
theorem Tp {t : Int} (h : cT t) : aQ t 0 7 = true:=bA.2 h
theorem S2 (ha : cT a) (hb : cT b) (hl : cT l) : cx 3 (SL a b l):=by
 intro w hw
 simp only [SL,List.mem_cons,List.not_mem_nil,or_false] at hw
 rcases hw with rfl | rfl | rfl
 ·simp [eJ,Tp ha];decide
 ·simp [eJ,Tp hb];decide
 ·simp [eJ,Tp (Uk ha hb hl)];decide
theorem Ta (ha : cT a) (hb : cT b) (hl : cT l) : cx 3 (S3 a b l):=by
 intro w hw
 rcases List.mem_append.1 hw with h | h
 ·exact S2 ha hb hl w h
 ·rw [List.mem_singleton] at h;subst h
  simp [eJ,Tp (Di ha TU)];decide
theorem TN : ∀ w ∈ SL a b l,w ∈ S3 a b l:=fun _ h => List.mem_append_left _ h
theorem Th {L : List Wk} (hw : cx 3 L) (hs : ∀ w ∈ SL a b l,w ∈ L) : qa L 0 1 (a,true) /\ qa L 1 2 (b,true) /\ qa L 2 0 (SY a b l,true) :=
 ⟨Ts hw (hs (0,1,a) (by simp [SL])),Ts hw (hs (1,2,b) (by simp [SL])),Ts hw (hs (2,0,SY a b l) (by simp [SL]))⟩
theorem Tg (ha : cT a) (hb : cT b) (hl : cT l) {L : List Wk} (hw : cx 3 L) (hs : ∀ w ∈ SL a b l,w ∈ L) : qa L 0 0 (l,true):=by
 obtain ⟨h1,h2,h3⟩:=Th hw hs
 have h:=yD hw (yD hw h1 h2) h3
 have e : gm (gm (a,true) (b,true)) (SY a b l,true) = (l,true):=by
  unfold gm SY;dsimp only
  rw [TB (Di ha hb) hl];rfl
 rw [e] at h;exact h
theorem TY (ha : cT a) (hb : cT b) (hl : cT l) {L : List Wk} (hw : cx 3 L) (hs : ∀ w ∈ SL a b l,w ∈ L) {p : Int} (hp : 0 <= p /\ p <= 3 - 1) : ∃ h,qa L 0 p h:=by
 obtain ⟨h1,h2,_⟩:=Th hw hs
 obtain rfl | rfl | rfl : p = 0 \/ p = 1 \/ p = 2:=by omega
 ·exact ⟨_,JS L 0⟩
 ·exact ⟨_,h1⟩
 ·exact ⟨_,yD hw h1 h2⟩
theorem Ti {P : Int} {L : List Wk} (hw : cx P L) {p q : Int} {h g : Sg} (hh : qa L p q h) (hg : qa L p p g) : qa L q q (gm (gm (gv h) g) h):=yD hw (yD hw (Cg hw hh) hg) hh
theorem UL {n : Int} {G : List Sg} (hG : gH G) (hn : bz n) (h : ((0 : Int),true) ∈ G) : zb n G = 0:=by
 refine (xN hG hn).2 ?_
 unfold iE
 rw [jo.2 ⟨_,h,rfl⟩]
 exact fun x hx => (Gv hG hn hx).2 (kw.2 ⟨_,h,rfl,ue hn hx⟩)
theorem UN (ha : cT a) (hb : cT b) {n : Int} (hn : bz n) {p : Int} (hp : 0 <= p /\ p <= 3 - 1) : zb n (af (SL a b 0) p) = 0:=by
 have hw:=S2 ha hb ud
 obtain ⟨h,hh⟩:=TY ha hb ud hw (fun _ h => h) hp
 have hc:=Ti hw hh (Tg ha hb ud hw (fun _ h => h))
 have hk:=rT hw hh
 have e : gm (gm (gv h) (0,true)) h = (0,true):=by
  unfold gm gv;dsimp only
  rw [(xC (eX hk)).1,(oV hk).2]
  cases h.2 <;> rfl
 rw [e] at hc
 exact UL (nK hw (by omega) hp) hn ((eo hw (by omega) hp).2 hc)
def SR (a b : Int) (q : Int) : Sg:=if q = 0 then (0,false) else if q = 1 then (a,true) else (bJ a b,false)
def Ud (l : Int) (g : Sg) : Prop:=g = (0,false) \/ g = (l,true)
theorem TS (hl : cT l) (h4 : 4 <= l) {g : Sg} (h : Ud l g) : Ud l (gm g (l,true)):=by
 rcases h with rfl | rfl
 ·exact .inr (G5 (a:=(l,true)) hl).2
 ·refine .inl ?_
  unfold gm;dsimp only;rw [Tf hl h4];rfl
theorem Tq (hl : cT l) {g : Sg} (h : Ud l g) : cT g.1:=by
 rcases h with rfl | rfl
 ·exact ud
 ·exact hl
theorem Ul (ha : cT a) (hb : cT b) (hl : cT l) (h4 : 4 <= l) {q : Int} {g : Sg} (h : qa (SL a b l) 0 q g) : ∃ z,Ud l z /\ g = gm z (SR a b q):=by
 have hw:=S2 ha hb hl
 have hab:=Di ha hb
 have hc:=Uk ha hb hl
 obtain ⟨w,h1,h2⟩:=h
 have e1 : gm ((0 : Int),false) (a,true) = (a,true):=(G5 (a:=(a,true)) ha).2
 have Va : bJ (bJ a b) (SY a b l) = l:=TB hab hl
 have U3 : cD (SY a b l) = bJ l (bJ a b):=by
  have x1 : bJ (SY a b l) (bJ l (bJ a b)) = 0:=by
   unfold SY
   rw [uK (eX hab) hl (Di hl hab),<- uK hl hl hab,Tf hl h4,(xC hab).2,(oV hab).2]
  have x2 : bJ (cD (SY a b l)) (bJ (SY a b l) (bJ l (bJ a b))) = bJ l (bJ a b):=by
   rw [<- uK (eX hc) hc (Di hl hab),(oV hc).2,(xC (Di hl hab)).2]
  rw [x1,(xC (eX hc)).1] at x2
  exact x2
 refine Tx hw (I:=fun x => ∃ z,Ud l z /\ x.2 = gm z (SR a b x.1)) ?_ ?_ (x:=(0,0,false)) ud h1 h2 ⟨(0,false),.inl rfl,by simp [SR,gm];rfl⟩
 ·rintro w mL g - ⟨z,hz,e⟩
  have S8:=Tq hl hz
  simp only [SL,List.mem_cons,List.not_mem_nil,or_false] at mL
  rcases mL with rfl | rfl | rfl
  ·simp only [SR,if_pos] at e
   refine ⟨z,hz,?_⟩
   simp only [SR]
   rw [(G5 S8).1] at e
   subst e
   simp [gm]
  ·simp [SR] at e
   refine ⟨z,hz,?_⟩
   subst e
   simp [SR,gm,uK S8 ha hb]
  ·simp [SR] at e
   refine ⟨gm z (l,true),TS hl h4 hz,?_⟩
   subst e
   simp [SR,gm]
   rw [uK S8 hab hc,Va,(xC (Di S8 hl)).1]
 ·rintro w mL g - ⟨z,hz,e⟩
  have S8:=Tq hl hz
  simp only [SL,List.mem_cons,List.not_mem_nil,or_false] at mL
  rcases mL with rfl | rfl | rfl
  ·simp [SR] at e
   refine ⟨z,hz,?_⟩
   subst e
   simp [SR,gm]
   rw [TC S8 ha,(xC S8).1]
  ·simp [SR] at e
   refine ⟨z,hz,?_⟩
   subst e
   simp [SR,gm]
   rw [<- uK S8 ha hb,TC (Di S8 ha) hb]
  ·simp [SR] at e
   refine ⟨gm z (l,true),TS hl h4 hz,?_⟩
   rw [(G5 S8).1] at e
   subst e
   simp [SR,gm]
   rw [U3,uK S8 hl hab]
theorem UH : dG 7 (fun n => (decide (n < 2)) || dG 8 fun t => (decide (t < 4)) || !(dG (n * n) fun x => td n t x == x)) = true:=by decide +kernel
theorem U4 {n t : Int} (hn : bz n) (h2 : 2 <= n) (ht : cT t) (h4 : 4 <= t) : ∃ x,aM n x /\ aX n t x ≠ x:=by
 obtain ⟨k,hk,rfl⟩:=ir ht
 obtain ⟨m,rfl⟩ : ∃ m : Nat,n = (m : Int):=⟨n.toNat,by omega⟩
 have h:=bV.1 UH m (by unfold bz at hn;omega)
 simp only [Bool.or_eq_true,decide_eq_true_eq] at h
 have h:=h.resolve_left (by omega)
 have h:=bV.1 h k hk
 simp only [Bool.or_eq_true,decide_eq_true_eq] at h
 have h:=h.resolve_left (by omega)
 rw [Bool.not_eq_true'] at h
 refine Classical.byContradiction fun hno => ?_
 rw [Bool.eq_false_iff] at h
 refine h (bV.2 fun i hi => ?_)
 rw [beq_iff_eq]
 refine Classical.byContradiction fun Vg => hno ⟨(i : Int),⟨by omega,by rw [<- Int.natCast_mul];omega⟩,fun e => Vg ?_⟩
 unfold aX at e;simp only [Int.toNat_natCast] at e
 omega
theorem Ux (ha : cT a) (hb : cT b) (hl : cT l) (h4 : 4 <= l) {n : Int} (hn : bz n) (h2 : 2 <= n) {p : Int} (hp : 0 <= p /\ p <= 3 - 1) : zb n (af (SL a b l) p) ≠ 0:=by
 have hw:=S2 ha hb hl
 have hG:=nK hw (by omega) hp
 obtain ⟨h,hh⟩:=TY ha hb hl hw (fun _ h => h) hp
 have hk:=rT hw hh
 have hc:=Ti hw hh (Tg ha hb hl hw (fun _ h => h))
 -- each closed walk's sign is none,or that reflection turned
 have bT : ∀ g ∈ af (SL a b l) p,g = (0,false) \/ g = gm (gm (gv h) (l,true)) h:=fun g hg => by
  have hg:=(eo hw (by omega) hp).1 hg
  have dI:=rT hw hg
  obtain ⟨z,hz,e⟩:=Ul ha hb hl h4 hh
  obtain ⟨y,hy,e'⟩:=Ul ha hb hl h4 (yD hw hh hg)
  have S7:=Tq hl hz
  have Vl:=Tq hl hy
  have Rt : gm (gv h) (gm h g) = g:=by rw [<- SQ (Ki hk) hk dI,(M7 hk).2,(G5 dI).2]
  have hF : cT (SR a b p).1:=by
   unfold SR;split
   ·exact ud
   ·split
    ·exact ha
    ·exact Di ha hb
  by_cases UX : y = z
  ·left
   rw [UX,<- e] at e'
   rw [e',(M7 hk).2] at Rt
   exact Rt.symm
  ·right
   have hm : y = gm (l,true) z:=by
    have z2 : gm (l,true) (l,true) = (0,false):=by unfold gm;dsimp only;rw [Tf hl h4];rfl
    rcases hy with rfl | rfl <;> rcases hz with rfl | rfl
    ·exact absurd rfl UX
    ·exact z2.symm
    ·exact (G5 (a:=(l,true)) hl).1.symm
    ·exact absurd rfl UX
   rw [hm,SQ (a:=(l,true)) hl S7 hF,<- e] at e'
   rw [<- Rt,e',SQ (Ki hk) (b:=(l,true)) hl hk]
 have Vi : 4 <= (gm (gm (gv h) (l,true)) h).1:=by
  have : SE (gm (gm (gv h) (l,true)) h).1 = true:=by
   unfold gm gv;dsimp only
   rw [SJ (Di (eX hk) hl) hk,SJ (eX hk) hl,SZ hk]
   have : SE l = true:=decide_eq_true h4
   rw [this];cases SE h.1 <;> rfl
  exact of_decide_eq_true this
 obtain ⟨x,hx,hne⟩:=U4 hn h2 (rT hw hc) Vi
 intro hf
 have Kq:=(xN hG hn).1 hf
 unfold iE at Kq
 have hmn : dL (af (SL a b l) p) = true:=jo.2 ⟨_,(eo hw (by omega) hp).2 hc,by
  unfold gm gv;dsimp only;cases h.2 <;> rfl⟩
 rw [hmn] at Kq;dsimp only at Kq
 obtain ⟨g,hg,AJ,e⟩:=kw.1 ((Gv hG hn hx).1 (Kq x hx))
 rcases bT g hg with rfl | rfl
 ·cases AJ
 ·exact hne e
def SS : List Sg:=[(0,false),(1,false),(2,false),(3,false),(4,true),(5,true),(6,true),(7,true)]
theorem SI {g : Sg} : g ∈ SS <-> cT g.1 /\ g.2 = SE g.1:=by
 obtain ⟨t,m⟩:=g
 constructor
 ·intro h
  simp only [SS,List.mem_cons,Prod.mk.injEq,List.not_mem_nil,or_false] at h
  rcases h with ⟨rfl,rfl⟩ | ⟨rfl,rfl⟩ | ⟨rfl,rfl⟩ | ⟨rfl,rfl⟩ | ⟨rfl,rfl⟩ | ⟨rfl,rfl⟩ | ⟨rfl,rfl⟩ | ⟨rfl,rfl⟩ <;> exact ⟨⟨by decide,by decide⟩,by decide⟩
 ·rintro ⟨h1,h2⟩
  obtain ⟨k,hk,e⟩:=ir h1
  dsimp only at e h2
  subst e h2
  match k,hk with
  | 0,_ => decide
  | 1,_ => decide
  | 2,_ => decide
  | 3,_ => decide
  | 4,_ => decide
  | 5,_ => decide
  | 6,_ => decide
  | 7,_ => decide
theorem Uo : gH SS where
 ok:=fun g h => (SI.1 h).1
 one:=by decide
 mul:=fun g hg h hh => by
  obtain ⟨g1,g2⟩:=SI.1 hg
  obtain ⟨h1,h2⟩:=SI.1 hh
  exact SI.2 ⟨Di g1 h1,by show (g.2 != h.2) = _;rw [show (gm g h).1 = bJ g.1 h.1 from rfl,SJ g1 h1,g2,h2]⟩
 inv:=fun g hg => by
  obtain ⟨g1,g2⟩:=SI.1 hg
  exact SI.2 ⟨eX g1,by show g.2 = SE (cD g.1);rw [SZ g1,g2]⟩
def Uy (a b : Int) (q : Int) : Bool:=if q = 0 then false else if q = 1 then !SE a else (SE a != SE b)
theorem TV (ha : cT a) (hb : cT b) (hl : cT l) (h4 : 4 <= l) {q : Int} {g : Sg} (h : qa (S3 a b l) 0 q g) : (g.2 != SE g.1) = Uy a b q:=by
 have hw:=Ta ha hb hl
 have AF : SE l = true:=decide_eq_true h4
 have hc : SE (SY a b l) = ((SE a != SE b) != true):=by
  unfold SY
  rw [SJ (eX (Di ha hb)) hl,SZ (Di ha hb),SJ ha hb,AF]
 have hd : SE (bJ a 1) = SE a:=by
  rw [SJ ha TU];show (SE a != false) = _;cases SE a <;> rfl
 obtain ⟨w,h1,h2⟩:=h
 refine Tx hw (I:=fun x => (x.2.2 != SE x.2.1) = Uy a b x.1) ?_ ?_ (x:=(0,0,false)) ud h1 h2 rfl
 ·intro w mL g hg e
  have xZ : cT w.2.2:=(rR (hw w mL)).2.2.2
  rw [show ((w.2.1,bJ g.1 w.2.2,!g.2) : Sp).2.1 = bJ g.1 w.2.2 from rfl,SJ hg xZ]
  simp only [S3,SL,List.cons_append,List.nil_append,List.mem_cons,List.not_mem_nil,or_false] at mL
  rcases mL with rfl | rfl | rfl | rfl <;> simp only [hc,hd] <;> simp [Uy] at e ⊢ <;> revert e <;> cases SE a <;> cases SE b <;> cases g.2 <;> cases SE g.1 <;> simp
 ·intro w mL g hg e
  have xZ : cT w.2.2:=(rR (hw w mL)).2.2.2
  rw [show ((w.1,bJ g.1 (cD w.2.2),!g.2) : Sp).2.1 = bJ g.1 (cD w.2.2) from rfl,SJ hg (eX xZ),SZ xZ]
  simp only [S3,SL,List.cons_append,List.nil_append,List.mem_cons,List.not_mem_nil,or_false] at mL
  rcases mL with rfl | rfl | rfl | rfl <;> simp only [hc,hd] <;> simp [Uy] at e ⊢ <;> revert e <;> cases SE a <;> cases SE b <;> cases g.2 <;> cases SE g.1 <;> simp
theorem UI : dG 8 (fun l => (decide (l < 4)) || dG 4 fun r => (decide (r % 2 = 0)) || (dG 8 fun k => (k == 0) || (k == r) || (k == cmp r r) || (k == cmp (cmp r r) r) || (k == l) || (k == cmp l r) || (k == cmp l (cmp r r)) || (k == cmp l (cmp (cmp r r) r)))) = true:=by decide +kernel
theorem UJ : dG 8 (fun a => decide (cmp (cmp a (inv (cmp a 1))) 0 < 4) && decide (cmp (cmp a (inv (cmp a 1))) 0 % 2 = 1)) = true:=by decide +kernel
theorem Vb {G : List Sg} (hG : gH G) {l r : Nat} (hl : l < 8) (h4 : 4 <= l) (hr : r < 4) (s7 : r % 2 = 1) (g1 : ((l : Int),true) ∈ G) (g2 : ((r : Int),false) ∈ G) : ∀ g ∈ SS,g ∈ G:=by
 have cI : ∀ i j : Nat,bJ (i : Int) (j : Int) = ((cmp i j : Nat) : Int):=fun i j => by unfold bJ;simp only [Int.toNat_natCast]
 have r2 : (((cmp r r : Nat) : Int),false) ∈ G:=by have:=hG.mul _ g2 _ g2;unfold gm at this;rw [<- cI];exact this
 have r3 : (((cmp (cmp r r) r : Nat) : Int),false) ∈ G:=by have:=hG.mul _ r2 _ g2;unfold gm at this;rw [<- cI];exact this
 have l1 : (((cmp l r : Nat) : Int),true) ∈ G:=by have:=hG.mul _ g1 _ g2;unfold gm at this;rw [<- cI];exact this
 have l2 : (((cmp l (cmp r r) : Nat) : Int),true) ∈ G:=by have:=hG.mul _ g1 _ r2;unfold gm at this;rw [<- cI];exact this
 have l3 : (((cmp l (cmp (cmp r r) r) : Nat) : Int),true) ∈ G:=by have:=hG.mul _ g1 _ r3;unfold gm at this;rw [<- cI];exact this
 have Ub : ∀ i j : Nat,i < 8 -> j < 8 -> decide (4 <= cmp i j) = (decide (4 <= i) != decide (4 <= j)):=fun i j hi hj => by
  have h:=bV.1 (bV.1 Tu i hi) j hj
  simp only [Bool.and_eq_true,beq_iff_eq] at h;exact h.1
 have S6 : r < 8:=by omega
 have dr : decide (4 <= r) = false:=decide_eq_false (by omega)
 have dl : decide (4 <= l) = true:=decide_eq_true h4
 have d2 : decide (4 <= cmp r r) = false:=by rw [Ub r r S6 S6,dr];rfl
 have d3 : decide (4 <= cmp (cmp r r) r) = false:=by rw [Ub _ r (og S6 S6) S6,d2,dr];rfl
 have e1 : decide (4 <= cmp l r) = true:=by rw [Ub l r hl S6,dl,dr];rfl
 have e2 : decide (4 <= cmp l (cmp r r)) = true:=by rw [Ub l _ hl (og S6 S6),dl,d2];rfl
 have e3 : decide (4 <= cmp l (cmp (cmp r r) r)) = true:=by rw [Ub l _ hl (og (og S6 S6) S6),dl,d3];rfl
 intro g hg
 obtain ⟨k1,k2⟩:=SI.1 hg
 obtain ⟨k,hk,e⟩:=ir k1
 have hx:=bV.1 UI l hl
 simp only [Bool.or_eq_true,decide_eq_true_eq] at hx
 have hx:=bV.1 (hx.resolve_left (by omega)) r hr
 simp only [Bool.or_eq_true,decide_eq_true_eq] at hx
 have hx:=bV.1 (hx.resolve_left (by omega)) k hk
 simp only [Bool.or_eq_true,beq_iff_eq] at hx
 have eg : g = ((k : Int),decide (4 <= k)):=by
  rw [<- SV,<- e,<- k2]
 rw [eg]
 rcases hx with ((((((rfl | rfl) | rfl) | rfl) | rfl) | rfl) | rfl) | rfl
 ·exact hG.one
 ·rw [dr];exact g2
 ·rw [d2];exact r2
 ·rw [d3];exact r3
 ·rw [dl];exact g1
 ·rw [e1];exact l1
 ·rw [e2];exact l2
 ·rw [e3];exact l3
theorem UM (ha : cT a) (hb : cT b) (hl : cT l) (h4 : 4 <= l) {p : Int} (hp : 0 <= p /\ p <= 3 - 1) : (∀ g ∈ SS,g ∈ af (S3 a b l) p) /\ ∀ g ∈ af (S3 a b l) p,g ∈ SS:=by
 have hw:=Ta ha hb hl
 have h0 : (0 : Int) <= 0 /\ (0 : Int) <= 3 - 1:=by omega
 have Vf:=nK hw (by omega) h0
 have Vh : qa (S3 a b l) 0 1 (bJ a 1,true):=Ts hw (w:=(0,1,bJ a 1)) (List.mem_append_right _ (List.mem_singleton.2 rfl))
 have h1:=(Th hw TN).1
 have hq:=yD hw h1 (Cg hw Vh)
 have hrd:=Tg ha hb hl hw TN
 have Vc : ∀ g ∈ SS,g ∈ af (S3 a b l) 0:=by
  obtain ⟨i,hi,rfl⟩:=ir ha
  obtain ⟨k,hk,rfl⟩:=ir hl
  have hf:=bV.1 UJ i hi
  simp only [Bool.and_eq_true,decide_eq_true_eq] at hf
  refine Vb Vf (l:=k) (r:=cmp (cmp i (inv (cmp i 1))) 0) hk (by omega) hf.1 hf.2 ((eo hw (by omega) h0).2 hrd) ?_
  refine (eo hw (by omega) h0).2 ?_
  have e : gm ((i : Int),true) (gv (bJ (i : Int) 1,true)) = (((cmp (cmp i (inv (cmp i 1))) 0 : Nat) : Int),false):=by
   have z : cmp (cmp i (inv (cmp i 1))) 0 = cmp i (inv (cmp i 1)):=(gW (og hi (gW (og hi (by omega))).1)).2.2.2.1
   rw [z]
   unfold gm gv bJ cD;dsimp only
   simp only [Int.toNat_natCast];rfl
  rw [<- e];exact hq
 obtain ⟨h,hh⟩:=TY ha hb hl hw TN hp
 have hk:=rT hw hh
 constructor
 ·intro g hg
  obtain ⟨g1,g2⟩:=SI.1 hg
  have hx : gm (gm h g) (gv h) ∈ SS:=by
   refine SI.2 ⟨Di (Di hk g1) (eX hk),?_⟩
   show ((h.2 != g.2) != h.2) = SE (bJ (bJ h.1 g.1) (cD h.1))
   rw [SJ (Di hk g1) (eX hk),SJ hk g1,SZ hk,g2]
   cases h.2 <;> cases SE g.1 <;> cases SE h.1 <;> rfl
  have hy:=Ti hw hh ((eo hw (by omega) h0).1 (Vc _ hx))
  have e : gm (gm (gv h) (gm (gm h g) (gv h))) h = g:=by
   have k1 : cT (gv h).1:=Ki hk
   have k2 : cT (gm h g).1:=UA hk g1
   rw [SQ k1 (UA k2 k1) hk,SQ k2 k1 hk,(M7 hk).2,(G5 k2).1,<- SQ k1 hk g1,(M7 hk).2,(G5 g1).2]
  rw [e] at hy
  exact (eo hw (by omega) hp).2 hy
 ·intro g hg
  have hg:=(eo hw (by omega) hp).1 hg
  have dI:=rT hw hg
  have c1:=TV ha hb hl h4 hh
  have c2:=TV ha hb hl h4 (yD hw hh hg)
  refine SI.2 ⟨dI,?_⟩
  rw [<- c1] at c2
  have c3 : ((h.2 != g.2) != (SE h.1 != SE g.1)) = (h.2 != SE h.1):=by
   rw [<- SJ hk dI];exact c2
  revert c3
  cases h.2 <;> cases g.2 <;> cases SE h.1 <;> cases SE g.1 <;> simp
theorem Ua {n : Int} {G G' : List Sg} (hG : gH G) (Q6 : gH G') (hn : bz n) (h : ∀ g ∈ G,g ∈ G') (h' : ∀ g ∈ G',g ∈ G) : zb n G = zb n G':=by
 have:=TQ hG Q6 hn h
 have:=TQ Q6 hG hn h'
 omega
theorem UK : zb 1 SS = 0 /\ zb 2 SS = 0 /\ zb 3 SS = 0 /\ zb 4 SS = 1:=by decide +kernel
theorem TW (ha : cT a) (hb : cT b) (hl : cT l) (h4 : 4 <= l) {n : Int} (hn : bz n) {p : Int} (hp : 0 <= p /\ p <= 3 - 1) : (n <= 3 -> zb n (af (S3 a b l) p) = 0) /\ (n = 4 -> zb n (af (S3 a b l) p) = 1):=by
 have hw:=Ta ha hb hl
 have h8:=UM ha hb hl h4 hp
 rw [Ua (nK hw (by omega) hp) Uo hn h8.2 h8.1]
 obtain ⟨f1,f2,f3,f4⟩:=UK
 refine ⟨fun h => ?_,fun h => by rw [h];exact f4⟩
 unfold bz at hn
 obtain rfl | rfl | rfl : n = 1 \/ n = 2 \/ n = 3:=by omega
 ·exact f1
 ·exact f2
 ·exact f3
end
end Go.bK
end
