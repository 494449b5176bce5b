/-
  Texts of the claims: Pl1t. No condition: lemmas and contracts.
-/
import Derived.Lib.Split
import Derived.Lib.SplitLaws
import Derived.Lib.AtoiAll
import Derived.Lib.AtoiAllCases
import Derived.Lib.ItoaNum
import Derived.Lib.Strings
set_option linter.all false
set_option maxRecDepth 100000
set_option maxHeartbeats 4000000
section
namespace Go.Chn
abbrev Lk:=Int × Int × Int
def sumL : List Lk → Int
 | [] => 0
 | l :: ls => l.2.2 + sumL ls
def Ch : Int → List Lk → Int → Prop
 | u,[],v => u = v
 | u,l :: ls,v => l.1 = u ∧ Ch l.2.1 ls v
theorem sumL_append : ∀ (a b : List Lk),sumL (a ++ b) = sumL a + sumL b
 | [],b => by simp [sumL]
 | l :: a,b => by simp only [List.cons_append,sumL,sumL_append a b];omega
theorem Ch.append : ∀ {a b : List Lk} {u v w : Int},Ch u a v → Ch v b w → Ch u (a ++ b) w
 | [],_,_,_,_,h,h' => by have h : _ = _:=h;subst h;exact h'
 | _ :: _,_,_,_,_,h,h' => ⟨h.1,Ch.append h.2 h'⟩
theorem Ch.split : ∀ {a b : List Lk} {u w : Int},Ch u (a ++ b) w → ∃ v,Ch u a v ∧ Ch v b w
 | [],_,u,_,h => ⟨u,rfl,h⟩
 | _ :: _,_,_,_,h => by
   obtain ⟨v,h1,h2⟩:=Ch.split h.2
   exact ⟨v,⟨h.1,h1⟩,h2⟩
theorem Ch.snoc {a : List Lk} {u : Int} {l : Lk} (h : Ch u a l.1) : Ch u (a ++ [l]) l.2.1:=h.append ⟨rfl,rfl⟩
def NoNeg (U : List Lk) : Prop:=∀ u ls,Ch u ls u → (∀ l ∈ ls,l ∈ U) → 0 ≤ sumL ls
def nds (ls : List Lk) (v : Int) : List Int:=ls.map (·.1) ++ [v]
theorem split_at : ∀ {ls : List Lk} {x v u : Int},Ch x ls v → u ∈ nds ls v → ∃ b c,ls = b ++ c ∧ Ch x b u ∧ Ch u c v
 | [],x,v,u,h,hu => by
   have h : x = v:=h
   simp only [nds,List.map_nil,List.nil_append,List.mem_singleton] at hu
   exact ⟨[],[],rfl,by rw [h,hu];rfl,hu⟩
 | l :: ls,x,v,u,h,hu => by
   by_cases e : u = l.1
   ·exact ⟨[],l :: ls,rfl,by rw [e];exact h.1.symm,e.symm,h.2⟩
   ·have hu' : u ∈ nds ls v:=by
     simp only [nds,List.map_cons,List.cons_append,List.mem_cons] at hu
     exact hu.resolve_left e
    obtain ⟨b,c,rfl,h1,h2⟩:=split_at h.2 hu'
    exact ⟨l :: b,c,rfl,⟨h.1,h1⟩,h2⟩
theorem nds_suffix {b c : List Lk} {v : Int} (h : (nds (b ++ c) v).Nodup) : (nds c v).Nodup:=by
 unfold nds at h ⊢
 rw [List.map_append,List.append_assoc] at h
 exact (List.nodup_append.1 h).2.1
theorem simple {U : List Lk} (hU : NoNeg U) : ∀ (ls : List Lk) (u v : Int),Ch u ls v → (∀ l ∈ ls,l ∈ U) → ∃ ls',Ch u ls' v ∧ (∀ l ∈ ls',l ∈ U) ∧ (nds ls' v).Nodup ∧ sumL ls' ≤ sumL ls
 | [],u,v,h,_ => ⟨[],h,by simp,by simp [nds],Int.le_refl _⟩
 | l :: ls,u,v,h,hm => by
   obtain ⟨r,h1,h2,h3,h4⟩:=simple hU ls l.2.1 v h.2 (fun x hx => hm x (List.mem_cons_of_mem _ hx))
   by_cases hu : u ∈ nds r v
   ·obtain ⟨b,c,rfl,hb,hc⟩:=split_at h1 hu
    refine ⟨c,hc,fun x hx => h2 x (List.mem_append.2 (.inr hx)),nds_suffix h3,?_⟩
    have hn:=hU u (l :: b) ⟨h.1,hb⟩ (fun x hx => by
     rcases List.mem_cons.1 hx with rfl | hx
     ·exact hm _ (List.mem_cons_self ..)
     ·exact h2 x (List.mem_append.2 (.inl hx)))
    rw [sumL_append] at h4
    simp only [sumL] at hn ⊢
    omega
   ·refine ⟨l :: r,⟨h.1,h1⟩,fun x hx => ?_,?_,?_⟩
    ·rcases List.mem_cons.1 hx with rfl | hx
     ·exact hm _ (List.mem_cons_self ..)
     ·exact h2 x hx
    ·have e : nds (l :: r) v = l.1 :: nds r v:=rfl
     rw [e,List.nodup_cons]
     exact ⟨by rw [h.1];exact hu,h3⟩
    ·simp only [sumL];omega
theorem nodup_le : ∀ (N : Nat) (l : List Int),l.Nodup → (∀ x ∈ l,0 ≤ x ∧ x < N) → l.length ≤ N
 | 0,l,_,h => by
   cases l with
   | nil => simp
   | cons a l => have:=h a (List.mem_cons_self ..);omega
 | N + 1,l,hd,h => by
   have h1:=nodup_le N (l.erase (N : Int)) (hd.erase _) (fun x hx => by
    have h2:=h x (List.mem_of_mem_erase hx)
    have h3 : x ≠ (N : Int):=fun e => by subst e;exact (hd.not_mem_erase) hx
    omega)
   by_cases hm : (N : Int) ∈ l
   ·rw [List.length_erase_of_mem hm] at h1;omega
   ·rw [List.erase_of_not_mem hm] at h1;omega
def InN (N : Nat) (U : List Lk) : Prop:=∀ l ∈ U,(0 ≤ l.1 ∧ l.1 < N) ∧ (0 ≤ l.2.1 ∧ l.2.1 < N)
theorem nds_in {N : Nat} {U : List Lk} (hN : InN N U) {ls : List Lk} {u v : Int} (h : Ch u ls v) (hm : ∀ l ∈ ls,l ∈ U) (hv : 0 ≤ v ∧ v < N) : ∀ x ∈ nds ls v,0 ≤ x ∧ x < N:=by
 intro x hx
 simp only [nds,List.mem_append,List.mem_map,List.mem_singleton] at hx
 rcases hx with ⟨l,hl,rfl⟩ | rfl
 ·exact (hN l (hm l hl)).1
 ·exact hv
theorem simple_len {N : Nat} {U : List Lk} (hN : InN N U) {ls : List Lk} {u v : Int} (h : Ch u ls v) (hm : ∀ l ∈ ls,l ∈ U) (hv : 0 ≤ v ∧ v < N) (hd : (nds ls v).Nodup) : ls.length + 1 ≤ N:=by
 have:=nodup_le N _ hd (nds_in hN h hm hv)
 simpa [nds] using this
def least : List Lk → Int
 | [] => 0
 | l :: ls => min l.2.2 0 + least ls
theorem least_append : ∀ (a b : List Lk),least (a ++ b) = least a + least b
 | [],b => by simp [least]
 | l :: a,b => by simp only [List.cons_append,least,least_append a b];omega
theorem least_np : ∀ (a : List Lk),least a ≤ 0
 | [] => Int.le_refl _
 | l :: a => by have:=least_np a;simp only [least];omega
theorem least_le : ∀ (P U : List Lk),P.Nodup → (∀ l ∈ P,l ∈ U) → least U ≤ sumL P
 | [],U,_,_ => least_np U
 | l :: P,U,hd,hm => by
   obtain ⟨a,b,rfl⟩:=List.append_of_mem (hm l (List.mem_cons_self ..))
   have hd':=List.nodup_cons.1 hd
   have ih:=least_le P (a ++ b) hd'.2 (fun x hx => by
    have h1:=hm x (List.mem_cons_of_mem _ hx)
    simp only [List.mem_append,List.mem_cons] at h1 ⊢
    rcases h1 with h1 | rfl | h1
    ·exact .inl h1
    ·exact absurd hx hd'.1
    ·exact .inr h1)
   rw [least_append] at ih ⊢
   simp only [least,sumL]
   omega
theorem nodup_of_nds {ls : List Lk} {v : Int} (h : (nds ls v).Nodup) : ls.Nodup:=by
 unfold nds at h
 have:=(List.nodup_append.1 h).1
 rw [List.Nodup,List.pairwise_map] at this
 exact this.imp fun h e => h (congrArg _ e)
theorem sum_ge_least {U : List Lk} (hU : NoNeg U) {ls : List Lk} {u v : Int} (h : Ch u ls v) (hm : ∀ l ∈ ls,l ∈ U) : least U ≤ sumL ls:=by
 obtain ⟨r,_,h2,h3,h4⟩:=simple hU ls u v h hm
 have:=least_le r U (nodup_of_nds h3) h2
 omega
end Go.Chn
end
section
namespace Go.Chn
def gi (x : List Int) (v : Int) : Int:=x.getD v.toNat 0
def gb (w : List Bool) (v : Int) : Bool:=w.getD v.toNat false
def Fr : Int:=1152921504606846976
theorem gi_set {x : List Int} {a b : Int} {c : Int} (ha : 0 ≤ a) (hb : 0 ≤ b) (hl : a < x.length) : gi (x.set a.toNat c) b = if b = a then c else gi x b:=by
 unfold gi
 rw [List.getD_eq_getElem?_getD,List.getD_eq_getElem?_getD,List.getElem?_set]
 by_cases h : b = a
 ·subst h;simp [show b.toNat < x.length by omega]
 ·rw [if_neg h,if_neg (by omega)]
theorem gb_set {x : List Bool} {a b : Int} {c : Bool} (ha : 0 ≤ a) (hb : 0 ≤ b) (hl : a < x.length) : gb (x.set a.toNat c) b = if b = a then c else gb x b:=by
 unfold gb
 rw [List.getD_eq_getElem?_getD,List.getD_eq_getElem?_getD,List.getElem?_set]
 by_cases h : b = a
 ·subst h;simp [show b.toNat < x.length by omega]
 ·rw [if_neg h,if_neg (by omega)]
structure Lks (N : Nat) (U : List Lk) : Prop where
 n : N ≤ 60
 nd : InN N U
 ne : ∀ l ∈ U,l.1 ≠ l.2.1
 ms : ∀ l ∈ U,-4503599627370496 ≤ l.2.2 ∧ l.2.2 ≤ 4503599627370496
structure Beg (N : Nat) (x0 : List Int) : Prop where
 len : x0.length = N
 val : ∀ v : Int,0 ≤ v → v < N → gi x0 v = 0 ∨ gi x0 v = Fr
def inN (N : Nat) (v : Int) : Prop:=0 ≤ v ∧ v < N
structure RI (N : Nat) (U : List Lk) (x0 : List Int) (pend : Lk → Prop) (x : List Int) (cur nxt : List Int) (w : List Bool) (t : List Int) (p : Nat) : Prop where
 lx : x.length = N
 lw : w.length = N
 lt : t.length = N
 qn : (cur ++ nxt).Nodup
 qr : ∀ v ∈ cur ++ nxt,inN N v ∧ gi x v ≠ Fr
 qw : ∀ v,inN N v → (gb w v = true ↔ v ∈ cur ++ nxt)
 le0 : ∀ v,inN N v → gi x v ≤ gi x0 v
 wk : ∀ v,inN N v → gi x v ≠ Fr → ∃ u ls,inN N u ∧ gi x0 u = 0 ∧ Ch u ls v ∧ (∀ l ∈ ls,l ∈ U) ∧ gi x v = sumL ls
 ed : ∀ l ∈ U,gi x l.1 ≠ Fr → l.1 ∉ cur ++ nxt → ¬ pend l → gi x l.2.1 ≤ gi x l.1 + l.2.2
 up : ∀ u ls v,inN N u → inN N v → gi x0 u = 0 → Ch u ls v → (∀ l ∈ ls,l ∈ U) → ls.length ≤ p → ls.length ≤ 60 → gi x v ≤ sumL ls
 uc : ∀ u ls l,inN N u → gi x0 u = 0 → Ch u ls l.1 → (∀ l ∈ ls,l ∈ U) → ls.length ≤ p → ls.length ≤ 60 → l ∈ U → l.1 ∉ cur → ¬ pend l → gi x l.2.1 ≤ sumL ls + l.2.2
 tm : ∀ v,inN N v → 0 ≤ gi t v ∧ gi t v ≤ p + 1 ∧ (v ∈ cur → gi t v ≤ p)
 nc : NoNeg U → cur ≠ [] → p + 1 ≤ N
 nn : NoNeg U → nxt ≠ [] → p + 2 ≤ N
theorem sum_bound {N : Nat} {U : List Lk} (hU : Lks N U) : ∀ {ls : List Lk},(∀ l ∈ ls,l ∈ U) → sumL ls ≤ 4503599627370496 * ls.length ∧ -(4503599627370496 * ls.length) ≤ sumL ls
 | [],_ => by simp [sumL]
 | l :: ls,h => by
   have h1:=sum_bound hU (ls:=ls) (fun x hx => h x (List.mem_cons_of_mem _ hx))
   have h2:=hU.ms l (h l (List.mem_cons_self ..))
   simp only [sumL,List.length_cons];omega
theorem sum_fr {N : Nat} {U : List Lk} (hU : Lks N U) {ls : List Lk} (h : ∀ l ∈ ls,l ∈ U) (hl : ls.length ≤ 60) : sumL ls < Fr:=by
 have:=(sum_bound hU h).1
 unfold Fr
 omega
structure Lkx (N : Nat) (U : List Lk) (x0 : List Int) : Prop where
 n : N ≤ 60
 nd : InN N U
 ne : ∀ l ∈ U,l.1 = l.2.1 → 0 ≤ l.2.2
 fr : ∀ (u : Int) (ls : List Lk) (v x : Int),gi x0 u = 0 → Ch u ls v → (∀ l ∈ ls,l ∈ U) → ls.length ≤ 60 → x ≤ sumL ls → inN N v → x ≤ gi x0 v → x ≠ Fr
theorem Lks.x {N : Nat} {U : List Lk} {x0 : List Int} (hU : Lks N U) : Lkx N U x0 :=
 ⟨hU.n,hU.nd,fun l hl e => absurd e (hU.ne l hl),fun _ ls _ x _ _ hs hl hx _ _ => by have:=sum_fr hU hs hl;omega⟩
section
variable {N : Nat} {U : List Lk} {x0 x cur nxt t : List Int} {w : List Bool} {p : Nat}
theorem RI.pass (hU : Lkx N U x0) (h : RI N U x0 (fun _ => False) x [] nxt w t p) : RI N U x0 (fun _ => False) x nxt [] w t (p + 1):=by
 have hup : ∀ u ls v,inN N u → inN N v → gi x0 u = 0 → Ch u ls v → (∀ l ∈ ls,l ∈ U) → ls.length ≤ p + 1 → ls.length ≤ 60 → gi x v ≤ sumL ls:=by
  intro u ls v hu hv h0 hc hm hp hl
  rcases List.eq_nil_or_concat ls with rfl | ⟨a,l,rfl⟩
  ·exact h.up u [] v hu hv h0 hc hm (by simp) (by simp)
  ·rw [List.concat_eq_append] at *
   obtain ⟨z,h1,h2⟩:=hc.split
   have e1 : l.1 = z:=h2.1
   have e2 : l.2.1 = v:=h2.2
   rw [← e1] at h1
   have hlen : a.length ≤ p:=by simp at hp;omega
   have:=h.uc u a l hu h0 h1 (fun y hy => hm y (by simp [hy])) hlen (by simp at hl;omega) (hm l (by simp)) (by simp) (fun h => h)
   rw [e2] at this
   rw [sumL_append];simp only [sumL];omega
 refine ⟨h.lx,h.lw,h.lt,by simpa using h.qn,by simpa using h.qr,by simpa using h.qw,h.le0,h.wk,by simpa using h.ed,hup,?_,?_,?_,by simp⟩
 ·intro u ls l hu h0 hc hm hp hl hl1 hn _
  have hin:=(hU.nd l hl1).1
  have h1:=hup u ls l.1 hu hin h0 hc hm hp hl
  have h2:=hU.fr u ls l.1 (gi x l.1) h0 hc hm hl h1 hin (h.le0 l.1 hin)
  have:=h.ed l hl1 h2 (by simpa using hn) (fun h => h)
  omega
 ·intro v hv
  have:=h.tm v hv
  refine ⟨this.1,by omega,fun _ => by push_cast;omega⟩
 ·intro hn hne
  have:=h.nn hn hne
  omega
theorem RI.pop {n : Int} (h : RI N U x0 (fun _ => False) x (n :: cur) nxt w t p) :
  RI N U x0 (fun l => l.1 = n) x cur nxt (w.set n.toNat false) (t.set n.toNat (gi t n + 1)) p ∧ inN N n ∧ gi x n ≠ Fr ∧ n ∉ cur ++ nxt ∧ 0 ≤ gi t n ∧ (NoNeg U → gi t n + 1 ≤ N):=by
 have hq:=h.qr n (by simp)
 have hnd : (n :: (cur ++ nxt)).Nodup:=h.qn
 have hn:=List.nodup_cons.1 hnd
 have ht:=h.tm n hq.1
 refine ⟨⟨h.lx,by simpa using h.lw,by simpa using h.lt,hn.2,fun v hv => h.qr v (by simp at hv ⊢;exact .inr hv),fun v hv => ?_,h.le0,h.wk,fun l hl hf hq' hp => ?_,h.up,fun u ls l hu h0 hc hm hlp hl60 hl hcur hp => ?_,fun v hv => ?_,fun hN hc => h.nc hN (by simp),h.nn⟩,hq.1,hq.2,hn.1,ht.1,fun hN => ?_⟩
 ·rw [gb_set hq.1.1 hv.1 (by rw [h.lw];exact hq.1.2)]
  split
  ·rename_i e;subst e
   constructor
   ·intro hh;cases hh
   ·intro hh;exact absurd hh hn.1
  ·rename_i e
   rw [h.qw v hv];simp [e]
 ·exact h.ed l hl hf (by simp only [List.cons_append,List.mem_cons];exact fun hh => hh.elim hp hq') (fun h => h)
 ·exact h.uc u ls l hu h0 hc hm hlp hl60 hl (by simp only [List.mem_cons];exact fun hh => hh.elim hp hcur) (fun h => h)
 ·rw [gi_set hq.1.1 hv.1 (by rw [h.lt];exact hq.1.2)]
  have hv':=h.tm v hv
  split
  ·rename_i e;subst e
   have:=ht.2.2 (by simp)
   refine ⟨by omega,by omega,fun hc => absurd (by simp [hc]) hn.1⟩
  ·exact ⟨hv'.1,hv'.2.1,fun hc => hv'.2.2 (by simp [hc])⟩
 ·have h1:=h.nc hN (by simp)
  have h2:=ht.2.2 (by simp)
  omega
theorem RI.skip {P P' : Lk → Prop} {n : Int} {l0 : Lk} (h : RI N U x0 P x cur nxt w t p) (hn : inN N n) (hP : ∀ l,P l → P' l ∨ l = l0) (hl0 : l0.1 = n → l0 ∈ U → gi x l0.2.1 ≤ gi x n + l0.2.2) (hP0 : ∀ l,P l → l.1 = n) : RI N U x0 P' x cur nxt w t p:=by
 refine ⟨h.lx,h.lw,h.lt,h.qn,h.qr,h.qw,h.le0,h.wk,fun l hl hf hq hp => ?_,h.up,fun u ls l hu h0 hc hm hlp hl60 hl hcur hp => ?_,h.tm,h.nc,h.nn⟩
 ·by_cases hPl : P l
  ·rcases hP l hPl with h1 | rfl
   ·exact absurd h1 hp
   ·have:=hl0 (hP0 _ hPl) hl;rw [hP0 _ hPl];exact this
  ·exact h.ed l hl hf hq hPl
 ·by_cases hPl : P l
  ·rcases hP l hPl with h1 | rfl
   ·exact absurd h1 hp
   ·have h1:=hl0 (hP0 _ hPl) hl
    have h2:=h.up u ls l.1 hu (by rw [hP0 _ hPl];exact hn) h0 hc hm hlp hl60
    rw [hP0 _ hPl] at h2
    omega
  ·exact h.uc u ls l hu h0 hc hm hlp hl60 hl hcur hPl
theorem RI.upd {P P' : Lk → Prop} {n : Int} {l0 : Lk} (hU : Lkx N U x0) (hB : Beg N x0) (h : RI N U x0 P x cur nxt w t p) (hn : inN N n) (hx : gi x n ≠ Fr) (hP : ∀ l,P l → P' l ∨ l = l0)
  (h1 : l0.1 = n) (h2 : l0 ∈ U) (hlt : gi x n + l0.2.2 < gi x l0.2.1) :
  RI N U x0 P' (x.set l0.2.1.toNat (gi x n + l0.2.2)) cur (if gb w l0.2.1 = true then nxt else nxt ++ [l0.2.1]) (if gb w l0.2.1 = true then w else w.set l0.2.1.toNat true) t p ∧
   (NoNeg U → least U ≤ gi x n + l0.2.2):=by
 have hto:=(hU.nd l0 h2).2
 have hne : l0.2.1 ≠ n:=fun e => by
  have:=hU.ne l0 h2 (by rw [h1,e])
  rw [e] at hlt
  omega
 have hxl : l0.2.1 < x.length:=by rw [h.lx];exact hto.2
 have hgi : ∀ v,inN N v → gi (x.set l0.2.1.toNat (gi x n + l0.2.2)) v = if v = l0.2.1 then gi x n + l0.2.2 else gi x v:=fun v hv => gi_set hto.1 hv.1 hxl
 have hdec : ∀ v,inN N v → gi (x.set l0.2.1.toNat (gi x n + l0.2.2)) v ≤ gi x v:=fun v hv => by
  rw [hgi v hv];split
  ·rename_i e;rw [e];omega
  ·exact Int.le_refl _
 have hFr : gi x l0.2.1 ≤ Fr:=by
  have:=h.le0 _ hto
  rcases hB.val _ hto.1 hto.2 with e | e <;> rw [e] at this <;> unfold Fr at * <;> omega
 obtain ⟨u,ls,hu,h0,hc,hm,hs⟩:=h.wk n hn hx
 have hc' : Ch u (ls ++ [l0]) l0.2.1:=Ch.snoc (by rw [h1];exact hc)
 have hm' : ∀ l ∈ ls ++ [l0],l ∈ U:=fun l hl => by
  rcases List.mem_append.1 hl with hl | hl
  ·exact hm l hl
  ·rw [List.mem_singleton.1 hl];exact h2
 have hs' : sumL (ls ++ [l0]) = gi x n + l0.2.2:=by rw [sumL_append,hs];simp [sumL]
 -- the queue behind
 have hmem : ∀ v,v ∈ cur ++ (if gb w l0.2.1 = true then nxt else nxt ++ [l0.2.1]) ↔ v ∈ cur ++ nxt ∨ v = l0.2.1:=by
  intro v
  split
  ·rename_i hw
   have:=(h.qw _ hto).1 hw
   constructor
   ·exact .inl
   ·rintro (hv | rfl)
    ·exact hv
    ·exact this
  ·simp only [List.mem_append,List.mem_singleton];rw [or_assoc]
 have new : ∀ l,¬ P' l → l.1 ≠ l0.2.1 → (P l → l = l0):=fun l hp _ hPl => (hP l hPl).resolve_left hp
 refine ⟨⟨by simpa using h.lx,?_,h.lt,?_,fun v hv => ?_,fun v hv => ?_,fun v hv => Int.le_trans (hdec v hv) (h.le0 v hv),fun v hv hf => ?_,fun l hl hf hq' hp => ?_,fun u' ls' v hu' hv h0' hc1 hm1 hlp hl60 => Int.le_trans (hdec v hv) (h.up u' ls' v hu' hv h0' hc1 hm1 hlp hl60),
  fun u' ls' l hu' h0' hc1 hm1 hlp hl60 hl hcur hp => ?_,h.tm,h.nc,fun hN hne' => ?_⟩,fun hN => ?_⟩
 ·split <;> simpa using h.lw
 ·split
  ·exact h.qn
  ·rename_i hw
   rw [← List.append_assoc,List.nodup_append]
   refine ⟨h.qn,by simp,fun a ha b hb => ?_⟩
   rw [List.mem_singleton.1 hb]
   intro e;subst e
   exact hw ((h.qw _ hto).2 ha)
 ·rcases (hmem v).1 hv with hv | rfl
  ·have h3:=h.qr v hv
   refine ⟨h3.1,?_⟩
   rw [hgi v h3.1];split
   ·omega
   ·exact h3.2
  ·refine ⟨hto,?_⟩
   rw [hgi _ hto,if_pos rfl];omega
 ·rw [hmem]
  split
  ·rename_i hw
   rw [h.qw v hv]
   constructor
   ·exact .inl
   ·rintro (hv | rfl)
    ·exact hv
    ·exact (h.qw _ hto).1 hw
  ·rw [gb_set hto.1 hv.1 (by rw [h.lw];exact hto.2)]
   split
   ·rename_i e;simp [e]
   ·rename_i e;rw [h.qw v hv];simp [e]
 ·rw [hgi v hv] at hf ⊢
  split
  ·rename_i e;subst e
   exact ⟨u,ls ++ [l0],hu,h0,hc',hm',hs'.symm⟩
  ·rename_i e;rw [if_neg e] at hf;exact h.wk v hv hf
 ·-- links satisfied
  have hl1:=(hU.nd l hl).1
  have hl2:=(hU.nd l hl).2
  have hne1 : l.1 ≠ l0.2.1:=fun e => hq' ((hmem _).2 (.inr e))
  have hq1 : l.1 ∉ cur ++ nxt:=fun hh => hq' ((hmem _).2 (.inl hh))
  rw [hgi _ hl1,if_neg hne1] at hf ⊢
  by_cases hPl : P l
  ·obtain rfl:=new l hp hne1 hPl
   rw [hgi _ hl2,if_pos rfl,h1];exact Int.le_refl _
  ·exact Int.le_trans (hdec _ hl2) (h.ed l hl hf hq1 hPl)
 ·have hl1:=(hU.nd l hl).1
  have hl2:=(hU.nd l hl).2
  by_cases hPl : P l
  ·rcases hP l hPl with h3 | rfl
   ·exact absurd h3 hp
   ·rw [hgi _ hl2,if_pos rfl]
    have:=h.up u' ls' l.1 hu' hl1 h0' hc1 hm1 hlp hl60
    rw [h1] at this
    omega
  ·exact Int.le_trans (hdec _ hl2) (h.uc u' ls' l hu' h0' hc1 hm1 hlp hl60 hl hcur hPl)
 ·-- nothing improves from pass N - 1 on
  by_cases hw : gb w l0.2.1 = true
  ·rw [if_pos hw] at hne';exact h.nn hN hne'
  ·obtain ⟨r,r1,r2,r3,r4⟩:=simple hN _ _ _ hc' hm'
   have r5:=simple_len hU.nd r1 r2 hto r3
   have hn60:=hU.n
   rcases Nat.lt_or_ge p r.length with hp | hp
   ·omega
   ·have:=h.up u r _ hu hto h0 r1 r2 hp (by omega)
    omega
 ·have:=sum_ge_least hN hc' hm'
  omega
theorem RI.fin (h : RI N U x0 (fun _ => False) x [] [] w t p) :
  (∀ l ∈ U,gi x l.1 ≠ Fr → gi x l.2.1 ≤ gi x l.1 + l.2.2):=fun l hl hf => h.ed l hl hf (by simp) (fun h => h)
end
/-! ### The beginning -/
def qAt (x0 : List Int) : Nat → List Int
 | 0 => []
 | i + 1 => if gi x0 i = Fr then qAt x0 i else qAt x0 i ++ [(i : Int)]
def wAt (x0 : List Int) (N : Nat) : Nat → List Bool
 | 0 => List.replicate N false
 | i + 1 => if gi x0 i = Fr then wAt x0 N i else (wAt x0 N i).set i true
theorem qAt_mem (x0 : List Int) : ∀ (i : Nat) (v : Int),v ∈ qAt x0 i ↔ 0 ≤ v ∧ v < i ∧ gi x0 v ≠ Fr
 | 0,v => by simp [qAt];omega
 | i + 1,v => by
   unfold qAt
   have ih:=qAt_mem x0 i v
   split
   ·rename_i h
    rw [ih]
    constructor
    ·rintro ⟨h1,h2,h3⟩;exact ⟨h1,by push_cast;omega,h3⟩
    ·rintro ⟨h1,h2,h3⟩
     have : v ≠ i:=fun e => by subst e;exact h3 h
     exact ⟨h1,by push_cast at h2;omega,h3⟩
   ·rename_i h
    rw [List.mem_append,ih,List.mem_singleton]
    constructor
    ·rintro (⟨h1,h2,h3⟩ | rfl)
     ·exact ⟨h1,by push_cast;omega,h3⟩
     ·exact ⟨by omega,by push_cast;omega,h⟩
    ·rintro ⟨h1,h2,h3⟩
     by_cases e : v = i
     ·exact .inr e
     ·exact .inl ⟨h1,by push_cast at h2;omega,h3⟩
theorem qAt_nodup (x0 : List Int) : ∀ i,(qAt x0 i).Nodup
 | 0 => by simp [qAt]
 | i + 1 => by
   unfold qAt
   split
   ·exact qAt_nodup x0 i
   ·rw [List.nodup_append]
    refine ⟨qAt_nodup x0 i,by simp,fun a ha b hb => ?_⟩
    rw [List.mem_singleton.1 hb]
    intro e;subst e
    have:=(qAt_mem x0 i _).1 ha
    omega
theorem wAt_len (x0 : List Int) (N : Nat) : ∀ i,(wAt x0 N i).length = N
 | 0 => by simp [wAt]
 | i + 1 => by unfold wAt;split <;> simp [wAt_len x0 N i]
theorem wAt_get (x0 : List Int) (N : Nat) : ∀ (i : Nat) (v : Int),i ≤ N → 0 ≤ v → (gb (wAt x0 N i) v = true ↔ v < i ∧ gi x0 v ≠ Fr)
 | 0,v,_,h0 => by
   have : gb (wAt x0 N 0) v = false:=by
    unfold gb wAt
    rw [List.getD_eq_getElem?_getD,List.getElem?_replicate]
    split <;> rfl
   rw [this];simp;omega
 | i + 1,v,hi,h0 => by
   have ih:=wAt_get x0 N i v (by omega) h0
   unfold wAt
   split
   ·rename_i h
    rw [ih]
    constructor
    ·rintro ⟨h2,h3⟩;exact ⟨by push_cast;omega,h3⟩
    ·rintro ⟨h2,h3⟩
     have : v ≠ i:=fun e => by subst e;exact h3 h
     exact ⟨by push_cast at h2;omega,h3⟩
   ·rename_i h
    have e:=gb_set (x:=wAt x0 N i) (a:=(i : Int)) (b:=v) (c:=true) (by omega) h0 (by rw [wAt_len];omega)
    simp only [Int.toNat_natCast] at e
    rw [e]
    split
    ·rename_i e';subst e';simp [h];omega
    ·rename_i e';rw [ih]
     constructor
     ·rintro ⟨h2,h3⟩;exact ⟨by push_cast;omega,h3⟩
     ·rintro ⟨h2,h3⟩;exact ⟨by push_cast at h2;omega,h3⟩
theorem RI.init {N : Nat} {U : List Lk} {x0 : List Int} (hU : Lkx N U x0) (hB : Beg N x0) : RI N U x0 (fun _ => False) x0 (qAt x0 N) [] (wAt x0 N N) (List.replicate N 0) 0:=by
 have fr : ∀ v,inN N v → (gi x0 v ≠ Fr ↔ gi x0 v = 0):=fun v hv => by
  rcases hB.val v hv.1 hv.2 with h | h <;> rw [h] <;> decide
 have tz : ∀ v,gi (List.replicate N 0) v = 0:=fun v => by
  unfold gi
  rw [List.getD_eq_getElem?_getD,List.getElem?_replicate]
  split <;> rfl
 refine ⟨hB.len,wAt_len _ _ _,by simp,by simpa using qAt_nodup x0 N,fun v hv => ?_,fun v hv => ?_,fun v _ => Int.le_refl _,fun v hv hf => ⟨v,[],hv,(fr v hv).1 hf,rfl,by simp,by rw [(fr v hv).1 hf];rfl⟩,fun l _ hf hq _ => ?_,fun u ls v hu hv h0 hc hm hp _ => ?_,fun u ls l hu h0 hc hm hp _ hl hq _ => ?_,fun v hv => ?_,fun _ hc => ?_,fun _ hc => absurd rfl hc⟩
 ·have:=(qAt_mem x0 N v).1 (by simpa using hv)
  exact ⟨⟨this.1,this.2.1⟩,this.2.2⟩
 ·rw [wAt_get x0 N N v (Nat.le_refl _) hv.1]
  simp only [List.append_nil,qAt_mem]
  exact ⟨fun h => ⟨hv.1,h⟩,fun h => h.2⟩
 ·have hl:=(hU.nd l ‹_›).1
  refine absurd ?_ hq
  rw [List.append_nil,qAt_mem]
  exact ⟨hl.1,hl.2,hf⟩
 ·have : ls = []:=List.eq_nil_of_length_eq_zero (by omega)
  subst this
  have hc : u = v:=hc
  subst hc;rw [h0];exact Int.le_refl _
 ·have : ls = []:=List.eq_nil_of_length_eq_zero (by omega)
  subst this
  have hc : u = l.1:=hc
  refine absurd ?_ hq
  rw [qAt_mem,← hc]
  exact ⟨hu.1,hu.2,(fr u hu).2 h0⟩
 ·rw [tz];exact ⟨by omega,by omega,fun _ => by omega⟩
 ·cases hN : N with
  | zero => subst hN;exact absurd rfl hc
  | succ n => omega
end Go.Chn
end
section
namespace Go.Chn
def Sub (ls U : List Lk) : Prop:=∀ l ∈ ls,l ∈ U
section
variable {N : Nat} {U : List Lk}
/-! ### A link more,ahead or behind -/
theorem Sub.cons {l : Lk} {r : List Lk} (h : l ∈ U) (hr : Sub r U) : Sub (l :: r) U:=fun x hx => by
 rcases List.mem_cons.1 hx with rfl | hx
 ·exact h
 ·exact hr x hx
theorem Sub.snoc {l : Lk} {r : List Lk} (h : l ∈ U) (hr : Sub r U) : Sub (r ++ [l]) U:=fun x hx => by
 rcases List.mem_append.1 hx with hx | hx
 ·exact hr x hx
 ·rw [List.mem_singleton.1 hx];exact h
structure Made (N : Nat) (key : Lk → Int) (use : Lk → Bool) (val : Lk → Int) (done : List Lk) (y : List Int) : Prop where
 len : y.length = N
 is : ∀ n,inN N n → gi y n ≠ Fr → ∃ l ∈ done,key l = n ∧ use l = true ∧ gi y n = val l
 le : ∀ l ∈ done,use l = true → gi y (key l) ≤ val l
 fr : ∀ n,inN N n → gi y n ≤ Fr
def mk1 (key : Lk → Int) (use : Lk → Bool) (val : Lk → Int) (y : List Int) (l : Lk) : List Int :=
 if use l = true then y.set (key l).toNat (min (gi y (key l)) (val l)) else y
theorem gi_rep (N : Nat) (c : Int) {v : Int} (hv : inN N v) : gi (List.replicate N c) v = c:=by
 unfold gi
 rw [List.getD_eq_getElem?_getD,List.getElem?_replicate]
 rw [if_pos (by have:=hv.1;have:=hv.2;omega)];rfl
theorem Made.nil {key : Lk → Int} {use : Lk → Bool} {val : Lk → Int} : Made N key use val [] (List.replicate N Fr) :=
 ⟨by simp,fun n hn h => absurd (gi_rep N Fr hn) h,by simp,fun n hn => by rw [gi_rep N Fr hn];exact Int.le_refl _⟩
theorem Made.step {key : Lk → Int} {use : Lk → Bool} {val : Lk → Int} {done : List Lk} {y : List Int} (h : Made N key use val done y) {l : Lk} (hk : inN N (key l)) (hd : ∀ l ∈ done,inN N (key l)) :
  Made N key use val (done ++ [l]) (mk1 key use val y l):=by
 unfold mk1
 split
 ·rename_i hu
  have hgi : ∀ n,inN N n → gi (y.set (key l).toNat (min (gi y (key l)) (val l))) n = if n = key l then min (gi y (key l)) (val l) else gi y n:=fun n hn => gi_set hk.1 hn.1 (by rw [h.len];exact hk.2)
  refine ⟨by simpa using h.len,fun n hn hf => ?_,fun m hm hmu => ?_,fun n hn => ?_⟩
  ·rw [hgi n hn] at hf ⊢
   split
   ·rename_i e;subst e
    by_cases hlt : gi y (key l) ≤ val l
    ·rw [if_pos rfl,Int.min_eq_left hlt] at hf
     obtain ⟨m,h1,h2,h3,h4⟩:=h.is _ hn hf
     exact ⟨m,by simp [h1],h2,h3,by rw [Int.min_eq_left hlt];exact h4⟩
    ·exact ⟨l,by simp,rfl,hu,by rw [Int.min_eq_right (by omega)]⟩
   ·rename_i e;rw [if_neg e] at hf
    obtain ⟨m,h1,h2⟩:=h.is n hn hf
    exact ⟨m,by simp [h1],h2⟩
  ·rcases List.mem_append.1 hm with hm | hm
   ·rw [hgi _ (hd m hm)]
    have:=h.le m hm hmu
    split
    ·rename_i e;rw [e] at this;omega
    ·exact this
   ·obtain rfl:=List.mem_singleton.1 hm
    rw [hgi _ hk,if_pos rfl];omega
  ·rw [hgi n hn]
   have:=h.fr n hn
   split
   ·have:=h.fr _ hk;omega
   ·exact this
 ·rename_i hu
  refine ⟨h.len,fun n hn hf => ?_,fun m hm hmu => ?_,h.fr⟩
  ·obtain ⟨m,h1,h2⟩:=h.is n hn hf
   exact ⟨m,by simp [h1],h2⟩
  ·rcases List.mem_append.1 hm with hm | hm
   ·exact h.le m hm hmu
   ·rw [List.mem_singleton.1 hm] at hmu;exact absurd hmu hu
/-! ### What the search leaves -/
structure Post (N : Nat) (U : List Lk) (x0 x : List Int) : Prop where
 len : x.length = N
 le0 : ∀ v,inN N v → gi x v ≤ gi x0 v
 wk : ∀ v,inN N v → gi x v ≠ Fr → ∃ u ls,inN N u ∧ gi x0 u = 0 ∧ Ch u ls v ∧ Sub ls U ∧ gi x v = sumL ls
 ed : ∀ l ∈ U,gi x l.1 ≠ Fr → gi x l.2.1 ≤ gi x l.1 + l.2.2
theorem RI.post {x0 x t : List Int} {w : List Bool} {p : Nat} (h : RI N U x0 (fun _ => False) x [] [] w t p) : Post N U x0 x :=
 ⟨h.lx,h.le0,h.wk,h.fin⟩
end
end Go.Chn
end
section
namespace Go.Chn
def mgb : List (Int × Bool) → Int → Bool
 | [],_ => false
 | (k,v) :: es,n => match k == n with | true => v | false => mgb es n
def skipL (es : List (Int × Bool)) (n : Int) (i : Nat) (l : Lk) (x : List Int) : Bool:=l.1 != n || mgb es i || decide (gi x n + l.2.2 ≥ gi x l.2.1)
def inn (es : List (Int × Bool)) (ls n : Int) : Nat → List Lk → List Int → List Int → List Bool → Bool × List Int × List Int × List Bool
 | _,[],x,q,w => (true,x,q,w)
 | i,l :: L,x,q,w =>
   if skipL es n i l x = true then inn es ls n (i + 1) L x q w
   else if gi x n + l.2.2 < ls then (false,x.set l.2.1.toNat (gi x n + l.2.2),q,w)
   else if gb w l.2.1 = true then inn es ls n (i + 1) L (x.set l.2.1.toNat (gi x n + l.2.2)) q w
   else inn es ls n (i + 1) L (x.set l.2.1.toNat (gi x n + l.2.2)) (q ++ [l.2.1]) (w.set l.2.1.toNat true)
section
variable {es : List (Int × Bool)} {ls n : Int} {i : Nat} {l : Lk} {L : List Lk} {x q : List Int} {w : List Bool}
theorem inn_skip (h : skipL es n i l x = true) : inn es ls n i (l :: L) x q w = inn es ls n (i + 1) L x q w:=by rw [inn,if_pos h]
theorem inn_low (h : skipL es n i l x = false) (h2 : gi x n + l.2.2 < ls) : inn es ls n i (l :: L) x q w = (false,x.set l.2.1.toNat (gi x n + l.2.2),q,w):=by
 rw [inn,if_neg (by rw [h];simp),if_pos h2]
theorem inn_wait (h : skipL es n i l x = false) (h2 : ¬ gi x n + l.2.2 < ls) (h3 : gb w l.2.1 = true) : inn es ls n i (l :: L) x q w = inn es ls n (i + 1) L (x.set l.2.1.toNat (gi x n + l.2.2)) q w:=by
 rw [inn,if_neg (by rw [h];simp),if_neg h2,if_pos h3]
theorem inn_put (h : skipL es n i l x = false) (h2 : ¬ gi x n + l.2.2 < ls) (h3 : gb w l.2.1 = false) : inn es ls n i (l :: L) x q w = inn es ls n (i + 1) L (x.set l.2.1.toNat (gi x n + l.2.2)) (q ++ [l.2.1]) (w.set l.2.1.toNat true):=by
 rw [inn,if_neg (by rw [h];simp),if_neg h2,if_neg (by rw [h3];simp)]
theorem skip1 (h : (l.1 != n) = true) : skipL es n i l x = true:=by unfold skipL;rw [h];rfl
theorem skip2 (h : mgb es i = true) : skipL es n i l x = true:=by unfold skipL;rw [h];simp
theorem skip3 (h : gi x n + l.2.2 ≥ gi x l.2.1) : skipL es n i l x = true:=by unfold skipL;simp [h]
theorem skip0 (h : (l.1 != n) = false) (h2 : mgb es i = false) (h3 : ¬ gi x n + l.2.2 ≥ gi x l.2.1) : skipL es n i l x = false:=by unfold skipL;rw [h,h2,decide_eq_false h3];rfl
end
def out (N : Nat) (L : List Lk) (es : List (Int × Bool)) : Nat → List Int → List Int → List Bool → List Int → Bool × List Int
 | 0,x,_,_,_ => (false,x)
 | _ + 1,x,[],_,_ => (true,x)
 | f + 1,x,n :: q,w,t =>
   if gi t n + 1 > N + 1 then (false,x)
   else match inn es (least L) n 0 L x q (w.set n.toNat false) with
    | (false,x,_,_) => (false,x)
    | (true,x,q,w) => out N L es f x q w (t.set n.toNat (gi t n + 1))
def rest (N : Nat) (t : List Int) : Nat:=(t.map fun a => ((N : Int) + 1 - a).toNat).sum
def relaxF (N : Nat) (L : List Lk) (es : List (Int × Bool)) (x0 : List Int) : Bool × List Int:=out N L es (N * (N + 1) + 1) x0 (qAt x0 N) (wAt x0 N N) (List.replicate N 0)
theorem rest_zero (N : Nat) : rest N (List.replicate N 0) = N * (N + 1):=by
 unfold rest
 rw [List.map_replicate,List.sum_replicate_nat]
 congr 1
theorem rest_step {N : Nat} : ∀ {t : List Int} {i : Nat},i < t.length → t.getD i 0 ≤ N → rest N (t.set i (t.getD i 0 + 1)) + 1 = rest N t
 | a :: t,0,_,h => by
   simp only [rest,List.set_cons_zero,List.map_cons,List.sum_cons,List.getD_cons_zero] at *
   omega
 | a :: t,i + 1,hi,h => by
   have ih:=rest_step (t:=t) (i:=i) (by simpa using hi) (by simpa using h)
   simp only [rest,List.set_cons_succ,List.map_cons,List.sum_cons,List.getD_cons_succ] at *
   omega
theorem rest_gi {N : Nat} {t : List Int} {n : Int} (hn : 0 ≤ n) (hl : n < t.length) (h : gi t n ≤ N) : rest N (t.set n.toNat (gi t n + 1)) + 1 = rest N t:=rest_step (by omega) h
structure Sf (N : Nat) (ls : Int) (x q : List Int) (w : List Bool) (t : List Int) : Prop where
 lx : x.length = N
 lw : w.length = N
 lt : t.length = N
 rx : ∀ v,inN N v → ls ≤ gi x v ∧ gi x v ≤ Fr
 qn : q.Nodup
 qr : ∀ v ∈ q,inN N v
 qw : ∀ v,inN N v → (gb w v = true ↔ v ∈ q)
 rt : ∀ v,inN N v → 0 ≤ gi t v ∧ gi t v ≤ N + 1
section
variable {N : Nat} {ls : Int} {x q t : List Int} {w : List Bool}
theorem Sf.qlen (h : Sf N ls x q w t) : q.length ≤ N:=nodup_le N q h.qn h.qr
theorem Sf.pop {n : Int} (h : Sf N ls x (n :: q) w t) : inN N n ∧ Sf N ls x q (w.set n.toNat false) t:=by
 have hn:=h.qr n (by simp)
 have hd:=List.nodup_cons.1 h.qn
 refine ⟨hn,h.lx,by simpa using h.lw,h.lt,h.rx,hd.2,fun v hv => h.qr v (by simp [hv]),fun v hv => ?_,h.rt⟩
 rw [gb_set hn.1 hv.1 (by rw [h.lw];exact hn.2)]
 split
 ·rename_i e;subst e
  constructor
  ·intro hh;cases hh
  ·intro hh;exact absurd hh hd.1
 ·rename_i e;rw [h.qw v hv];simp [e]
theorem Sf.time {n : Int} (h : Sf N ls x q w t) (hn : inN N n) (hl : gi t n ≤ N) : Sf N ls x q w (t.set n.toNat (gi t n + 1)):=by
 refine ⟨h.lx,h.lw,by simpa using h.lt,h.rx,h.qn,h.qr,h.qw,fun v hv => ?_⟩
 rw [gi_set hn.1 hv.1 (by rw [h.lt];exact hn.2)]
 have:=h.rt n hn
 split
 ·omega
 ·exact h.rt v hv
theorem Sf.val {v c : Int} (h : Sf N ls x q w t) (hv : inN N v) (h1 : ls ≤ c) (h2 : c ≤ Fr) : Sf N ls (x.set v.toNat c) q w t:=by
 refine ⟨by simpa using h.lx,h.lw,h.lt,fun u hu => ?_,h.qn,h.qr,h.qw,h.rt⟩
 rw [gi_set hv.1 hu.1 (by rw [h.lx];exact hv.2)]
 split
 ·exact ⟨h1,h2⟩
 ·exact h.rx u hu
theorem Sf.put {v : Int} (h : Sf N ls x q w t) (hv : inN N v) (hw : ¬ gb w v = true) : Sf N ls x (q ++ [v]) (w.set v.toNat true) t:=by
 have hq : v ∉ q:=fun hh => hw ((h.qw v hv).2 hh)
 refine ⟨h.lx,by simpa using h.lw,h.lt,h.rx,?_,fun u hu => ?_,fun u hu => ?_,h.rt⟩
 ·rw [List.nodup_append]
  refine ⟨h.qn,by simp,fun a ha b hb => ?_⟩
  rw [List.mem_singleton.1 hb];intro e;subst e;exact hq ha
 ·rcases List.mem_append.1 hu with hu | hu
  ·exact h.qr u hu
  ·rw [List.mem_singleton.1 hu];exact hv
 ·rw [gb_set hv.1 hu.1 (by rw [h.lw];exact hv.2)]
  split
  ·rename_i e;simp [e]
  ·rename_i e;rw [h.qw u hu];simp [e]
end
theorem Sf.init {N : Nat} {ls : Int} {x0 : List Int} (hl : ls ≤ 0) (h : Beg N x0) : Sf N ls x0 (qAt x0 N) (wAt x0 N N) (List.replicate N 0):=by
 refine ⟨h.len,wAt_len _ _ _,by simp,fun v hv => ?_,qAt_nodup _ _,fun v hv => ?_,fun v hv => ?_,fun v hv => by rw [gi_rep N 0 hv];omega⟩
 ·rcases h.val v hv.1 hv.2 with e | e <;> rw [e] <;> unfold Fr <;> omega
 ·have:=(qAt_mem x0 N v).1 hv;exact ⟨this.1,this.2.1⟩
 ·rw [wAt_get x0 N N v (Nat.le_refl _) hv.1,qAt_mem]
  exact ⟨fun hh => ⟨hv.1,hh⟩,fun hh => hh.2⟩
theorem least_lb : ∀ (L : List Lk),(∀ l ∈ L,-4503599627370496 ≤ l.2.2) → -(4503599627370496 * (L.length : Int)) ≤ least L
 | [],_ => by simp [least]
 | l :: L,h => by
   have:=least_lb L (fun x hx => h x (List.mem_cons_of_mem _ hx))
   have:=h l (List.mem_cons_self ..)
   simp only [least,List.length_cons];omega
theorem least_snoc (L : List Lk) (l : Lk) : least (L ++ [l]) = least L + min l.2.2 0:=by rw [least_append];simp [least]
end Go.Chn
end
section
namespace Go.Chn
def usedF (es : List (Int × Bool)) : Nat → List Lk → List Lk
 | _,[] => []
 | i,l :: L => if mgb es i = true then usedF es (i + 1) L else l :: usedF es (i + 1) L
theorem usedF_sub (es : List (Int × Bool)) : ∀ (i : Nat) (L : List Lk) (l : Lk),l ∈ usedF es i L → l ∈ L
 | _,[],_,h => by simp [usedF] at h
 | i,l0 :: L,l,h => by
   unfold usedF at h
   split at h
   ·exact List.mem_cons_of_mem _ (usedF_sub es (i + 1) L l h)
   ·rcases List.mem_cons.1 h with rfl | h
    ·exact List.mem_cons_self ..
    ·exact List.mem_cons_of_mem _ (usedF_sub es (i + 1) L l h)
theorem least_used (es : List (Int × Bool)) : ∀ (i : Nat) (L : List Lk),least L ≤ least (usedF es i L)
 | _,[] => Int.le_refl _
 | i,l :: L => by
   have:=least_used es (i + 1) L
   unfold usedF
   split
   ·simp only [least];omega
   ·simp only [least];omega
theorem Lks.sub {N : Nat} {U L : List Lk} (h : Lks N L) (hs : ∀ l ∈ U,l ∈ L) : Lks N U :=
 ⟨h.n,fun l hl => h.nd l (hs l hl),fun l hl => h.ne l (hs l hl),fun l hl => h.ms l (hs l hl)⟩
theorem Lkx.sub {N : Nat} {U L : List Lk} {x0 : List Int} (h : Lkx N L x0) (hs : ∀ l ∈ U,l ∈ L) : Lkx N U x0 :=
 ⟨h.n,fun l hl => h.nd l (hs l hl),fun l hl => h.ne l (hs l hl),fun u ls v x h0 hc hm => h.fr u ls v x h0 hc fun l hl => hs l (hm l hl)⟩
section
variable {N : Nat} {U : List Lk} {x0 : List Int} {es : List (Int × Bool)} {ls n : Int} {cur : List Int} {t : List Int} {p : Nat}
theorem inn_ri (hU : Lkx N U x0) (hB : Beg N x0) (hls : ls ≤ least U) (hn : inN N n) (hnc : n ∉ cur) : ∀ (L : List Lk) (i : Nat) (x nxt : List Int) (w : List Bool),(∀ l ∈ usedF es i L,l ∈ U) → (∀ l ∈ L,l.1 = l.2.1 → 0 ≤ l.2.2) → gi x n ≠ Fr → n ∉ nxt →
  RI N U x0 (fun l => l.1 = n ∧ l ∈ usedF es i L) x cur nxt w t p → Sf N ls x (cur ++ nxt) w t →
  match inn es ls n i L x (cur ++ nxt) w with
  | (true,x',q',w') => ∃ nxt',q' = cur ++ nxt' ∧ RI N U x0 (fun _ => False) x' cur nxt' w' t p ∧ Sf N ls x' (cur ++ nxt') w' t
  | (false,_,_,_) => ¬ NoNeg U
 | [],i,x,nxt,w,_,_,_,_,h,hs => ⟨nxt,rfl,h.skip (l0:=((0,0,0) : Lk)) hn (fun l hl => by simp [usedF] at hl) (fun he _ => by
     have he : (0 : Int) = n:=he
     subst he
     show gi x 0 ≤ gi x 0 + 0
     omega) (fun l hl => hl.1),hs⟩
 | l0 :: L,i,x,nxt,w,hsub,hne,hx,hnn,h,hs => by
   by_cases hsk : skipL es n i l0 x = true
   ·rw [inn_skip hsk]
    unfold usedF at h hsub
    by_cases hm : mgb es i = true
    ·rw [if_pos hm] at h hsub
     exact inn_ri hU hB hls hn hnc L (i + 1) x nxt w hsub (fun l hl => hne l (List.mem_cons_of_mem _ hl)) hx hnn h hs
    ·rw [if_neg hm] at h hsub
     refine inn_ri hU hB hls hn hnc L (i + 1) x nxt w (fun l hl => hsub l (List.mem_cons_of_mem _ hl)) (fun l hl => hne l (List.mem_cons_of_mem _ hl)) hx hnn (h.skip (l0:=l0) hn (fun l hl => ?_) (fun he _ => ?_) (fun l hl => hl.1)) hs
     ·rcases List.mem_cons.1 hl.2 with rfl | h2
      ·exact .inr rfl
      ·exact .inl ⟨hl.1,h2⟩
     ·unfold skipL at hsk
      simp only [Bool.or_eq_true,bne_iff_ne,ne_eq,decide_eq_true_eq] at hsk
      rcases hsk with (h1 | h1) | h1
      ·exact absurd he h1
      ·exact absurd h1 hm
      ·omega
   ·have hsk0 : skipL es n i l0 x = false:=by simpa using hsk
    have hc:=hsk0
    unfold skipL at hc
    simp only [Bool.or_eq_false_iff,bne_eq_false_iff_eq,decide_eq_false_iff_not] at hc
    obtain ⟨⟨h1,h2⟩,h3⟩:=hc
    unfold usedF at h hsub
    rw [if_neg (by rw [h2];simp)] at h hsub
    have hl0:=hsub l0 (List.mem_cons_self ..)
    have hto:=(hU.nd l0 hl0).2
    obtain ⟨hri,hlow⟩:=h.upd (P':=fun l => l.1 = n ∧ l ∈ usedF es (i + 1) L) (l0:=l0) hU hB hn hx (fun l hl => by
     rcases List.mem_cons.1 hl.2 with rfl | h2
     ·exact .inr rfl
     ·exact .inl ⟨hl.1,h2⟩) h1 hl0 (by omega)
    by_cases hlt : gi x n + l0.2.2 < ls
    ·rw [inn_low hsk0 hlt]
     intro hN
     have:=hlow hN
     omega
    ·have hne0 : l0.2.1 ≠ n:=fun e => by
      have:=hne l0 (List.mem_cons_self ..) (by rw [h1,e])
      rw [e] at h3
      omega
     have hxl : l0.2.1 < x.length:=by rw [h.lx];exact hto.2
     have hx' : gi (x.set l0.2.1.toNat (gi x n + l0.2.2)) n ≠ Fr:=by
      rw [gi_set hto.1 hn.1 hxl,if_neg (Ne.symm hne0)];exact hx
     have hrt:=hs.rx _ hto
     have hsv:=hs.val (v:=l0.2.1) (c:=gi x n + l0.2.2) hto (by omega) (by omega)
     by_cases hw : gb w l0.2.1 = true
     ·rw [inn_wait hsk0 hlt hw]
      rw [if_pos hw,if_pos hw] at hri
      exact inn_ri hU hB hls hn hnc L (i + 1) _ nxt w (fun l hl => hsub l (List.mem_cons_of_mem _ hl)) (fun l hl => hne l (List.mem_cons_of_mem _ hl)) hx' hnn hri hsv
     ·rw [inn_put hsk0 hlt (by simpa using hw),List.append_assoc]
      rw [if_neg hw,if_neg hw] at hri
      have hsp:=hsv.put hto hw
      rw [List.append_assoc] at hsp
      exact inn_ri hU hB hls hn hnc L (i + 1) _ (nxt ++ [l0.2.1]) _ (fun l hl => hsub l (List.mem_cons_of_mem _ hl)) (fun l hl => hne l (List.mem_cons_of_mem _ hl)) hx' (by
       simp only [List.mem_append,List.mem_singleton];exact fun hh => hh.elim hnn (Ne.symm hne0)) hri hsp
structure Found (N : Nat) (U : List Lk) (ls : Int) (x0 : List Int) (r : Bool × List Int) : Prop where
 yes : r.1 = true → Post N U x0 r.2 ∧ ∀ v,inN N v → ls ≤ gi r.2 v ∧ gi r.2 v ≤ Fr
 no : r.1 = false → ¬ NoNeg U
 len : r.2.length = N
theorem inn_len (es : List (Int × Bool)) (ls n : Int) : ∀ (L : List Lk) (i : Nat) (x q : List Int) (w : List Bool),(inn es ls n i L x q w).2.1.length = x.length
 | [],_,_,_,_ => rfl
 | l :: L,i,x,q,w => by
   unfold inn
   split
   ·exact inn_len es ls n L _ _ _ _
   ·split
    ·simp
    ·split
     ·rw [inn_len es ls n L];simp
     ·rw [inn_len es ls n L];simp
theorem out_found {L : List Lk} (hL : Lkx N L x0) (hUL : U = usedF es 0 L) (hB : Beg N x0) : ∀ (f : Nat) (x cur nxt : List Int) (w : List Bool) (t : List Int) (p : Nat),f = rest N t + 1 →
  RI N U x0 (fun _ => False) x cur nxt w t p → Sf N (least L) x (cur ++ nxt) w t → Found N U (least L) x0 (out N L es f x (cur ++ nxt) w t):=by
 have hU : Lkx N U x0:=hL.sub fun l hl => usedF_sub es 0 L l (hUL ▸ hl)
 have hls : least L ≤ least U:=by rw [hUL];exact least_used es 0 L
 have go : ∀ (f : Nat),(∀ (x cur nxt : List Int) (w : List Bool) (t : List Int) (p : Nat),f = rest N t + 1 →
   RI N U x0 (fun _ => False) x cur nxt w t p → Sf N (least L) x (cur ++ nxt) w t → Found N U (least L) x0 (out N L es f x (cur ++ nxt) w t)) →
   ∀ (x : List Int) (n : Int) (cur nxt : List Int) (w : List Bool) (t : List Int) (p : Nat),f + 1 = rest N t + 1 → RI N U x0 (fun _ => False) x (n :: cur) nxt w t p → Sf N (least L) x (n :: (cur ++ nxt)) w t →
   Found N U (least L) x0 (out N L es (f + 1) x (n :: (cur ++ nxt)) w t):=by
  intro f ih x n cur nxt w t p hf h hs
  obtain ⟨h1,hn,hx,hnq,ht0,htn⟩:=h.pop
  obtain ⟨_,hsp⟩:=hs.pop
  simp only [out]
  by_cases hc : gi t n + 1 > (N : Int) + 1
  ·rw [if_pos hc]
   exact ⟨fun h => (by cases h),fun _ hN => by have:=htn hN;omega,h.lx⟩
  ·rw [if_neg hc]
   have hst:=hsp.time hn (by omega)
   have hrs : rest N (t.set n.toNat (gi t n + 1)) + 1 = rest N t:=rest_gi hn.1 (by rw [h.lt];exact hn.2) (by omega)
   have hP : RI N U x0 (fun l => l.1 = n ∧ l ∈ usedF es 0 L) x cur nxt (w.set n.toNat false) (t.set n.toNat (gi t n + 1)) p:=by
    rw [hUL] at h1 ⊢
    refine ⟨h1.lx,h1.lw,h1.lt,h1.qn,h1.qr,h1.qw,h1.le0,h1.wk,fun l hl hf hq hp => h1.ed l hl hf hq (fun e => hp ⟨e,hl⟩),h1.up,fun u ls l hu h0 hc hm hlp hl60 hl hcur hp => h1.uc u ls l hu h0 hc hm hlp hl60 hl hcur (fun e => hp ⟨e,hl⟩),h1.tm,h1.nc,h1.nn⟩
   have key:=inn_ri hU hB hls hn (fun hh => hnq (by simp [hh])) L 0 x nxt (w.set n.toNat false) (fun l hl => by rw [hUL];exact hl) hL.ne hx (fun hh => hnq (by simp [hh])) hP hst
   have hlen:=inn_len es (least L) n L 0 x (cur ++ nxt) (w.set n.toNat false)
   generalize inn es (least L) n 0 L x (cur ++ nxt) (w.set n.toNat false) = r at key hlen ⊢
   match r,key,hlen with
   | (false,x',q',w'),key,hlen => exact ⟨fun h => (by cases h),fun _ => key,hlen.trans h.lx⟩
   | (true,x',q',w'),⟨nxt',e,h2,h3⟩,_ =>
     subst e
     exact ih x' cur nxt' w' _ p (by omega) h2 h3
 intro f
 induction f with
 | zero => intro x cur nxt w t p hf;omega
 | succ f ih =>
   intro x cur nxt w t p hf h hs
   cases cur with
   | cons n cur => exact go f ih x n cur nxt w t p hf h hs
   | nil =>
     cases nxt with
     | nil =>
       simp only [List.nil_append,out]
       exact ⟨fun _ => ⟨h.post,hs.rx⟩,fun h => (by cases h),h.lx⟩
     | cons n nxt =>
       have h':=h.pass hU
       have:=go f ih x n nxt [] w t (p + 1) hf h' (by simpa using hs)
       simpa using this
theorem relax_foundX {L : List Lk} (hL : Lkx N L x0) (hB : Beg N x0) : Found N (usedF es 0 L) (least L) x0 (relaxF N L es x0):=by
 have hU : Lkx N (usedF es 0 L) x0:=hL.sub fun l hl => usedF_sub es 0 L l hl
 have:=out_found (es:=es) hL rfl hB (N * (N + 1) + 1) x0 (qAt x0 N) [] (wAt x0 N N) (List.replicate N 0) 0 (by rw [rest_zero]) (RI.init hU hB) (by simpa using Sf.init (least_np L) hB)
 simpa [relaxF] using this
theorem relax_found {L : List Lk} (hL : Lks N L) (hB : Beg N x0) : Found N (usedF es 0 L) (least L) x0 (relaxF N L es x0):=relax_foundX hL.x hB
end
end Go.Chn
end
section
namespace Go.Chn
variable {es es' : List (Int × Bool)}
theorem inn_congr (h : ∀ i : Nat,mgb es i = mgb es' i) {ls n : Int} : ∀ (L : List Lk) (i : Nat) (x q : List Int) (w : List Bool),inn es ls n i L x q w = inn es' ls n i L x q w
 | [],_,_,_,_ => rfl
 | l :: L,i,x,q,w => by
   have hs : skipL es n i l x = skipL es' n i l x:=by unfold skipL;rw [h]
   unfold inn
   rw [hs]
   simp only [inn_congr h L]
theorem out_congr (h : ∀ i : Nat,mgb es i = mgb es' i) {N : Nat} {L : List Lk} : ∀ (f : Nat) (x q : List Int) (w : List Bool) (t : List Int),out N L es f x q w t = out N L es' f x q w t
 | 0,_,_,_,_ => rfl
 | _ + 1,_,[],_,_ => rfl
 | f + 1,x,n :: q,w,t => by
   unfold out
   rw [inn_congr h]
   simp only [out_congr h f]
theorem relax_congr (h : ∀ i : Nat,mgb es i = mgb es' i) {N : Nat} {L : List Lk} {x : List Int} : relaxF N L es x = relaxF N L es' x:=out_congr h _ _ _ _ _
end Go.Chn
end
section
namespace Go.Chn
open Go
/-! ### Numerals -/
theorem isDigit_ofNat {k : Nat} (h : k < 10) : (UInt8.ofNat (48 + k)).toNat = 48 + k:=by
 rw [UInt8.toNat_ofNat'];exact Nat.mod_eq_of_lt (by omega)
theorem dec_digits (u : Nat) : ∀ c ∈ Lib.decDigits u,48 ≤ c.toNat ∧ c.toNat ≤ 57:=by
 induction u using Nat.strongRecOn with
 | _ u ih =>
   intro c hc
   rw [Lib.decDigits] at hc
   split at hc
   ·rename_i h
    simp only [List.mem_singleton] at hc
    subst hc
    rw [isDigit_ofNat h];omega
   ·rename_i h
    rcases List.mem_append.1 hc with hc | hc
    ·exact ih (u / 10) (by omega) c hc
    ·simp only [List.mem_singleton] at hc
     subst hc
     rw [isDigit_ofNat (Nat.mod_lt _ (by omega))];omega
theorem dec_ne (u : Nat) : Lib.decDigits u ≠ []:=by
 rw [Lib.decDigits]
 split <;> simp
theorem parse_app : ∀ (l : List UInt8) (acc a : Nat) (c : UInt8),Lib.parseUint10 acc l = .ok a → (48 ≤ c.toNat ∧ c.toNat ≤ 57) → a * 10 + (c.toNat - 48) < 18446744073709551616 →
  Lib.parseUint10 acc (l ++ [c]) = .ok (a * 10 + (c.toNat - 48))
 | [],acc,a,c,h,hc,hb => by
   simp only [Lib.parseUint10] at h
   injection h with h
   subst h
   simp only [List.nil_append,Lib.parseUint10]
   rw [if_pos hc,if_neg (by omega),if_neg (by omega)]
 | x :: l,acc,a,c,h,hc,hb => by
   simp only [Lib.parseUint10] at h
   simp only [List.cons_append,Lib.parseUint10]
   split at h
   ·rename_i hx
    rw [if_pos hx]
    split at h
    ·cases h
    ·rename_i h2
     rw [if_neg h2]
     split at h
     ·cases h
     ·rename_i h3
      rw [if_neg h3]
      exact parse_app l _ a c h hc hb
   ·cases h
theorem parse_dec (u : Nat) (h : u < 18446744073709551616) : Lib.parseUint10 0 (Lib.decDigits u) = .ok u:=by
 induction u using Nat.strongRecOn with
 | _ u ih =>
   rw [Lib.decDigits]
   split
   ·rename_i h1
    simp only [Lib.parseUint10,isDigit_ofNat h1]
    rw [if_pos (by omega),if_neg (by omega),if_neg (by omega)]
    congr 1;omega
   ·rename_i h1
    have h2 : u % 10 < 10:=Nat.mod_lt _ (by omega)
    have h3:=parse_app (Lib.decDigits (u / 10)) 0 (u / 10) (UInt8.ofNat (48 + u % 10)) (ih (u / 10) (by omega) (by omega)) (by rw [isDigit_ofNat h2];omega) (by rw [isDigit_ofNat h2];omega)
    rw [h3,isDigit_ofNat h2]
    congr 1;omega
theorem mag_dec (u : Nat) (h : u < 18446744073709551616) : Lib.parseMag (Lib.decDigits u) = .ok u:=by
 rw [Lib.parseMag,if_neg (dec_ne u),parse_dec u h]
theorem atoi_itoa (n : Int) (h : -9223372036854775808 ≤ n ∧ n ≤ 9223372036854775807) : Lib.atoiAll (Lib.itoa n) = .ok n:=by
 unfold Lib.itoa
 split
 ·rw [Lib.atoiAll_minus,mag_dec _ (by omega)]
  simp only [Lib.signed]
  rw [if_neg (by omega)]
  congr 1;omega
 ·have hd:=dec_digits n.toNat
  have hm:=mag_dec n.toNat (by omega)
  revert hd hm
  generalize Lib.decDigits n.toNat = l
  intro hd hm
  cases l with
  | nil => simp [Lib.parseMag] at hm
  | cons c r =>
    have hc:=hd c (by simp)
    rw [Lib.atoiAll_plain c r (by omega) (by omega),hm]
    simp only [Lib.signless]
    rw [if_neg (by omega)]
    congr 1;omega
theorem itoa_bytes (n : Int) : ∀ c ∈ Lib.itoa n,c.toNat = 45 ∨ (48 ≤ c.toNat ∧ c.toNat ≤ 57):=by
 intro c hc
 unfold Lib.itoa at hc
 split at hc
 ·rcases List.mem_cons.1 hc with rfl | hc
  ·exact .inl rfl
  ·exact .inr (dec_digits _ c hc)
 ·exact .inr (dec_digits _ c hc)
theorem itoa_no (n : Int) (k : Nat) (hk : k < 45) : ∀ c ∈ Lib.itoa n,c.toNat ≠ k:=fun c hc => by
 have:=itoa_bytes n c hc;omega
theorem itoa_sp (n : Int) : ∀ c ∈ Lib.itoa n,c ≠ 32:=fun c hc e => itoa_no n 32 (by omega) c hc (by rw [e];rfl)
theorem itoa_nl (n : Int) : ∀ c ∈ Lib.itoa n,c ≠ 10:=fun c hc e => itoa_no n 10 (by omega) c hc (by rw [e];rfl)
/-! ### Bytes -/
def nl1 : ByteArray:={ data:=#[10] }
def sp1 : ByteArray:={ data:=#[32] }
def no1 : ByteArray:={ data:=#[110,111,100,101,115] }
def li1 : ByteArray:={ data:=#[108,105,110,107] }
def bA (l : List UInt8) : ByteArray:=⟨l.toArray⟩
theorem bA_size (l : List UInt8) : (bA l).size = l.length:=by simp [bA,ByteArray.size]
theorem bA_list (l : List UInt8) : (bA l).data.toList = l:=rfl
theorem bA_ext {a b : ByteArray} (h : a.data.toList = b.data.toList) : a = b:=by
 obtain ⟨⟨a⟩⟩:=a;obtain ⟨⟨b⟩⟩:=b
 have : a = b:=h
 rw [this]
theorem bA_app (a b : List UInt8) : bA a ++ bA b = bA (a ++ b):=bA_ext (by
 show (bA a ++ bA b).data.toList = a ++ b
 rw [ByteArray.data_append,Array.toList_append];rfl)
theorem ext_list (a : ByteArray) (i j : Nat) : (a.extract i j).data.toList = (a.data.toList.take j).drop i:=by
 rw [ByteArray.data_extract,Array.toList_extract]
 simp [List.extract,List.drop_take]
/-! ### The text of a system -/
def wdN : List UInt8:=[110,111,100,101,115,32]
def wdL : List UInt8:=[108,105,110,107,32]
def hdT (N : Int) : List UInt8:=wdN ++ Lib.itoa N
def rwT (l : Lk) : List UInt8:=wdL ++ (Lib.itoa l.1 ++ 32 :: (Lib.itoa l.2.1 ++ 32 :: Lib.itoa l.2.2))
def rwsT : List Lk → List UInt8
 | [] => []
 | l :: L => (rwT l ++ [10]) ++ rwsT L
def txT (N : Int) (L : List Lk) : List UInt8:=(hdT N ++ [10]) ++ rwsT L
theorem rwsT_app (A B : List Lk) : rwsT (A ++ B) = rwsT A ++ rwsT B:=by
 induction A with
 | nil => rfl
 | cons a A ih => rw [List.cons_append,rwsT,ih,rwsT];simp only [List.append_assoc]
/-! ### Line by line -/
def lnI (r : ByteArray) : Int:=Lib.indexByte r.data.toList 10
def lnA (r : ByteArray) : ByteArray:=match decide (lnI r ≥ 0) with | true => r.extract 0 (lnI r + 1).toNat | false => r
def rsA (r : ByteArray) : ByteArray:=match decide (lnI r ≥ 0) with | true => r.extract (lnI r + 1).toNat r.size | false => { data:=#[] }
def trA (row : ByteArray) : ByteArray:=bA (Lib.trimSuffix row.data.toList nl1.data.toList)
def wdT (t : ByteArray) : List ByteArray:=Lib.splitB sp1 0 (Lib.countB t sp1) t
def wds (row : ByteArray) : List ByteArray:=wdT (trA row)
def nums : List ByteArray → Option (List Int)
 | [] => some []
 | x :: r => match Lib.atoiAll x.data.toList with
   | .ok v => (match nums r with | some l => some (v :: l) | none => none)
   | _ => none
abbrev Sy:=Int × List Lk
def g3 (l : List Int) (i : Nat) : Int:=l.getD i 0
def hdW (w : List ByteArray) : ByteArray:=w.getD 0 ByteArray.empty
def stW (s : Sy) (h : ByteArray) (l : List Int) : Option Sy:=match h.toList == no1.toList && decide (l.length = 1) with
 | true => some (g3 l 0,s.2)
 | false => match h.toList == li1.toList && (decide (l.length = 3) && decide (s.2.length ≤ 300)) with
   | true => some (s.1,s.2 ++ [(g3 l 0,g3 l 1,g3 l 2)])
   | false => none
def stT (s : Sy) (row : ByteArray) : Option Sy:=match nums (wds row).tail with
 | none => none
 | some l => stW s (hdW (wds row)) l
def foldT : Nat → ByteArray → Sy → Option Sy
 | 0,_,s => some s
 | f + 1,r,s => match decide ((r.size : Int) > 0) with
   | false => some s
   | true => match stT s (lnA r) with
     | none => none
     | some s' => foldT f (rsA r) s'
theorem idx_app {l r : List UInt8} {c : UInt8} (h : ∀ x ∈ l,x ≠ c) : Lib.indexByte (l ++ c :: r) c = l.length:=by
 induction l with
 | nil => simp [Lib.indexByte]
 | cons a l ih =>
   have ha : a ≠ c:=h a (List.mem_cons_self ..)
   have ih:=ih (fun x hx => h x (List.mem_cons_of_mem _ hx))
   have e : (a == c) = false:=by simp [ha]
   rw [List.cons_append,Lib.indexByte,e,ih]
   simp only [Bool.false_eq_true,if_false]
   rw [if_neg]
   ·simp
   ·simp
    try omega
theorem ln_app {l r : List UInt8} (h : ∀ x ∈ l,x ≠ 10) : lnA (bA (l ++ 10 :: r)) = bA (l ++ [10]) ∧ rsA (bA (l ++ 10 :: r)) = bA r:=by
 have e : lnI (bA (l ++ 10 :: r)) = l.length:=idx_app h
 have d : decide (lnI (bA (l ++ 10 :: r)) ≥ 0) = true:=by rw [e];exact decide_eq_true (by omega)
 have e2 : ((l.length : Int) + 1).toNat = l.length + 1:=by omega
 constructor
 ·unfold lnA
  rw [d]
  dsimp only
  rw [e,e2]
  refine bA_ext ?_
  rw [ext_list,bA_list,bA_list,List.drop_zero]
  have : l ++ 10 :: r = (l ++ [10]) ++ r:=by simp
  rw [this,List.take_append_of_le_length (by simp)]
  exact List.take_of_length_le (by simp)
 ·unfold rsA
  rw [d]
  dsimp only
  rw [e,e2]
  refine bA_ext ?_
  rw [ext_list,bA_list,bA_list,bA_size,List.take_length]
  have : l ++ 10 :: r = (l ++ [10]) ++ r:=by simp
  rw [this,List.drop_append_of_le_length (by simp),List.drop_of_length_le (by simp)]
  rfl
theorem tr_line (l : List UInt8) : trA (bA (l ++ [10])) = bA l:=by
 unfold trA
 congr 1
 rw [bA_list,Lib.trimSuffix]
 have e : Lib.hasSuffix (l ++ [10]) nl1.data.toList = true:=by
  show Lib.hasSuffix (l ++ [10]) [10] = true
  unfold Lib.hasSuffix
  simp
 rw [if_pos e]
 show (l ++ [10]).take ((l ++ [10]).length - 1) = l
 simp
/-! ### Words -/
theorem index_at {l r : List UInt8} (c : UInt8) (h : ∀ x ∈ l,x ≠ c) : Lib.index (l ++ c :: r) [c] = l.length:=by
 induction l with
 | nil => simp [Lib.index,List.isPrefixOf]
 | cons a l ih =>
   have h1:=ih fun x hx => h x (by simp [hx])
   have h2 : a ≠ c:=h a (by simp)
   simp only [List.cons_append,Lib.index,h1]
   rw [if_neg (by simp [List.isPrefixOf];exact fun e => h2 e.symm),if_neg (by simp)]
   simp
theorem sp_at {l r : List UInt8} (h : ∀ x ∈ l,x ≠ 32) : Lib.split (l ++ 32 :: r) [32] = l :: Lib.split r [32]:=by
 unfold Lib.split
 have hc : List.count 32 l = 0:=List.count_eq_zero.2 fun hm => h 32 hm rfl
 have e : Lib.count (l ++ 32 :: r) [32] = Lib.count r [32] + 1:=by
  rw [Lib.count_one,Lib.count_one,List.count_append,hc,List.count_cons_self];omega
 rw [e,Lib.splitK,index_at 32 h,if_neg (by simp)]
 simp
theorem sp_none {l : List UInt8} (h : ∀ x ∈ l,x ≠ 32) : Lib.split l [32] = [l]:=by
 unfold Lib.split
 have hc : List.count 32 l = 0:=List.count_eq_zero.2 fun hm => h 32 hm rfl
 rw [Lib.count_one,hc];rfl
theorem wd_list (s : ByteArray) : (wdT s).map (·.data.toList) = Lib.split s.data.toList [32]:=by
 unfold wdT
 rw [Lib.splitB_data]
 rfl
theorem wd_eq {s : ByteArray} {W : List (List UInt8)} (h : Lib.split s.data.toList [32] = W) : wdT s = W.map bA:=by
 rw [← h,← wd_list,List.map_map]
 conv => lhs;rw [← List.map_id (wdT s)]
 refine List.map_congr_left fun x _ => ?_
 exact bA_ext rfl
theorem num_itoa {n : Int} (h : -9223372036854775808 ≤ n ∧ n ≤ 9223372036854775807) (W : List ByteArray) (o : List Int) (hW : nums W = some o) : nums (bA (Lib.itoa n) :: W) = some (n :: o):=by
 rw [nums,bA_list,atoi_itoa n h,hW]
theorem st_head (s : Sy) {N : Int} (h : 1 ≤ N ∧ N ≤ 60) : stT s (bA (hdT N ++ [10])) = some (N,s.2):=by
 have hw : wds (bA (hdT N ++ [10])) = [no1,bA (Lib.itoa N)]:=by
  unfold wds
  rw [tr_line,wd_eq (W:=[[110,111,100,101,115],Lib.itoa N])]
  ·rfl
  ·rw [bA_list]
   have e : hdT N = [110,111,100,101,115] ++ 32 :: Lib.itoa N:=rfl
   rw [e,sp_at (by decide),sp_none (itoa_sp N)]
 unfold stT stW
 rw [hw]
 show (match nums [bA (Lib.itoa N)] with | none => none | some l => _) = _
 rw [num_itoa (by omega) [] [] rfl]
 have e2 : ((hdW [no1,bA (Lib.itoa N)]).toList == no1.toList) = true:=beq_self_eq_true _
 dsimp only
 rw [e2]
 rfl
theorem li_no : (li1.toList == no1.toList) = false:=by decide +kernel
theorem st_row (s : Sy) {l : Lk} (h1 : 0 ≤ l.1 ∧ l.1 < 60) (h2 : 0 ≤ l.2.1 ∧ l.2.1 < 60) (h3 : -4503599627370496 ≤ l.2.2 ∧ l.2.2 ≤ 4503599627370496) (hl : s.2.length ≤ 300) : stT s (bA (rwT l ++ [10])) = some (s.1,s.2 ++ [l]):=by
 have hw : wds (bA (rwT l ++ [10])) = [li1,bA (Lib.itoa l.1),bA (Lib.itoa l.2.1),bA (Lib.itoa l.2.2)]:=by
  unfold wds
  rw [tr_line,wd_eq (W:=[[108,105,110,107],Lib.itoa l.1,Lib.itoa l.2.1,Lib.itoa l.2.2])]
  ·rfl
  ·rw [bA_list]
   have e : rwT l = [108,105,110,107] ++ 32 :: (Lib.itoa l.1 ++ 32 :: (Lib.itoa l.2.1 ++ 32 :: Lib.itoa l.2.2)):=rfl
   rw [e,sp_at (by decide),sp_at (itoa_sp _),sp_at (itoa_sp _),sp_none (itoa_sp _)]
 unfold stT stW
 rw [hw]
 show (match nums [bA (Lib.itoa l.1),bA (Lib.itoa l.2.1),bA (Lib.itoa l.2.2)] with | none => none | some l => _) = _
 rw [num_itoa (by omega) _ _ (num_itoa (by omega) _ _ (num_itoa (by omega) [] [] rfl))]
 have e1 : (hdW [li1,bA (Lib.itoa l.1),bA (Lib.itoa l.2.1),bA (Lib.itoa l.2.2)]) = li1:=rfl
 have e2 : (li1.toList == li1.toList) = true:=beq_self_eq_true _
 dsimp only
 rw [e1,e2,li_no,decide_eq_true hl]
 rfl
def okL (l : Lk) : Prop:=(0 ≤ l.1 ∧ l.1 < 60) ∧ (0 ≤ l.2.1 ∧ l.2.1 < 60) ∧ -4503599627370496 ≤ l.2.2 ∧ l.2.2 ≤ 4503599627370496
theorem rw_nl (l : Lk) : ∀ x ∈ rwT l,x ≠ 10:=by
 intro x hx
 unfold rwT wdL at hx
 simp only [List.mem_append,List.mem_cons,List.not_mem_nil,or_false] at hx
 rcases hx with (rfl | rfl | rfl | rfl | rfl) | hx | rfl | hx | rfl | hx
 all_goals first | decide | exact itoa_nl _ _ hx
theorem hd_nl (N : Int) : ∀ x ∈ hdT N,x ≠ 10:=by
 intro x hx
 unfold hdT wdN at hx
 simp only [List.mem_append,List.mem_cons,List.not_mem_nil,or_false] at hx
 rcases hx with (rfl | rfl | rfl | rfl | rfl | rfl) | hx
 all_goals first | decide | exact itoa_nl _ _ hx
theorem fold_rows : ∀ (L : List Lk) (f : Nat) (s : Sy),(∀ l ∈ L,okL l) → s.2.length + L.length ≤ 301 → L.length ≤ f → foldT f (bA (rwsT L)) s = some (s.1,s.2 ++ L)
 | [],f,s,_,_,_ => by
   cases f with
   | zero => simp [foldT]
   | succ f =>
     have e : decide (((bA (rwsT [])).size : Int) > 0) = false:=by decide
     rw [foldT,e];simp
 | l :: L,0,_,_,_,h => by simp at h
 | l :: L,f + 1,s,hw,hn,h => by
   obtain ⟨h1,h2,h3⟩:=hw l (List.mem_cons_self ..)
   have e0 : rwsT (l :: L) = rwT l ++ 10 :: rwsT L:=by rw [rwsT];simp
   obtain ⟨l1,l2⟩:=ln_app (r:=rwsT L) (rw_nl l)
   have e : decide (((bA (rwsT (l :: L))).size : Int) > 0) = true:=by rw [bA_size,e0];simp;omega
   rw [List.length_cons] at hn h
   rw [foldT,e]
   dsimp only
   rw [e0,l1,l2,st_row s h1 h2 h3 (by omega)]
   dsimp only
   rw [fold_rows L f _ (fun x hx => hw x (List.mem_cons_of_mem _ hx)) (by simp only [List.length_append,List.length_singleton];omega) (by omega)]
   simp
theorem fold_tx {N : Int} {L : List Lk} (hN : 1 ≤ N ∧ N ≤ 60) (hL : L.length ≤ 300) (hw : ∀ l ∈ L,okL l) {f : Nat} (hf : L.length + 1 ≤ f) : foldT f (bA (txT N L)) (0,[]) = some (N,L):=by
 cases f with
 | zero => omega
 | succ f =>
   have e0 : txT N L = hdT N ++ 10 :: rwsT L:=by rw [txT];simp
   obtain ⟨l1,l2⟩:=ln_app (r:=rwsT L) (hd_nl N)
   have e : decide (((bA (txT N L)).size : Int) > 0) = true:=by rw [bA_size,e0];simp;omega
   rw [foldT,e]
   dsimp only
   rw [e0,l1,l2,st_head _ hN]
   dsimp only
   rw [fold_rows L f _ hw (by simp;omega) (by omega)]
   simp
end Go.Chn
end
section
namespace Go.Chn
open Go
def byt (s : ByteArray) (i : Nat) : Int:=((s.data.getD i 0).toNat : Int)
theorem byt_le (s : ByteArray) (i : Nat) : 0 ≤ byt s i ∧ byt s i ≤ 255:=by
 unfold byt
 have:=(s.data.getD i 0).toNat_lt
 omega
theorem byt_at (s : ByteArray) (i : Nat) : byt s i = ((s.data.toList.getD i 0).toNat : Int):=by
 unfold byt
 rw [Array.getD_eq_getD_getElem?,List.getD_eq_getElem?_getD,Array.getElem?_toList]
def valL : List UInt8 → Int → Int × Nat
 | [],n => (n,0)
 | c :: r,n => match decide ((c.toNat : Int) ≥ 48) && decide ((c.toNat : Int) ≤ 57) with
   | true => ((valL r (min (10 * n + ((c.toNat : Int) - 48)) 9007199254740992)).1,(valL r (min (10 * n + ((c.toNat : Int) - 48)) 9007199254740992)).2 + 1)
   | false => (n,0)
def isNeg (s : ByteArray) (i : Nat) : Bool:=decide ((i : Int) < (s.size : Int)) && byt s i == 45
def sgV (s : ByteArray) (i : Nat) : Int:=match isNeg s i with | true => -1 | false => 1
def stV (s : ByteArray) (i : Nat) : Nat:=match isNeg s i with | true => i + 1 | false => i
def valS (s : ByteArray) (i : Nat) : Int × Nat:=(sgV s i * (valL (s.data.toList.drop (stV s i)) 0).1,stV s i + (valL (s.data.toList.drop (stV s i)) 0).2)
theorem valL_le : ∀ (l : List UInt8) (n : Int),0 ≤ n ∧ n ≤ 9007199254740992 → (0 ≤ (valL l n).1 ∧ (valL l n).1 ≤ 9007199254740992) ∧ (valL l n).2 ≤ l.length
 | [],n,h => ⟨h,Nat.le_refl _⟩
 | c :: r,n,h => by
   rw [valL]
   split
   ·rename_i hc
    simp only [Bool.and_eq_true,decide_eq_true_eq] at hc
    have:=valL_le r (min (10 * n + ((c.toNat : Int) - 48)) 9007199254740992) (by omega)
    rw [List.length_cons]
    exact ⟨this.1,by have:=this.2;show _ + 1 ≤ _ + 1;omega⟩
   ·exact ⟨h,Nat.zero_le _⟩
theorem valS_le (s : ByteArray) (i : Nat) : (-9007199254740992 ≤ (valS s i).1 ∧ (valS s i).1 ≤ 9007199254740992) ∧ i ≤ (valS s i).2 ∧ (valS s i).2 ≤ max i s.size:=by
 have h:=valL_le (s.data.toList.drop (stV s i)) 0 (by omega)
 obtain ⟨h1,h2⟩:=h
 rw [List.length_drop] at h2
 have hs : s.data.toList.length = s.size:=Array.length_toList ..
 rw [hs] at h2
 unfold valS sgV stV
 unfold sgV stV at *
 cases hn : isNeg s i with
 | true =>
   rw [hn] at h1 h2
   have : i < s.size:=by
    unfold isNeg at hn
    simp only [Bool.and_eq_true,decide_eq_true_eq] at hn
    omega
   dsimp only at *
   omega
 | false =>
   rw [hn] at h1 h2
   dsimp only at *
   omega
theorem valL_step {s : ByteArray} {i : Nat} (h : i < s.size) (n : Int) : valL (s.data.toList.drop i) n = match decide (byt s i ≥ 48) && decide (byt s i ≤ 57) with
  | true => ((valL (s.data.toList.drop (i + 1)) (min (10 * n + (byt s i - 48)) 9007199254740992)).1,(valL (s.data.toList.drop (i + 1)) (min (10 * n + (byt s i - 48)) 9007199254740992)).2 + 1)
  | false => (n,0):=by
 have hs : s.data.toList.length = s.size:=Array.length_toList ..
 have hl : i < s.data.toList.length:=by omega
 have e : byt s i = ((s.data.toList[i]).toNat : Int):=by rw [byt_at,List.getD_eq_getElem?_getD,List.getElem?_eq_getElem hl];rfl
 rw [List.drop_eq_getElem_cons hl,valL,e]
theorem valL_end {s : ByteArray} {i : Nat} (h : s.size ≤ i) (n : Int) : valL (s.data.toList.drop i) n = (n,0):=by
 have hs : s.data.toList.length = s.size:=Array.length_toList ..
 rw [List.drop_of_length_le (by omega),valL]
/-! ### Numerals are read -/
def vF (l : List UInt8) (n : Int) : Int:=l.foldl (fun n c => min (10 * n + ((c.toNat : Int) - 48)) 9007199254740992) n
theorem valL_app : ∀ (l : List UInt8) (n : Int) (t : List UInt8),(∀ c ∈ l,48 ≤ c.toNat ∧ c.toNat ≤ 57) → valL (l ++ t) n = ((valL t (vF l n)).1,l.length + (valL t (vF l n)).2)
 | [],n,t,_ => by simp [vF]
 | c :: r,n,t,h => by
   have hc:=h c (List.mem_cons_self ..)
   have e : (decide ((c.toNat : Int) ≥ 48) && decide ((c.toNat : Int) ≤ 57)) = true:=by
    rw [decide_eq_true (by omega),decide_eq_true (by omega)];rfl
   rw [List.cons_append,valL,e]
   dsimp only
   rw [valL_app r _ t (fun x hx => h x (List.mem_cons_of_mem _ hx))]
   refine Prod.ext rfl ?_
   show _ + 1 = _
   rw [List.length_cons]
   show r.length + (valL t (vF (c :: r) n)).2 + 1 = r.length + 1 + (valL t (vF (c :: r) n)).2
   omega
theorem vF_app (a b : List UInt8) (n : Int) : vF (a ++ b) n = vF b (vF a n):=by unfold vF;rw [List.foldl_append]
theorem vF_dec (u : Nat) (h : u ≤ 9007199254740992) : vF (Lib.decDigits u) 0 = (u : Int):=by
 induction u using Nat.strongRecOn with
 | _ u ih =>
   rw [Lib.decDigits]
   split
   ·rename_i h1
    show min (10 * 0 + (((UInt8.ofNat (48 + u)).toNat : Int) - 48)) 9007199254740992 = _
    rw [isDigit_ofNat h1];omega
   ·rename_i h1
    rw [vF_app,ih (u / 10) (by omega) (by omega)]
    show min (10 * ((u / 10 : Nat) : Int) + (((UInt8.ofNat (48 + u % 10)).toNat : Int) - 48)) 9007199254740992 = _
    rw [isDigit_ofNat (Nat.mod_lt _ (by omega))];omega
theorem valL_stop {c : UInt8} (hc : ¬ (48 ≤ c.toNat ∧ c.toNat ≤ 57)) (r : List UInt8) (n : Int) : valL (c :: r) n = (n,0):=by
 rw [valL]
 split
 ·rename_i h
  simp only [Bool.and_eq_true,decide_eq_true_eq] at h
  omega
 ·rfl
theorem valL_dec (u : Nat) (h : u ≤ 9007199254740992) {c : UInt8} (hc : ¬ (48 ≤ c.toNat ∧ c.toNat ≤ 57)) (r : List UInt8) : valL (Lib.decDigits u ++ c :: r) 0 = ((u : Int),(Lib.decDigits u).length):=by
 rw [valL_app _ _ _ (dec_digits u),vF_dec u h,valL_stop hc]
 simp
theorem val_num {s : ByteArray} {i : Nat} {n : Int} {c : UInt8} {r : List UInt8} (hd : s.data.toList.drop i = Lib.itoa n ++ c :: r) (hc : ¬ (48 ≤ c.toNat ∧ c.toNat ≤ 57)) (hn : -9007199254740992 ≤ n ∧ n ≤ 9007199254740992) :
  valS s i = (n,i + (Lib.itoa n).length):=by
 have hs : s.data.toList.length = s.size:=Array.length_toList ..
 have hl:=congrArg List.length hd
 rw [List.length_drop,List.length_append,List.length_cons] at hl
 have hi : i < s.size:=by omega
 have hb : byt s i = (((Lib.itoa n ++ c :: r).getD 0 0).toNat : Int):=by
  rw [byt_at,← hd,List.getD_eq_getElem?_getD,List.getD_eq_getElem?_getD,List.getElem?_drop,Nat.add_zero]
 by_cases h0 : n < 0
 ·have e : Lib.itoa n = 45 :: Lib.decDigits n.natAbs:=by unfold Lib.itoa;rw [if_pos h0]
  have hg : isNeg s i = true:=by
   unfold isNeg
   rw [decide_eq_true (by omega),hb,e];rfl
  unfold valS sgV stV
  rw [hg]
  dsimp only
  have hd2 : s.data.toList.drop (i + 1) = Lib.decDigits n.natAbs ++ c :: r:=by
   rw [← List.drop_drop,hd,e];rfl
  rw [hd2,valL_dec _ (by omega) hc,e,List.length_cons]
  refine Prod.ext ?_ ?_
  ·show -1 * ((n.natAbs : Nat) : Int) = n;omega
  ·show i + 1 + _ = i + (_ + 1);omega
 ·have e : Lib.itoa n = Lib.decDigits n.toNat:=by unfold Lib.itoa;rw [if_neg h0]
  have hg : isNeg s i = false:=by
   unfold isNeg
   have hne:=dec_ne n.toNat
   have hdg:=dec_digits n.toNat
   rw [hb,e]
   cases hq : Lib.decDigits n.toNat with
   | nil => exact absurd hq hne
   | cons x t =>
     have:=hdg x (by rw [hq];exact List.mem_cons_self ..)
     show (_ && ((x.toNat : Int) == 45)) = false
     rw [show ((x.toNat : Int) == 45) = false by rw [beq_eq_false_iff_ne];omega,Bool.and_false]
  unfold valS sgV stV
  rw [hg]
  dsimp only
  rw [hd,e,valL_dec _ (by omega) hc]
  refine Prod.ext ?_ rfl
  show 1 * ((n.toNat : Nat) : Int) = n;omega
theorem drop_num {s : ByteArray} {i : Nat} {w : List UInt8} {c : UInt8} {r : List UInt8} (hd : s.data.toList.drop i = w ++ c :: r) : s.data.toList.drop (i + w.length + 1) = r ∧ s.data.toList.drop (i + w.length) = c :: r:=by
 have h : s.data.toList.drop (i + w.length) = c :: r:=by rw [← List.drop_drop,hd,List.drop_left]
 exact ⟨by rw [← List.drop_drop,h];rfl,h⟩
/-! ### All rows -/
def tlT : List Lk → List UInt8
 | [] => [10]
 | l :: L => 10 :: (rwT l ++ tlT L)
theorem tl_rws (L : List Lk) : 10 :: rwsT L = tlT L:=by
 induction L with
 | nil => rfl
 | cons l L ih => rw [rwsT,tlT,← ih];simp
theorem tl_head (L : List Lk) : ∃ r,tlT L = 10 :: r:=by cases L <;> exact ⟨_,rfl⟩
def rdR (s : ByteArray) : Nat → Nat → List Lk → List Lk
 | 0,_,A => A
 | f + 1,i,A => match decide ((i : Int) + 6 < (s.size : Int)) && decide (A.length ≤ 300) with
   | false => A
   | true => rdR s f (valS s ((valS s ((valS s (i + 6)).2 + 1)).2 + 1)).2 (A ++ [((valS s (i + 6)).1,(valS s ((valS s (i + 6)).2 + 1)).1,(valS s ((valS s ((valS s (i + 6)).2 + 1)).2 + 1)).1)])
theorem rd_rows {s : ByteArray} : ∀ (L : List Lk) (f i : Nat) (A : List Lk),s.data.toList.drop i = tlT L → (∀ l ∈ L,okL l) → A.length + L.length ≤ 300 → L.length < f → rdR s f i A = A ++ L
 | [],f,i,A,hd,_,_,hf => by
   cases f with
   | zero => simp at hf
   | succ f =>
     have hs : s.data.toList.length = s.size:=Array.length_toList ..
     have hl:=congrArg List.length hd
     rw [List.length_drop] at hl
     have hl : s.data.toList.length - i = 1:=hl
     rw [rdR,decide_eq_false (by omega)]
     simp
 | l :: L,0,i,A,hd,hw,hn,hf => by simp at hf
 | l :: L,f + 1,i,A,hd,hw,hn,hf => by
   have hs : s.data.toList.length = s.size:=Array.length_toList ..
   obtain ⟨h1,h2,h3⟩:=hw l (List.mem_cons_self ..)
   rw [List.length_cons] at hn hf
   have e0 : tlT (l :: L) = [10,108,105,110,107] ++ 32 :: (Lib.itoa l.1 ++ 32 :: (Lib.itoa l.2.1 ++ 32 :: (Lib.itoa l.2.2 ++ tlT L))):=by
    rw [tlT,rwT,wdL];simp
   rw [e0] at hd
   have hl:=congrArg List.length hd
   simp only [List.length_drop,List.length_append,List.length_cons,List.length_nil] at hl
   obtain ⟨d1,_⟩:=drop_num hd
   have d1 : s.data.toList.drop (i + 6) = _:=d1
   have v1:=val_num d1 (by decide) (by omega)
   obtain ⟨d2,_⟩:=drop_num d1
   have v2:=val_num d2 (by decide) (by omega)
   obtain ⟨d3,_⟩:=drop_num d2
   obtain ⟨r,hr⟩:=tl_head L
   rw [hr] at d3
   have v3:=val_num d3 (by decide) (by omega)
   obtain ⟨_,d4⟩:=drop_num d3
   rw [← hr] at d4
   rw [rdR,decide_eq_true (by omega),decide_eq_true (by omega),Bool.and_self]
   dsimp only
   rw [v1];dsimp only
   rw [v2];dsimp only
   rw [v3];dsimp only
   rw [rd_rows L f _ _ d4 (fun x hx => hw x (List.mem_cons_of_mem _ hx)) (by simp only [List.length_append,List.length_singleton];omega) (by omega)]
   simp
def pRd (s : ByteArray) : Sy:=((valS s 6).1,rdR s 301 (valS s 6).2 [])
theorem tx_ref {N : Int} {L : List Lk} (hN : 1 ≤ N ∧ N ≤ 60) (hL : L.length ≤ 300) (hw : ∀ l ∈ L,okL l) : pRd (bA (txT N L)) = (N,L) ∧ 7 ≤ (bA (txT N L)).size ∧ (bA (txT N L)).extract 0 6 = bA wdN:=by
 have e : txT N L = [110,111,100,101,115] ++ 32 :: (Lib.itoa N ++ tlT L):=by
  rw [← tl_rws];unfold txT hdT wdN;simp
 obtain ⟨r,hr⟩:=tl_head L
 have hd : (bA (txT N L)).data.toList.drop 0 = [110,111,100,101,115] ++ 32 :: (Lib.itoa N ++ tlT L):=by rw [bA_list,List.drop_zero,e]
 obtain ⟨d1,_⟩:=drop_num hd
 have d1 : (bA (txT N L)).data.toList.drop 6 = _:=d1
 rw [hr] at d1
 have v1:=val_num d1 (by decide) (by omega)
 obtain ⟨_,d2⟩:=drop_num d1
 rw [← hr] at d2
 refine ⟨?_,?_,?_⟩
 ·unfold pRd
  rw [v1]
  dsimp only
  rw [rd_rows L 301 _ _ d2 hw (by simp;omega) (by omega)]
  rfl
 ·rw [bA_size,e,hr];simp;omega
 ·refine bA_ext ?_
  rw [ext_list,bA_list,bA_list,e]
  rfl
theorem tx_len (N : Int) (L : List Lk) : (bA (txT N L)).size = 7 + (Lib.itoa N).length + (rwsT L).length:=by
 rw [bA_size];unfold txT hdT wdN;simp only [List.length_append,List.length_cons,List.length_nil];omega
theorem rws_len : ∀ L : List Lk,L.length ≤ (rwsT L).length
 | [] => Nat.le_refl _
 | l :: L => by rw [rwsT,List.length_append,List.length_append,List.length_cons,List.length_singleton];have:=rws_len L;omega
end Go.Chn
end
