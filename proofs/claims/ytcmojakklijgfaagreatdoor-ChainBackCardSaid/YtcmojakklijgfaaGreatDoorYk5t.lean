/-
  Texts of the claims: Yk5t. No condition: lemmas and contracts.
-/
import Derived.Test.YtcmojakklijgfaaGreatDoorYk4t
import Derived.Test.YtcmojakklijgfaaGreatDoorYk2t
import Derived.Lib.Hide
import Derived.BigCall
import Derived.Stop.LaidErr
set_option linter.all false
set_option maxRecDepth 100000
set_option maxHeartbeats 4000000
section
namespace Go.Proofs.YtcmojakklijgfaaGreatDoor
open Go Go.RowKit Go.Sy Go.Chn
theorem ΓT_n {W : World} (hL : LaidT W) : ∀ b,b < ΓT.n → b < W.heap.size:=fun b hb => by
 have h : 3 < W.heap.size:=by
  have h1:=hL.tab
  unfold Lib.TabIs World.var? at h1
  rw [pow10_at] at h1
  simp only [Option.bind_some] at h1
  rcases Nat.lt_or_ge 3 W.heap.size with h | h
  ·exact h
  ·rw [Array.getElem?_eq_none h] at h1;simp at h1
 have : b < 4:=hb
 omega
theorem LaidT.below {w w' : World} {B : Nat} (h : LaidT w) (hB : w.heap.size ≤ B) (hb : Below B w w') : LaidT w':=laidT_step w w' h fun b hb4 => hb.block b (Nat.lt_of_lt_of_le (ΓT_n h b hb4) hB)
theorem SlAt.below {te : TypeId} {tg : List CK} {xs : List (Tup tg)} {I : RI} {w w' : World} {B : Nat} (h : SlAt w te tg xs I) (hB : w.heap.size ≤ B) (hb : Below B w w') : SlAt w' te tg xs I where
 ar:=h.ar.later (fun _ => rfl) (fun hv => hb.block _ (Nat.lt_of_lt_of_le (h.lt hv) hB))
 lt:=fun hv => Nat.lt_of_lt_of_le (h.lt hv) hb.size
theorem sl_new (W : World) (l : List Int) : SlAt (W.alloc (.cells (l.map (Value.int .i64)).toArray 3)) 3 kI l ⟨W.heap.size,0,1,l.length,false⟩ where
 ar:={
  tg:=by simp [kI]
  m:=rfl
  void:=fun h => (by cases h)
  len:=fun _ => Nat.le_refl _
  cell:=fun i hi => by
   have hi : i < l.length:=hi
   refine ⟨[.int .i64 (l.getD i 0)],⟨_,rfl,rfl⟩,fun s y hy => ?_⟩
   cases s with
   | succ s => cases hy
   | zero =>
     cases hy
     show (W.alloc (.cells (l.map (Value.int .i64)).toArray 3)).cell? ⟨W.heap.size,0 + (i * 1 + 0),none⟩ = _
     rw [cell_alloc_at]
     simp [hi] }
 lt:=fun _ => by simp
theorem check_at {N : Int} {L : List Lk} {sv : Value} {W : World} {I : RI} (hs : SlAt W 54 kL L I) (hv : I.head 0 L.length sv) (hl : L.length ≤ 1000000) (hL : LaidT W) :
  Calls Tryz.prog 25 #[.agg #[.int .i64 N,sv]] W fun e w' => e = .returned (.tuple #[.int .i64 (checkF N L).1,.int .i64 (checkF N L).2]) ∧ Below W.heap.size W w':=by
 have hF : Ctr.Ok Tryz.prog ΓT 25 c22:=c22_ok
 refine (fn_calls (Γ:=ΓT) hF [⟨54,kL,L,I⟩] (args:=[.agg [.v (.int .i64 N),.sl 0 [] 0 L.length]]) (vs:=[.agg #[.int .i64 N,sv]]) rfl ⟨rfl,rfl,Nat.le_trans hl (by decide),trivial⟩ (ΓT_n hL) hL (fun A hA => ?_) ⟨ok_sys (leb9 rfl) hv,trivial⟩).mono ?_
 ·rw [List.mem_singleton.1 hA];exact ⟨rfl,hs⟩
 ·rintro e w' ⟨v,rfl,hok,hb⟩
  obtain ⟨ys,rfl,hys⟩:=hok
  match ys,hys with
  | [y,z],⟨⟨hy,_⟩,⟨hz,_⟩,_⟩ =>
    subst hy hz
    exact ⟨rfl,hb⟩
theorem line_at {wd : ByteArray} {l : List Int} {W0 : World} (hl : l.length ≤ 10) (hv : ∀ v ∈ l,-9223372036854775808 ≤ v ∧ v ≤ 9223372036854775807) (hw : wd.size ≤ 100) (hL : LaidT W0) {n : Nat} (hn : n = l.length) :
  Calls Tryz.prog 27 #[.string wd,.slice (some ⟨W0.heap.size,0,none⟩) n n] (W0.alloc (.cells (l.map (Value.int .i64)).toArray 3)) fun e w' => e = .returned (.string (lineF wd l)) ∧ Below (W0.heap.size + 1) (W0.alloc (.cells (l.map (Value.int .i64)).toArray 3)) w':=by
 subst hn
 have hL' : LaidT (W0.alloc (.cells (l.map (Value.int .i64)).toArray 3)):=hL.below (Nat.le_refl _) (below_alloc _)
 have hF : Ctr.Ok Tryz.prog ΓT 27 c_line:=c_line_ok
 refine (fn_calls (Γ:=ΓT) hF [⟨3,kI,l,⟨W0.heap.size,0,1,l.length,false⟩⟩] (args:=[.a (.v (.string wd)),.a (.sl 0 [] 0 l.length)]) (vs:=[.string wd,.slice (some ⟨W0.heap.size,0,none⟩) l.length l.length]) rfl ⟨rfl,rfl,hl,hv,hw,trivial⟩ (ΓT_n hL') hL' (fun A hA => ?_) ⟨⟨rfl,rfl⟩,ok_sl (leb9 rfl) ⟨fun h => (by cases h),fun _ => ⟨by show 0 + l.length ≤ l.length;omega,_,rfl,fun _ => rfl⟩⟩,trivial⟩).mono ?_
 ·rw [List.mem_singleton.1 hA];exact ⟨rfl,sl_new W0 l⟩
 ·rintro e w' ⟨v,rfl,⟨rfl,-⟩,hb⟩
  exact ⟨rfl,by simpa using hb⟩
/-! ### The walk -/
def prF (N : Int) (L : List Lk) : ByteArray:=match (checkF N L).1 == 0 with
 | true => bA (txT N L)
 | false => { data:=#[] }
theorem print_no {N : Int} {L : List Lk} {sv : Value} {W : World} {I : RI} (hs : SlAt W 54 kL L I) (hv : I.head 0 L.length sv) (hl : L.length ≤ 1000000) (hL : LaidT W) (hc : ((checkF N L).1 != 0) = true) :
  Calls Tryz.prog 7 #[.agg #[.int .i64 N,sv]] W fun e w' => e = .returned (.tuple #[.string { data:=#[] },.int .i64 (checkF N L).1]) ∧ Below W.heap.size W w':=by
 have hb0 : Below W.heap.size W (W.alloc (.cells #[.int .i64 N,sv] 24)):=below_alloc _
 have hck:=check_at (N:=N) (hs.below (Nat.le_refl _) hb0) hv hl (hL.below (Nat.le_refl _) hb0)
 go_enter Tryz.func7,Tryz.ntmps7
 go_wp2_with (go_at_call 25;refine hck.mono ?_)
 rintro e w1 ⟨rfl,hb1⟩
 go_wp2
 go_ret2
 exact ⟨rfl,hb0.trans (hb1.mono (by simp))⟩
def hsT (N : Int) (L : List Lk) (k : Nat) : List UInt8:=hdT N ++ [10] ++ rwsT (L.take k)
theorem line_hd (N : Int) : lineF { data:=#[110,111,100,101,115] } [N] = bA (hdT N ++ [10]):=by
 show ((bA [110,111,100,101,115] ++ (bA [32] ++ bA (Lib.itoa N))) ++ bA [10]) = _
 rw [bA_app,bA_app,bA_app];rfl
theorem line_rw (l : Lk) : lineF { data:=#[108,105,110,107] } [l.1,l.2.1,l.2.2] = bA (rwT l ++ [10]):=by
 show ((((bA [108,105,110,107] ++ (bA [32] ++ bA (Lib.itoa l.1))) ++ (bA [32] ++ bA (Lib.itoa l.2.1))) ++ (bA [32] ++ bA (Lib.itoa l.2.2))) ++ bA [10]) = _
 rw [bA_app,bA_app,bA_app,bA_app,bA_app,bA_app,bA_app]
 simp [rwT,wdL]
theorem bA_mk (l : List UInt8) : bA l = ⟨l.toArray⟩:=rfl
attribute [local irreducible] lineF bA hsT
theorem bld_below {T e : TypeId} {B b : Nat} {bs : List Value} {w w' : World} {C : Nat} (h : Lib.IsBuilder T e B b bs w) (hC : w.heap.size ≤ C) (hb : Below C w w') : Lib.IsBuilder T e B b bs w':=by
 have one : ∀ p,Lib.BuilderAt T e B b p bs w → Lib.BuilderAt T e B b p bs w':=by
  rintro p h
  have hlt:=h.lt
  obtain ⟨hB,v,hbk,hown,hne⟩:=h
  refine ⟨hB,v,by rw [hb.block b (by omega)];exact hbk,⟨hown.1,?_⟩,hne⟩
  rcases hown.2 with h0 | ⟨g,cap,cur,h1,h2,h3,h4⟩
  ·exact .inl h0
  ·have : g < w.heap.size:=(Array.getElem?_eq_some_iff.1 h3).1
   exact .inr ⟨g,cap,cur,h1,h2,by rw [hb.block g (by omega)];exact h3,h4⟩
 exact h.elim (fun h => .inl (one _ h)) (fun h => .inr (one _ h))
theorem bc_app (a b : List UInt8) : Lib.byteCells a ++ Lib.strCells (bA b) = Lib.byteCells (a ++ b):=by
 rw [Lib.strCells_eq,← Lib.byteCells_append,bA_list]
def Rnd (B : Nat) (w2 : World) (N : Int) (L : List Lk) (i : Value) (wr : World) : Prop:=∃ k : Nat,k ≤ L.length ∧ i = .int .i64 (k : Int) ∧ Lib.IsBuilder 61 5 B B (Lib.byteCells (hsT N L k)) wr ∧ Below B w2 wr
theorem print_yes {N : Int} {L : List Lk} {sv : Value} {W : World} {I : RI} (hs : SlAt W 54 kL L I) (hv : I.head 0 L.length sv) (hL : LaidT W) (hc : (checkF N L).1 = 0) :
  Calls Tryz.prog 7 #[.agg #[.int .i64 N,sv]] W fun e w' => e = .returned (.tuple #[.string (bA (txT N L)),.int .i64 0]) ∧ Below W.heap.size W w':=by
 obtain ⟨hn,hl,hw⟩:=chk_ok hc
 have hb0 : Below W.heap.size W (W.alloc (.cells #[.int .i64 N,sv] 24)):=below_alloc _
 have hck:=check_at (N:=N) (hs.below (Nat.le_refl _) hb0) hv (by omega) (hL.below (Nat.le_refl _) hb0)
 rw [hc] at hck
 obtain ⟨a,cap,rfl,ha⟩ : ∃ a cap,sv = .slice a L.length cap ∧ (0 < L.length → a = some ⟨I.b,I.off,none⟩):=by
  cases hvd : I.void with
  | true => obtain ⟨h0,a,rfl⟩:=hv.1 hvd;exact ⟨a,0,by rw [h0],fun h => by omega⟩
  | false => obtain ⟨h1,a,rfl,h2⟩:=hv.2 hvd;exact ⟨a,_,rfl,fun h => by rw [h2 (by omega)];unfold RI.at;rw [Nat.zero_mul,Nat.add_zero]⟩
 go_enter Tryz.func7,Tryz.ntmps7
 go_wp2_with (go_at_call 25;refine hck.mono ?_)
 rintro e w1 ⟨rfl,hb1⟩
 have hz1 : W.heap.size < w1.heap.size:=by have:=hb1.size;simp at this;omega
 have c0 : w1.cell? ⟨W.heap.size,0,none⟩ = some (.int .i64 N):=by rw [hb1.cell (by simp)];simp
 have c1 : w1.cell? ⟨W.heap.size,1,none⟩ = some (.slice a L.length cap):=by rw [hb1.cell (by simp)];simp
 have hL1 : LaidT w1:=(hL.below (Nat.le_refl _) hb0).below (Nat.le_refl _) hb1
 have hB1 : Below W.heap.size W w1:=hb0.trans (hb1.mono (by simp))
 have hs1:=hs.below (Nat.le_refl _) hB1
 have hb2 : Below w1.heap.size w1 (w1.alloc (.cells #[.pointer none,.slice none 0 0] 61)):=below_alloc _
 have hL2 : LaidT (w1.alloc (.cells #[.pointer none,.slice none 0 0] 61)):=hL1.below (Nat.le_refl _) hb2
 have hln:=line_at (wd:={ data:=#[110,111,100,101,115] }) (l:=[N]) (W0:=w1.alloc (.cells #[.pointer none,.slice none 0 0] 61)) (by simp) (fun v hv => by rw [List.mem_singleton.1 hv];omega) (by decide) hL2 (n:=1) rfl
 rw [line_hd] at hln
 replace hln : Calls Tryz.prog 27 #[.string { data:=#[110,111,100,101,115] },.slice (some ⟨w1.heap.size + 1,0,none⟩) 1 1] ((w1.alloc (.cells #[.pointer none,.slice none 0 0] 61)).alloc (.cells #[.int .i64 N] 3)) (fun e w' => e = .returned (.string (bA (hdT N ++ [10]))) ∧ Below (w1.heap.size + 2) ((w1.alloc (.cells #[.pointer none,.slice none 0 0] 61)).alloc (.cells #[.int .i64 N] 3)) w'):=by simpa using hln
 have hk0 : Lib.IsBuilder 61 5 w1.heap.size w1.heap.size [] (w1.alloc (.cells #[.pointer none,.slice none 0 0] 61)):=Lib.fresh_isBuilder 61 5 w1
 go_wp2_with (go_at_call 27;(with_reducible refine hln.mono ?_))
 rintro e w3 ⟨rfl,hb3⟩
 have hk3 : Lib.IsBuilder 61 5 w1.heap.size w1.heap.size [] w3:=bld_below (bld_below hk0 (Nat.le_refl _) (below_alloc (.cells #[.int .i64 N] 3))) (by simp) hb3
 have hsz3 : w1.heap.size ≤ w3.heap.size:=by have:=hb3.size;simp at this;omega
 have hhd:=hd_len hn
 have hwr:=write_at w1.heap.size w1.heap.size [] (bA (hdT N ++ [10])) w3 hk3 (by rw [bA_sz];simp only [List.length_nil];omega) hsz3
 go_wp2_with (go_at_call 26;(with_reducible refine hwr.mono ?_))
 rintro e w4 ⟨rfl,hk4,hb4⟩
 have hB4 : Below w1.heap.size w1 w4:=((hb2.trans ((below_alloc (.cells #[.int .i64 N] 3)).mono (by simp))).trans (hb3.mono (by omega))).trans hb4
 have hR0 : Rnd w1.heap.size w1 N L (.int .i64 0) w4:=⟨0,Nat.zero_le _,rfl,.inr (by
  rw [show ([] : List Value) = Lib.byteCells [] from rfl] at hk4
  rw [bc_app] at hk4
  have e : hsT N L 0 = [] ++ (hdT N ++ [10]):=by unfold hsT;simp [rwsT]
  rw [e];exact hk4),hB4⟩
 have hz4 : w1.heap.size ≤ w4.heap.size:=hB4.size
 have c04 : w4.cell? ⟨W.heap.size,1,none⟩ = some (.slice a L.length cap):=by rw [hB4.cell hz1];exact c1
 clear hck hln hwr hk0 hk3 hk4 hb2 hb3 hb4 hL2 hsz3 hB4
 go_wp2
 go_loopw [25] (fun i wr => Rnd w1.heap.size w1 N L i wr) (fun i _ => L.length - (intOf i).toNat)
 case atStart => exact hR0
 case round =>
  obtain ⟨k,hk,rfl,hbd,hbe⟩:=hrel
  have hze:=hbe.size
  have d1 : wr.cell? ⟨W.heap.size,1,none⟩ = some (.slice a L.length cap):=by rw [hbe.cell hz1];exact c1
  by_cases hlt : k < L.length
  ·obtain rfl:=ha (by omega)
   have hsr:=(hs1.below (Nat.le_refl _) hbe)
   have gl : ∀ s y,([Value.int .i64 (lk L k).1,.int .i64 (lk L k).2.1,.int .i64 (lk L k).2.2])[s]? = some y → wr.cell? ⟨I.b,I.off + (k * 3 + s),none⟩ = some y:=by
    obtain ⟨ys,h1,h2⟩:=hsr.ar.cell k hlt
    have hm : I.m = 3:=hsr.ar.m
    obtain ⟨y0,ys0,rfl,h3,y1,ys1,rfl,h4,y2,rfl,h5⟩:=h1
    have e0 : y0 = .int .i64 (lk L k).1:=h3
    have e1 : y1 = .int .i64 (lk L k).2.1:=h4
    have e2 : y2 = .int .i64 (lk L k).2.2:=h5
    subst e0 e1 e2
    intro s y hy
    have:=h2 s y hy
    unfold RI.at at this
    rw [hm] at this
    exact this
   have g0 : wr.cell? ⟨I.b,I.off + k * 3,none⟩ = some (.int .i64 (lk L k).1):=gl 0 _ rfl
   have g1 : wr.cell? ⟨I.b,I.off + k * 3 + 1,none⟩ = some (.int .i64 (lk L k).2.1):=gl 1 _ rfl
   have g2 : wr.cell? ⟨I.b,I.off + k * 3 + 2,none⟩ = some (.int .i64 (lk L k).2.2):=gl 2 _ rfl
   clear gl
   obtain ⟨f1,f2,f3⟩:=hw _ (lk_in hlt)
   have hLr : LaidT wr:=hL1.below (Nat.le_refl _) hbe
   have hb2 : Below wr.heap.size wr (wr.alloc (.cells #[.int .i64 (lk L k).1,.int .i64 (lk L k).2.1,.int .i64 (lk L k).2.2] 54)):=below_alloc _
   have hln:=line_at (wd:={ data:=#[108,105,110,107] }) (l:=[(lk L k).1,(lk L k).2.1,(lk L k).2.2]) (W0:=wr.alloc (.cells #[.int .i64 (lk L k).1,.int .i64 (lk L k).2.1,.int .i64 (lk L k).2.2] 54)) (by simp) (fun v hv => by
    simp only [List.mem_cons,List.not_mem_nil,or_false] at hv
    rcases hv with rfl | rfl | rfl <;> omega) (by decide) (hLr.below (Nat.le_refl _) hb2) (n:=3) rfl
   rw [line_rw] at hln
   replace hln : Calls Tryz.prog 27 #[.string { data:=#[108,105,110,107] },.slice (some ⟨wr.heap.size + 1,0,none⟩) 3 3] ((wr.alloc (.cells #[.int .i64 (lk L k).1,.int .i64 (lk L k).2.1,.int .i64 (lk L k).2.2] 54)).alloc (.cells #[.int .i64 (lk L k).1,.int .i64 (lk L k).2.1,.int .i64 (lk L k).2.2] 3)) (fun e w' => e = .returned (.string (bA (rwT (lk L k) ++ [10]))) ∧ Below (wr.heap.size + 2) ((wr.alloc (.cells #[.int .i64 (lk L k).1,.int .i64 (lk L k).2.1,.int .i64 (lk L k).2.2] 54)).alloc (.cells #[.int .i64 (lk L k).1,.int .i64 (lk L k).2.1,.int .i64 (lk L k).2.2] 3)) w'):=by simpa using hln
   go_wp2_with (go_at_call 27;(with_reducible refine hln.mono ?_))
   rintro e w5 rfl hb5
   have hk5 : Lib.IsBuilder 61 5 w1.heap.size w1.heap.size (Lib.byteCells (hsT N L k)) w5:=bld_below (bld_below (bld_below hbd (Nat.le_refl _) hb2) (Nat.le_refl _) (below_alloc (.cells #[.int .i64 (lk L k).1,.int .i64 (lk L k).2.1,.int .i64 (lk L k).2.2] 3))) (by simp) hb5
   have hsz5 : w1.heap.size ≤ w5.heap.size:=by have:=hb5.size;simp at this;omega
   have hrl:=rw_len (hw _ (lk_in hlt))
   have hsl : (Lib.byteCells (hsT N L k)).length ≤ 24030:=by
    have:=hs_size hn hl hw k
    rw [bA_sz] at this
    rw [Lib.byteCells_length];unfold hsT;exact this
   have hwr:=write_at w1.heap.size w1.heap.size (Lib.byteCells (hsT N L k)) (bA (rwT (lk L k) ++ [10])) w5 hk5 (by rw [bA_sz];omega) hsz5
   go_wp2_with (go_at_call 26;(with_reducible refine hwr.mono ?_))
   rintro e w6 ⟨rfl,hk6,hb6⟩
   have hB6 : Below w1.heap.size w1 w6:=((((hbe.trans (hb2.mono hze)).trans ((below_alloc (.cells #[.int .i64 (lk L k).1,.int .i64 (lk L k).2.1,.int .i64 (lk L k).2.2] 3)).mono (by simp;omega))).trans (hb5.mono (by omega))).trans hb6)
   rw [bc_app] at hk6
   have e6 : hsT N L (k + 1) = hsT N L k ++ (rwT (lk L k) ++ [10]):=by unfold hsT;rw [rws_succ hlt,← List.append_assoc]
   rw [← e6] at hk6
   have hR : Rnd w1.heap.size w1 N L (.int .i64 ((k + 1 : Nat) : Int)) w6:=⟨k + 1,hlt,rfl,.inr hk6,hB6⟩
   clear hln hwr hk5 hk6 hb2 hb5 hb6 hsz5 hB6 e6 hsl hrl
   go_wp2
   go_roundw
   case rel => exact hR
   case measure => simp [intOf];omega
  ·obtain rfl : k = L.length:=by omega
   have hfin : hsT N L L.length = txT N L:=by unfold hsT txT;rw [List.take_length]
   rw [hfin] at hbd
   have hst:=Tryz.Builder_String_any w1.heap.size w1.heap.size (txT N L) wr hbd hze
   go_wp2_with (go_at_call 28;(with_reducible refine hst.mono ?_))
   rintro e w7 ⟨rfl,hb7⟩
   go_wp2
   go_ret2
   refine ⟨?_,hB1.trans ((hbe.trans hb7).mono (by omega))⟩
   rw [bA_mk (txT N L)]
   first | rfl | (simp;done)
end Go.Proofs.YtcmojakklijgfaaGreatDoor
end
section
namespace Go.Proofs.YtcmojakklijgfaaGreatDoor
open Go Go.Sy Go.Chn Go.ChangeShapes Go.WideShapes Go.RowKit
theorem gE1 : Tryz.prog.globalNamed "strconv.ErrSyntax" = some 0 := by kernel_rfl
theorem gE2 : Tryz.prog.globalNamed "strconv.ErrRange" = some 1 := by kernel_rfl
theorem gE1Type : (Tryz.prog.globals[0]?).map (·.type) = some 63:=by kernel_rfl
theorem gE2Type : (Tryz.prog.globals[1]?).map (·.type) = some 63:=by kernel_rfl
theorem cellsStr : Tryz.prog.cellsOf 9 = 1:=by kernel_rfl
theorem cellsErr : Tryz.prog.cellsOf 151 = 1:=by kernel_rfl
theorem starE : "*" ++ "errors.errorString" = "*errors.errorString" := by decide
theorem rowErr (u : TypeId) (h : Tryz.prog.typeName? 3 u = some "*errors.errorString") : u = 149 :=
 typeName_ptr_named (nm := "errors.errorString") (by rw [starE]; kernel_rfl) (by kernel_rfl) (by decide) u (by rw [starE]; exact h)
theorem ifcErr : Tryz.prog.underlying 63 = some (.interface (Tryz.prog.methodsAt 63)):=by kernel_rfl
def laid7 : List (String × DataW Unit) := [("math/bits.deBruijn32tab", Rows.laid_math_bits_deBruijn32tab), ("math/bits.deBruijn64tab", Rows.laid_math_bits_deBruijn64tab), ("internal/strconv.uint64pow10", Rows.laid_internal_strconv_uint64pow10), ("unicode/utf8.acceptRanges", Rows.laid_unicode_utf8_acceptRanges),
 ("strconv.ErrRange", Rows.laid_strconv_ErrRange), ("strconv.ErrSyntax", Rows.laid_strconv_ErrSyntax), ("unicode/utf8.first", Rows.laid_unicode_utf8_first)]
theorem cell_of_var {W : World} {n : String} {g : Nat} {x : Value} (hg : Tryz.prog.globalNamed n = some g) (h : W.var? Tryz.prog n = some #[x]) : W.cell? ⟨g,0,none⟩ = some x:=by
 simpa using World.var?_cell hg h 0
def pow10L : List Int:=[1,10,100,1000,10000,100000,1000000,10000000,100000000,1000000000,10000000000,100000000000,1000000000000,10000000000000,100000000000000,1000000000000000,10000000000000000,100000000000000000,1000000000000000000,10000000000000000000]
theorem pow10L_eq : pow10L = Lib.pow10Tab:=by decide +kernel
theorem gTabType : (Tryz.prog.globals[3]?).map (·.type) = some 153:=by kernel_rfl
theorem cells64 : Tryz.prog.cellsOf 133 = 1:=by kernel_rfl
theorem cells20 : Tryz.prog.cellsOf 153 = 20:=by kernel_rfl
theorem laidT_of {W : World} (h : laidMetH Tryz.prog laid7 W) (hs : W.ShapedOpen Tryz.prog) : LaidT W:=by
 have h1 : laidMet Tryz.prog laid7 W:=h
 obtain ⟨a,s,hr,_⟩:=laid_sentinel h1.tail.tail.tail.tail gE2 gE2Type ifcErr rowErr Tryz.underlying149 Tryz.underlying151 rfl rfl Tryz.underlying9 cellsErr cellsStr
 obtain ⟨a',s',hy,_⟩:=laid_sentinel h1.tail.tail.tail.tail.tail gE1 gE1Type ifcErr rowErr Tryz.underlying149 Tryz.underlying151 rfl rfl Tryz.underlying9 cellsErr cellsStr
 have h2 : Lib.TabIs Tryz.prog W "internal/strconv.uint64pow10" .u64 pow10L := Lib.tabIs_of_head pow10_at gTabType Tryz.underlying153 Tryz.underlying133 cells64 cells20 h1.tail.tail
 rw [pow10L_eq] at h2
 exact ⟨h2,Tryz.laysM146.s1_3 W hs,⟨_,cell_of_var gE1 hy,.inr ⟨_,_,rfl⟩⟩,⟨_,cell_of_var gE2 hr,.inr ⟨_,_,rfl⟩⟩⟩
/-! ### A world that holds the tables and the errors -/
noncomputable def low : Nat:=(World.holding Tryz.prog default ⟨#[],#[],[]⟩).heap.size
def lTabs : Nat → Option (List Int)
 | 3 => some [1,10,100,1000,10000,100000,1000000,10000000,100000000,1000000000,10000000000,100000000000,1000000000000,10000000000000,100000000000000,1000000000000000,10000000000000000,100000000000000000,1000000000000000000,10000000000000000000]
 | 6 => some [0,1,28,2,29,14,24,3,30,22,20,15,25,17,4,8,31,27,13,23,21,19,16,7,26,12,18,6,11,5,10,9]
 | 7 => some [0,1,56,2,57,49,28,3,61,58,42,50,38,29,17,4,62,47,59,36,45,43,51,22,53,39,33,30,24,18,12,5,63,55,48,27,60,41,37,16,46,35,44,21,52,32,23,11,54,26,40,15,34,20,31,10,25,14,19,9,13,8,7,6]
 | _ => none
def kindAt : Nat → IntKind
 | 3 => .u64
 | _ => .u8
def lTabs7 : Nat → Option (List Int)
 | 4 => some (Go.Pinned.utf8FirstZ.map Int.ofNat)
 | 5 => some [128,191,160,191,128,159,144,191,128,143,0,0,0,0,0,0,0,0,0,0,0,0,0,0,0,0,0,0,0,0,0,0]
 | n => lTabs n
def layTab7 (g : Nat) (h : Array Obj) : Array Obj:=h.modify g fun o => match o,lTabs7 g with
 | .cells _ t frozen,some zs => .cells (zs.map fun z => Value.int (kindAt g) z).toArray t frozen
 | o,_ => o
def errTab (b : Nat) (h : Array Obj) : Array Obj:=(h.modify 0 fun
  | .cells _ t frozen => .cells #[.iface 149 (.pointer (some ⟨b,0,none⟩))] t frozen
  | o => o).modify 1 fun
  | .cells _ t frozen => .cells #[.iface 149 (.pointer (some ⟨b + 1,0,none⟩))] t frozen
  | o => o
noncomputable def laidWorld7 (os : Os) : World :=
 let w0:=World.holding Tryz.prog os ⟨#[.cells #[.string ⟨#[105,110,118,97,108,105,100,32,115,121,110,116,97,120]⟩] 151,.cells #[.string ⟨#[118,97,108,117,101,32,111,117,116,32,111,102,32,114,97,110,103,101]⟩] 151],#[],[]⟩
 { w0 with heap:=errTab low (layTab7 7 (layTab7 6 (layTab7 5 (layTab7 4 (layTab7 3 w0.heap))))) }
theorem w7_vars (os : Os) (args : Array Value) : ((laidWorld7 os).forCall (fun _ _ => 0) ⟨#[],args,[]⟩).variablesB Tryz.checked.prog = true:=by kernel_rfl
theorem w7_rest (os : Os) (args : Array Value) : ((((laidWorld7 os).forCall (fun _ _ => 0) ⟨#[],args,[]⟩).heap.toList.drop Tryz.checked.prog.globals.size).take ((begin Tryz.checked.prog (fun _ _ => 0) default).world.heap.size - Tryz.checked.prog.globals.size) =
   (begin Tryz.checked.prog (fun _ _ => 0) default).world.heap.toList.drop Tryz.checked.prog.globals.size):=by kernel_rfl
theorem w7_laid (os : Os) (args : Array Value) : laidMet Tryz.prog laid7 ((laidWorld7 os).forCall (fun _ _ => 0) ⟨#[],args,[]⟩).memory :=
 laidMet_of_run' 8 (by kernel_rfl) (by kernel_rfl)
/-! ### Texts -/
theorem arg_str {H : Type} {enc : TypeId × Value → H} {w : World} {base : Nat} {spare : Nat → Bool} {held : Bool} {r : Reach} {b0 : Nat} {v : Value} {d : DataW H} {p : List MemPlace} (hv : Value.okWide Tryz.prog w r b0 9 v) (_h : DataW.Trod enc Tryz.prog w base spare held 9 v d p) : ∃ s,v = .string s :=
 okWide_string Tryz.underlying9 hv
theorem ok_str {N : Nat} {ρ : Keys} (s : ByteArray) : Tm.ok N ρ (.a (.v (.string s))) (.string s):=⟨rfl,rfl⟩
theorem law_callsT {f : FuncId} {F : List Tm → List Reg → Option (List Duty × Tm)} (hc : Ctr.Ok Tryz.prog ΓT f (.fn F)) (As : List AtR) {args : List Tm} {q : List Duty} (hF : F args (As.map AtR.reg) = some (q,bl true)) (hq : obl q) {W : World} {vs : List Value}
  (hL : LaidT W) (hA : ∀ A ∈ As,A.ok W) (hargs : okL (Tm.ok As.length (ky (As.map (·.I)))) args vs) : Calls Tryz.prog f vs.toArray W fun e W' => e = .returned (.bool true) ∧ Below W.heap.size W W':=by
 have hl : (As.map AtR.reg).length = As.length:=List.length_map _
 exact (hc args _ q _ hF hq (fun _ => False) W (ky (As.map (·.I))) W vs (Nat.le_refl _) (ΓT_n hL) hL (by rw [hl];exact hargs) (by rw [hl];exact regs_of As hA)).mono fun e w' ⟨v,he,hv,hb⟩ => by
  obtain ⟨rfl,_⟩:=hv
  exact ⟨he,hb⟩
theorem plain_types (t : TypeId) (h : plainT t = true) : Tryz.prog.wantsStandIn t = false:=by
 simp only [plainT,Bool.or_eq_true,beq_iff_eq] at h
 rcases h with (rfl | rfl) | rfl
 ·exact (show Tryz.prog.wantsStandIn 3 = false by kernel_rfl)
 ·exact (show Tryz.prog.wantsStandIn 24 = false by kernel_rfl)
 ·exact (show Tryz.prog.wantsStandIn 41 = false by kernel_rfl)
theorem pinnedProg : Tryz.pinned.checked.prog = Tryz.prog:=rfl
theorem looksT : true = Tryz.prog.looks []:=by kernel_rfl
def plainX (t : TypeId) : Bool:=plainT t || t == 9
theorem plainX_types (t : TypeId) (h : plainX t = true) : Tryz.prog.wantsStandIn t = false:=by
 rcases Bool.or_eq_true _ _ ▸ h with h | h
 ·exact plain_types t h
 ·rw [eq_of_beq h];exact (show Tryz.prog.wantsStandIn 9 = false by kernel_rfl)
theorem plain2X {name : String} {g : FuncId} {gn : Func} {ps : Array TypeId} (h1 : Tryz.prog.funcNamed name = some g) (h2 : Tryz.prog.funcs[g]? = some gn) (h3 : gn.params = ps) (h4 : ps.toList.all plainX = true) (f : FuncId) (fn : Func) (hf : Tryz.pinned.checked.prog.funcNamed name = some f) (hfn : Tryz.pinned.checked.prog.funcs[f]? = some fn) :
  true = Tryz.pinned.checked.prog.looks [] ∧ ∀ (j : Nat) t,fn.params[j]? = some t → Tryz.pinned.checked.prog.wantsStandIn t = false:=by
 rw [pinnedProg] at hf hfn ⊢
 obtain rfl : g = f:=Option.some.inj (h1.symm.trans hf)
 obtain rfl : gn = fn:=Option.some.inj (h2.symm.trans hfn)
 refine ⟨looksT,fun j t ht => ?_⟩
 rw [h3] at ht
 exact plainX_types t (List.all_eq_true.1 h4 t (Array.mem_toList_iff.2 (Array.mem_of_getElem? ht)))
end Go.Proofs.YtcmojakklijgfaaGreatDoor
end
section
namespace Go.Proofs.YtcmojakklijgfaaGreatDoor
open Go Go.Sy Go.Chn
variable {Γ : Glob}
def fCst (D : ByteArray → List Duty) (R : ByteArray → Res) : Ctr:=.new fun args rg K => match args with
 | [.a (.v (.string s0))] => oblige false (D s0) (K (R s0))
 | _ => False
theorem fCst_ok {f : FuncId} {b : Body} {E : Env} {d : Nat} (hP : ProgOk Tryz.prog Γ E) (hb : BodyOk Tryz.prog f b) {D : ByteArray → List Duty} {R : ByteArray → Res}
  (H : ∀ (s0 : ByteArray) (K : Res → Prop),obl (D s0) → K (R s0) → evTop E d b [.a (.v (.string s0))] [] (resW K)) : Ctr.Ok Tryz.prog Γ f (fCst D R):=Ctr.new_okW (d:=d) hP hb (by
 intro args rg K hF
 split at hF
 next s0 =>
  rw [oblige_iff] at hF
  obtain ⟨hD,hK⟩:=hF
  refine ⟨[],[.a (.v (.string s0))],[],⟨⟨rfl,trivial⟩,fun r g hg => ?_⟩,resW K,H _ K hD hK,fun x st h => h⟩
  cases hg
 next => exact hF.elim)
def kfCst (D : ByteArray → List Duty) (Rk : ByteArray → (Res → Prop) → Prop) : Ctr:=.new fun args rg K => match args with
 | [.a (.v (.string s0))] => oblige false (D s0) (Rk s0 K)
 | _ => False
theorem kfCst_ok {f : FuncId} {D : ByteArray → List Duty} {R : ByteArray → Res} {Rk : ByteArray → (Res → Prop) → Prop} (h : Ctr.Ok Tryz.prog Γ f (fCst D R)) (hk : ∀ (s0 : ByteArray) K,Rk s0 K → K (R s0)) : Ctr.Ok Tryz.prog Γ f (kfCst D Rk):=by
 intro args rg K hC
 refine h args rg K ?_
 (try unfold kfCst at hC)
 (try unfold fCst)
 (try dsimp only at hC ⊢)
 split at hC
 next s0 =>
  rw [oblige_iff] at hC ⊢
  exact ⟨hC.1,hk _ K hC.2⟩
 next => exact hC.elim
/-! ### Which texts are systems' texts -/
def isTx (s : ByteArray) (t : Int × List Lk) : Prop:=(checkF t.1 t.2).1 = 0 ∧ s = bA (txT t.1 t.2)
noncomputable def pB (s : ByteArray) : Bool:=@decide (isTx s (pRd s)) (Classical.propDecidable _)
theorem pB_iff {s : ByteArray} : pB s = true ↔ isTx s (pRd s):=@decide_eq_true_iff _ (Classical.propDecidable _)
theorem isTx_rd {s : ByteArray} {t : Int × List Lk} (h : isTx s t) : pRd s = t ∧ 7 ≤ s.size ∧ s.extract 0 6 = bA wdN:=by
 obtain ⟨h1,rfl⟩:=h
 obtain ⟨a,b,c⟩:=chk_ok h1
 exact tx_ref a b c
theorem isTx_B {s : ByteArray} {t : Int × List Lk} (h : isTx s t) : pB s = true ∧ pRd s = t:=⟨pB_iff.2 (by rw [(isTx_rd h).1];exact h),(isTx_rd h).1⟩
theorem isTx_fold {s : ByteArray} {t : Int × List Lk} (h : isTx s t) {f : Nat} (hf : s.size ≤ f) : foldT f s (0,[]) = some t:=by
 obtain ⟨h1,rfl⟩:=h
 obtain ⟨a,b,c⟩:=chk_ok h1
 refine fold_tx a b c ?_
 rw [tx_len] at hf
 have:=rws_len t.2
 omega
def okSy (t : Int × List Lk) (x : At) : Res:=⟨[.arr 54 kL t.2 true true],.tup [.agg [vI t.1,.sl 0 [] 0 t.2.length],.a x]⟩
def noSy (x : At) : Res:=⟨[],.tup [.agg [vI 0,.v (.slice none 0 0)],.a x]⟩
noncomputable def rpR (s : ByteArray) : Res:=match pB s with | true => okSy (pRd s) (.v (.bool true)) | false => noSy (.v (.bool false))
noncomputable def c_refParse : Ctr:=fCst (fun s => [(Duty.of (s.size ≤ 100000))]) rpR
theorem toL_ext {a b : ByteArray} (h : a.toList = b.toList) : a = b:=by rw [ByteArray.toList_eq,ByteArray.toList_eq] at h;exact bA_ext h
noncomputable def LrParse : List (Nat × Ctr):=[(9,c34),(11,c_refPrint),(34,c_value)]
theorem LrParse_ok : CsOk Tryz.prog Γ LrParse:=(((CsOk.nil.cons (body_of Tryz.func34 rfl rfl).fn c_value_ok).cons (body_of Tryz.func11 rfl rfl).fn c_refPrint_ok).cons (body_of Tryz.func9 rfl rfl).fn c34_ok)
attribute [local irreducible] valS rdR pB checkF bA txT
theorem c_refParse_ok : Ctr.Ok Tryz.prog Γ 10 c_refParse:=fCst_ok (d:=0) (prog_ok LrParse_ok BsOk.nil false 0) (body_of Tryz.func10 rfl rfl) (by
 intro s K ⟨hz,_⟩ hK
 simp only [Duty.of_p] at hz
 unfold rpR at hK
 obtain a1 | a1 : decide ((s.size : Int) < 7) = true ∨ decide ((s.size : Int) < 7) = false:=by cases decide ((s.size : Int) < 7) <;> simp
 ·have hb : pB s = false:=by
   cases hb : pB s with
   | false => rfl
   | true => have:=(isTx_rd (pB_iff.1 hb)).2.1;have:=of_decide_eq_true a1;omega
  rw [hb] at hK
  dsimp only [noSy] at hK
  repeat' ((conv => whnf);first | apply And.intro | (intro h9;try (have h8 : (_ : Bool) = _:=h9;clear h8;revert h9;subst_vars;intro h9;exact bon9 h9 (by assumption))))
  all_goals try (conv => whnf)
  all_goals try first | (apply Tk.mk <;> kernel_rfl) | exact ⟨leb9 rfl⟩ | exact ⟨rfl⟩ | exact ⟨trivial⟩
  all_goals subst_vars
  all_goals try first | rfl | contradiction | (apply Ob.mk;first | (simp only [inRQ,inR,Duty.of_p];omega) | ((try simp only [Duty.of_p]);(try dsimp only);omega))
  all_goals first
   | trivial
   | exact True.intro
   | exact ⟨hz⟩
   | exact ⟨c3⟩
   | exact ⟨Nat.zero_add _⟩
   | exact ⟨show 0 ≤ (6 : Int) ∧ (6 : Int) ≤ 2000000 by omega⟩
   | exact ⟨show s.size ≤ 1000000 by omega⟩
   | exact ⟨show (A.length + 1) * 3 ≤ 1099511627776 by omega⟩
   | exact ⟨show A.length ≤ 1000000 by omega⟩
   | exact hK
   | (refine resW.base ⟨_,[],hK,trivial,rfl,?_⟩;(repeat' ((conv => whnf);(first | apply And.intro | intro _)));all_goals first | rfl | trivial)
   | (apply Ob.mk;show (inRQ .i64 _).p;simp only [inRQ,inR,Duty.of_p];omega)
   | (refine Ob.mk ?_;simp only [Duty.of_p];omega)
 have hs7 : 7 ≤ s.size:=by have:=of_decide_eq_false a1;omega
 obtain a2 | a2 : ((s.extract 0 (Int.toNat 6)).toList == ({ data:=#[110,111,100,101,115,32] } : ByteArray).toList) = false ∨ ((s.extract 0 (Int.toNat 6)).toList == ({ data:=#[110,111,100,101,115,32] } : ByteArray).toList) = true:=by cases ((s.extract 0 (Int.toNat 6)).toList == ({ data:=#[110,111,100,101,115,32] } : ByteArray).toList) <;> simp
 ·have a3 : (!((s.extract 0 (Int.toNat 6)).toList == ({ data:=#[110,111,100,101,115,32] } : ByteArray).toList)) = true:=by rw [a2];rfl
  have hb : pB s = false:=by
   cases hb : pB s with
   | false => rfl
   | true =>
     have h1:=(isTx_rd (pB_iff.1 hb)).2.2
     have h2 : ((s.extract 0 (Int.toNat 6)).toList == ({ data:=#[110,111,100,101,115,32] } : ByteArray).toList) = true:=by
      rw [show Int.toNat 6 = 6 from rfl,h1]
      have : bA wdN = ({ data:=#[110,111,100,101,115,32] } : ByteArray):=by unfold bA wdN;rfl
      rw [this];exact beq_self_eq_true _
     rw [h2] at a2;cases a2
  rw [hb] at hK
  dsimp only [noSy] at hK
  repeat' ((conv => whnf);first | apply And.intro | (intro h9;try (have h8 : (_ : Bool) = _:=h9;clear h8;revert h9;subst_vars;intro h9;exact bon9 h9 (by assumption))))
  all_goals try (conv => whnf)
  all_goals try first | (apply Tk.mk <;> kernel_rfl) | exact ⟨leb9 rfl⟩ | exact ⟨rfl⟩ | exact ⟨trivial⟩
  all_goals subst_vars
  all_goals try first | rfl | contradiction | (apply Ob.mk;first | (simp only [inRQ,inR,Duty.of_p];omega) | ((try simp only [Duty.of_p]);(try dsimp only);omega))
  all_goals first
   | trivial
   | exact True.intro
   | exact ⟨hz⟩
   | exact ⟨c3⟩
   | exact ⟨Nat.zero_add _⟩
   | exact ⟨show 0 ≤ (6 : Int) ∧ (6 : Int) ≤ 2000000 by omega⟩
   | exact ⟨show s.size ≤ 1000000 by omega⟩
   | exact ⟨show (A.length + 1) * 3 ≤ 1099511627776 by omega⟩
   | exact ⟨show A.length ≤ 1000000 by omega⟩
   | exact hK
   | (refine resW.base ⟨_,[],hK,trivial,rfl,?_⟩;(repeat' ((conv => whnf);(first | apply And.intro | intro _)));all_goals first | rfl | trivial)
   | (apply Ob.mk;show (inRQ .i64 _).p;simp only [inRQ,inR,Duty.of_p];omega)
   | (refine Ob.mk ?_;simp only [Duty.of_p];omega)
 have a3 : (!((s.extract 0 (Int.toNat 6)).toList == ({ data:=#[110,111,100,101,115,32] } : ByteArray).toList)) = false:=by rw [a2];rfl
 have v0:=valS_le s 6
 have hpr : pRd s = ((valS s 6).1,rdR s 301 (valS s 6).2 []):=by unfold pRd;rfl
 repeat' ((conv => whnf);first | apply And.intro | (intro h9;try (have h8 : (_ : Bool) = _:=h9;clear h8;revert h9;subst_vars;intro h9;exact bon9 h9 (by assumption))))
 all_goals try (conv => whnf)
 all_goals try first | (apply Tk.mk <;> kernel_rfl) | exact ⟨leb9 rfl⟩ | exact ⟨rfl⟩ | exact ⟨trivial⟩
 all_goals subst_vars
 all_goals try first | rfl | contradiction | (apply Ob.mk;first | (simp only [inRQ,inR,Duty.of_p];omega) | ((try simp only [Duty.of_p]);(try dsimp only);omega))
 all_goals try first
  | exact True.intro
  | exact ⟨hz⟩
  | exact ⟨c3⟩
  | exact ⟨Nat.zero_add _⟩
  | exact ⟨show 0 ≤ (6 : Int) ∧ (6 : Int) ≤ 2000000 by omega⟩
  | exact ⟨show s.size ≤ 1000000 by omega⟩
  | exact ⟨show (A.length + 1) * 3 ≤ 1099511627776 by omega⟩
  | exact ⟨show A.length ≤ 1000000 by omega⟩
  | exact hK
  | (refine resW.base ⟨_,[],hK,trivial,rfl,?_⟩;(repeat' ((conv => whnf);(first | apply And.intro | intro _)));all_goals first | rfl | trivial)
  | (apply Ob.mk;show (inRQ .i64 _).p;simp only [inRQ,inR,Duty.of_p];omega)
  | (refine Ob.mk ?_;simp only [Duty.of_p];omega)
 refine ⟨Nat × List Lk,fun p => (p.1 ≤ s.size + 10 ∧ p.2.length ≤ 301) ∧ rdR s (301 - p.2.length) p.1 p.2 = rdR s 301 (valS s 6).2 [],fun p => ⟨slotsT 82 [0,2,5,6] [.a (.v (.string s)),.a (.p 0 [] 0 0),.a (vI p.1),.a (.p 1 [] 0 0)],[],[.box true [vI 0,.v (.slice none 0 0)],.box true [vI (valS s 6).1,.sl 2 [] 0 p.2.length],.arr 54 kL p.2 true true]⟩,fun p => 301 - p.2.length,((valS s 6).2,[]),[0,1,1000],⟨⟨by dsimp only;omega,Nat.zero_le _⟩,rfl⟩,?_,?_⟩
 ·repeat' ((conv => whnf);(first | apply And.intro | intro _))
  all_goals first | rfl | trivial | exact leb9 rfl | exact mem9 ‹_› rfl | exact men9 ‹_› rfl | ((repeat' first | rfl | constructor);done)
 rintro ⟨i,A⟩ ⟨⟨hi,hA⟩,hrd⟩
 dsimp only at hi hA hrd
 by_cases hrnd : i + 6 < s.size ∧ A.length ≤ 300
 ·obtain ⟨k1,k2⟩:=hrnd
  have p0 : decide ((i : Int) + 6 < (s.size : Int)) = true:=decide_eq_true (by omega)
  have p1 : decide ((A.length : Int) ≤ 300) = true:=decide_eq_true (by omega)
  have e1 : Int.toNat ((i : Int) + 6) = i + 6:=by omega
  have w1:=valS_le s (Int.toNat ((i : Int) + 6))
  have w2:=valS_le s (Int.toNat (((valS s (Int.toNat ((i : Int) + 6))).2 : Int) + 1))
  have w3:=valS_le s (Int.toNat (((valS s (Int.toNat (((valS s (Int.toNat ((i : Int) + 6))).2 : Int) + 1))).2 : Int) + 1))
  have hnx : rdR s (301 - (A ++ [((valS s (Int.toNat ((i : Int) + 6))).1,(valS s (Int.toNat (((valS s (Int.toNat ((i : Int) + 6))).2 : Int) + 1))).1,(valS s (Int.toNat (((valS s (Int.toNat (((valS s (Int.toNat ((i : Int) + 6))).2 : Int) + 1))).2 : Int) + 1))).1)]).length) (valS s (Int.toNat (((valS s (Int.toNat (((valS s (Int.toNat ((i : Int) + 6))).2 : Int) + 1))).2 : Int) + 1))).2 (A ++ [((valS s (Int.toNat ((i : Int) + 6))).1,(valS s (Int.toNat (((valS s (Int.toNat ((i : Int) + 6))).2 : Int) + 1))).1,(valS s (Int.toNat (((valS s (Int.toNat (((valS s (Int.toNat ((i : Int) + 6))).2 : Int) + 1))).2 : Int) + 1))).1)]) = rdR s 301 (valS s 6).2 []:=by
   rw [← hrd,List.length_append,List.length_singleton,show 301 - A.length = (301 - (A.length + 1)) + 1 by omega]
   conv => rhs;unfold rdR
   rw [p0,decide_eq_true k2,Bool.and_self]
   dsimp only
   have t1 : ∀ n : Nat,Int.toNat ((n : Int) + 1) = n + 1:=fun n => by omega
   rw [e1,t1,t1]
  have hln : (A ++ [((valS s (Int.toNat ((i : Int) + 6))).1,(valS s (Int.toNat (((valS s (Int.toNat ((i : Int) + 6))).2 : Int) + 1))).1,(valS s (Int.toNat (((valS s (Int.toNat (((valS s (Int.toNat ((i : Int) + 6))).2 : Int) + 1))).2 : Int) + 1))).1)]).length = A.length + 1:=by rw [List.length_append,List.length_singleton]
  have hle : (A ++ [((valS s (Int.toNat ((i : Int) + 6))).1,(valS s (Int.toNat (((valS s (Int.toNat ((i : Int) + 6))).2 : Int) + 1))).1,(valS s (Int.toNat (((valS s (Int.toNat (((valS s (Int.toNat ((i : Int) + 6))).2 : Int) + 1))).2 : Int) + 1))).1)]).length ≤ 301:=by omega
  clear hpr hrd
  repeat' ((conv => whnf);first | apply And.intro | (intro h9;try (have h8 : (_ : Bool) = _:=h9;clear h8;revert h9;subst_vars;intro h9;exact bon9 h9 (by assumption))))
  all_goals try (conv => whnf)
  all_goals try first | (apply Tk.mk <;> kernel_rfl) | exact ⟨leb9 rfl⟩ | exact ⟨rfl⟩ | exact ⟨trivial⟩
  all_goals subst_vars
  all_goals try first | rfl | contradiction | (apply Ob.mk;first | (simp only [inRQ,inR,Duty.of_p];omega) | ((try simp only [Duty.of_p]);(try dsimp only);omega))
  all_goals try first
   | exact True.intro
   | exact ⟨hz⟩
   | exact ⟨c3⟩
   | exact ⟨Nat.zero_add _⟩
   | exact ⟨show 0 ≤ (6 : Int) ∧ (6 : Int) ≤ 2000000 by omega⟩
   | exact ⟨show s.size ≤ 1000000 by omega⟩
   | exact ⟨show (A.length + 1) * 3 ≤ 1099511627776 by omega⟩
   | exact ⟨show A.length ≤ 1000000 by omega⟩
   | exact hK
   | (refine resW.base ⟨_,[],hK,trivial,rfl,?_⟩;(repeat' ((conv => whnf);(first | apply And.intro | intro _)));all_goals first | rfl | trivial)
   | (apply Ob.mk;show (inRQ .i64 _).p;simp only [inRQ,inR,Duty.of_p];omega)
   | (refine Ob.mk ?_;simp only [Duty.of_p];omega)
  refine ⟨((valS s (Int.toNat (((valS s (Int.toNat (((valS s (Int.toNat ((i : Int) + 6))).2 : Int) + 1))).2 : Int) + 1))).2,A ++ [((valS s (Int.toNat ((i : Int) + 6))).1,(valS s (Int.toNat (((valS s (Int.toNat ((i : Int) + 6))).2 : Int) + 1))).1,(valS s (Int.toNat (((valS s (Int.toNat (((valS s (Int.toNat ((i : Int) + 6))).2 : Int) + 1))).2 : Int) + 1))).1)]),[0,1,2],⟨⟨by show (valS s (Int.toNat (((valS s (Int.toNat (((valS s (Int.toNat ((i : Int) + 6))).2 : Int) + 1))).2 : Int) + 1))).2 ≤ s.size + 10;omega,hle⟩,hnx⟩,?_,by show 301 - (A ++ [((valS s (Int.toNat ((i : Int) + 6))).1,(valS s (Int.toNat (((valS s (Int.toNat ((i : Int) + 6))).2 : Int) + 1))).1,(valS s (Int.toNat (((valS s (Int.toNat (((valS s (Int.toNat ((i : Int) + 6))).2 : Int) + 1))).2 : Int) + 1))).1)]).length < 301 - A.length;omega⟩
  repeat' ((conv => whnf);(first | apply And.intro | intro _))
  all_goals first | rfl | trivial | exact leb9 rfl | exact mem9 ‹_› rfl | exact men9 ‹_› rfl | ((repeat' first | rfl | constructor);done) | exact hln | exact hln.symm
 have hend : (decide ((i : Int) + 6 < (s.size : Int)) = false) ∨ (decide ((i : Int) + 6 < (s.size : Int)) = true ∧ decide ((A.length : Int) ≤ 300) = false):=by
  by_cases h2 : (i : Int) + 6 < (s.size : Int)
  ·exact .inr ⟨decide_eq_true h2,decide_eq_false (by omega)⟩
  ·exact .inl (decide_eq_false h2)
 have hfin : rdR s 301 (valS s 6).2 [] = A:=by
  rw [← hrd]
  cases hf : 301 - A.length with
  | zero => unfold rdR;rfl
  | succ f =>
    unfold rdR
    have : (decide ((i : Int) + 6 < (s.size : Int)) && decide (A.length ≤ 300)) = false:=by
     rcases hend with h | ⟨h,h2⟩
     ·rw [h];rfl
     ·have:=of_decide_eq_false h2
      omega
    rw [this]
 rw [hfin] at hpr
 have hch : ∀ c : (checkF (valS s 6).1 A).1 = 0,pB s = ((bA (txT (valS s 6).1 A)).toList == s.toList):=fun c => by
  rw [Bool.eq_iff_iff,pB_iff,hpr,beq_iff_eq]
  constructor
  ·intro h;rw [← h.2]
  ·intro h;exact ⟨c,(toL_ext h).symm⟩
 clear hrd hfin hrnd
 obtain c1 | c1 : ((checkF (valS s 6).1 A).1 == 0) = false ∨ ((checkF (valS s 6).1 A).1 == 0) = true:=by cases ((checkF (valS s 6).1 A).1 == 0) <;> simp
 ·have c2 : ((checkF (valS s 6).1 A).1 != 0) = true:=by unfold bne;rw [c1];rfl
  have hb : pB s = false:=by
   cases hb : pB s with
   | false => rfl
   | true => have:=(pB_iff.1 hb).1;rw [hpr] at this;dsimp only at this;rw [this] at c1;cases c1
  rw [hb] at hK
  dsimp only [noSy] at hK
  clear hch hpr
  rcases hend with q1 | ⟨q1,q2⟩
  ·repeat' ((conv => whnf);first | apply And.intro | (intro h9;try (have h8 : (_ : Bool) = _:=h9;clear h8;revert h9;subst_vars;intro h9;exact bon9 h9 (by assumption))))
   all_goals try (conv => whnf)
   all_goals try first | (apply Tk.mk <;> kernel_rfl) | exact ⟨leb9 rfl⟩ | exact ⟨rfl⟩ | exact ⟨trivial⟩
   all_goals subst_vars
   all_goals try first | rfl | contradiction | (apply Ob.mk;first | (simp only [inRQ,inR,Duty.of_p];omega) | ((try simp only [Duty.of_p]);(try dsimp only);omega))
   all_goals first
    | trivial
    | exact True.intro
    | exact ⟨hz⟩
    | exact ⟨c3⟩
    | exact ⟨Nat.zero_add _⟩
    | exact ⟨show 0 ≤ (6 : Int) ∧ (6 : Int) ≤ 2000000 by omega⟩
    | exact ⟨show s.size ≤ 1000000 by omega⟩
    | exact ⟨show (A.length + 1) * 3 ≤ 1099511627776 by omega⟩
    | exact ⟨show A.length ≤ 1000000 by omega⟩
    | exact hK
    | (refine resW.base ⟨_,[],hK,trivial,rfl,?_⟩;(repeat' ((conv => whnf);(first | apply And.intro | intro _)));all_goals first | rfl | trivial)
    | (apply Ob.mk;show (inRQ .i64 _).p;simp only [inRQ,inR,Duty.of_p];omega)
    | (refine Ob.mk ?_;simp only [Duty.of_p];omega)
  ·repeat' ((conv => whnf);first | apply And.intro | (intro h9;try (have h8 : (_ : Bool) = _:=h9;clear h8;revert h9;subst_vars;intro h9;exact bon9 h9 (by assumption))))
   all_goals try (conv => whnf)
   all_goals try first | (apply Tk.mk <;> kernel_rfl) | exact ⟨leb9 rfl⟩ | exact ⟨rfl⟩ | exact ⟨trivial⟩
   all_goals subst_vars
   all_goals try first | rfl | contradiction | (apply Ob.mk;first | (simp only [inRQ,inR,Duty.of_p];omega) | ((try simp only [Duty.of_p]);(try dsimp only);omega))
   all_goals first
    | trivial
    | exact True.intro
    | exact ⟨hz⟩
    | exact ⟨c3⟩
    | exact ⟨Nat.zero_add _⟩
    | exact ⟨show 0 ≤ (6 : Int) ∧ (6 : Int) ≤ 2000000 by omega⟩
    | exact ⟨show s.size ≤ 1000000 by omega⟩
    | exact ⟨show (A.length + 1) * 3 ≤ 1099511627776 by omega⟩
    | exact ⟨show A.length ≤ 1000000 by omega⟩
    | exact hK
    | (refine resW.base ⟨_,[],hK,trivial,rfl,?_⟩;(repeat' ((conv => whnf);(first | apply And.intro | intro _)));all_goals first | rfl | trivial)
    | (apply Ob.mk;show (inRQ .i64 _).p;simp only [inRQ,inR,Duty.of_p];omega)
    | (refine Ob.mk ?_;simp only [Duty.of_p];omega)
 have c2 : ((checkF (valS s 6).1 A).1 != 0) = false:=by unfold bne;rw [c1];rfl
 have c3:=eq_of_beq c1
 replace hch:=hch c3
 obtain d1 | d1 : pB s = false ∨ pB s = true:=by cases pB s <;> simp
 ·have d2 : (!((bA (txT (valS s 6).1 A)).toList == s.toList)) = true:=by rw [← hch,d1];rfl
  rw [d1] at hK
  dsimp only [noSy] at hK
  clear hch hpr
  rcases hend with q1 | ⟨q1,q2⟩
  ·repeat' ((conv => whnf);first | apply And.intro | (intro h9;try (have h8 : (_ : Bool) = _:=h9;clear h8;revert h9;subst_vars;intro h9;exact bon9 h9 (by assumption))))
   all_goals try (conv => whnf)
   all_goals try first | (apply Tk.mk <;> kernel_rfl) | exact ⟨leb9 rfl⟩ | exact ⟨rfl⟩ | exact ⟨trivial⟩
   all_goals subst_vars
   all_goals try first | rfl | contradiction | (apply Ob.mk;first | (simp only [inRQ,inR,Duty.of_p];omega) | ((try simp only [Duty.of_p]);(try dsimp only);omega))
   all_goals first
    | trivial
    | exact True.intro
    | exact ⟨hz⟩
    | exact ⟨c3⟩
    | exact ⟨Nat.zero_add _⟩
    | exact ⟨show 0 ≤ (6 : Int) ∧ (6 : Int) ≤ 2000000 by omega⟩
    | exact ⟨show s.size ≤ 1000000 by omega⟩
    | exact ⟨show (A.length + 1) * 3 ≤ 1099511627776 by omega⟩
    | exact ⟨show A.length ≤ 1000000 by omega⟩
    | exact hK
    | (refine resW.base ⟨_,[],hK,trivial,rfl,?_⟩;(repeat' ((conv => whnf);(first | apply And.intro | intro _)));all_goals first | rfl | trivial)
    | (apply Ob.mk;show (inRQ .i64 _).p;simp only [inRQ,inR,Duty.of_p];omega)
    | (refine Ob.mk ?_;simp only [Duty.of_p];omega)
  ·repeat' ((conv => whnf);first | apply And.intro | (intro h9;try (have h8 : (_ : Bool) = _:=h9;clear h8;revert h9;subst_vars;intro h9;exact bon9 h9 (by assumption))))
   all_goals try (conv => whnf)
   all_goals try first | (apply Tk.mk <;> kernel_rfl) | exact ⟨leb9 rfl⟩ | exact ⟨rfl⟩ | exact ⟨trivial⟩
   all_goals subst_vars
   all_goals try first | rfl | contradiction | (apply Ob.mk;first | (simp only [inRQ,inR,Duty.of_p];omega) | ((try simp only [Duty.of_p]);(try dsimp only);omega))
   all_goals first
    | trivial
    | exact True.intro
    | exact ⟨hz⟩
    | exact ⟨c3⟩
    | exact ⟨Nat.zero_add _⟩
    | exact ⟨show 0 ≤ (6 : Int) ∧ (6 : Int) ≤ 2000000 by omega⟩
    | exact ⟨show s.size ≤ 1000000 by omega⟩
    | exact ⟨show (A.length + 1) * 3 ≤ 1099511627776 by omega⟩
    | exact ⟨show A.length ≤ 1000000 by omega⟩
    | exact hK
    | (refine resW.base ⟨_,[],hK,trivial,rfl,?_⟩;(repeat' ((conv => whnf);(first | apply And.intro | intro _)));all_goals first | rfl | trivial)
    | (apply Ob.mk;show (inRQ .i64 _).p;simp only [inRQ,inR,Duty.of_p];omega)
    | (refine Ob.mk ?_;simp only [Duty.of_p];omega)
 have d2 : (!((bA (txT (valS s 6).1 A)).toList == s.toList)) = false:=by rw [← hch,d1];rfl
 rw [d1,hpr] at hK
 dsimp only [okSy] at hK
 clear hch hpr
 rcases hend with q1 | ⟨q1,q2⟩
 ·repeat' ((conv => whnf);first | apply And.intro | (intro h9;try (have h8 : (_ : Bool) = _:=h9;clear h8;revert h9;subst_vars;intro h9;exact bon9 h9 (by assumption))))
  all_goals try (conv => whnf)
  all_goals try first | (apply Tk.mk <;> kernel_rfl) | exact ⟨leb9 rfl⟩ | exact ⟨rfl⟩ | exact ⟨trivial⟩
  all_goals subst_vars
  all_goals try first | rfl | contradiction | (apply Ob.mk;first | (simp only [inRQ,inR,Duty.of_p];omega) | ((try simp only [Duty.of_p]);(try dsimp only);omega))
  all_goals try first
   | exact True.intro
   | exact ⟨hz⟩
   | exact ⟨c3⟩
   | exact ⟨Nat.zero_add _⟩
   | exact ⟨show 0 ≤ (6 : Int) ∧ (6 : Int) ≤ 2000000 by omega⟩
   | exact ⟨show s.size ≤ 1000000 by omega⟩
   | exact ⟨show (A.length + 1) * 3 ≤ 1099511627776 by omega⟩
   | exact ⟨show A.length ≤ 1000000 by omega⟩
   | exact hK
   | (refine resW.base ⟨_,[],hK,trivial,rfl,?_⟩;(repeat' ((conv => whnf);(first | apply And.intro | intro _)));all_goals first | rfl | trivial)
   | (apply Ob.mk;show (inRQ .i64 _).p;simp only [inRQ,inR,Duty.of_p];omega)
   | (refine Ob.mk ?_;simp only [Duty.of_p];omega)
  refine resW.base ⟨_,[2],hK,⟨rfl,rfl,by simp,trivial⟩,rfl,?_⟩
  repeat' ((conv => whnf);(first | apply And.intro | intro _))
  all_goals first | rfl | trivial
 ·repeat' ((conv => whnf);first | apply And.intro | (intro h9;try (have h8 : (_ : Bool) = _:=h9;clear h8;revert h9;subst_vars;intro h9;exact bon9 h9 (by assumption))))
  all_goals try (conv => whnf)
  all_goals try first | (apply Tk.mk <;> kernel_rfl) | exact ⟨leb9 rfl⟩ | exact ⟨rfl⟩ | exact ⟨trivial⟩
  all_goals subst_vars
  all_goals try first | rfl | contradiction | (apply Ob.mk;first | (simp only [inRQ,inR,Duty.of_p];omega) | ((try simp only [Duty.of_p]);(try dsimp only);omega))
  all_goals try first
   | exact True.intro
   | exact ⟨hz⟩
   | exact ⟨c3⟩
   | exact ⟨Nat.zero_add _⟩
   | exact ⟨show 0 ≤ (6 : Int) ∧ (6 : Int) ≤ 2000000 by omega⟩
   | exact ⟨show s.size ≤ 1000000 by omega⟩
   | exact ⟨show (A.length + 1) * 3 ≤ 1099511627776 by omega⟩
   | exact ⟨show A.length ≤ 1000000 by omega⟩
   | exact hK
   | (refine resW.base ⟨_,[],hK,trivial,rfl,?_⟩;(repeat' ((conv => whnf);(first | apply And.intro | intro _)));all_goals first | rfl | trivial)
   | (apply Ob.mk;show (inRQ .i64 _).p;simp only [inRQ,inR,Duty.of_p];omega)
   | (refine Ob.mk ?_;simp only [Duty.of_p];omega)
  refine resW.base ⟨_,[2],hK,⟨rfl,rfl,by simp,trivial⟩,rfl,?_⟩
  repeat' ((conv => whnf);(first | apply And.intro | intro _))
  all_goals first | rfl | trivial)
noncomputable def k_refParse : Ctr:=kfCst (fun s => [(Duty.of (s.size ≤ 100000))]) (fun s K => (pB s = true → K (okSy (pRd s) (.v (.bool true)))) ∧ (pB s = false → K (noSy (.v (.bool false)))))
theorem k_refParse_ok : Ctr.Ok Tryz.prog Γ 10 k_refParse:=kfCst_ok c_refParse_ok (by
 intro s K ⟨h1,h2⟩
 unfold rpR
 cases hb : pB s
 ·exact h2 hb
 ·exact h1 hb)
end Go.Proofs.YtcmojakklijgfaaGreatDoor
end
section
namespace Go.Proofs.YtcmojakklijgfaaGreatDoor
open Go Go.Sy Go.Chn
variable {Γ : Glob}
def c_Print : Ctr:=fSp (fun _ L => [(Duty.of (L.length ≤ 1000000))]) (fun N L => .tup [.a (.v (.string (prF N L))),.a (vI (checkF N L).1)])
theorem lies_one {w : World} {η : Path → RI} {te : TypeId} {tg : List CK} {xs : List (Tup tg)} (hf : flatK tg = true) (h : Ar.lies w η [] ⟨te,tg,xs⟩) : Ar.lies w (fun _ => η []) [] ⟨te,tg,xs⟩ :=
 ⟨h.tg,h.m,h.void,h.len,fun i hi => by obtain ⟨ys,h1,h2⟩:=h.cell i hi;exact ⟨ys,lies_flat hf h1,h2⟩⟩
theorem c_Print_ok : Ctr.Ok Tryz.prog ΓT 7 c_Print:=by
 intro args rg q t hF hq M w0 ρ w us hlo hgn hgl hargs hrg
 dsimp only at hF
 split at hF
 next N x =>
  split at hF
  next q0 L hx0 =>
   obtain ⟨rfl,rfl⟩:=Prod.mk.inj (Option.some.inj hF);clear hF
   rw [obl_append] at hq
   obtain ⟨hq0,hD⟩:=hq
   obtain ⟨e0,he0⟩:=pas_arr (by simp [kL]) hx0 hq0
   obtain ⟨p0,r0⟩:=he0 [e0] 0 1 rfl (by omega)
   have hp : Passed [.agg [.v (.int .i64 N),x]] rg [e0] [.agg [vI N,.sl 0 [] 0 L.length]] [.arr 54 kL L false false]:=⟨⟨⟨rfl,p0,trivial⟩,trivial⟩,fun r g hg => by
    match r,hg with
    | 0,hg => obtain rfl:=Option.some.inj hg;exact r0⟩
   have ha:=paTs_sound (rg':=[.arr 54 kL L false false]) hp.args hargs
   have hr:=hrg.passed hp
   obtain ⟨hl,-⟩:=hD
   simp only [Duty.of_p] at hl
   match us,ha with
   | [u],⟨⟨ys,hu,hys⟩,_⟩ =>
     match ys,hys with
     | [y,z],⟨⟨hy,_⟩,⟨_,hz⟩,_⟩ =>
       subst hu
       subst hy
       have hs : SlAt w 54 kL L (paρ ρ [e0] [.arr 54 kL L false false] 0 []):=⟨lies_one rfl (hr.blk 0 _ [] false _ rfl flat_mk),fun hv => hr.lt 0 _ [] false _ rfl flat_mk hv⟩
       have hL : LaidT w:=hgl
       cases hc : ((checkF N L).1 == 0) with
       | true =>
         have h0 : (checkF N L).1 = 0:=eq_of_beq hc
         refine (print_yes hs hz hL h0).mono fun e w' ⟨he,hb⟩ => ?_
         refine ⟨_,he,⟨[_,_],rfl,⟨?_,?_⟩,⟨?_,?_⟩,trivial⟩,hb⟩
         ·unfold prF;rw [hc]
         ·rfl
         ·rw [h0]
         ·rfl
       | false =>
         refine (print_no hs hz hl hL (by unfold bne;rw [hc];rfl)).mono fun e w' ⟨he,hb⟩ => ?_
         refine ⟨_,he,⟨[_,_],rfl,⟨?_,?_⟩,⟨?_,?_⟩,trivial⟩,hb⟩
         ·unfold prF;rw [hc]
         ·rfl
         ·rfl
         ·rfl
  next => cases hF
 next => cases hF
end Go.Proofs.YtcmojakklijgfaaGreatDoor
end
section
namespace Go.Proofs.YtcmojakklijgfaaGreatDoor
open Go Go.Sy Go.Chn
variable {Γ : Glob}
theorem no_of {s : ByteArray} (h : foldT s.size s (0,[]) = none) : pB s = false:=by
 cases hb : pB s with
 | false => rfl
 | true => rw [isTx_fold (pB_iff.1 hb) (Nat.le_refl _)] at h;cases h
noncomputable def rangesOf (c : Code) : List (Array Tmp × Code × Code) :=
 Code.rec (motive:=fun _ => List (Array Tmp × Code × Code)) [] (fun _ _ _ => []) (fun _ _ fa fb => List.rec fb (fun x _ ih => x :: ih) fa) (fun _ _ _ fa fb => List.rec fb (fun x _ ih => x :: ih) fa)
  (fun _ _ f => f) (fun _ f => f) (fun _ ps a b _ fb => (ps,a,b) :: fb) (fun _ => []) (fun _ f => f) (fun _ => []) (fun _ => []) [] (fun _ => []) c
noncomputable def rangeAt (f : Func) (k : Nat) : Array Tmp × Code × Code:=match (rangesOf (bo f).code)[k]? with | some x => x | none => (#[],.skip,.skip)
noncomputable def lpR (f : Func) (k : Nat) (fn : FuncId) (T : Array Value) (D : Nat) : Loop:={ state:=.ready,pending:=none,fn:=fn,tmps:=T,params:=(rangeAt f k).1,assign:=(rangeAt f k).2.1,body:=(rangeAt f k).2.2,defers:=D }
abbrev strA (W : List ByteArray) (k : Nat) : ByteArray:=@Ar.get ⟨9,kSt,W⟩ k
theorem strA_get (W : List ByteArray) (k : Nat) : strA W k = W.getD k ByteArray.empty:=rfl
def numsA (ns : List Int) (w : List ByteArray) : Option (List Int):=match nums w with | some l => some (ns ++ l) | none => none
theorem numsA_nil (w : List ByteArray) : numsA [] w = nums w:=by unfold numsA;cases nums w <;> rfl
theorem tail_at (W : List ByteArray) (i : Nat) : W.tail.getD i ByteArray.empty = strA W (1 + Int.toNat (i : Int)):=by
 rw [strA_get,show 1 + Int.toNat (i : Int) = i + 1 by omega]
 cases W <;> simp
theorem drop_at {W : List ByteArray} {i : Nat} (h : i < W.length - 1) : W.tail.drop i = W.tail.getD i ByteArray.empty :: W.tail.drop (i + 1):=by
 have hl : i < W.tail.length:=by simpa using h
 rw [List.drop_eq_getElem_cons hl]
 congr 1
 rw [List.getD_eq_getElem?_getD,List.getElem?_eq_getElem hl];rfl
theorem nums_step {W : List ByteArray} {i : Nat} {ns : List Int} {x : ByteArray} {o : Option (List Int)} (h : i < W.length - 1) (hx : W.tail.getD i ByteArray.empty = x) (hn : o = numsA ns (W.tail.drop i)) :
  (∀ n,Lib.atoiAll x.data.toList = .ok n → o = numsA (ns ++ [n]) (W.tail.drop (i + 1))) ∧ ((∀ n,Lib.atoiAll x.data.toList ≠ .ok n) → o = none):=by
 rw [drop_at h,hx] at hn
 constructor
 ·intro n ha
  rw [hn]
  unfold numsA
  rw [nums,ha]
  dsimp only
  cases nums (W.tail.drop (i + 1)) <;> simp
 ·intro ha
  rw [hn]
  unfold numsA
  rw [nums]
  cases hb : Lib.atoiAll x.data.toList with
  | ok n => exact absurd hb (ha n)
  | range => rfl
  | _ => rfl
theorem wd_size (s : ByteArray) (k : Nat) : ((wdT s).getD k ByteArray.empty).size ≤ s.size:=by
 have key : ∀ (c : Nat) (s : ByteArray),∀ x ∈ Lib.splitB sp1 0 c s,x.size ≤ s.size:=by
  intro c
  induction c with
  | zero => intro s x hx;rw [Lib.splitB_zero] at hx;rw [List.mem_singleton.1 hx];exact Nat.le_refl _
  | succ c ih =>
    intro s x hx
    rw [Lib.splitB] at hx
    split at hx
    ·rw [List.mem_singleton.1 hx];exact Nat.le_refl _
    ·rcases List.mem_cons.1 hx with rfl | hx
     ·rw [ByteArray.size_extract];omega
     ·have:=ih _ x hx
      rw [ByteArray.size_extract] at this
      omega
 by_cases hk : k < (wdT s).length
 ·rw [List.getD_eq_getElem?_getD,List.getElem?_eq_getElem hk]
  exact key _ s _ (List.getElem_mem hk)
 ·rw [List.getD_eq_getElem?_getD,List.getElem?_eq_none (by omega)]
  exact Nat.zero_le _
theorem lnA_size (r : ByteArray) (h : 0 < r.size) : (lnA r).size ≤ r.size ∧ (rsA r).size < r.size:=by
 unfold lnA rsA
 cases q : decide (lnI r ≥ 0) with
 | true =>
   have:=of_decide_eq_true q
   dsimp only
   rw [ByteArray.size_extract,ByteArray.size_extract]
   omega
 | false => exact ⟨Nat.le_refl _,h⟩
theorem trA_le (s : ByteArray) : (trA s).size ≤ s.size:=by
 unfold trA
 rw [bA_size]
 have e : s.data.toList.length = s.size:=Array.length_toList
 rw [← e]
 unfold Lib.trimSuffix
 split
 ·rw [List.length_take];omega
 ·exact Nat.le_refl _
theorem lnI_lt {r : ByteArray} (h : 0 ≤ lnI r) : lnI r < r.size:=by
 have key : ∀ (l : List UInt8),Lib.indexByte l 10 < (l.length : Int):=by
  intro l
  induction l with
  | nil => show (-1 : Int) < 0;omega
  | cons a l ih =>
    rw [Lib.indexByte]
    split
    ·simp
    ·split
     ·simp;omega
     ·simp only [List.length_cons];omega
 have:=key r.data.toList
 have e : r.data.toList.length = r.size:=Array.length_toList
 unfold lnI
 omega
noncomputable def ppR (s : ByteArray) : Res:=match pB s with | true => okSy (pRd s) (vI 0) | false => noSy (vI 7)
noncomputable def c_Parse : Ctr:=fCst (fun s => [(Duty.of (s.size ≤ 100000))]) ppR
noncomputable def LParse : List (Nat × Ctr):=[(56,c_IndexByte),(31,c_TrimSuffix),(30,c_Split),(32,c_Atoi),(7,c_Print)]
theorem LParse_ok : CsOk Tryz.prog ΓT LParse:=(((((CsOk.nil.cons (body_of Tryz.func7 rfl rfl).fn c_Print_ok).cons (body_of Tryz.func32 rfl rfl).fn c_Atoi_ok).cons (body_of Tryz.func30 rfl rfl).fn c_Split_ok).cons (body_of Tryz.func31 rfl rfl).fn c_TrimSuffix_ok).cons (body_of Tryz.func56 rfl rfl).fn c_IndexByte_ok)
noncomputable def bsParse : List (Nat × Body):=[(29,bo Tryz.f29),(55,bo Tryz.f55)]
theorem bsParse_ok : BsOk Tryz.prog bsParse:=((BsOk.nil.cons (body_bo Tryz.func55 rfl rfl)).cons (body_bo Tryz.func29 rfl rfl))
noncomputable def e_Parse0 : Env:={ tabs.env LParse bsParse false 0 with ifc:=fun t => Nat.beq t 63 }
theorem e_Parse0_ok : ProgOk Tryz.prog ΓT e_Parse0:=(prog_ok LParse_ok bsParse_ok false 0).ifcs _ (fun t h => by
 obtain rfl:=Nat.eq_of_beq_eq_true h
 kernel_rfl)
attribute [local irreducible] pB checkF bA txT trA wdT lnI
theorem c_Parse_ok : Ctr.Ok Tryz.prog ΓT 8 c_Parse:=fCst_ok (d:=4) e_Parse0_ok (body_of Tryz.func8 rfl rfl) (by
 intro s K ⟨hz,_⟩ hK
 simp only [Duty.of_p] at hz
 unfold ppR at hK
 repeat' ((conv => whnf);first | apply And.intro | (intro h9;try (have h8 : (_ : Bool) = _:=h9;clear h8;revert h9;subst_vars;intro h9;exact bon9 h9 (by assumption))))
 all_goals try (conv => whnf)
 all_goals try first | (apply Tk.mk <;> kernel_rfl) | exact ⟨leb9 rfl⟩ | exact ⟨rfl⟩ | exact ⟨trivial⟩
 all_goals subst_vars
 all_goals try first | rfl | contradiction | (apply Ob.mk;first | (simp only [inRQ,inR,Duty.of_p];omega) | ((try simp only [Duty.of_p]);(try dsimp only);omega))
 all_goals try first
  | exact True.intro
  | exact ⟨show 0 ≤ (lnI r + 1).toNat from Nat.zero_le _⟩
  | exact ⟨show (lnI r + 1).toNat ≤ r.size by omega⟩
  | exact ⟨rfl⟩
  | exact ⟨o1⟩
  | exact ⟨o2⟩
  | exact ⟨o3⟩
  | exact ⟨hxs⟩
  | exact ⟨show 0 ≤ (0 : Int) ∧ (0 : Int) < ((wdT (trA (lnA r))).length : Int) by omega⟩
  | exact ⟨show 0 + Int.toNat (0 : Int) < (wdT (trA (lnA r))).length by omega⟩
  | exact ⟨show 0 ≤ (0 : Int) ∧ (0 : Int) < (ns.length : Int) by omega⟩
  | exact ⟨show 0 + Int.toNat (0 : Int) < ns.length by omega⟩
  | exact ⟨show 0 ≤ (1 : Int) ∧ (1 : Int) < (ns.length : Int) by omega⟩
  | exact ⟨show 0 + Int.toNat (1 : Int) < ns.length by omega⟩
  | exact ⟨show 0 ≤ (2 : Int) ∧ (2 : Int) < (ns.length : Int) by omega⟩
  | exact ⟨show 0 + Int.toNat (2 : Int) < ns.length by omega⟩
  | exact ⟨show (t.2.length + 1) * 3 ≤ 1099511627776 by omega⟩
  | exact ⟨show t.2.length ≤ 1000000 by omega⟩
  | (refine resW.base ⟨_,[],hK,trivial,rfl,?_⟩;(repeat' ((conv => whnf);(first | apply And.intro | intro _)));all_goals first | rfl | trivial)
  | exact ⟨Nat.zero_add _⟩
  | exact ⟨show (ns.length + 1) * 1 ≤ 1099511627776 by omega⟩
  | exact ⟨show 0 ≤ (i : Int) ∧ (i : Int) < (((wdT (trA (lnA r))).length - 1 : Nat) : Int) by omega⟩
  | exact ⟨show 1 + Int.toNat (i : Int) < (wdT (trA (lnA r))).length by omega⟩
  | exact ⟨show 1 ≤ (wdT _).length by omega⟩
  | exact ⟨Nat.zero_add _⟩
  | exact hK
  | (apply Ob.mk;show (inRQ .i64 _).p;simp only [inRQ,inR,Duty.of_p];omega)
 rename_i l fn T
 rename Nat => dd
 refine ⟨ByteArray × (Int × List Lk),fun x => (∃ f,x.1.size ≤ f ∧ foldT s.size s (0,[]) = foldT f x.1 x.2) ∧ x.2.2.length + x.1.size ≤ s.size,fun x => ⟨slotsT 25 [0,1] [.a (.yl 4),.a (.p 3 [] 0 0)],[slotsT 100 [0,2,3,4] [.a (.v (.string s)),.a (.p 0 [] 0 0),.a (.p 1 [] 0 0),.a (.p 2 [] 0 0)]],[.box true [vI 0,.v (.slice none 0 0)],.box true [vI 0],.box true [vI x.2.1,.sl 5 [] 0 x.2.2.length],.box true [.v (.string x.1)],.lp l (slotsT 100 [0,2,3,4] [.a (.v (.string s)),.a (.p 0 [] 0 0),.a (.p 1 [] 0 0),.a (.p 2 [] 0 0)]) (lpR Tryz.f8 0 fn T dd) .ready none,.arr 54 kL x.2.2 true true]⟩,fun x => x.1.size,(s,(0,[])),[0,1,2,3,4,1000],⟨⟨s.size,Nat.le_refl _,rfl⟩,by simp⟩,?_,?_⟩
 ·repeat' ((conv => whnf);(first | apply And.intro | intro _))
  all_goals first | rfl | trivial | exact leb9 rfl | exact mem9 ‹_› rfl | exact men9 ‹_› rfl | ((repeat' first | rfl | constructor);done)
 rintro ⟨r,t⟩ ⟨⟨f,hf,hfo⟩,hlen⟩
 dsimp only at hf hfo hlen
 by_cases hr : 0 < r.size
 ·have p0 : decide ((r.size : Int) > 0) = true:=decide_eq_true (by omega)
  have hts:=trA_le
  apply sharez
  case h =>
   intro key
   obtain q1 | q1 : decide (lnI r ≥ 0) = true ∨ decide (lnI r ≥ 0) = false:=by cases decide (lnI r ≥ 0) <;> simp
   ·have e1 : r.extract 0 (lnI r + 1).toNat = lnA r:=by unfold lnA;rw [q1]
    have e2 : r.extract (lnI r + 1).toNat r.size = rsA r:=by unfold rsA;rw [q1]
    have hb:=lnI_lt (r:=r) (of_decide_eq_true q1)
    have hq:=of_decide_eq_true q1
    have o1 : (lnI r + 1).toNat ≤ r.size:=by omega
    have o2 : (r.extract 0 (lnI r + 1).toNat).size ≤ 1000000:=by rw [ByteArray.size_extract];omega
    have o3 : (trA (r.extract 0 (lnI r + 1).toNat)).size ≤ 1000000:=Nat.le_trans (hts _) o2
    have o4:=wdT_len (trA (r.extract 0 (lnI r + 1).toNat))
    have wE : wdT (trA (r.extract 0 (lnI r + 1).toNat)) = (wdT (trA (lnA r))):=by rw [e1]
    have wL:=congrArg List.length wE
    repeat' ((conv => whnf);first | apply And.intro | (intro h9;try (have h8 : (_ : Bool) = _:=h9;clear h8;revert h9;subst_vars;intro h9;exact bon9 h9 (by assumption))))
    all_goals try (conv => whnf)
    all_goals try first | (apply Tk.mk <;> kernel_rfl) | exact ⟨leb9 rfl⟩ | exact ⟨rfl⟩ | exact ⟨trivial⟩
    all_goals subst_vars
    all_goals try first | rfl | contradiction | (apply Ob.mk;first | (simp only [inRQ,inR,Duty.of_p];omega) | ((try simp only [Duty.of_p]);(try dsimp only);omega))
    all_goals try first
     | exact True.intro
     | exact ⟨show 0 ≤ (lnI r + 1).toNat from Nat.zero_le _⟩
     | exact ⟨show (lnI r + 1).toNat ≤ r.size by omega⟩
     | exact ⟨rfl⟩
     | exact ⟨o1⟩
     | exact ⟨o2⟩
     | exact ⟨o3⟩
     | exact ⟨hxs⟩
     | exact ⟨show 0 ≤ (0 : Int) ∧ (0 : Int) < ((wdT (trA (lnA r))).length : Int) by omega⟩
     | exact ⟨show 0 + Int.toNat (0 : Int) < (wdT (trA (lnA r))).length by omega⟩
     | exact ⟨show 0 ≤ (0 : Int) ∧ (0 : Int) < (ns.length : Int) by omega⟩
     | exact ⟨show 0 + Int.toNat (0 : Int) < ns.length by omega⟩
     | exact ⟨show 0 ≤ (1 : Int) ∧ (1 : Int) < (ns.length : Int) by omega⟩
     | exact ⟨show 0 + Int.toNat (1 : Int) < ns.length by omega⟩
     | exact ⟨show 0 ≤ (2 : Int) ∧ (2 : Int) < (ns.length : Int) by omega⟩
     | exact ⟨show 0 + Int.toNat (2 : Int) < ns.length by omega⟩
     | exact ⟨show (t.2.length + 1) * 3 ≤ 1099511627776 by omega⟩
     | exact ⟨show t.2.length ≤ 1000000 by omega⟩
     | (refine resW.base ⟨_,[],hK,trivial,rfl,?_⟩;(repeat' ((conv => whnf);(first | apply And.intro | intro _)));all_goals first | rfl | trivial)
     | exact ⟨Nat.zero_add _⟩
     | exact ⟨show (ns.length + 1) * 1 ≤ 1099511627776 by omega⟩
     | exact ⟨show 0 ≤ (i : Int) ∧ (i : Int) < (((wdT (trA (lnA r))).length - 1 : Nat) : Int) by omega⟩
     | exact ⟨show 1 + Int.toNat (i : Int) < (wdT (trA (lnA r))).length by omega⟩
     | exact ⟨show 1 ≤ (wdT _).length by omega⟩
     | exact ⟨Nat.zero_add _⟩
     | exact hK
     | (apply Ob.mk;show (inRQ .i64 _).p;simp only [inRQ,inR,Duty.of_p];omega)
    refine ⟨Nat × List Int,fun x => x.1 ≤ (wdT (trA (lnA r))).length - 1 ∧ x.2.length ≤ x.1 ∧ x.1 ≤ x.2.length ∧ nums (wdT (trA (lnA r))).tail = numsA x.2 ((wdT (trA (lnA r))).tail.drop x.1),fun x => ⟨slotsT 100 [0,2,3,4,6,7,21,22,23] [.a (.v (.string s)),.a (.p 0 [] 0 0),.a (.p 1 [] 0 0),.a (.p 2 [] 0 0),.a (.sl 6 [] 0 (wdT (trA (lnA r))).length),.a (.sl 7 [] 0 x.2.length),.a (.sl 6 [] 1 ((wdT (trA (lnA r))).length - 1)),.a (vI (((wdT (trA (lnA r))).length - 1 : Nat) : Int)),.a (vI x.1)],[slotsT 25 [0,1] [.a (.yl 4),.a (.p 3 [] 0 0)],slotsT 100 [0,2,3,4] [.a (.v (.string s)),.a (.p 0 [] 0 0),.a (.p 1 [] 0 0),.a (.p 2 [] 0 0)]],[.box true [vI 0,.v (.slice none 0 0)],.box true [vI 0],.box true [vI t.1,.sl 5 [] 0 t.2.length],.box true [.v (.string (rsA r))],.lp l (slotsT 100 [0,2,3,4] [.a (.v (.string s)),.a (.p 0 [] 0 0),.a (.p 1 [] 0 0),.a (.p 2 [] 0 0)]) (lpR Tryz.f8 0 fn T dd) .busy none,.arr 54 kL t.2 true true,.arr 9 kSt (wdT (trA (lnA r))) true true,.arr 3 kI x.2 true true]⟩,fun x => (wdT (trA (lnA r))).length - 1 - x.1,(0,[]),[0,1,2,3,4,5,6,1000],⟨Nat.zero_le _,Nat.le_refl _,Nat.le_refl _,(numsA_nil _).symm⟩,?_,key.h⟩
    repeat' ((conv => whnf);(first | apply And.intro | intro _))
    all_goals first | rfl | trivial | exact leb9 rfl | exact mem9 ‹_› rfl | exact men9 ‹_› rfl | ((repeat' first | rfl | constructor);done) | exact wL | exact congrArg (· - 1) wL | exact congrArg (fun x : Nat => ((x - 1 : Nat) : Int)) wL | exact ⟨rfl,rfl,wE⟩ | exact congrArg Value.string e2 | exact e2
   have e1 : r = lnA r:=by unfold lnA;rw [q1]
   have e2 : ({ data:=#[] } : ByteArray) = rsA r:=by unfold rsA;rw [q1]
   have o2 : r.size ≤ 1000000:=by omega
   have o3 : (trA r).size ≤ 1000000:=Nat.le_trans (hts _) o2
   have o4:=wdT_len (trA r)
   have wE : wdT (trA r) = (wdT (trA (lnA r))):=by rw [← e1]
   have wL:=congrArg List.length wE
   clear e1
   repeat' ((conv => whnf);first | apply And.intro | (intro h9;try (have h8 : (_ : Bool) = _:=h9;clear h8;revert h9;subst_vars;intro h9;exact bon9 h9 (by assumption))))
   all_goals try (conv => whnf)
   all_goals try first | (apply Tk.mk <;> kernel_rfl) | exact ⟨leb9 rfl⟩ | exact ⟨rfl⟩ | exact ⟨trivial⟩
   all_goals subst_vars
   all_goals try first | rfl | contradiction | (apply Ob.mk;first | (simp only [inRQ,inR,Duty.of_p];omega) | ((try simp only [Duty.of_p]);(try dsimp only);omega))
   all_goals try first
    | exact True.intro
    | exact ⟨show 0 ≤ (lnI r + 1).toNat from Nat.zero_le _⟩
    | exact ⟨show (lnI r + 1).toNat ≤ r.size by omega⟩
    | exact ⟨rfl⟩
    | exact ⟨o1⟩
    | exact ⟨o2⟩
    | exact ⟨o3⟩
    | exact ⟨hxs⟩
    | exact ⟨show 0 ≤ (0 : Int) ∧ (0 : Int) < ((wdT (trA (lnA r))).length : Int) by omega⟩
    | exact ⟨show 0 + Int.toNat (0 : Int) < (wdT (trA (lnA r))).length by omega⟩
    | exact ⟨show 0 ≤ (0 : Int) ∧ (0 : Int) < (ns.length : Int) by omega⟩
    | exact ⟨show 0 + Int.toNat (0 : Int) < ns.length by omega⟩
    | exact ⟨show 0 ≤ (1 : Int) ∧ (1 : Int) < (ns.length : Int) by omega⟩
    | exact ⟨show 0 + Int.toNat (1 : Int) < ns.length by omega⟩
    | exact ⟨show 0 ≤ (2 : Int) ∧ (2 : Int) < (ns.length : Int) by omega⟩
    | exact ⟨show 0 + Int.toNat (2 : Int) < ns.length by omega⟩
    | exact ⟨show (t.2.length + 1) * 3 ≤ 1099511627776 by omega⟩
    | exact ⟨show t.2.length ≤ 1000000 by omega⟩
    | (refine resW.base ⟨_,[],hK,trivial,rfl,?_⟩;(repeat' ((conv => whnf);(first | apply And.intro | intro _)));all_goals first | rfl | trivial)
    | exact ⟨Nat.zero_add _⟩
    | exact ⟨show (ns.length + 1) * 1 ≤ 1099511627776 by omega⟩
    | exact ⟨show 0 ≤ (i : Int) ∧ (i : Int) < (((wdT (trA (lnA r))).length - 1 : Nat) : Int) by omega⟩
    | exact ⟨show 1 + Int.toNat (i : Int) < (wdT (trA (lnA r))).length by omega⟩
    | exact ⟨show 1 ≤ (wdT _).length by omega⟩
    | exact ⟨Nat.zero_add _⟩
    | exact hK
    | (apply Ob.mk;show (inRQ .i64 _).p;simp only [inRQ,inR,Duty.of_p];omega)
   refine ⟨Nat × List Int,fun x => x.1 ≤ (wdT (trA (lnA r))).length - 1 ∧ x.2.length ≤ x.1 ∧ x.1 ≤ x.2.length ∧ nums (wdT (trA (lnA r))).tail = numsA x.2 ((wdT (trA (lnA r))).tail.drop x.1),fun x => ⟨slotsT 100 [0,2,3,4,6,7,21,22,23] [.a (.v (.string s)),.a (.p 0 [] 0 0),.a (.p 1 [] 0 0),.a (.p 2 [] 0 0),.a (.sl 6 [] 0 (wdT (trA (lnA r))).length),.a (.sl 7 [] 0 x.2.length),.a (.sl 6 [] 1 ((wdT (trA (lnA r))).length - 1)),.a (vI (((wdT (trA (lnA r))).length - 1 : Nat) : Int)),.a (vI x.1)],[slotsT 25 [0,1] [.a (.yl 4),.a (.p 3 [] 0 0)],slotsT 100 [0,2,3,4] [.a (.v (.string s)),.a (.p 0 [] 0 0),.a (.p 1 [] 0 0),.a (.p 2 [] 0 0)]],[.box true [vI 0,.v (.slice none 0 0)],.box true [vI 0],.box true [vI t.1,.sl 5 [] 0 t.2.length],.box true [.v (.string (rsA r))],.lp l (slotsT 100 [0,2,3,4] [.a (.v (.string s)),.a (.p 0 [] 0 0),.a (.p 1 [] 0 0),.a (.p 2 [] 0 0)]) (lpR Tryz.f8 0 fn T dd) .busy none,.arr 54 kL t.2 true true,.arr 9 kSt (wdT (trA (lnA r))) true true,.arr 3 kI x.2 true true]⟩,fun x => (wdT (trA (lnA r))).length - 1 - x.1,(0,[]),[0,1,2,3,4,5,6,1000],⟨Nat.zero_le _,Nat.le_refl _,Nat.le_refl _,(numsA_nil _).symm⟩,?_,key.h⟩
   repeat' ((conv => whnf);(first | apply And.intro | intro _))
   all_goals first | rfl | trivial | exact leb9 rfl | exact mem9 ‹_› rfl | exact men9 ‹_› rfl | ((repeat' first | rfl | constructor);done) | exact wL | exact congrArg (· - 1) wL | exact congrArg (fun x : Nat => ((x - 1 : Nat) : Int)) wL | exact ⟨rfl,rfl,wE⟩ | exact congrArg Value.string e2 | exact e2
  case b =>
   rintro ⟨i,ns⟩ ⟨hi,hnl,hnl2,hnu⟩
   dsimp only at hi hnl hnl2 hnu
   have hW1 : 1 ≤ (wdT (trA (lnA r))).length:=by rw [wdT_len];omega
   have hls:=lnA_size r hr
   have hWs : (wdT (trA (lnA r))).length ≤ 100001:=by have:=wdT_le (trA (lnA r));have:=hts (lnA r);omega
   obtain ⟨f,rfl⟩ : ∃ g,f = g + 1:=⟨f - 1,by omega⟩
   have hst : foldT (f + 1) r t = match stT t (lnA r) with | none => none | some t' => foldT f (rsA r) t':=by rw [foldT,p0];rfl
   by_cases hi1 : i < (wdT (trA (lnA r))).length - 1
   ·have p1 : decide ((i : Int) < (((wdT (trA (lnA r))).length - 1 : Nat) : Int)) = true:=decide_eq_true (by omega)
    have ex:=tail_at (wdT (trA (lnA r))) i
    have hxs : (strA (wdT (trA (lnA r))) (1 + Int.toNat (i : Int))).size ≤ 1000000:=by
     rw [strA_get,show 1 + Int.toNat (i : Int) = 1 + i by omega]
     have:=wd_size (trA (lnA r)) (1 + i)
     have:=hts (lnA r)
     omega
    have hnx:=nums_step hi1 ex hnu
    repeat' ((conv => whnf);first | apply And.intro | (intro h9;try (have h8 : (_ : Bool) = _:=h9;clear h8;revert h9;subst_vars;intro h9;exact bon9 h9 (by assumption))))
    all_goals try (conv => whnf)
    all_goals try first | (apply Tk.mk <;> kernel_rfl) | exact ⟨leb9 rfl⟩ | exact ⟨rfl⟩ | exact ⟨trivial⟩
    all_goals subst_vars
    all_goals try first | rfl | contradiction | (apply Ob.mk;first | (simp only [inRQ,inR,Duty.of_p];omega) | ((try simp only [Duty.of_p]);(try dsimp only);omega))
    all_goals try first
     | exact True.intro
     | exact ⟨show 0 ≤ (lnI r + 1).toNat from Nat.zero_le _⟩
     | exact ⟨show (lnI r + 1).toNat ≤ r.size by omega⟩
     | exact ⟨rfl⟩
     | exact ⟨o1⟩
     | exact ⟨o2⟩
     | exact ⟨o3⟩
     | exact ⟨hxs⟩
     | exact ⟨show 0 ≤ (0 : Int) ∧ (0 : Int) < ((wdT (trA (lnA r))).length : Int) by omega⟩
     | exact ⟨show 0 + Int.toNat (0 : Int) < (wdT (trA (lnA r))).length by omega⟩
     | exact ⟨show 0 ≤ (0 : Int) ∧ (0 : Int) < (ns.length : Int) by omega⟩
     | exact ⟨show 0 + Int.toNat (0 : Int) < ns.length by omega⟩
     | exact ⟨show 0 ≤ (1 : Int) ∧ (1 : Int) < (ns.length : Int) by omega⟩
     | exact ⟨show 0 + Int.toNat (1 : Int) < ns.length by omega⟩
     | exact ⟨show 0 ≤ (2 : Int) ∧ (2 : Int) < (ns.length : Int) by omega⟩
     | exact ⟨show 0 + Int.toNat (2 : Int) < ns.length by omega⟩
     | exact ⟨show (t.2.length + 1) * 3 ≤ 1099511627776 by omega⟩
     | exact ⟨show t.2.length ≤ 1000000 by omega⟩
     | (refine resW.base ⟨_,[],hK,trivial,rfl,?_⟩;(repeat' ((conv => whnf);(first | apply And.intro | intro _)));all_goals first | rfl | trivial)
     | exact ⟨Nat.zero_add _⟩
     | exact ⟨show (ns.length + 1) * 1 ≤ 1099511627776 by omega⟩
     | exact ⟨show 0 ≤ (i : Int) ∧ (i : Int) < (((wdT (trA (lnA r))).length - 1 : Nat) : Int) by omega⟩
     | exact ⟨show 1 + Int.toNat (i : Int) < (wdT (trA (lnA r))).length by omega⟩
     | exact ⟨show 1 ≤ (wdT _).length by omega⟩
     | exact ⟨Nat.zero_add _⟩
     | exact hK
     | (apply Ob.mk;show (inRQ .i64 _).p;simp only [inRQ,inR,Duty.of_p];omega)
    ·rename Int => n
     have hat : Lib.atoiAll (strA (wdT (trA (lnA r))) (1 + Int.toNat (i : Int))).data.toList = .ok n:=by assumption
     have hnx1:=hnx.1 n hat
     have hsl : ns.length + 1 = (ns ++ [n]).length:=by rw [List.length_append,List.length_singleton]
     refine ⟨(i + 1,ns ++ [n]),[0,1,2,3,4,5,6,7],⟨by show i + 1 ≤ _;omega,by show (ns ++ [n]).length ≤ i + 1;omega,by show i + 1 ≤ (ns ++ [n]).length;omega,hnx1⟩,?_,by show (wdT (trA (lnA r))).length - 1 - (i + 1) < (wdT (trA (lnA r))).length - 1 - i;omega⟩
     repeat' ((conv => whnf);(first | apply And.intro | intro _))
     all_goals first | rfl | trivial | exact leb9 rfl | exact mem9 ‹_› rfl | exact men9 ‹_› rfl | ((repeat' first | rfl | constructor);done) | exact hsl | exact hsl.symm
    ·have hna : ∀ n,Lib.atoiAll (strA (wdT (trA (lnA r))) (1 + Int.toNat (i : Int))).data.toList ≠ .ok n:=by assumption
     have hn:=hnx.2 hna
     have hfn : foldT s.size s (0,[]) = none:=by
      rw [hfo,hst];unfold stT wds;rw [hn]
     have hb : pB s = false:=no_of hfn
     rw [hb] at hK
     dsimp only [noSy] at hK
     refine resW.base ⟨_,[],hK,trivial,rfl,?_⟩
     repeat' ((conv => whnf);(first | apply And.intro | intro _))
     all_goals first | rfl | trivial
   have p1 : decide ((i : Int) < (((wdT (trA (lnA r))).length - 1 : Nat) : Int)) = false:=decide_eq_false (by omega)
   have hnu2 : nums (wdT (trA (lnA r))).tail = some ns:=by
    rw [hnu,List.drop_of_length_le (by simp;omega)]
    unfold numsA nums;simp
   have hstW : stT t (lnA r) = stW t (hdW (wdT (trA (lnA r)))) ns:=by unfold stT wds;rw [hnu2]
   have h0 : hdW (wdT (trA (lnA r))) = (strA (wdT (trA (lnA r))) (0 + Int.toNat (0 : Int))):=rfl
   have i0 : intA ns 0 = g3 ns 0:=rfl
   have i1 : intA ns 1 = g3 ns 1:=rfl
   have i2 : intA ns 2 = g3 ns 2:=rfl
   clear hnu hnu2 hi1 hi
   obtain a1 | a1 : ((strA (wdT (trA (lnA r))) (0 + Int.toNat (0 : Int))).toList == ({ data:=#[110,111,100,101,115] } : ByteArray).toList) = false ∨ ((strA (wdT (trA (lnA r))) (0 + Int.toNat (0 : Int))).toList == ({ data:=#[110,111,100,101,115] } : ByteArray).toList) = true:=by cases ((strA (wdT (trA (lnA r))) (0 + Int.toNat (0 : Int))).toList == ({ data:=#[110,111,100,101,115] } : ByteArray).toList) <;> simp
   ·have a3 : (((strA (wdT (trA (lnA r))) (0 + Int.toNat (0 : Int))).toList == no1.toList) && decide (ns.length = 1)) = false:=by rw [show ((strA (wdT (trA (lnA r))) (0 + Int.toNat (0 : Int))).toList == no1.toList) = false from a1];rfl
    obtain b1 | b1 : ((strA (wdT (trA (lnA r))) (0 + Int.toNat (0 : Int))).toList == ({ data:=#[108,105,110,107] } : ByteArray).toList) = false ∨ ((strA (wdT (trA (lnA r))) (0 + Int.toNat (0 : Int))).toList == ({ data:=#[108,105,110,107] } : ByteArray).toList) = true:=by cases ((strA (wdT (trA (lnA r))) (0 + Int.toNat (0 : Int))).toList == ({ data:=#[108,105,110,107] } : ByteArray).toList) <;> simp
    ·have hfn : foldT s.size s (0,[]) = none:=by rw [hfo,hst,hstW];unfold stW;rw [h0,a3];dsimp only;rw [show ((strA (wdT (trA (lnA r))) (0 + Int.toNat (0 : Int))).toList == li1.toList) = false from b1];rfl
     have hb : pB s = false:=no_of hfn
     rw [hb] at hK
     dsimp only [noSy] at hK
     repeat' ((conv => whnf);first | apply And.intro | (intro h9;try (have h8 : (_ : Bool) = _:=h9;clear h8;revert h9;subst_vars;intro h9;exact bon9 h9 (by assumption))))
     all_goals try (conv => whnf)
     all_goals try first | (apply Tk.mk <;> kernel_rfl) | exact ⟨leb9 rfl⟩ | exact ⟨rfl⟩ | exact ⟨trivial⟩
     all_goals subst_vars
     all_goals try first | rfl | contradiction | (apply Ob.mk;first | (simp only [inRQ,inR,Duty.of_p];omega) | ((try simp only [Duty.of_p]);(try dsimp only);omega))
     all_goals first
      | trivial
      | exact True.intro
      | exact ⟨show 0 ≤ (lnI r + 1).toNat from Nat.zero_le _⟩
      | exact ⟨show (lnI r + 1).toNat ≤ r.size by omega⟩
      | exact ⟨rfl⟩
      | exact ⟨o1⟩
      | exact ⟨o2⟩
      | exact ⟨o3⟩
      | exact ⟨hxs⟩
      | exact ⟨show 0 ≤ (0 : Int) ∧ (0 : Int) < ((wdT (trA (lnA r))).length : Int) by omega⟩
      | exact ⟨show 0 + Int.toNat (0 : Int) < (wdT (trA (lnA r))).length by omega⟩
      | exact ⟨show 0 ≤ (0 : Int) ∧ (0 : Int) < (ns.length : Int) by omega⟩
      | exact ⟨show 0 + Int.toNat (0 : Int) < ns.length by omega⟩
      | exact ⟨show 0 ≤ (1 : Int) ∧ (1 : Int) < (ns.length : Int) by omega⟩
      | exact ⟨show 0 + Int.toNat (1 : Int) < ns.length by omega⟩
      | exact ⟨show 0 ≤ (2 : Int) ∧ (2 : Int) < (ns.length : Int) by omega⟩
      | exact ⟨show 0 + Int.toNat (2 : Int) < ns.length by omega⟩
      | exact ⟨show (t.2.length + 1) * 3 ≤ 1099511627776 by omega⟩
      | exact ⟨show t.2.length ≤ 1000000 by omega⟩
      | (refine resW.base ⟨_,[],hK,trivial,rfl,?_⟩;(repeat' ((conv => whnf);(first | apply And.intro | intro _)));all_goals first | rfl | trivial)
      | exact ⟨Nat.zero_add _⟩
      | exact ⟨show (ns.length + 1) * 1 ≤ 1099511627776 by omega⟩
      | exact ⟨show 0 ≤ (i : Int) ∧ (i : Int) < (((wdT (trA (lnA r))).length - 1 : Nat) : Int) by omega⟩
      | exact ⟨show 1 + Int.toNat (i : Int) < (wdT (trA (lnA r))).length by omega⟩
      | exact ⟨show 1 ≤ (wdT _).length by omega⟩
      | exact ⟨Nat.zero_add _⟩
      | exact hK
      | (apply Ob.mk;show (inRQ .i64 _).p;simp only [inRQ,inR,Duty.of_p];omega)
    obtain b2 | b2 : ((ns.length : Int) == 3) = false ∨ ((ns.length : Int) == 3) = true:=by cases ((ns.length : Int) == 3) <;> simp
    ·have b3 : decide (ns.length = 3) = false:=decide_eq_false (fun h => by rw [h] at b2;cases b2)
     have hfn : foldT s.size s (0,[]) = none:=by rw [hfo,hst,hstW];unfold stW;rw [h0,a3];dsimp only;rw [b3,Bool.false_and,Bool.and_false]
     have hb : pB s = false:=no_of hfn
     rw [hb] at hK
     dsimp only [noSy] at hK
     repeat' ((conv => whnf);first | apply And.intro | (intro h9;try (have h8 : (_ : Bool) = _:=h9;clear h8;revert h9;subst_vars;intro h9;exact bon9 h9 (by assumption))))
     all_goals try (conv => whnf)
     all_goals try first | (apply Tk.mk <;> kernel_rfl) | exact ⟨leb9 rfl⟩ | exact ⟨rfl⟩ | exact ⟨trivial⟩
     all_goals subst_vars
     all_goals try first | rfl | contradiction | (apply Ob.mk;first | (simp only [inRQ,inR,Duty.of_p];omega) | ((try simp only [Duty.of_p]);(try dsimp only);omega))
     all_goals first
      | trivial
      | exact True.intro
      | exact ⟨show 0 ≤ (lnI r + 1).toNat from Nat.zero_le _⟩
      | exact ⟨show (lnI r + 1).toNat ≤ r.size by omega⟩
      | exact ⟨rfl⟩
      | exact ⟨o1⟩
      | exact ⟨o2⟩
      | exact ⟨o3⟩
      | exact ⟨hxs⟩
      | exact ⟨show 0 ≤ (0 : Int) ∧ (0 : Int) < ((wdT (trA (lnA r))).length : Int) by omega⟩
      | exact ⟨show 0 + Int.toNat (0 : Int) < (wdT (trA (lnA r))).length by omega⟩
      | exact ⟨show 0 ≤ (0 : Int) ∧ (0 : Int) < (ns.length : Int) by omega⟩
      | exact ⟨show 0 + Int.toNat (0 : Int) < ns.length by omega⟩
      | exact ⟨show 0 ≤ (1 : Int) ∧ (1 : Int) < (ns.length : Int) by omega⟩
      | exact ⟨show 0 + Int.toNat (1 : Int) < ns.length by omega⟩
      | exact ⟨show 0 ≤ (2 : Int) ∧ (2 : Int) < (ns.length : Int) by omega⟩
      | exact ⟨show 0 + Int.toNat (2 : Int) < ns.length by omega⟩
      | exact ⟨show (t.2.length + 1) * 3 ≤ 1099511627776 by omega⟩
      | exact ⟨show t.2.length ≤ 1000000 by omega⟩
      | (refine resW.base ⟨_,[],hK,trivial,rfl,?_⟩;(repeat' ((conv => whnf);(first | apply And.intro | intro _)));all_goals first | rfl | trivial)
      | exact ⟨Nat.zero_add _⟩
      | exact ⟨show (ns.length + 1) * 1 ≤ 1099511627776 by omega⟩
      | exact ⟨show 0 ≤ (i : Int) ∧ (i : Int) < (((wdT (trA (lnA r))).length - 1 : Nat) : Int) by omega⟩
      | exact ⟨show 1 + Int.toNat (i : Int) < (wdT (trA (lnA r))).length by omega⟩
      | exact ⟨show 1 ≤ (wdT _).length by omega⟩
      | exact ⟨Nat.zero_add _⟩
      | exact hK
      | (apply Ob.mk;show (inRQ .i64 _).p;simp only [inRQ,inR,Duty.of_p];omega)
    obtain d2 | d2 : decide ((t.2.length : Int) ≤ 300) = false ∨ decide ((t.2.length : Int) ≤ 300) = true:=by cases decide ((t.2.length : Int) ≤ 300) <;> simp
    ·have d3 : decide (t.2.length ≤ 300) = false:=decide_eq_false (fun h => by have:=of_decide_eq_false d2;omega)
     have hfn : foldT s.size s (0,[]) = none:=by rw [hfo,hst,hstW];unfold stW;rw [h0,a3];dsimp only;rw [d3,Bool.and_false,Bool.and_false]
     have hb : pB s = false:=no_of hfn
     rw [hb] at hK
     dsimp only [noSy] at hK
     repeat' ((conv => whnf);first | apply And.intro | (intro h9;try (have h8 : (_ : Bool) = _:=h9;clear h8;revert h9;subst_vars;intro h9;exact bon9 h9 (by assumption))))
     all_goals try (conv => whnf)
     all_goals try first | (apply Tk.mk <;> kernel_rfl) | exact ⟨leb9 rfl⟩ | exact ⟨rfl⟩ | exact ⟨trivial⟩
     all_goals subst_vars
     all_goals try first | rfl | contradiction | (apply Ob.mk;first | (simp only [inRQ,inR,Duty.of_p];omega) | ((try simp only [Duty.of_p]);(try dsimp only);omega))
     all_goals first
      | trivial
      | exact True.intro
      | exact ⟨show 0 ≤ (lnI r + 1).toNat from Nat.zero_le _⟩
      | exact ⟨show (lnI r + 1).toNat ≤ r.size by omega⟩
      | exact ⟨rfl⟩
      | exact ⟨o1⟩
      | exact ⟨o2⟩
      | exact ⟨o3⟩
      | exact ⟨hxs⟩
      | exact ⟨show 0 ≤ (0 : Int) ∧ (0 : Int) < ((wdT (trA (lnA r))).length : Int) by omega⟩
      | exact ⟨show 0 + Int.toNat (0 : Int) < (wdT (trA (lnA r))).length by omega⟩
      | exact ⟨show 0 ≤ (0 : Int) ∧ (0 : Int) < (ns.length : Int) by omega⟩
      | exact ⟨show 0 + Int.toNat (0 : Int) < ns.length by omega⟩
      | exact ⟨show 0 ≤ (1 : Int) ∧ (1 : Int) < (ns.length : Int) by omega⟩
      | exact ⟨show 0 + Int.toNat (1 : Int) < ns.length by omega⟩
      | exact ⟨show 0 ≤ (2 : Int) ∧ (2 : Int) < (ns.length : Int) by omega⟩
      | exact ⟨show 0 + Int.toNat (2 : Int) < ns.length by omega⟩
      | exact ⟨show (t.2.length + 1) * 3 ≤ 1099511627776 by omega⟩
      | exact ⟨show t.2.length ≤ 1000000 by omega⟩
      | (refine resW.base ⟨_,[],hK,trivial,rfl,?_⟩;(repeat' ((conv => whnf);(first | apply And.intro | intro _)));all_goals first | rfl | trivial)
      | exact ⟨Nat.zero_add _⟩
      | exact ⟨show (ns.length + 1) * 1 ≤ 1099511627776 by omega⟩
      | exact ⟨show 0 ≤ (i : Int) ∧ (i : Int) < (((wdT (trA (lnA r))).length - 1 : Nat) : Int) by omega⟩
      | exact ⟨show 1 + Int.toNat (i : Int) < (wdT (trA (lnA r))).length by omega⟩
      | exact ⟨show 1 ≤ (wdT _).length by omega⟩
      | exact ⟨Nat.zero_add _⟩
      | exact hK
      | (apply Ob.mk;show (inRQ .i64 _).p;simp only [inRQ,inR,Duty.of_p];omega)
    have b4 : ns.length = 3:=by have:=eq_of_beq b2;omega
    have b3 : decide (ns.length = 3) = true:=decide_eq_true b4
    have d4 : t.2.length ≤ 300:=by have:=of_decide_eq_true d2;omega
    have d3 : decide (t.2.length ≤ 300) = true:=decide_eq_true d4
    have hsw : stW t (hdW (wdT (trA (lnA r)))) ns = some (t.1,t.2 ++ [(g3 ns 0,g3 ns 1,g3 ns 2)]):=by unfold stW;rw [h0,a3];dsimp only;rw [b3,d3,Bool.and_self,Bool.and_true,show ((strA (wdT (trA (lnA r))) (0 + Int.toNat (0 : Int))).toList == li1.toList) = true from b1]
    have hfo2 : foldT s.size s (0,[]) = foldT f (rsA r) (t.1,t.2 ++ [(g3 ns 0,g3 ns 1,g3 ns 2)]):=by rw [hfo,hst,hstW,hsw]
    have hlen2 : (t.2 ++ [(g3 ns 0,g3 ns 1,g3 ns 2)]).length + (rsA r).size ≤ s.size:=by rw [List.length_append,List.length_singleton];omega
    have hwl : t.2.length + 1 = (t.2 ++ [(g3 ns 0,g3 ns 1,g3 ns 2)]).length:=by rw [List.length_append,List.length_singleton]
    have hw3 : t.2 ++ [((intA ns 0,intA ns 1,intA ns 2) : Lk)] = t.2 ++ [(g3 ns 0,g3 ns 1,g3 ns 2)]:=by rw [i0,i1,i2]
    repeat' ((conv => whnf);first | apply And.intro | (intro h9;try (have h8 : (_ : Bool) = _:=h9;clear h8;revert h9;subst_vars;intro h9;exact bon9 h9 (by assumption))))
    all_goals try (conv => whnf)
    all_goals try first | (apply Tk.mk <;> kernel_rfl) | exact ⟨leb9 rfl⟩ | exact ⟨rfl⟩ | exact ⟨trivial⟩
    all_goals subst_vars
    all_goals try first | rfl | contradiction | (apply Ob.mk;first | (simp only [inRQ,inR,Duty.of_p];omega) | ((try simp only [Duty.of_p]);(try dsimp only);omega))
    all_goals try first
     | exact True.intro
     | exact ⟨show 0 ≤ (lnI r + 1).toNat from Nat.zero_le _⟩
     | exact ⟨show (lnI r + 1).toNat ≤ r.size by omega⟩
     | exact ⟨rfl⟩
     | exact ⟨o1⟩
     | exact ⟨o2⟩
     | exact ⟨o3⟩
     | exact ⟨hxs⟩
     | exact ⟨show 0 ≤ (0 : Int) ∧ (0 : Int) < ((wdT (trA (lnA r))).length : Int) by omega⟩
     | exact ⟨show 0 + Int.toNat (0 : Int) < (wdT (trA (lnA r))).length by omega⟩
     | exact ⟨show 0 ≤ (0 : Int) ∧ (0 : Int) < (ns.length : Int) by omega⟩
     | exact ⟨show 0 + Int.toNat (0 : Int) < ns.length by omega⟩
     | exact ⟨show 0 ≤ (1 : Int) ∧ (1 : Int) < (ns.length : Int) by omega⟩
     | exact ⟨show 0 + Int.toNat (1 : Int) < ns.length by omega⟩
     | exact ⟨show 0 ≤ (2 : Int) ∧ (2 : Int) < (ns.length : Int) by omega⟩
     | exact ⟨show 0 + Int.toNat (2 : Int) < ns.length by omega⟩
     | exact ⟨show (t.2.length + 1) * 3 ≤ 1099511627776 by omega⟩
     | exact ⟨show t.2.length ≤ 1000000 by omega⟩
     | (refine resW.base ⟨_,[],hK,trivial,rfl,?_⟩;(repeat' ((conv => whnf);(first | apply And.intro | intro _)));all_goals first | rfl | trivial)
     | exact ⟨Nat.zero_add _⟩
     | exact ⟨show (ns.length + 1) * 1 ≤ 1099511627776 by omega⟩
     | exact ⟨show 0 ≤ (i : Int) ∧ (i : Int) < (((wdT (trA (lnA r))).length - 1 : Nat) : Int) by omega⟩
     | exact ⟨show 1 + Int.toNat (i : Int) < (wdT (trA (lnA r))).length by omega⟩
     | exact ⟨show 1 ≤ (wdT _).length by omega⟩
     | exact ⟨Nat.zero_add _⟩
     | exact hK
     | (apply Ob.mk;show (inRQ .i64 _).p;simp only [inRQ,inR,Duty.of_p];omega)
    refine ⟨(rsA r,(t.1,t.2 ++ [(g3 ns 0,g3 ns 1,g3 ns 2)])),[0,1,2,3,4,5],⟨⟨f,by show (rsA r).size ≤ f;have:=hls.2;omega,hfo2⟩,hlen2⟩,?_,hls.2⟩
    repeat' ((conv => whnf);(first | apply And.intro | intro _))
    all_goals first | rfl | trivial | exact leb9 rfl | exact mem9 ‹_› rfl | exact men9 ‹_› rfl | ((repeat' first | rfl | constructor);done) | exact i0 | exact i1 | exact i0.symm | exact i1.symm | exact hwl | exact ⟨rfl,rfl,hw3⟩
   obtain a2 | a2 : ((ns.length : Int) == 1) = false ∨ ((ns.length : Int) == 1) = true:=by cases ((ns.length : Int) == 1) <;> simp
   ·have a3 : (((strA (wdT (trA (lnA r))) (0 + Int.toNat (0 : Int))).toList == no1.toList) && decide (ns.length = 1)) = false:=by rw [decide_eq_false (fun h => by rw [h] at a2;cases a2),Bool.and_false]
    obtain b1 | b1 : ((strA (wdT (trA (lnA r))) (0 + Int.toNat (0 : Int))).toList == ({ data:=#[108,105,110,107] } : ByteArray).toList) = false ∨ ((strA (wdT (trA (lnA r))) (0 + Int.toNat (0 : Int))).toList == ({ data:=#[108,105,110,107] } : ByteArray).toList) = true:=by cases ((strA (wdT (trA (lnA r))) (0 + Int.toNat (0 : Int))).toList == ({ data:=#[108,105,110,107] } : ByteArray).toList) <;> simp
    ·have hfn : foldT s.size s (0,[]) = none:=by rw [hfo,hst,hstW];unfold stW;rw [h0,a3];dsimp only;rw [show ((strA (wdT (trA (lnA r))) (0 + Int.toNat (0 : Int))).toList == li1.toList) = false from b1];rfl
     have hb : pB s = false:=no_of hfn
     rw [hb] at hK
     dsimp only [noSy] at hK
     repeat' ((conv => whnf);first | apply And.intro | (intro h9;try (have h8 : (_ : Bool) = _:=h9;clear h8;revert h9;subst_vars;intro h9;exact bon9 h9 (by assumption))))
     all_goals try (conv => whnf)
     all_goals try first | (apply Tk.mk <;> kernel_rfl) | exact ⟨leb9 rfl⟩ | exact ⟨rfl⟩ | exact ⟨trivial⟩
     all_goals subst_vars
     all_goals try first | rfl | contradiction | (apply Ob.mk;first | (simp only [inRQ,inR,Duty.of_p];omega) | ((try simp only [Duty.of_p]);(try dsimp only);omega))
     all_goals first
      | trivial
      | exact True.intro
      | exact ⟨show 0 ≤ (lnI r + 1).toNat from Nat.zero_le _⟩
      | exact ⟨show (lnI r + 1).toNat ≤ r.size by omega⟩
      | exact ⟨rfl⟩
      | exact ⟨o1⟩
      | exact ⟨o2⟩
      | exact ⟨o3⟩
      | exact ⟨hxs⟩
      | exact ⟨show 0 ≤ (0 : Int) ∧ (0 : Int) < ((wdT (trA (lnA r))).length : Int) by omega⟩
      | exact ⟨show 0 + Int.toNat (0 : Int) < (wdT (trA (lnA r))).length by omega⟩
      | exact ⟨show 0 ≤ (0 : Int) ∧ (0 : Int) < (ns.length : Int) by omega⟩
      | exact ⟨show 0 + Int.toNat (0 : Int) < ns.length by omega⟩
      | exact ⟨show 0 ≤ (1 : Int) ∧ (1 : Int) < (ns.length : Int) by omega⟩
      | exact ⟨show 0 + Int.toNat (1 : Int) < ns.length by omega⟩
      | exact ⟨show 0 ≤ (2 : Int) ∧ (2 : Int) < (ns.length : Int) by omega⟩
      | exact ⟨show 0 + Int.toNat (2 : Int) < ns.length by omega⟩
      | exact ⟨show (t.2.length + 1) * 3 ≤ 1099511627776 by omega⟩
      | exact ⟨show t.2.length ≤ 1000000 by omega⟩
      | (refine resW.base ⟨_,[],hK,trivial,rfl,?_⟩;(repeat' ((conv => whnf);(first | apply And.intro | intro _)));all_goals first | rfl | trivial)
      | exact ⟨Nat.zero_add _⟩
      | exact ⟨show (ns.length + 1) * 1 ≤ 1099511627776 by omega⟩
      | exact ⟨show 0 ≤ (i : Int) ∧ (i : Int) < (((wdT (trA (lnA r))).length - 1 : Nat) : Int) by omega⟩
      | exact ⟨show 1 + Int.toNat (i : Int) < (wdT (trA (lnA r))).length by omega⟩
      | exact ⟨show 1 ≤ (wdT _).length by omega⟩
      | exact ⟨Nat.zero_add _⟩
      | exact hK
      | (apply Ob.mk;show (inRQ .i64 _).p;simp only [inRQ,inR,Duty.of_p];omega)
    obtain b2 | b2 : ((ns.length : Int) == 3) = false ∨ ((ns.length : Int) == 3) = true:=by cases ((ns.length : Int) == 3) <;> simp
    ·have b3 : decide (ns.length = 3) = false:=decide_eq_false (fun h => by rw [h] at b2;cases b2)
     have hfn : foldT s.size s (0,[]) = none:=by rw [hfo,hst,hstW];unfold stW;rw [h0,a3];dsimp only;rw [b3,Bool.false_and,Bool.and_false]
     have hb : pB s = false:=no_of hfn
     rw [hb] at hK
     dsimp only [noSy] at hK
     repeat' ((conv => whnf);first | apply And.intro | (intro h9;try (have h8 : (_ : Bool) = _:=h9;clear h8;revert h9;subst_vars;intro h9;exact bon9 h9 (by assumption))))
     all_goals try (conv => whnf)
     all_goals try first | (apply Tk.mk <;> kernel_rfl) | exact ⟨leb9 rfl⟩ | exact ⟨rfl⟩ | exact ⟨trivial⟩
     all_goals subst_vars
     all_goals try first | rfl | contradiction | (apply Ob.mk;first | (simp only [inRQ,inR,Duty.of_p];omega) | ((try simp only [Duty.of_p]);(try dsimp only);omega))
     all_goals first
      | trivial
      | exact True.intro
      | exact ⟨show 0 ≤ (lnI r + 1).toNat from Nat.zero_le _⟩
      | exact ⟨show (lnI r + 1).toNat ≤ r.size by omega⟩
      | exact ⟨rfl⟩
      | exact ⟨o1⟩
      | exact ⟨o2⟩
      | exact ⟨o3⟩
      | exact ⟨hxs⟩
      | exact ⟨show 0 ≤ (0 : Int) ∧ (0 : Int) < ((wdT (trA (lnA r))).length : Int) by omega⟩
      | exact ⟨show 0 + Int.toNat (0 : Int) < (wdT (trA (lnA r))).length by omega⟩
      | exact ⟨show 0 ≤ (0 : Int) ∧ (0 : Int) < (ns.length : Int) by omega⟩
      | exact ⟨show 0 + Int.toNat (0 : Int) < ns.length by omega⟩
      | exact ⟨show 0 ≤ (1 : Int) ∧ (1 : Int) < (ns.length : Int) by omega⟩
      | exact ⟨show 0 + Int.toNat (1 : Int) < ns.length by omega⟩
      | exact ⟨show 0 ≤ (2 : Int) ∧ (2 : Int) < (ns.length : Int) by omega⟩
      | exact ⟨show 0 + Int.toNat (2 : Int) < ns.length by omega⟩
      | exact ⟨show (t.2.length + 1) * 3 ≤ 1099511627776 by omega⟩
      | exact ⟨show t.2.length ≤ 1000000 by omega⟩
      | (refine resW.base ⟨_,[],hK,trivial,rfl,?_⟩;(repeat' ((conv => whnf);(first | apply And.intro | intro _)));all_goals first | rfl | trivial)
      | exact ⟨Nat.zero_add _⟩
      | exact ⟨show (ns.length + 1) * 1 ≤ 1099511627776 by omega⟩
      | exact ⟨show 0 ≤ (i : Int) ∧ (i : Int) < (((wdT (trA (lnA r))).length - 1 : Nat) : Int) by omega⟩
      | exact ⟨show 1 + Int.toNat (i : Int) < (wdT (trA (lnA r))).length by omega⟩
      | exact ⟨show 1 ≤ (wdT _).length by omega⟩
      | exact ⟨Nat.zero_add _⟩
      | exact hK
      | (apply Ob.mk;show (inRQ .i64 _).p;simp only [inRQ,inR,Duty.of_p];omega)
    obtain d2 | d2 : decide ((t.2.length : Int) ≤ 300) = false ∨ decide ((t.2.length : Int) ≤ 300) = true:=by cases decide ((t.2.length : Int) ≤ 300) <;> simp
    ·have d3 : decide (t.2.length ≤ 300) = false:=decide_eq_false (fun h => by have:=of_decide_eq_false d2;omega)
     have hfn : foldT s.size s (0,[]) = none:=by rw [hfo,hst,hstW];unfold stW;rw [h0,a3];dsimp only;rw [d3,Bool.and_false,Bool.and_false]
     have hb : pB s = false:=no_of hfn
     rw [hb] at hK
     dsimp only [noSy] at hK
     repeat' ((conv => whnf);first | apply And.intro | (intro h9;try (have h8 : (_ : Bool) = _:=h9;clear h8;revert h9;subst_vars;intro h9;exact bon9 h9 (by assumption))))
     all_goals try (conv => whnf)
     all_goals try first | (apply Tk.mk <;> kernel_rfl) | exact ⟨leb9 rfl⟩ | exact ⟨rfl⟩ | exact ⟨trivial⟩
     all_goals subst_vars
     all_goals try first | rfl | contradiction | (apply Ob.mk;first | (simp only [inRQ,inR,Duty.of_p];omega) | ((try simp only [Duty.of_p]);(try dsimp only);omega))
     all_goals first
      | trivial
      | exact True.intro
      | exact ⟨show 0 ≤ (lnI r + 1).toNat from Nat.zero_le _⟩
      | exact ⟨show (lnI r + 1).toNat ≤ r.size by omega⟩
      | exact ⟨rfl⟩
      | exact ⟨o1⟩
      | exact ⟨o2⟩
      | exact ⟨o3⟩
      | exact ⟨hxs⟩
      | exact ⟨show 0 ≤ (0 : Int) ∧ (0 : Int) < ((wdT (trA (lnA r))).length : Int) by omega⟩
      | exact ⟨show 0 + Int.toNat (0 : Int) < (wdT (trA (lnA r))).length by omega⟩
      | exact ⟨show 0 ≤ (0 : Int) ∧ (0 : Int) < (ns.length : Int) by omega⟩
      | exact ⟨show 0 + Int.toNat (0 : Int) < ns.length by omega⟩
      | exact ⟨show 0 ≤ (1 : Int) ∧ (1 : Int) < (ns.length : Int) by omega⟩
      | exact ⟨show 0 + Int.toNat (1 : Int) < ns.length by omega⟩
      | exact ⟨show 0 ≤ (2 : Int) ∧ (2 : Int) < (ns.length : Int) by omega⟩
      | exact ⟨show 0 + Int.toNat (2 : Int) < ns.length by omega⟩
      | exact ⟨show (t.2.length + 1) * 3 ≤ 1099511627776 by omega⟩
      | exact ⟨show t.2.length ≤ 1000000 by omega⟩
      | (refine resW.base ⟨_,[],hK,trivial,rfl,?_⟩;(repeat' ((conv => whnf);(first | apply And.intro | intro _)));all_goals first | rfl | trivial)
      | exact ⟨Nat.zero_add _⟩
      | exact ⟨show (ns.length + 1) * 1 ≤ 1099511627776 by omega⟩
      | exact ⟨show 0 ≤ (i : Int) ∧ (i : Int) < (((wdT (trA (lnA r))).length - 1 : Nat) : Int) by omega⟩
      | exact ⟨show 1 + Int.toNat (i : Int) < (wdT (trA (lnA r))).length by omega⟩
      | exact ⟨show 1 ≤ (wdT _).length by omega⟩
      | exact ⟨Nat.zero_add _⟩
      | exact hK
      | (apply Ob.mk;show (inRQ .i64 _).p;simp only [inRQ,inR,Duty.of_p];omega)
    have b4 : ns.length = 3:=by have:=eq_of_beq b2;omega
    have b3 : decide (ns.length = 3) = true:=decide_eq_true b4
    have d4 : t.2.length ≤ 300:=by have:=of_decide_eq_true d2;omega
    have d3 : decide (t.2.length ≤ 300) = true:=decide_eq_true d4
    have hsw : stW t (hdW (wdT (trA (lnA r)))) ns = some (t.1,t.2 ++ [(g3 ns 0,g3 ns 1,g3 ns 2)]):=by unfold stW;rw [h0,a3];dsimp only;rw [b3,d3,Bool.and_self,Bool.and_true,show ((strA (wdT (trA (lnA r))) (0 + Int.toNat (0 : Int))).toList == li1.toList) = true from b1]
    have hfo2 : foldT s.size s (0,[]) = foldT f (rsA r) (t.1,t.2 ++ [(g3 ns 0,g3 ns 1,g3 ns 2)]):=by rw [hfo,hst,hstW,hsw]
    have hlen2 : (t.2 ++ [(g3 ns 0,g3 ns 1,g3 ns 2)]).length + (rsA r).size ≤ s.size:=by rw [List.length_append,List.length_singleton];omega
    have hwl : t.2.length + 1 = (t.2 ++ [(g3 ns 0,g3 ns 1,g3 ns 2)]).length:=by rw [List.length_append,List.length_singleton]
    have hw3 : t.2 ++ [((intA ns 0,intA ns 1,intA ns 2) : Lk)] = t.2 ++ [(g3 ns 0,g3 ns 1,g3 ns 2)]:=by rw [i0,i1,i2]
    repeat' ((conv => whnf);first | apply And.intro | (intro h9;try (have h8 : (_ : Bool) = _:=h9;clear h8;revert h9;subst_vars;intro h9;exact bon9 h9 (by assumption))))
    all_goals try (conv => whnf)
    all_goals try first | (apply Tk.mk <;> kernel_rfl) | exact ⟨leb9 rfl⟩ | exact ⟨rfl⟩ | exact ⟨trivial⟩
    all_goals subst_vars
    all_goals try first | rfl | contradiction | (apply Ob.mk;first | (simp only [inRQ,inR,Duty.of_p];omega) | ((try simp only [Duty.of_p]);(try dsimp only);omega))
    all_goals try first
     | exact True.intro
     | exact ⟨show 0 ≤ (lnI r + 1).toNat from Nat.zero_le _⟩
     | exact ⟨show (lnI r + 1).toNat ≤ r.size by omega⟩
     | exact ⟨rfl⟩
     | exact ⟨o1⟩
     | exact ⟨o2⟩
     | exact ⟨o3⟩
     | exact ⟨hxs⟩
     | exact ⟨show 0 ≤ (0 : Int) ∧ (0 : Int) < ((wdT (trA (lnA r))).length : Int) by omega⟩
     | exact ⟨show 0 + Int.toNat (0 : Int) < (wdT (trA (lnA r))).length by omega⟩
     | exact ⟨show 0 ≤ (0 : Int) ∧ (0 : Int) < (ns.length : Int) by omega⟩
     | exact ⟨show 0 + Int.toNat (0 : Int) < ns.length by omega⟩
     | exact ⟨show 0 ≤ (1 : Int) ∧ (1 : Int) < (ns.length : Int) by omega⟩
     | exact ⟨show 0 + Int.toNat (1 : Int) < ns.length by omega⟩
     | exact ⟨show 0 ≤ (2 : Int) ∧ (2 : Int) < (ns.length : Int) by omega⟩
     | exact ⟨show 0 + Int.toNat (2 : Int) < ns.length by omega⟩
     | exact ⟨show (t.2.length + 1) * 3 ≤ 1099511627776 by omega⟩
     | exact ⟨show t.2.length ≤ 1000000 by omega⟩
     | (refine resW.base ⟨_,[],hK,trivial,rfl,?_⟩;(repeat' ((conv => whnf);(first | apply And.intro | intro _)));all_goals first | rfl | trivial)
     | exact ⟨Nat.zero_add _⟩
     | exact ⟨show (ns.length + 1) * 1 ≤ 1099511627776 by omega⟩
     | exact ⟨show 0 ≤ (i : Int) ∧ (i : Int) < (((wdT (trA (lnA r))).length - 1 : Nat) : Int) by omega⟩
     | exact ⟨show 1 + Int.toNat (i : Int) < (wdT (trA (lnA r))).length by omega⟩
     | exact ⟨show 1 ≤ (wdT _).length by omega⟩
     | exact ⟨Nat.zero_add _⟩
     | exact hK
     | (apply Ob.mk;show (inRQ .i64 _).p;simp only [inRQ,inR,Duty.of_p];omega)
    refine ⟨(rsA r,(t.1,t.2 ++ [(g3 ns 0,g3 ns 1,g3 ns 2)])),[0,1,2,3,4,5],⟨⟨f,by show (rsA r).size ≤ f;have:=hls.2;omega,hfo2⟩,hlen2⟩,?_,hls.2⟩
    repeat' ((conv => whnf);(first | apply And.intro | intro _))
    all_goals first | rfl | trivial | exact leb9 rfl | exact mem9 ‹_› rfl | exact men9 ‹_› rfl | ((repeat' first | rfl | constructor);done) | exact i0 | exact i1 | exact i0.symm | exact i1.symm | exact hwl | exact ⟨rfl,rfl,hw3⟩
   have b4 : ns.length = 1:=by have:=eq_of_beq a2;omega
   have hsw : stW t (hdW (wdT (trA (lnA r)))) ns = some (g3 ns 0,t.2):=by unfold stW;rw [h0,decide_eq_true b4,Bool.and_true,show ((strA (wdT (trA (lnA r))) (0 + Int.toNat (0 : Int))).toList == no1.toList) = true from a1]
   have hfo2 : foldT s.size s (0,[]) = foldT f (rsA r) (g3 ns 0,t.2):=by rw [hfo,hst,hstW,hsw]
   have hlen2 : t.2.length + (rsA r).size ≤ s.size:=by omega
   repeat' ((conv => whnf);first | apply And.intro | (intro h9;try (have h8 : (_ : Bool) = _:=h9;clear h8;revert h9;subst_vars;intro h9;exact bon9 h9 (by assumption))))
   all_goals try (conv => whnf)
   all_goals try first | (apply Tk.mk <;> kernel_rfl) | exact ⟨leb9 rfl⟩ | exact ⟨rfl⟩ | exact ⟨trivial⟩
   all_goals subst_vars
   all_goals try first | rfl | contradiction | (apply Ob.mk;first | (simp only [inRQ,inR,Duty.of_p];omega) | ((try simp only [Duty.of_p]);(try dsimp only);omega))
   all_goals try first
    | exact True.intro
    | exact ⟨show 0 ≤ (lnI r + 1).toNat from Nat.zero_le _⟩
    | exact ⟨show (lnI r + 1).toNat ≤ r.size by omega⟩
    | exact ⟨rfl⟩
    | exact ⟨o1⟩
    | exact ⟨o2⟩
    | exact ⟨o3⟩
    | exact ⟨hxs⟩
    | exact ⟨show 0 ≤ (0 : Int) ∧ (0 : Int) < ((wdT (trA (lnA r))).length : Int) by omega⟩
    | exact ⟨show 0 + Int.toNat (0 : Int) < (wdT (trA (lnA r))).length by omega⟩
    | exact ⟨show 0 ≤ (0 : Int) ∧ (0 : Int) < (ns.length : Int) by omega⟩
    | exact ⟨show 0 + Int.toNat (0 : Int) < ns.length by omega⟩
    | exact ⟨show 0 ≤ (1 : Int) ∧ (1 : Int) < (ns.length : Int) by omega⟩
    | exact ⟨show 0 + Int.toNat (1 : Int) < ns.length by omega⟩
    | exact ⟨show 0 ≤ (2 : Int) ∧ (2 : Int) < (ns.length : Int) by omega⟩
    | exact ⟨show 0 + Int.toNat (2 : Int) < ns.length by omega⟩
    | exact ⟨show (t.2.length + 1) * 3 ≤ 1099511627776 by omega⟩
    | exact ⟨show t.2.length ≤ 1000000 by omega⟩
    | (refine resW.base ⟨_,[],hK,trivial,rfl,?_⟩;(repeat' ((conv => whnf);(first | apply And.intro | intro _)));all_goals first | rfl | trivial)
    | exact ⟨Nat.zero_add _⟩
    | exact ⟨show (ns.length + 1) * 1 ≤ 1099511627776 by omega⟩
    | exact ⟨show 0 ≤ (i : Int) ∧ (i : Int) < (((wdT (trA (lnA r))).length - 1 : Nat) : Int) by omega⟩
    | exact ⟨show 1 + Int.toNat (i : Int) < (wdT (trA (lnA r))).length by omega⟩
    | exact ⟨show 1 ≤ (wdT _).length by omega⟩
    | exact ⟨Nat.zero_add _⟩
    | exact hK
    | (apply Ob.mk;show (inRQ .i64 _).p;simp only [inRQ,inR,Duty.of_p];omega)
   all_goals
    refine ⟨(rsA r,(g3 ns 0,t.2)),[0,1,2,3,4,5],⟨⟨f,by show (rsA r).size ≤ f;have:=hls.2;omega,hfo2⟩,hlen2⟩,?_,hls.2⟩
    repeat' ((conv => whnf);(first | apply And.intro | intro _))
    all_goals first | rfl | trivial | exact leb9 rfl | exact mem9 ‹_› rfl | exact men9 ‹_› rfl | ((repeat' first | rfl | constructor);done) | exact i0 | exact i0.symm
 have p0 : decide ((r.size : Int) > 0) = false:=decide_eq_false (by omega)
 have hfin : foldT s.size s (0,[]) = some t:=by
  rw [hfo]
  cases f with
  | zero => rfl
  | succ f => rw [foldT,p0]
 have hun : pB s = true → pRd s = t:=fun h => by
  have:=isTx_fold (pB_iff.1 h) (Nat.le_refl _)
  rw [hfin] at this;exact (Option.some.inj this).symm
 obtain c1 | c1 : ((checkF t.1 t.2).1 == 0) = false ∨ ((checkF t.1 t.2).1 == 0) = true:=by cases ((checkF t.1 t.2).1 == 0) <;> simp
 ·have c2 : ((checkF t.1 t.2).1 != 0) = true:=by unfold bne;rw [c1];rfl
  have hb : pB s = false:=by
   cases hb : pB s with
   | false => rfl
   | true => have h1:=(pB_iff.1 hb).1;rw [hun hb] at h1;rw [h1] at c1;cases c1
  rw [hb] at hK
  dsimp only [noSy] at hK
  repeat' ((conv => whnf);first | apply And.intro | (intro h9;try (have h8 : (_ : Bool) = _:=h9;clear h8;revert h9;subst_vars;intro h9;exact bon9 h9 (by assumption))))
  all_goals try (conv => whnf)
  all_goals try first | (apply Tk.mk <;> kernel_rfl) | exact ⟨leb9 rfl⟩ | exact ⟨rfl⟩ | exact ⟨trivial⟩
  all_goals subst_vars
  all_goals try first | rfl | contradiction | (apply Ob.mk;first | (simp only [inRQ,inR,Duty.of_p];omega) | ((try simp only [Duty.of_p]);(try dsimp only);omega))
  all_goals first
   | trivial
   | exact True.intro
   | exact ⟨show 0 ≤ (lnI r + 1).toNat from Nat.zero_le _⟩
   | exact ⟨show (lnI r + 1).toNat ≤ r.size by omega⟩
   | exact ⟨rfl⟩
   | exact ⟨o1⟩
   | exact ⟨o2⟩
   | exact ⟨o3⟩
   | exact ⟨hxs⟩
   | exact ⟨show 0 ≤ (0 : Int) ∧ (0 : Int) < ((wdT (trA (lnA r))).length : Int) by omega⟩
   | exact ⟨show 0 + Int.toNat (0 : Int) < (wdT (trA (lnA r))).length by omega⟩
   | exact ⟨show 0 ≤ (0 : Int) ∧ (0 : Int) < (ns.length : Int) by omega⟩
   | exact ⟨show 0 + Int.toNat (0 : Int) < ns.length by omega⟩
   | exact ⟨show 0 ≤ (1 : Int) ∧ (1 : Int) < (ns.length : Int) by omega⟩
   | exact ⟨show 0 + Int.toNat (1 : Int) < ns.length by omega⟩
   | exact ⟨show 0 ≤ (2 : Int) ∧ (2 : Int) < (ns.length : Int) by omega⟩
   | exact ⟨show 0 + Int.toNat (2 : Int) < ns.length by omega⟩
   | exact ⟨show (t.2.length + 1) * 3 ≤ 1099511627776 by omega⟩
   | exact ⟨show t.2.length ≤ 1000000 by omega⟩
   | (refine resW.base ⟨_,[],hK,trivial,rfl,?_⟩;(repeat' ((conv => whnf);(first | apply And.intro | intro _)));all_goals first | rfl | trivial)
   | exact ⟨Nat.zero_add _⟩
   | exact ⟨show (ns.length + 1) * 1 ≤ 1099511627776 by omega⟩
   | exact ⟨show 0 ≤ (i : Int) ∧ (i : Int) < (((wdT (trA (lnA r))).length - 1 : Nat) : Int) by omega⟩
   | exact ⟨show 1 + Int.toNat (i : Int) < (wdT (trA (lnA r))).length by omega⟩
   | exact ⟨show 1 ≤ (wdT _).length by omega⟩
   | exact ⟨Nat.zero_add _⟩
   | exact hK
   | (apply Ob.mk;show (inRQ .i64 _).p;simp only [inRQ,inR,Duty.of_p];omega)
 have c2 : ((checkF t.1 t.2).1 != 0) = false:=by unfold bne;rw [c1];rfl
 have hpf : prF t.1 t.2 = bA (txT t.1 t.2):=by unfold prF;rw [c1]
 obtain d1 | d1 : ((prF t.1 t.2).toList == s.toList) = false ∨ ((prF t.1 t.2).toList == s.toList) = true:=by cases ((prF t.1 t.2).toList == s.toList) <;> simp
 ·have d2 : (!((prF t.1 t.2).toList == s.toList)) = true:=by rw [d1];rfl
  have hb : pB s = false:=by
   cases hb : pB s with
   | false => rfl
   | true => have h1:=(pB_iff.1 hb).2;rw [hun hb,← hpf] at h1;rw [← h1,beq_self_eq_true] at d1;cases d1
  rw [hb] at hK
  dsimp only [noSy] at hK
  clear hpf
  repeat' ((conv => whnf);first | apply And.intro | (intro h9;try (have h8 : (_ : Bool) = _:=h9;clear h8;revert h9;subst_vars;intro h9;exact bon9 h9 (by assumption))))
  all_goals try (conv => whnf)
  all_goals try first | (apply Tk.mk <;> kernel_rfl) | exact ⟨leb9 rfl⟩ | exact ⟨rfl⟩ | exact ⟨trivial⟩
  all_goals subst_vars
  all_goals try first | rfl | contradiction | (apply Ob.mk;first | (simp only [inRQ,inR,Duty.of_p];omega) | ((try simp only [Duty.of_p]);(try dsimp only);omega))
  all_goals first
   | trivial
   | exact True.intro
   | exact ⟨show 0 ≤ (lnI r + 1).toNat from Nat.zero_le _⟩
   | exact ⟨show (lnI r + 1).toNat ≤ r.size by omega⟩
   | exact ⟨rfl⟩
   | exact ⟨o1⟩
   | exact ⟨o2⟩
   | exact ⟨o3⟩
   | exact ⟨hxs⟩
   | exact ⟨show 0 ≤ (0 : Int) ∧ (0 : Int) < ((wdT (trA (lnA r))).length : Int) by omega⟩
   | exact ⟨show 0 + Int.toNat (0 : Int) < (wdT (trA (lnA r))).length by omega⟩
   | exact ⟨show 0 ≤ (0 : Int) ∧ (0 : Int) < (ns.length : Int) by omega⟩
   | exact ⟨show 0 + Int.toNat (0 : Int) < ns.length by omega⟩
   | exact ⟨show 0 ≤ (1 : Int) ∧ (1 : Int) < (ns.length : Int) by omega⟩
   | exact ⟨show 0 + Int.toNat (1 : Int) < ns.length by omega⟩
   | exact ⟨show 0 ≤ (2 : Int) ∧ (2 : Int) < (ns.length : Int) by omega⟩
   | exact ⟨show 0 + Int.toNat (2 : Int) < ns.length by omega⟩
   | exact ⟨show (t.2.length + 1) * 3 ≤ 1099511627776 by omega⟩
   | exact ⟨show t.2.length ≤ 1000000 by omega⟩
   | (refine resW.base ⟨_,[],hK,trivial,rfl,?_⟩;(repeat' ((conv => whnf);(first | apply And.intro | intro _)));all_goals first | rfl | trivial)
   | exact ⟨Nat.zero_add _⟩
   | exact ⟨show (ns.length + 1) * 1 ≤ 1099511627776 by omega⟩
   | exact ⟨show 0 ≤ (i : Int) ∧ (i : Int) < (((wdT (trA (lnA r))).length - 1 : Nat) : Int) by omega⟩
   | exact ⟨show 1 + Int.toNat (i : Int) < (wdT (trA (lnA r))).length by omega⟩
   | exact ⟨show 1 ≤ (wdT _).length by omega⟩
   | exact ⟨Nat.zero_add _⟩
   | exact hK
   | (apply Ob.mk;show (inRQ .i64 _).p;simp only [inRQ,inR,Duty.of_p];omega)
 have d2 : (!((prF t.1 t.2).toList == s.toList)) = false:=by rw [d1];rfl
 have hB:=isTx_B (s:=s) (t:=t) ⟨eq_of_beq c1,by
  rw [← hpf]
  refine (bA_ext ?_).symm
  rw [← ByteArray.toList_eq,← ByteArray.toList_eq]
  exact eq_of_beq d1⟩
 rw [hB.1,hB.2] at hK
 dsimp only [okSy] at hK
 clear hpf hB hun
 repeat' ((conv => whnf);first | apply And.intro | (intro h9;try (have h8 : (_ : Bool) = _:=h9;clear h8;revert h9;subst_vars;intro h9;exact bon9 h9 (by assumption))))
 all_goals try (conv => whnf)
 all_goals try first | (apply Tk.mk <;> kernel_rfl) | exact ⟨leb9 rfl⟩ | exact ⟨rfl⟩ | exact ⟨trivial⟩
 all_goals subst_vars
 all_goals try first | rfl | contradiction | (apply Ob.mk;first | (simp only [inRQ,inR,Duty.of_p];omega) | ((try simp only [Duty.of_p]);(try dsimp only);omega))
 all_goals try first
  | exact True.intro
  | exact ⟨show 0 ≤ (lnI r + 1).toNat from Nat.zero_le _⟩
  | exact ⟨show (lnI r + 1).toNat ≤ r.size by omega⟩
  | exact ⟨rfl⟩
  | exact ⟨o1⟩
  | exact ⟨o2⟩
  | exact ⟨o3⟩
  | exact ⟨hxs⟩
  | exact ⟨show 0 ≤ (0 : Int) ∧ (0 : Int) < ((wdT (trA (lnA r))).length : Int) by omega⟩
  | exact ⟨show 0 + Int.toNat (0 : Int) < (wdT (trA (lnA r))).length by omega⟩
  | exact ⟨show 0 ≤ (0 : Int) ∧ (0 : Int) < (ns.length : Int) by omega⟩
  | exact ⟨show 0 + Int.toNat (0 : Int) < ns.length by omega⟩
  | exact ⟨show 0 ≤ (1 : Int) ∧ (1 : Int) < (ns.length : Int) by omega⟩
  | exact ⟨show 0 + Int.toNat (1 : Int) < ns.length by omega⟩
  | exact ⟨show 0 ≤ (2 : Int) ∧ (2 : Int) < (ns.length : Int) by omega⟩
  | exact ⟨show 0 + Int.toNat (2 : Int) < ns.length by omega⟩
  | exact ⟨show (t.2.length + 1) * 3 ≤ 1099511627776 by omega⟩
  | exact ⟨show t.2.length ≤ 1000000 by omega⟩
  | (refine resW.base ⟨_,[],hK,trivial,rfl,?_⟩;(repeat' ((conv => whnf);(first | apply And.intro | intro _)));all_goals first | rfl | trivial)
  | exact ⟨Nat.zero_add _⟩
  | exact ⟨show (ns.length + 1) * 1 ≤ 1099511627776 by omega⟩
  | exact ⟨show 0 ≤ (i : Int) ∧ (i : Int) < (((wdT (trA (lnA r))).length - 1 : Nat) : Int) by omega⟩
  | exact ⟨show 1 + Int.toNat (i : Int) < (wdT (trA (lnA r))).length by omega⟩
  | exact ⟨show 1 ≤ (wdT _).length by omega⟩
  | exact ⟨Nat.zero_add _⟩
  | exact hK
  | (apply Ob.mk;show (inRQ .i64 _).p;simp only [inRQ,inR,Duty.of_p];omega)
 refine resW.base ⟨_,[5],hK,⟨rfl,rfl,by simp,trivial⟩,rfl,?_⟩
 repeat' ((conv => whnf);(first | apply And.intro | intro _))
 all_goals first | rfl | trivial)
end Go.Proofs.YtcmojakklijgfaaGreatDoor
end
