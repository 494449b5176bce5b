/-
  Texts of the claims: Yk4t. No condition: lemmas and contracts.
-/
import Derived.Test.YtcmojakklijgfaaGreatDoorYk3t
import Derived.Lib.Builder
import Derived.Lib.AppendStr
import Derived.WalkKit
import Derived.Laws.Externs
import Derived.KernelRfl
import Derived.Test.YtcmojakklijgfaaGreatDoorYk2t
import Derived.Test.YtcmojakklijgfaaGreatDoorPl1t
import Derived.Lib.SplitLaws
import Derived.Test.YtcmojakklijgfaaGreatDoorSy5t
import Derived.Lib.AppendIntMem
import Derived.Lib.ItoaLen
set_option linter.all false
set_option maxRecDepth 100000
set_option maxHeartbeats 4000000
section
namespace Go.Proofs.YtcmojakklijgfaaGreatDoor
open Go Go.RowKit
theorem bld_size : (Tryz.prog.info? 61).map (·.size) = some 2:=by kernel_rfl
theorem bld_lies : liesAt Tryz.prog Tryz.prog.depth 61 (2 / Tryz.prog.cellsOf 61) 0 61 1 = true:=by kernel_rfl
theorem byte_info : (Tryz.prog.info? 5).map (fun i => (i.zero,i.size,i.bytes)) = some (some (.int .u8 0),1,1):=by kernel_rfl
theorem copy_used (b : Nat) (w : World) (h0 : w.cell? ⟨b,0,none⟩ = some (.pointer (some ⟨b,0,none⟩))) :
  Calls Tryz.prog 53 #[.pointer (some ⟨b,0,none⟩)] w fun e w' => e = .returned (.tuple #[]) ∧ w' = w:=by
 obtain ⟨j,hj,_⟩:=Option.map_eq_some_iff.1 bld_size
 go_enter Tryz.func53,Tryz.ntmps53
 go_wp2
 rw [Lib.run_neq_ptr_same w _ Tryz.underlying58 hj]
 go_wp2
 go_end0
 exact ⟨rfl,rfl⟩
theorem copy_fresh (b : Nat) (w : World) (h0 : w.cell? ⟨b,0,none⟩ = some (.pointer none)) (hsh : w.shape? b = some (61,2)) (hfz : w.frozen? ⟨b,0,none⟩ = false) :
  Calls Tryz.prog 53 #[.pointer (some ⟨b,0,none⟩)] w fun e w' => e = .returned (.tuple #[]) ∧ w' = w.setCell ⟨b,0,none⟩ (.pointer (some ⟨b,0,none⟩)):=by
 obtain ⟨j,hj,hjs⟩:=Option.map_eq_some_iff.1 bld_size
 go_enter Tryz.func53,Tryz.ntmps53
 go_wp2
 rw [Lib.run_to_unsafe w ⟨b,0,none⟩ Tryz.underlying58 Tryz.underlying110 hj (by rw [hjs];decide) hsh (Nat.zero_lt_succ 1)]
 simp only [Result.andThen]
 rw [Oper.upon_value]
 go_wp2
 rw [run_callFunc_extern Tryz.func66 (by kernel_rfl) (by kernel_rfl) (by kernel_rfl) (e:=Extern.AbiNoEscape.same) (by kernel_rfl)]
 rw [Lib.run_noEscape]
 simp only [Result.andThen]
 rw [Oper.upon_value]
 go_wp2
 rw [Lib.run_from_unsafe w ⟨b,0,none⟩ Tryz.underlying110 Tryz.underlying58 hj hsh bld_lies]
 simp only [Result.andThen]
 rw [Oper.upon_value]
 go_wp2
 go_end0
 exact ⟨rfl,rfl⟩
theorem copy_at (B b : Nat) (bs : List Value) (w : World) (h : Lib.IsBuilder 61 5 B b bs w) :
  Calls Tryz.prog 53 #[.pointer (some ⟨b,0,none⟩)] w fun e w' => e = .returned (.tuple #[]) ∧ Lib.BuilderAt 61 5 B b (.pointer (some ⟨b,0,none⟩)) bs w' ∧ Below B w w':=by
 rcases h with h | h
 ·refine (copy_fresh b w h.cell0 h.shape h.frozen0).mono ?_
  rintro e w' ⟨rfl,rfl⟩
  exact ⟨rfl,h.used _,(Below.refl B w).setCell h.1 _⟩
 ·refine (copy_used b w h.cell0).mono ?_
  rintro e w' ⟨rfl,rfl⟩
  exact ⟨rfl,h,Below.refl B w'⟩
theorem write_at (B b : Nat) (bs : List Value) (s : ByteArray) (w : World) (h : Lib.IsBuilder 61 5 B b bs w) (hlen : bs.length + s.size ≤ 140737488355328) (hBw : B ≤ w.heap.size) :
  Calls Tryz.prog 26 #[.pointer (some ⟨b,0,none⟩),.string s] w fun e w' => e = .returned (.tuple #[.int .i64 s.size,.nilIface]) ∧ Lib.BuilderAt 61 5 B b (.pointer (some ⟨b,0,none⟩)) (bs ++ Lib.strCells s) w' ∧ Below B w w':=by
 obtain ⟨i0,hi,hi'⟩:=Option.map_eq_some_iff.1 byte_info
 have hz0 : i0.zero = some (.int .u8 0):=congrArg (·.1) hi'
 have hz1 : i0.size = 1:=congrArg (·.2.1) hi'
 have hz2 : i0.bytes = 1:=congrArg (·.2.2) hi'
 go_enter Tryz.func26,Tryz.ntmps26
 go_wp2_with (go_at_call 53;refine (copy_at B b bs _ h).mono ?_)
 rintro e w1 ⟨rfl,h1,hb1⟩
 obtain ⟨hB,v,hbk,hown,hne⟩:=h1
 have c0 : w1.cell? ⟨b,0,none⟩ = some (.pointer (some ⟨b,0,none⟩)):=by rw [Lib.cell_of_heap hbk];rfl
 have c1 : w1.cell? ⟨b,1,none⟩ = some v:=by rw [Lib.cell_of_heap hbk];rfl
 go_wp2_with (at_builtin;refine Lib.wpList_append_own_string _ rfl _ _ 59 9 rfl B 5 i0 Tryz.underlying59 Tryz.underlying9 hi hz0 hz1 hz2 _ _ _ rfl hown s rfl ?c3 ?c4 ?c5 ?_)
 case c3 => unfold maxLen;omega
 case c4 => omega
 case c5 => have:=hb1.size;omega
 intro v' w2 hown' hgrow _
 have hlt : b < w1.heap.size:=by
  rcases Nat.lt_or_ge b w1.heap.size with h' | h'
  ·exact h'
  ·simp [Array.getElem?_eq_none h'] at hbk
 have hb2 : w2.heap[b]? = some (.cells #[.pointer (some ⟨b,0,none⟩),v] 61 (0,0)):=by
  rw [hgrow.block b hlt (fun e => hne e.symm)]
  exact hbk
 have d0 : w2.cell? ⟨b,0,none⟩ = some (.pointer (some ⟨b,0,none⟩)):=by rw [Lib.cell_of_heap hb2];rfl
 have d1 : w2.cell? ⟨b,1,none⟩ = some v:=by rw [Lib.cell_of_heap hb2];rfl
 have f1 : w2.frozen? ⟨b,1,none⟩ = false:=Lib.frozen_of_heap hb2 1
 obtain ⟨ao,n',cap,rfl⟩ : ∃ ao n' cap,v' = .slice ao n' cap:=by
  rcases hown'.2 with ⟨hv,_⟩ | ⟨g,cap,cur,hv,_⟩
  ·exact ⟨_,_,_,hv⟩
  ·exact ⟨_,_,_,hv⟩
 go_wp2
 go_ret2
 refine ⟨rfl,?_,?_⟩
 ·exact Lib.BuilderAt.put (T:=61) (e:=5) hB hb2 (bs':=bs ++ Lib.strCells s) (by simpa [Lib.strCells_length] using hown') (by decide)
 ·exact (hb1.grown hgrow (by have:=hb1.size;omega) (fun k hk => (hown.lt k hk).1)).setCell (p:=⟨b,1,none⟩) hB _
end Go.Proofs.YtcmojakklijgfaaGreatDoor
end
section
namespace Go.Proofs.YtcmojakklijgfaaGreatDoor
open Go Go.Sy Go.Chn
variable {Γ : Glob}
def c79 (cc : Bool) : Ctr:=.new fun args rg K => match args with
 | [.a x] => (match lksOf rg x with | some (q,L) => oblige cc (q ++ [(Duty.of (L.length ≤ 1000000))]) (K ⟨[.arr 54 kL L true true],.a (.sl 0 [] 0 L.length)⟩) | none => False)
 | _ => False
theorem c79_ok (cc : Bool) : Ctr.Ok Tryz.prog Γ 47 (c79 cc):=Ctr.new_okW (d:=0) (prog_ok CsOk.nil BsOk.nil false 0) (body_of Tryz.func47 rfl rfl) (by
 intro args rg K hC
 split at hC
 next x =>
  split at hC
  next q L hx =>
   rw [oblige_iff,obl_append] at hC
   obtain ⟨⟨hq,hlen,_⟩,hK⟩:=hC
   simp only [Duty.of_p] at hlen
   obtain ⟨is,hp,hr⟩:=pas_lks hx hq
   refine ⟨is,[.a (.sl 0 [] 0 L.length)],[.arr 54 kL L false false],⟨⟨hp,trivial⟩,hr⟩,resW K,?_,fun x st h => h⟩
   clear hx hq hp hr
   repeat' ((conv => whnf);(first | apply And.intro | intro _))
   all_goals try (conv => whnf)
   ·have h0 : L = []:=by
     rcases Nat.eq_zero_or_pos L.length with h | h
     ·exact List.eq_nil_of_length_eq_zero h
     ·rename_i h1 h2;rw [h1 h] at h2;cases h2
    subst h0
    exact resW.void 54 kL (by simp [kL]) (.base ⟨_,[1],hK,⟨rfl,rfl,by simp,trivial⟩,rfl,rfl,rfl,rfl,rfl⟩)
   ·exact ⟨Nat.le_of_eq (Nat.zero_add _)⟩
   ·exact ⟨show L.length * 3 ≤ 1099511627776 by omega⟩
   ·rename_i ys hys
    obtain rfl : L = ys:=by rw [← hys];exact List.take_length.symm
    exact .base ⟨_,[1],hK,⟨rfl,rfl,by simp,trivial⟩,rfl,rfl,rfl,rfl,rfl⟩
  next => exact hC.elim
 next => exact hC.elim)
end Go.Proofs.YtcmojakklijgfaaGreatDoor
end
section
namespace Go.Proofs.YtcmojakklijgfaaGreatDoor
open Go Go.Sy Go.Chn
variable {Γ : Glob}
def withF (N : Int) (L M : List Lk) : (Int × List Lk) × Int :=
 if (checkF N L).1 ≠ 0 then ((0,[]),(checkF N L).1) else if (checkF N (L ++ M)).1 ≠ 0 then ((0,[]),(checkF N (L ++ M)).1) else ((N,L ++ M),0)
def t45 : OT:=(.take 0 (.take 2 (.take 5 (.alt 1 (.alt 3 (.alt 4 (.alt 6 (.alt 7 (.alt 8 (.alt 9 .fin .fin) .fin) (.alt 8 (.alt 7 (.alt 9 .fin .fin) .fin) .fin)) (.alt 8 (.alt 6 (.alt 7 (.alt 9 .fin .fin) .fin) .fin) .fin)) (.alt 8 (.alt 4 (.alt 6 (.alt 7 (.alt 9 .fin .fin) .fin) .fin) .fin) .fin)) (.alt 8 (.alt 3 (.alt 4 (.alt 6 (.alt 7 (.alt 9 .fin .fin) .fin) .fin) .fin) .fin) .fin)) (.alt 3 (.alt 1 (.alt 4 (.alt 6 (.alt 7 (.alt 8 (.alt 9 .fin .fin) .fin) (.alt 8 (.alt 7 (.alt 9 .fin .fin) .fin) .fin)) (.alt 8 (.alt 6 (.alt 7 (.alt 9 .fin .fin) .fin) .fin) .fin)) (.alt 8 (.alt 4 (.alt 6 (.alt 7 (.alt 9 .fin .fin) .fin) .fin) .fin) .fin)) (.alt 4 (.alt 1 (.alt 6 (.alt 7 (.alt 8 (.alt 9 .fin .fin) .fin) (.alt 8 (.alt 7 (.alt 9 .fin .fin) .fin) .fin)) (.alt 8 (.alt 6 (.alt 7 (.alt 9 .fin .fin) .fin) .fin) .fin)) (.alt 6 (.alt 1 (.alt 7 (.alt 8 (.alt 9 .fin .fin) .fin) (.alt 8 (.alt 7 (.alt 9 .fin .fin) .fin) .fin)) (.alt 8 (.alt 1 (.alt 7 (.alt 9 .fin .fin) .fin) .fin) .fin)) (.alt 8 (.alt 1 (.alt 6 (.alt 7 (.alt 9 .fin .fin) .fin) .fin) (.alt 6 (.alt 1 (.alt 7 (.alt 9 .fin .fin) .fin) .fin) .fin)) .fin))) (.alt 8 (.alt 1 (.alt 4 (.alt 6 (.alt 7 (.alt 9 .fin .fin) .fin) .fin) .fin) (.alt 4 (.alt 1 (.alt 6 (.alt 7 (.alt 9 .fin .fin) .fin) .fin) (.alt 6 (.alt 1 (.alt 7 (.alt 9 .fin .fin) .fin) .fin) .fin)) .fin)) .fin))) (.alt 8 (.alt 1 (.alt 3 (.alt 4 (.alt 6 (.alt 7 (.alt 9 .fin .fin) .fin) .fin) .fin) .fin) (.alt 3 (.alt 1 (.alt 4 (.alt 6 (.alt 7 (.alt 9 .fin .fin) .fin) .fin) .fin) (.alt 4 (.alt 1 (.alt 6 (.alt 7 (.alt 9 .fin .fin) .fin) .fin) (.alt 6 (.alt 1 (.alt 7 (.alt 9 .fin .fin) .fin) .fin) .fin)) .fin)) .fin)) .fin))))))
def L45 : List (Nat × Ctr):=[(25,c22),(47,c79 false)]
theorem L45_ok : CsOk Tryz.prog Γ L45:=(CsOk.nil.cons (body_of Tryz.func47 rfl rfl).fn (c79_ok _)).cons (body_of Tryz.func25 rfl rfl).fn c22_ok
noncomputable def e45 : Env:={ tabs.env L45 [] false 0 with tree:=fun id => match Nat.beq id 4 with | true => some t45 | false => none }
theorem e45_ok : ProgOk Tryz.prog Γ e45:=(prog_ok L45_ok BsOk.nil false 0).trees _
def sysR (N : Int) (L : List Lk) (r : List C1) : Res:=⟨[.arr 54 kL L true true],.tup (.agg [vI N,.sl 0 [] 0 L.length] :: r)⟩
def c45 (cc : Bool) : Ctr:=.new fun args rg K => match args with
 | [.agg [.v (.int .i64 N),x],.a y] => (match arrOf 54 kL rg x,arrOf 54 kL rg y with
    | some (q,L),some (q',M) => oblige cc (q ++ (q' ++ [(Duty.of (L.length ≤ 1000000)),(Duty.of (M.length ≤ 1000000))])) (K (sysR (withF N L M).1.1 (withF N L M).1.2 [.a (vI (withF N L M).2)]))
    | _,_ => False)
 | _ => False
theorem w45a {N : Int} {L : List Lk} (M : List Lk) (h : ((checkF N L).1 != 0) = true) : withF N L M = ((0,[]),(checkF N L).1):=by
 unfold withF;rw [if_pos (by simpa using h)]
theorem w45b {N : Int} {L M : List Lk} (h : ((checkF N L).1 != 0) = false) (h2 : ((checkF N (L ++ M)).1 != 0) = true) : withF N L M = ((0,[]),(checkF N (L ++ M)).1):=by
 unfold withF;rw [if_neg (by simpa using h),if_pos (by simpa using h2)]
theorem w45c {N : Int} {L M : List Lk} (h : ((checkF N L).1 != 0) = false) (h2 : ((checkF N (L ++ M)).1 != 0) = false) : withF N L M = ((N,L ++ M),0):=by
 unfold withF;rw [if_neg (by simpa using h),if_neg (by simpa using h2)]
theorem y45 {L M ys : List Lk} (h : List.drop 0 L ++ List.take M.length (List.drop 0 M) = ys) : ys = L ++ M:=by
 rw [← h,List.drop_zero,List.drop_zero,List.take_length]
theorem k45e {K : Res → Prop} {m : Int} {N : Int} {L M : List Lk} {x : Tm} {st : St} (h : withF N L M = ((0,[]),m)) (hK : K (sysR (withF N L M).1.1 (withF N L M).1.2 [.a (vI (withF N L M).2)]))
  (hx : x.mapA (At.vd st.rg.length) = .tup [.agg [vI 0,.sl st.rg.length [] 0 0],.a (vI m)]) : resW K x st:=by
 rw [h] at hK
 refine .void 54 kL (by simp [kL]) ?_
 rw [hx]
 refine .base ⟨_,[st.rg.length],hK,⟨?_,rfl,by simp,trivial⟩,rfl,?_⟩
 ·simp [St.push,List.getD];rfl
 ·exact ⟨⟨⟨rfl,rfl⟩,⟨rfl,rfl,rfl,rfl⟩,trivial⟩,⟨rfl,rfl⟩,trivial⟩
theorem k45c {K : Res → Prop} {N : Int} {L M : List Lk} {x : Tm} {st : St} {i : Nat} (h : withF N L M = ((N,L ++ M),0)) (hK : K (sysR (withF N L M).1.1 (withF N L M).1.2 [.a (vI (withF N L M).2)]))
  (hx : x = .tup [.agg [vI N,.sl i [] 0 (L.length + M.length)],.a (vI 0)]) (hi : st.rg.getD i .dead = .arr 54 kL (L ++ M) true true) : resW K x st:=by
 rw [h] at hK
 rw [← List.length_append] at hx
 subst hx
 refine .base ⟨_,[i],hK,⟨hi,rfl,by simp,trivial⟩,rfl,?_⟩
 exact ⟨⟨⟨rfl,rfl⟩,⟨rfl,rfl,rfl,rfl⟩,trivial⟩,⟨rfl,rfl⟩,trivial⟩
theorem c45_ok (cc : Bool) : Ctr.Ok Tryz.prog Γ 21 (c45 cc):=Ctr.new_okW (d:=0) e45_ok (body_of Tryz.func21 rfl rfl) (by
 intro args rg K hC
 split at hC
 next N x y =>
  split at hC
  next q L q' M hx hy =>
   rw [oblige_iff,obl_append,obl_append] at hC
   obtain ⟨⟨hq,hq',hl1,hl2,_⟩,hK⟩:=hC
   simp only [Duty.of_p] at hl1 hl2
   obtain ⟨e,he⟩:=pas_arr (by simp [kL]) hx hq
   obtain ⟨e',he'⟩:=pas_arr (by simp [kL]) hy hq'
   obtain ⟨p1,p2⟩:=he [e,e'] 0 2 rfl (by omega)
   obtain ⟨p3,p4⟩:=he' [e,e'] 1 2 rfl (by omega)
   refine ⟨[e,e'],[.agg [vI N,.sl 0 [] 0 L.length],.a (.sl 1 [] 0 M.length)],[.arr 54 kL L false false,.arr 54 kL M false false],⟨⟨⟨rfl,p1,trivial⟩,p3,trivial⟩,fun r g hg => ?_⟩,resW K,?_,fun x st h => h⟩
   ·match r,hg with
    | 0,hg => obtain rfl:=Option.some.inj hg;exact p2
    | 1,hg => obtain rfl:=Option.some.inj hg;exact p4
   ·clear hx hy hq hq' p1 p2 p3 p4 he he' e e' q q'
    repeat' ((conv => whnf);(first | apply And.intro | intro _))
    all_goals try (conv => whnf)
    all_goals try exact Tk.mk (by kernel_rfl)
    all_goals try first
     | trivial
     | exact ⟨rfl⟩
     | exact ⟨show L.length ≤ 1000000 from hl1⟩
     | exact ⟨show L.length ≤ 1099511627776 by omega⟩
     | exact ⟨Nat.le_of_eq (Nat.zero_add _)⟩
     | exact ⟨Nat.zero_add _⟩
     | exact ⟨show (L.length + M.length) * 3 ≤ 1099511627776 by omega⟩
    all_goals try (obtain rfl:=y45 ‹List.drop 0 L ++ List.take M.length (List.drop 0 M) = _›)
    all_goals try first
     | exact ⟨show (L ++ M).length ≤ 1099511627776 by rw [List.length_append];omega⟩
     | exact ⟨show L.length + M.length = (L ++ M).length by rw [List.length_append]⟩
    all_goals subst_vars
    all_goals first
     | exact k45e (w45a M (by assumption)) hK rfl
     | exact k45e (w45b (by assumption) (by assumption)) hK rfl
     | exact k45c (i:=4) (w45c (by assumption) (by assumption)) hK rfl rfl
     | exact k45c (i:=5) (w45c (by assumption) (by assumption)) hK rfl rfl
     | exact k45c (i:=4) (w45c (by assumption) (by assumption)) hK rfl rfl
  next => exact hC.elim
 next => exact hC.elim)
end Go.Proofs.YtcmojakklijgfaaGreatDoor
end
section
namespace Go.Proofs.YtcmojakklijgfaaGreatDoor
open Go Go.Sy Go.Chn
variable {Γ : Glob}
theorem csA_ok : CsOk Tryz.prog Γ csA:=((((((CsOk.nil.cons (body_of Tryz.func46 rfl rfl).fn c75p_ok).cons (body_of Tryz.func42 rfl rfl).fn c78_ok).cons (body_of Tryz.func48 rfl rfl).fn c67_ok).cons (body_of Tryz.func45 rfl rfl).fn c74_ok).cons (body_of Tryz.func37 rfl rfl).fn c72c_ok).cons (body_of Tryz.func44 rfl rfl).fn c65c_ok).cons (body_of Tryz.func25 rfl rfl).fn c22_ok
theorem bsA_ok : BsOk Tryz.prog bsA:=(((((((((((((((((((((((((BsOk.nil).cons (body_bo Tryz.func65 rfl rfl)).cons (body_bo Tryz.func81 rfl rfl)).cons (body_bo Tryz.func62 rfl rfl)).cons (body_bo Tryz.func43 rfl rfl)).cons (body_bo Tryz.func51 rfl rfl)).cons (body_bo Tryz.func50 rfl rfl)).cons (body_bo Tryz.func64 rfl rfl)).cons (body_bo Tryz.func47 rfl rfl)).cons (body_bo Tryz.func40 rfl rfl)).cons (body_bo Tryz.func39 rfl rfl)).cons (body_bo Tryz.func36 rfl rfl)).cons (body_bo Tryz.func38 rfl rfl)).cons (body_bo Tryz.func52 rfl rfl)).cons (body_bo Tryz.func13 rfl rfl)).cons (body_bo Tryz.func16 rfl rfl)).cons (body_bo Tryz.func24 rfl rfl)).cons (body_bo Tryz.func21 rfl rfl)).cons (body_bo Tryz.func15 rfl rfl)).cons (body_bo Tryz.func14 rfl rfl)).cons (body_bo Tryz.func19 rfl rfl)).cons (body_bo Tryz.func18 rfl rfl)).cons (body_bo Tryz.func23 rfl rfl)).cons (body_bo Tryz.func17 rfl rfl)).cons (body_bo Tryz.func22 rfl rfl)).cons (body_bo Tryz.func49 rfl rfl)
noncomputable def eA : Env:=tabs.env csA bsA true 100
theorem eA_ok : ProgOk Tryz.prog Γ eA:=prog_ok csA_ok bsA_ok true 100
def ord30 (id : Nat) : Option (List Nat):=match Nat.beq id 10 with | true => some [0,1,2,4,5,3,6,7,8] | false => none
noncomputable def e30 : Env:={ eA with ord:=ord30 }
theorem e30_ok : ProgOk Tryz.prog Γ e30:=eA_ok.ords ord30
noncomputable def q38 : Prop:=evTop eA 6 (bo Tryz.f14) [.agg [vI 4,.sl 0 [] 0 5],.a (vI 0),.a (vI 2)] [.arr 54 kL exL false false] (fun x _ => isT (tmB x (.tup [.a (vI 8),.a (vI 0)])))
noncomputable def q382 : Prop:=evTop eA 6 (bo Tryz.f14) [.agg [vI 4,.sl 0 [] 0 5],.a (vI 0),.a (vI 3)] [.arr 54 kL exL false false] (fun x _ => isT (tmB x (.tup [.a (vI 0),.a (vI 5)])))
noncomputable def q30 : Prop:=evTop e30 6 (bo Tryz.f17) [.agg [vI 4,.sl 0 [] 0 5],.a (vI 3)] [.arr 54 kL exL false false] (fun x _ => isT (tmB x (.tup [.a (vI 2),.a (vI 0)])))
def kS : List CK:=[.int .i64,.int .i64]
def exS : List (Tup kS):=[((0 : Int),(0 : Int)),((3 : Int),(5 : Int)),((6 : Int),(8 : Int)),((-1152921504606846976 : Int),(1152921504606846976 : Int))]
noncomputable def qS (E : Env) (fn : Func) (L : List Lk) (te : TypeId) (tg : List CK) (xs : List (Tup tg)) : Prop:=evTop E 6 (bo fn) [.agg [vI 4,.sl 0 [] 0 L.length]] [.arr 54 kL L false false] (fun x st => isT (slB te tg xs [.a (vI 0)] x st))
noncomputable def q52 (l : List Int) (e : Int) : Prop:=evTop eA 6 (bo Tryz.f24) [.agg [vI 4,.sl 0 [] 0 6],.a (.sl 1 [] 0 2)] [.arr 54 kL exL2 false false,.arr 3 kI l false false] (fun x st => isT (tmB x (.a (vI e))))
theorem run38 : q38:=of_eq_true (by kernel_rfl)
theorem run382 : q382:=of_eq_true (by kernel_rfl)
theorem run30 : q30:=of_eq_true (by kernel_rfl)
theorem run62 : qS eA Tryz.f16 exL 51 kS exS:=of_eq_true (by kernel_rfl)
theorem run32 : qS eA Tryz.f18 exL 3 kI [(2 : Int)]:=of_eq_true (by kernel_rfl)
theorem run33 : qS eA Tryz.f19 exL 3 kI [(0 : Int),(1 : Int),(3 : Int),(4 : Int)]:=of_eq_true (by kernel_rfl)
theorem run31 : qS eA Tryz.f23 exL2 3 kI [(0 : Int),(5 : Int)]:=of_eq_true (by kernel_rfl)
theorem run52 : q52 [(5 : Int),(0 : Int)] 0:=of_eq_true (by kernel_rfl)
theorem run522 : q52 [(0 : Int),(1 : Int)] 8:=of_eq_true (by kernel_rfl)
end Go.Proofs.YtcmojakklijgfaaGreatDoor
end
section
namespace Go.Proofs.YtcmojakklijgfaaGreatDoor
open Go Go.Sy Go.Chn
variable {Γ : Glob}
def eqLk (L M : List Lk) : Duty:=(Duty.of (L = M))
def eqI2 (I A B : List Int) : Duty:=(Duty.of (I = A ∨ I = B))
def r52 (I : List Int) : Int:=if I = [5,0] then 0 else 8
def ptS (L : List Lk) (te : TypeId) (tg : List CK) (xs : List (Tup tg)) : Ctr:=.new fun args rg K => match args with
 | [.agg [.v (.int .i64 N),x]] => (match arrOf 54 kL rg x with
    | some (q,M) => oblige true (q ++ [(Duty.of (N = 4)),eqLk M L]) (K ⟨[.arr te tg xs true true],.tup [.a (.sl 0 [] 0 xs.length),.a (vI 0)]⟩)
    | none => False)
 | _ => False
theorem ptS_ok {f : FuncId} {fn : Func} {E : Env} (hP : ProgOk Tryz.prog Γ E) (hb : BodyOk Tryz.prog f (bo fn)) {L : List Lk} {te : TypeId} {tg : List CK} {xs : List (Tup tg)} (hn : noStr tg = true) (run : qS E fn L te tg xs) : Ctr.Ok Tryz.prog Γ f (ptS L te tg xs) :=
 Ctr.new_okX (d:=6) hP hb (by
 intro args rg K hC
 split at hC
 next N x =>
  split at hC
  next q M hx =>
   rw [oblige_iff,obl_append] at hC
   obtain ⟨⟨hq,h1,h2,_⟩,hK⟩:=hC
   simp only [Duty.of_p] at h1
   replace h2 : M = L:=h2
   subst h1 h2
   obtain ⟨e,he⟩:=pas_arr (by simp [kL]) hx hq
   obtain ⟨p1,p2⟩:=he [e] 0 1 rfl (by omega)
   refine ⟨[e],[.agg [vI 4,.sl 0 [] 0 M.length]],[.arr 54 kL M false false],⟨⟨⟨rfl,p1,trivial⟩,trivial⟩,fun r g hg => ?_⟩,
    _,run,fun x st h => slB_sound hn rfl hK (isT_iff.1 h)⟩
   match r,hg with
   | 0,hg => obtain rfl:=Option.some.inj hg;exact p2
  next => exact hC.elim
 next => exact hC.elim)
theorem c62p_ok : Ctr.Ok Tryz.prog Γ 16 (ptS exL 51 kS exS):=ptS_ok eA_ok (body_bo Tryz.func16 rfl rfl) (by decide) run62
theorem c32p_ok : Ctr.Ok Tryz.prog Γ 18 (ptS exL 3 kI [(2 : Int)]):=ptS_ok eA_ok (body_bo Tryz.func18 rfl rfl) (by decide) run32
theorem c33p_ok : Ctr.Ok Tryz.prog Γ 19 (ptS exL 3 kI [(0 : Int),(1 : Int),(3 : Int),(4 : Int)]):=ptS_ok eA_ok (body_bo Tryz.func19 rfl rfl) (by decide) run33
theorem c31p_ok : Ctr.Ok Tryz.prog Γ 23 (ptS exL2 3 kI [(0 : Int),(5 : Int)]):=ptS_ok eA_ok (body_bo Tryz.func23 rfl rfl) (by decide) run31
def c38p : Ctr:=.fn fun args rg => match args with
 | [.agg [.v (.int .i64 N),x],.a (.v (.int .i64 f)),.a (.v (.int .i64 t))] => (match arrOf 54 kL rg x with
    | some (q,M) => some (q ++ [(Duty.of (N = 4)),eqLk M exL,(Duty.of (f = 0)),(Duty.of (t = 2 ∨ t = 3))],.tup [.a (vI (if t = 2 then 8 else 0)),.a (vI (if t = 2 then 0 else 5))])
    | none => none)
 | _ => none
theorem c38p_ok : Ctr.Ok Tryz.prog Γ 14 c38p:=Ctr.fn_okX (d:=6) eA_ok (b:=bo Tryz.f14) (body_bo Tryz.func14 rfl rfl) (by
 intro args rg q t hF hq
 split at hF
 next N x f t' =>
  split at hF
  next q0 M hx =>
   obtain ⟨rfl,rfl⟩:=Prod.mk.inj (Option.some.inj hF);clear hF
   obtain ⟨hq0,h1,h2,h3,h4,_⟩:=(obl_append _ _).1 hq
   simp only [Duty.of_p] at h1 h3 h4
   replace h2 : M = exL:=h2
   subst h1 h2 h3
   obtain ⟨e,he⟩:=pas_arr (by simp [kL]) hx hq0
   obtain ⟨p1,p2⟩:=he [e] 0 1 rfl (by omega)
   refine ⟨rfl,[e],[.agg [vI 4,.sl 0 [] 0 5],.a (vI 0),.a (vI t')],[.arr 54 kL exL false false],⟨⟨⟨rfl,p1,trivial⟩,rfl,rfl,trivial⟩,fun r g hg => ?_⟩,?_⟩
   ·match r,hg with
    | 0,hg => obtain rfl:=Option.some.inj hg;exact p2
   ·rcases h4 with rfl | rfl
    ·exact ⟨_,run38,fun x st h => tmB_sound (isT_iff.1 h)⟩
    ·exact ⟨_,run382,fun x st h => tmB_sound (isT_iff.1 h)⟩
  next => cases hF
 next => cases hF)
def c30p : Ctr:=.fn fun args rg => match args with
 | [.agg [.v (.int .i64 N),x],.a (.v (.int .i64 f))] => (match arrOf 54 kL rg x with
    | some (q,M) => some (q ++ [(Duty.of (N = 4)),eqLk M exL,(Duty.of (f = 3))],.tup [.a (vI 2),.a (vI 0)])
    | none => none)
 | _ => none
theorem c30p_ok : Ctr.Ok Tryz.prog Γ 17 c30p:=Ctr.fn_okX (d:=6) e30_ok (b:=bo Tryz.f17) (body_bo Tryz.func17 rfl rfl) (by
 intro args rg q t hF hq
 split at hF
 next N x f =>
  split at hF
  next q0 M hx =>
   obtain ⟨rfl,rfl⟩:=Prod.mk.inj (Option.some.inj hF);clear hF
   obtain ⟨hq0,h1,h2,h3,_⟩:=(obl_append _ _).1 hq
   simp only [Duty.of_p] at h1 h3
   replace h2 : M = exL:=h2
   subst h1 h2 h3
   obtain ⟨e,he⟩:=pas_arr (by simp [kL]) hx hq0
   obtain ⟨p1,p2⟩:=he [e] 0 1 rfl (by omega)
   refine ⟨rfl,[e],[.agg [vI 4,.sl 0 [] 0 5],.a (vI 3)],[.arr 54 kL exL false false],⟨⟨⟨rfl,p1,trivial⟩,rfl,trivial⟩,fun r g hg => ?_⟩,?_⟩
   ·match r,hg with
    | 0,hg => obtain rfl:=Option.some.inj hg;exact p2
   ·exact ⟨_,run30,fun x st h => tmB_sound (isT_iff.1 h)⟩
  next => cases hF
 next => cases hF)
def c52p : Ctr:=.fn fun args rg => match args with
 | [.agg [.v (.int .i64 N),x],.a y] => (match arrOf 54 kL rg x,arrOf 3 kI rg y with
    | some (q,M),some (q',I) => some (q ++ (q' ++ [(Duty.of (N = 4)),eqLk M exL2,eqI2 I [5,0] [0,1]]),.a (vI (r52 I)))
    | _,_ => none)
 | _ => none
theorem c52p_ok : Ctr.Ok Tryz.prog Γ 24 c52p:=Ctr.fn_okX (d:=6) eA_ok (b:=bo Tryz.f24) (body_bo Tryz.func24 rfl rfl) (by
 intro args rg q t hF hq
 split at hF
 next N x y =>
  split at hF
  next q0 M q1 I hx hy =>
   obtain ⟨rfl,rfl⟩:=Prod.mk.inj (Option.some.inj hF);clear hF
   rw [obl_append,obl_append] at hq
   obtain ⟨hq0,hq1,h1,h2,h3,_⟩:=hq
   simp only [Duty.of_p] at h1
   replace h2 : M = exL2:=h2
   replace h3 : I = [(5 : Int),(0 : Int)] ∨ I = [(0 : Int),(1 : Int)]:=h3
   subst h1 h2
   obtain ⟨e,he⟩:=pas_arr (by simp [kL]) hx hq0
   obtain ⟨e',he'⟩:=pas_arr (by simp [kI]) hy hq1
   obtain ⟨p1,p2⟩:=he [e,e'] 0 2 rfl (by omega)
   obtain ⟨p3,p4⟩:=he' [e,e'] 1 2 rfl (by omega)
   refine ⟨rfl,[e,e'],[.agg [vI 4,.sl 0 [] 0 6],.a (.sl 1 [] 0 I.length)],[.arr 54 kL exL2 false false,.arr 3 kI I false false],⟨⟨⟨rfl,p1,trivial⟩,p3,trivial⟩,fun r g hg => ?_⟩,?_⟩
   ·match r,hg with
    | 0,hg => obtain rfl:=Option.some.inj hg;exact p2
    | 1,hg => obtain rfl:=Option.some.inj hg;exact p4
   ·rcases h3 with rfl | rfl
    ·exact ⟨_,run52,fun x st h => tmB_sound (isT_iff.1 h)⟩
    ·exact ⟨_,run522,fun x st h => tmB_sound (isT_iff.1 h)⟩
  next => cases hF
 next => cases hF)
end Go.Proofs.YtcmojakklijgfaaGreatDoor
end
section
namespace Go.Proofs.YtcmojakklijgfaaGreatDoor
open Go Go.Sy Go.Chn
variable {Γ : Glob}
def tbA : List (List Int):=[[1152921504606846976,1152921504606846976,0,1152921504606846976],[9,3,1152921504606846976,1152921504606846976],[8,1152921504606846976,1,1152921504606846976],[10,4,2,1152921504606846976],[9,5,2,1152921504606846976]]
def tb0 : List (List Int):=[[0,1152921504606846976,1152921504606846976,1152921504606846976],[1152921504606846976,-6,-6,1152921504606846976],[-1,-3,-8,1152921504606846976],[1,-7,-7,1152921504606846976],[-2,-5,-9,1152921504606846976]]
def tb1 : List (List Int):=[[1152921504606846976,0,1152921504606846976,1152921504606846976],[5,1152921504606846976,-2,1152921504606846976],[7,-1,-1,1152921504606846976],[4,1,-3,1152921504606846976],[6,-2,-2,1152921504606846976]]
def tb2 : List (List Int):=[[1152921504606846976,1152921504606846976,0,1152921504606846976],[9,3,1152921504606846976,1152921504606846976],[8,3,1,1152921504606846976],[8,2,1,1152921504606846976],[7,2,0,1152921504606846976]]
def tb3 : List (List Int):=[[1152921504606846976,1152921504606846976,1152921504606846976,0],[1152921504606846976,1152921504606846976,1152921504606846976,1152921504606846976],[1152921504606846976,1152921504606846976,1152921504606846976,1152921504606846976],[1152921504606846976,1152921504606846976,1152921504606846976,1152921504606846976],[1152921504606846976,1152921504606846976,1152921504606846976,1152921504606846976]]
structure Run (p : Prop) : Prop where
 h : p
theorem Run.of {p : Prop} (e : p = True) : Run p:=⟨e ▸ trivial⟩
noncomputable def bs66 : List (Nat × Body):=[(62,bo Tryz.f62)]
theorem bs66_ok : BsOk Tryz.prog bs66:=BsOk.nil.cons (body_bo Tryz.func62 rfl rfl)
noncomputable def e66 : Env:=tabs.env [] bs66 true 100
theorem e66_ok : ProgOk Tryz.prog Γ e66:=prog_ok CsOk.nil bs66_ok true 100
def eqTB (A B : List (List Int)) : Bool:=decide (A = B)
theorem eqTB_eq {A B : List (List Int)} (h : eqTB A B = true) : A = B:=of_decide_eq_true h
def tabB (T : List (List Int)) (g : Reg) : Bool :=
 match g with
 | .arr te' tg' ys true true => (match natEq te' 41,tagEq tg' kT with | some _,some h => eqTB (castL h.down ys) T | _,_ => false)
 | _ => false
def slBT (T : List (List Int)) (x : Tm) (st : St) : Bool :=
 match x with
 | .a (.sl i [] 0 n) => Nat.beq n T.length && tabB T (st.rg.getD i .dead)
 | _ => false
theorem slBT_sound {T : List (List Int)} {x : Tm} {st : St} {K : Res → Prop} (hK : K ⟨[.arr 41 kT T true true],.a (.sl 0 [] 0 T.length)⟩) (h : slBT T x st = true) : resK K x st:=by
 unfold slBT at h
 split at h
 ·rename_i i n
  simp only [Bool.and_eq_true] at h
  obtain rfl:=Nat.eq_of_beq_eq_true h.1
  have h2 : st.rg.getD i .dead = .arr 41 kT T true true:=by
   have h:=h.2
   unfold tabB at h
   split at h
   ·split at h
    ·rename_i h1 h2 _ _
     obtain rfl:=h1.down
     obtain rfl:=h2.down
     have h:=eqTB_eq h
     rw [← h];assumption
    ·cases h
   ·cases h
  exact ⟨_,[i],hK,⟨h2,rfl,(by simp),trivial⟩,rfl,rfl,rfl,rfl,rfl⟩
 ·cases h
noncomputable def q66 (L : List Lk) (tq : Int) (T : List (List Int)) : Prop:=evTop e66 3 (bo Tryz.f38) [.agg [vI 4,.sl 0 [] 0 L.length],.a (vI tq),.a (vI 4)] [.arr 54 kL L false false] (fun x st => isT (slBT T x st))
theorem run66A : Run (q66 exL 2 tbA):=.of (by kernel_rfl)
theorem run660 : Run (q66 exL2 0 tb0):=.of (by kernel_rfl)
theorem run661 : Run (q66 exL2 1 tb1):=.of (by kernel_rfl)
theorem run662 : Run (q66 exL2 2 tb2):=.of (by kernel_rfl)
theorem run663 : Run (q66 exL2 3 tb3):=.of (by kernel_rfl)
end Go.Proofs.YtcmojakklijgfaaGreatDoor
end
section
namespace Go.Proofs.YtcmojakklijgfaaGreatDoor
open Go Go.Sy Go.Chn
variable {Γ : Glob}
def eqLB (M L : List Lk) : Bool:=decide (M = L)
def pick66 (M : List Lk) (t : Int) (k : List (List Int) → Prop) : Prop :=
 match eqLB M exL,eqLB M exL2 with
 | true,_ => (match decide (t = 2) with | true => k tbA | false => False)
 | _,true => (match decide (t = 0),decide (t = 1),decide (t = 2),decide (t = 3) with
   | true,_,_,_ => k tb0
   | _,true,_,_ => k tb1
   | _,_,true,_ => k tb2
   | _,_,_,true => k tb3
   | _,_,_,_ => False)
 | _,_ => False
theorem pick66_sound {M : List Lk} {t : Int} {k : List (List Int) → Prop} (h : pick66 M t k) : ∃ T,T.length = 5 ∧ Run (q66 M t T) ∧ k T:=by
 unfold pick66 at h
 split at h
 ·obtain rfl:=of_decide_eq_true ‹eqLB M exL = true›
  split at h
  ·obtain rfl:=of_decide_eq_true ‹decide (t = 2) = true›;exact ⟨_,rfl,run66A,h⟩
  ·exact h.elim
 ·obtain rfl:=of_decide_eq_true ‹eqLB M exL2 = true›
  split at h
  ·obtain rfl:=of_decide_eq_true ‹decide (t = 0) = true›;exact ⟨_,rfl,run660,h⟩
  ·obtain rfl:=of_decide_eq_true ‹decide (t = 1) = true›;exact ⟨_,rfl,run661,h⟩
  ·obtain rfl:=of_decide_eq_true ‹decide (t = 2) = true›;exact ⟨_,rfl,run662,h⟩
  ·obtain rfl:=of_decide_eq_true ‹decide (t = 3) = true›;exact ⟨_,rfl,run663,h⟩
  ·exact h.elim
 ·exact h.elim
def c66p : Ctr:=.new fun args rg K => match args with
 | [.agg [.v (.int .i64 N),x],.a (.v (.int .i64 t)),.a (.v (.int .i64 m))] => (match arrOf 54 kL rg x with
    | some (q,M) => oblige true (q ++ [(Duty.of (N = 4)),(Duty.of (m = 4))]) (pick66 M t (fun T => K ⟨[.arr 41 kT T true true],.a (.sl 0 [] 0 5)⟩))
    | none => False)
 | _ => False
theorem c66p_ok : Ctr.Ok Tryz.prog Γ 38 c66p:=Ctr.new_okX (d:=3) e66_ok (b:=bo Tryz.f38) (body_bo Tryz.func38 rfl rfl) (by
 intro args rg K hC
 split at hC
 next N x t m =>
  split at hC
  next q M hx =>
   rw [oblige_iff,obl_append] at hC
   obtain ⟨⟨hq,h1,h2,_⟩,hK⟩:=hC
   simp only [Duty.of_p] at h1 h2
   subst h1 h2
   obtain ⟨T,hT,hrun,hK⟩:=pick66_sound hK
   rw [← hT] at hK
   obtain ⟨e,he⟩:=pas_arr (by simp [kL]) hx hq
   obtain ⟨p1,p2⟩:=he [e] 0 1 rfl (by omega)
   refine ⟨[e],[.agg [vI 4,.sl 0 [] 0 M.length],.a (vI t),.a (vI 4)],[.arr 54 kL M false false],⟨⟨⟨rfl,p1,trivial⟩,rfl,rfl,trivial⟩,fun r g hg => ?_⟩,
    _,hrun.h,fun x st h => slBT_sound hK (isT_iff.1 h)⟩
   match r,hg with
   | 0,hg => obtain rfl:=Option.some.inj hg;exact p2
  next => exact hC.elim
 next => exact hC.elim)
end Go.Proofs.YtcmojakklijgfaaGreatDoor
end
section
namespace Go.Proofs.YtcmojakklijgfaaGreatDoor
open Go Go.Sy Go.Chn
variable {Γ : Glob}
noncomputable def q68q : Prop:=evTop e68 2 (bo Tryz.f41) [.agg [vI 4,.sl 0 [] 0 5],.a (vI 0),.a (vI 2),.a (.sl 1 [] 0 5),.a (.fn 42 [2])] [.arr 54 kL exL false false,.arr 41 kT tbA false false,.box false [vI 8]] (fun x st => isT (slB1 3 kI [(0 : Int),(1 : Int)] x st))
theorem run68q : Run q68q:=.of (by kernel_rfl)
def c68r : Ctr:=.new fun args rg K => match args with
 | [.agg [.v (.int .i64 N),xs],.a (.v (.int .i64 f)),.a (.v (.int .i64 k)),.a t,.a (.fn 42 [r])] => (match lksOf rg xs,arrOf 41 kT rg t,boxI rg r with
    | some (q,L),some (q',T),some m => oblige true (q ++ (q' ++ [(Duty.of (N = 4)),eqLk L exL,(Duty.of (f = 0)),(Duty.of (k = 2)),eqT2 T tbA,(Duty.of (m = 8))])) (K ⟨[.arr 3 kI [(0 : Int),(1 : Int)] true true],.a (.sl 0 [] 0 2)⟩)
    | _,_,_ => False)
 | _ => False
theorem c68r_ok : Ctr.Ok Tryz.prog Γ 41 c68r:=Ctr.new_okX (d:=2) (prog_ok csB_ok BsOk.nil true 100) (b:=bo Tryz.f41) (body_bo Tryz.func41 rfl rfl) (by
 intro args rg K hC
 split at hC
 next N xs f k t r =>
  split at hC
  next q L q' T m hx ht hm =>
   rw [oblige_iff,obl_append,obl_append] at hC
   obtain ⟨⟨hq,hq',h1,h2,h3,h4,h5,h6,_⟩,hK⟩:=hC
   simp only [Duty.of_p] at h1 h3 h4 h6
   replace h2 : L = exL:=h2
   replace h5 : T = tbA:=h5
   subst h1 h2 h3 h4 h5 h6
   obtain ⟨e,he,_⟩:=pas_lks' hx hq
   obtain ⟨e',he'⟩:=pas_arr (by simp [kT]) ht hq'
   obtain ⟨p1,p2⟩:=he [e,e',some (r,[])] 3 rfl (by omega)
   obtain ⟨p3,p4⟩:=he' [e,e',some (r,[])] 1 3 rfl (by omega)
   refine ⟨[e,e',some (r,[])],[.agg [vI 4,.sl 0 [] 0 5],.a (vI 0),.a (vI 2),.a (.sl 1 [] 0 5),.a (.fn 42 [2])],[.arr 54 kL exL false false,.arr 41 kT tbA false false,.box false [vI 8]],⟨⟨⟨rfl,p1,trivial⟩,rfl,rfl,p3,⟨[r],rfl,?_⟩,trivial⟩,fun r g hg => ?_⟩,
    _,run68q.h,fun x st h => slB1_sound (by decide) hK (isT_iff.1 h)⟩
   ·exact ⟨⟨Nat.lt_succ_self 2,rfl⟩,trivial⟩
   ·match r,hg with
    | 0,hg => obtain rfl:=Option.some.inj hg;exact p2
    | 1,hg => obtain rfl:=Option.some.inj hg;exact p4
    | 2,hg =>
      obtain rfl:=Option.some.inj hg
      unfold boxI at hm
      split at hm
      ·rename_i o n' hb
       obtain rfl:=Option.some.inj hm
       exact ⟨rfl,_,o,_,rfl,getD_reg (st:=⟨⟨0,.nil⟩,[],rg⟩) hb (by simp),rfl,trivial⟩
      ·cases hm
  next => exact hC.elim
 next => exact hC.elim)
def cs39 : List (Nat × Ctr):=(14,c38p) :: (38,c66p) :: (41,c68r) :: csA
theorem cs39_ok : CsOk Tryz.prog Γ cs39:=((csA_ok.cons (body_of Tryz.func41 rfl rfl).fn c68r_ok).cons (body_of Tryz.func38 rfl rfl).fn c66p_ok).cons (body_of Tryz.func14 rfl rfl).fn c38p_ok
noncomputable def e39 : Env:=tabs.env cs39 bsA true 100
theorem e39_ok : ProgOk Tryz.prog Γ e39:=prog_ok cs39_ok bsA_ok true 100
def cs25 : List (Nat × Ctr):=(38,c66p) :: (41,c68p) :: csA
theorem cs25_ok : CsOk Tryz.prog Γ cs25:=(csA_ok.cons (body_of Tryz.func41 rfl rfl).fn c68p_ok).cons (body_of Tryz.func38 rfl rfl).fn c66p_ok
def ord25 (id : Nat) : Option (List Nat):=match Nat.beq id 22 with | true => some [0,1,2,3,4,5,6,7,8,9,10,11,12] | false => none
noncomputable def e25 : Env:={ tabs.env cs25 bsA true 100 with ord:=ord25 }
theorem e25_ok : ProgOk Tryz.prog Γ e25:=(prog_ok cs25_ok bsA_ok true 100).ords ord25
noncomputable def q39 : Prop:=evTop e39 6 (bo Tryz.f15) [.agg [vI 4,.sl 0 [] 0 5],.a (vI 0),.a (vI 2)] [.arr 54 kL exL false false] (fun x st => isT (slB 3 kI [(0 : Int),(1 : Int)] [.a (vI 0)] x st))
theorem run39 : Run q39:=.of (by kernel_rfl)
theorem run25 : Run (qS e25 Tryz.f22 exL2 3 kI [(0 : Int),(5 : Int)]):=.of (by kernel_rfl)
theorem c25p_ok : Ctr.Ok Tryz.prog Γ 22 (ptS exL2 3 kI [(0 : Int),(5 : Int)]):=ptS_ok e25_ok (body_bo Tryz.func22 rfl rfl) (by decide) run25.h
def c39p : Ctr:=.new fun args rg K => match args with
 | [.agg [.v (.int .i64 N),x],.a (.v (.int .i64 f)),.a (.v (.int .i64 t))] => (match arrOf 54 kL rg x with
    | some (q,M) => oblige true (q ++ [(Duty.of (N = 4)),eqLk M exL,(Duty.of (f = 0)),(Duty.of (t = 2))]) (K ⟨[.arr 3 kI [(0 : Int),(1 : Int)] true true],.tup [.a (.sl 0 [] 0 2),.a (vI 0)]⟩)
    | none => False)
 | _ => False
theorem c39p_ok : Ctr.Ok Tryz.prog Γ 15 c39p:=Ctr.new_okX (d:=6) e39_ok (b:=bo Tryz.f15) (body_bo Tryz.func15 rfl rfl) (by
 intro args rg K hC
 split at hC
 next N x f t =>
  split at hC
  next q M hx =>
   rw [oblige_iff,obl_append] at hC
   obtain ⟨⟨hq,h1,h2,h3,h4,_⟩,hK⟩:=hC
   simp only [Duty.of_p] at h1 h3 h4
   replace h2 : M = exL:=h2
   subst h1 h2 h3 h4
   obtain ⟨e,he⟩:=pas_arr (by simp [kL]) hx hq
   obtain ⟨p1,p2⟩:=he [e] 0 1 rfl (by omega)
   refine ⟨[e],[.agg [vI 4,.sl 0 [] 0 5],.a (vI 0),.a (vI 2)],[.arr 54 kL exL false false],⟨⟨⟨rfl,p1,trivial⟩,rfl,rfl,trivial⟩,fun r g hg => ?_⟩,
    _,run39.h,fun x st h => slB_sound (by decide) rfl hK (isT_iff.1 h)⟩
   match r,hg with
   | 0,hg => obtain rfl:=Option.some.inj hg;exact p2
  next => exact hC.elim
 next => exact hC.elim)
end Go.Proofs.YtcmojakklijgfaaGreatDoor
end
section
namespace Go.Proofs.YtcmojakklijgfaaGreatDoor
open Go Go.Sy Go.Chn
variable {Γ : Glob}
def exM : List Lk:=[(1,0,-6)]
def c45p : Ctr:=.new fun args rg K => match args with
 | [.agg [.v (.int .i64 N),x],.a y] => (match arrOf 54 kL rg x,arrOf 54 kL rg y with
    | some (q,L),some (q',M) => oblige true (q ++ (q' ++ [(Duty.of (N = 4)),eqLk L exL,eqLk M exM])) (K ⟨[.arr 54 kL exL2 true true],.tup [.agg [vI 4,.sl 0 [] 0 6],.a (vI 0)]⟩)
    | _,_ => False)
 | _ => False
theorem with_ex : withF 4 exL exM = ((4,exL2),0):=by decide +kernel
theorem c45p_ok : Ctr.Ok Tryz.prog Γ 21 c45p:=Ctr.new_mono (c45_ok true) (by
 intro args rg K hC
 split at hC
 next N x y =>
  split at hC
  next q L q' M hx hy =>
   rw [oblige_iff,obl_append,obl_append] at hC
   obtain ⟨⟨hq,hq',h1,h2,h3,_⟩,hK⟩:=hC
   simp only [Duty.of_p] at h1
   replace h2 : L = exL:=h2
   replace h3 : M = exM:=h3
   subst h1 h2 h3
   (try simp only [hx,hy])
   rw [oblige_iff,obl_append,obl_append]
   refine ⟨⟨hq,hq',by simp only [Duty.of_p];decide,by simp only [Duty.of_p];decide,trivial⟩,?_⟩
   exact (show K (sysR (withF 4 exL exM).1.1 (withF 4 exL exM).1.2 [.a (vI (withF 4 exL exM).2)]) from by rw [with_ex];exact hK)
  next => exact hC.elim
 next => exact hC.elim)
def cs21 : List (Nat × Ctr):=[(14,c38p),(15,c39p),(16,ptS exL 51 kS exS),(17,c30p),(18,ptS exL 3 kI [(2 : Int)]),(19,ptS exL 3 kI [(0 : Int),(1 : Int),(3 : Int),(4 : Int)]),(21,c45p),
 (22,ptS exL2 3 kI [(0 : Int),(5 : Int)]),(23,ptS exL2 3 kI [(0 : Int),(5 : Int)]),(24,c52p)]
theorem cs21_ok : CsOk Tryz.prog Γ cs21:=(((((((((CsOk.nil.cons (body_of Tryz.func24 rfl rfl).fn c52p_ok).cons (body_of Tryz.func23 rfl rfl).fn c31p_ok).cons (body_of Tryz.func22 rfl rfl).fn c25p_ok).cons (body_of Tryz.func21 rfl rfl).fn c45p_ok).cons
 (body_of Tryz.func19 rfl rfl).fn c33p_ok).cons (body_of Tryz.func18 rfl rfl).fn c32p_ok).cons (body_of Tryz.func17 rfl rfl).fn c30p_ok).cons (body_of Tryz.func16 rfl rfl).fn c62p_ok).cons (body_of Tryz.func15 rfl rfl).fn c39p_ok).cons (body_of Tryz.func14 rfl rfl).fn c38p_ok
noncomputable def bs21 : List (Nat × Body):=[(20,bo Tryz.f20),(13,bo Tryz.f13)]
theorem bs21_ok : BsOk Tryz.prog bs21:=(BsOk.nil.cons (body_bo Tryz.func13 rfl rfl)).cons (body_bo Tryz.func20 rfl rfl)
noncomputable def e21 : Env:=tabs.env cs21 bs21 true 100
theorem e21_ok : ProgOk Tryz.prog Γ e21:=prog_ok cs21_ok bs21_ok true 100
noncomputable def q21 : Prop:=evTop e21 3 (bo Tryz.f6) [] [] (fun x _ => isT (tmB x (bl true)))
theorem run21 : Run q21:=.of (by kernel_rfl)
def c21 : Ctr:=.fn fun args _ => match args with
 | [] => some ([],bl true)
 | _ => none
theorem c21_ok : Ctr.Ok Tryz.prog Γ 6 c21:=Ctr.fn_okX (d:=3) e21_ok (b:=bo Tryz.f6) (body_bo Tryz.func6 rfl rfl) (by
 intro args rg q t hF hq
 split at hF
 next =>
  obtain ⟨rfl,rfl⟩:=Prod.mk.inj (Option.some.inj hF)
  exact ⟨rfl,[],[],[],⟨trivial,fun r g hg => by simp at hg⟩,_,run21.h,fun x st h => tmB_sound (isT_iff.1 h)⟩
 next => cases hF)
end Go.Proofs.YtcmojakklijgfaaGreatDoor
end
section
namespace Go.Proofs.YtcmojakklijgfaaGreatDoor
open Go Go.Sy Go.Chn
variable {Γ : Glob}
def fS (D : Int → List Lk → List Duty) (F : Int → List Lk → Tm) : Ctr:=.fn fun args rg => match args with
 | [.agg [.v (.int .i64 N0),x0]] => (match arrOf 54 kL rg x0 with | some (q0,L0) => some (q0 ++ (D N0 L0),F N0 L0) | _ => none)
 | _ => none
theorem fS_ok {f : FuncId} {b : Body} {E : Env} {d : Nat} (hP : ProgOk Tryz.prog Γ E) (hb : BodyOk Tryz.prog f b) {D : Int → List Lk → List Duty} {F : Int → List Lk → Tm} (hp : ∀ (N0 : Int) (L0 : List Lk),(F N0 L0).plain = true)
  (H : ∀ (N0 : Int) (L0 : List Lk),obl (D N0 L0) → evTop E d b [.agg [vI N0,.sl 0 [] 0 L0.length]] [.arr 54 kL L0 false false] (fun x _ => eqT x (F N0 L0))) : Ctr.Ok Tryz.prog Γ f (fS D F):=Ctr.fn_ok (d:=d) hP hb (by
 intro args rg q t hF hq
 split at hF
 next N0 x0 =>
  split at hF
  next q0 L0 hx0 =>
   obtain ⟨rfl,rfl⟩:=Prod.mk.inj (Option.some.inj hF);clear hF
   rw [obl_append] at hq
   obtain ⟨hq0,hD⟩:=hq
   obtain ⟨e0,he0⟩:=pas_arr (by simp [kL]) hx0 hq0
   obtain ⟨p0,r0⟩:=he0 [e0] 0 1 rfl (by omega)
   refine ⟨hp _ _,[e0],[.agg [vI N0,.sl 0 [] 0 L0.length]],[.arr 54 kL L0 false false],⟨⟨⟨rfl,p0,trivial⟩,trivial⟩,fun r g hg => ?_⟩,H _ _ hD⟩
   match r,hg with
   | 0,hg => obtain rfl:=Option.some.inj hg;exact r0
  next => cases hF
 next => cases hF)
def fSS (D : Int → List Lk → Int → List Lk → List Duty) (F : Int → List Lk → Int → List Lk → Tm) : Ctr:=.fn fun args rg => match args with
 | [.agg [.v (.int .i64 N0),x0],.agg [.v (.int .i64 N1),x1]] => (match arrOf 54 kL rg x0,arrOf 54 kL rg x1 with | some (q0,L0),some (q1,L1) => some (q0 ++ (q1 ++ (D N0 L0 N1 L1)),F N0 L0 N1 L1) | _,_ => none)
 | _ => none
theorem fSS_ok {f : FuncId} {b : Body} {E : Env} {d : Nat} (hP : ProgOk Tryz.prog Γ E) (hb : BodyOk Tryz.prog f b) {D : Int → List Lk → Int → List Lk → List Duty} {F : Int → List Lk → Int → List Lk → Tm} (hp : ∀ (N0 : Int) (L0 : List Lk) (N1 : Int) (L1 : List Lk),(F N0 L0 N1 L1).plain = true)
  (H : ∀ (N0 : Int) (L0 : List Lk) (N1 : Int) (L1 : List Lk),obl (D N0 L0 N1 L1) → evTop E d b [.agg [vI N0,.sl 0 [] 0 L0.length],.agg [vI N1,.sl 1 [] 0 L1.length]] [.arr 54 kL L0 false false,.arr 54 kL L1 false false] (fun x _ => eqT x (F N0 L0 N1 L1))) : Ctr.Ok Tryz.prog Γ f (fSS D F):=Ctr.fn_ok (d:=d) hP hb (by
 intro args rg q t hF hq
 split at hF
 next N0 x0 N1 x1 =>
  split at hF
  next q0 L0 q1 L1 hx0 hx1 =>
   obtain ⟨rfl,rfl⟩:=Prod.mk.inj (Option.some.inj hF);clear hF
   rw [obl_append,obl_append] at hq
   obtain ⟨hq0,hq1,hD⟩:=hq
   obtain ⟨e0,he0⟩:=pas_arr (by simp [kL]) hx0 hq0
   obtain ⟨e1,he1⟩:=pas_arr (by simp [kL]) hx1 hq1
   obtain ⟨p0,r0⟩:=he0 [e0,e1] 0 2 rfl (by omega)
   obtain ⟨p1,r1⟩:=he1 [e0,e1] 1 2 rfl (by omega)
   refine ⟨hp _ _ _ _,[e0,e1],[.agg [vI N0,.sl 0 [] 0 L0.length],.agg [vI N1,.sl 1 [] 0 L1.length]],[.arr 54 kL L0 false false,.arr 54 kL L1 false false],⟨⟨⟨rfl,p0,trivial⟩,⟨rfl,p1,trivial⟩,trivial⟩,fun r g hg => ?_⟩,H _ _ _ _ hD⟩
   match r,hg with
   | 0,hg => obtain rfl:=Option.some.inj hg;exact r0
   | 1,hg => obtain rfl:=Option.some.inj hg;exact r1
  next => cases hF
 next => cases hF)
def smallB (N : Int) (L : List Lk) : Bool:=decide (L.length ≤ 310) && decide (N ≤ 70)
def c20 : Ctr:=fS (fun _ _ => []) (fun N L => bl (smallB N L))
theorem c20_ok : Ctr.Ok Tryz.prog Γ 5 c20:=fS_ok (d:=0) (prog_ok CsOk.nil BsOk.nil false 0) (body_of Tryz.func5 rfl rfl) (fun _ _ => rfl) (by
 intro N L _
 unfold smallB
 repeat' ((conv => whnf);(first | apply And.intro | intro _))
 all_goals try (conv => whnf)
 all_goals subst_vars
 all_goals simp only [decide_eq_true_eq,decide_eq_false_iff_not] at *
 ·rw [decide_eq_true (show L.length ≤ 310 by omega)];rfl
 ·rw [decide_eq_false (show ¬ L.length ≤ 310 by omega)];rfl)
def okM (L : List Lk) : Prop:=∀ l ∈ L,-4503599627370496 ≤ l.2.2 ∧ l.2.2 ≤ 4503599627370496
theorem okM.at {L : List Lk} (h : okM L) {k : Nat} (hk : k < L.length) : -4503599627370496 ≤ (lk L k).2.2 ∧ (lk L k).2.2 ≤ 4503599627370496:=h _ (by simp [lk,List.getD,hk])
def c23 : Ctr:=fS (fun _ L => [(Duty.of (L.length ≤ cap40))]) (fun N L => .tup [.a (vI (checkF N L).1),.a (vI (checkF N L).2)])
theorem c23_ok : Ctr.Ok Tryz.prog Γ 33 c23:=fS_ok (d:=0) (prog_ok CsOk.nil BsOk.nil false 0) (body_of Tryz.func33 rfl rfl) (fun _ _ => rfl) (by
 intro N L ⟨hL,_⟩
 simp only [Duty.of_p] at hL
 have f1 : N < 1 → checkF N L = (1,-1):=fun h => by unfold checkF;rw [if_pos (.inl h)]
 have f2 : N > 60 → checkF N L = (1,-1):=fun h => by unfold checkF;rw [if_pos (.inr h)]
 have f3 : ¬ N < 1 → ¬ N > 60 → L.length > 300 → checkF N L = (2,-1):=fun h h' h2 => by unfold checkF;rw [if_neg (by omega),if_pos h2]
 have f4 : ¬ N < 1 → ¬ N > 60 → ¬ L.length > 300 → checkF N L = ckL N 0 L:=fun h h' h2 => by unfold checkF;rw [if_neg (by omega),if_neg h2]
 generalize checkF N L = res at *
 repeat' ((conv => whnf);(first | apply And.intro | intro _))
 all_goals try (conv => whnf)
 all_goals try trivial
 all_goals try simp only [decide_eq_true_eq,decide_eq_false_iff_not] at *
 all_goals try subst_vars
 ·rw [f1 (by omega)]
 ·rw [f1 (by omega)]
 ·rw [f2 (by omega)]
 ·rw [f2 (by omega)]
 ·rw [f3 (by omega) (by omega) (by omega)]
 ·rw [f3 (by omega) (by omega) (by omega)]
 rw [f4 (by omega) (by omega) (by omega)]
 refine ⟨Nat,fun i => i ≤ L.length ∧ ckL N 0 L = ckL N i (L.drop i),fun i => ⟨slotsT 70 [1,4] [.a (.p 1 [] 0 0),.a (vI i)],[],[.arr 54 kL L false false,.box true [vI N,.sl 0 [] 0 L.length]]⟩,fun i => L.length - i,0,[],⟨Nat.zero_le _,rfl⟩,?_,?_⟩
 ·repeat' ((conv => whnf);(first | apply And.intro | intro _))
  all_goals first | rfl | trivial | exact leb9 rfl | exact ⟨rfl,rfl,rfl⟩
 rintro i ⟨hi,hv⟩
 rw [hv]
 repeat' ((conv => whnf);(first | apply And.intro | intro _))
 all_goals try (conv => whnf)
 all_goals try trivial
 all_goals try exact Tk.mk (by kernel_rfl)
 all_goals try subst_vars
 all_goals try simp only [getL] at *
 all_goals try dsimp only [kL,Tup,CK.ty] at *
 all_goals try simp only [decide_eq_true_eq,decide_eq_false_iff_not,Nat.zero_add,Int.toNat_natCast,Bool.not_eq_true',Bool.not_eq_false',Bool.not_eq_true,Bool.not_eq_false,Bool.not_not,bne_iff_ne,ne_eq,beq_iff_eq,beq_eq_false_iff_ne] at *
 all_goals try first
  | exact ⟨by simp only [Duty.of_p];omega⟩
  | exact ⟨by simp only [inRQ,inR];omega⟩
  | (rw [drop_lk (show i < L.length by omega),ckL,if_pos (by simp [badL,nodeB];omega)];done)
  | (rw [List.drop_eq_nil_of_le (by omega),ckL];done)
 refine ⟨i + 1,[],⟨by omega,?_⟩,?_,by omega⟩
 ·rw [drop_lk (show i < L.length by omega)]
  conv => lhs;rw [ckL]
  rw [if_neg (by simp [badL,nodeB];omega)]
 repeat' ((conv => whnf);(first | apply And.intro | intro _))
 all_goals first | rfl | trivial | exact leb9 rfl | exact ⟨rfl,rfl,rfl⟩ | exact ⟨rfl,rfl,rfl,rfl⟩)
def L34 : List (Nat × Ctr):=[(33,c23)]
theorem L34_ok : CsOk Tryz.prog Γ L34:=CsOk.nil.cons (body_of Tryz.func33 rfl rfl).fn c23_ok
def c34 : Ctr:=fS (fun _ L => [(Duty.of (L.length ≤ 1000000))]) (fun N L => .a (vI (checkF N L).1))
theorem c34_ok : Ctr.Ok Tryz.prog Γ 9 c34:=fS_ok (d:=0) (prog_ok L34_ok BsOk.nil false 0) (body_of Tryz.func9 rfl rfl) (fun _ _ => rfl) (by
 intro N L ⟨hL,_⟩
 simp only [Duty.of_p] at hL
 repeat' ((conv => whnf);(first | apply And.intro | intro _))
 all_goals try (conv => whnf)
 all_goals subst_vars
 all_goals try first
  | rfl
  | exact ⟨rfl⟩
  | exact ⟨show L.length ≤ 1099511627776 by omega⟩)
def frM (I : List Int) : Prop:=∀ x ∈ I,-1152921504606846976 ≤ x ∧ x ≤ 1152921504606846976
theorem frM.at {I : List Int} (h : frM I) (k : Int) : -1152921504606846976 ≤ gi I k ∧ gi I k ≤ 1152921504606846976:=by
 unfold gi
 rcases Nat.lt_or_ge k.toNat I.length with hk | hk
 ·exact h _ (by simp [List.getD,hk])
 ·simp [List.getD,List.getElem?_eq_none hk]
theorem ckL_ok {N : Int} : ∀ {L : List Lk} {i : Nat},(ckL N i L).1 = 0 → okM L
 | [],_,_ => fun l hl => by cases hl
 | l :: L,i,h => by
   rw [ckL] at h
   split at h
   ·cases h
   ·rename_i hb
    intro x hx
    rcases List.mem_cons.1 hx with rfl | hx
    ·simp [badL] at hb
     omega
    ·exact ckL_ok h x hx
theorem checkF_ok {N : Int} {L : List Lk} (h : (checkF N L).1 = 0) : (1 ≤ N ∧ N ≤ 60) ∧ L.length ≤ 300 ∧ okM L:=by
 unfold checkF at h
 split at h
 ·cases h
 ·split at h
  ·cases h
  ·exact ⟨by omega,by omega,ckL_ok h⟩
theorem ckL_all {N : Int} : ∀ {L : List Lk} {i : Nat},(ckL N i L).1 = 0 → ∀ l ∈ L,badL N l = false
 | [],_,_ => fun l hl => (by cases hl)
 | l :: L,i,h => by
   rw [ckL] at h
   split at h
   ·cases h
   ·rename_i hb
    intro x hx
    rcases List.mem_cons.1 hx with rfl | hx
    ·simpa using hb
    ·exact ckL_all h x hx
theorem castLk {h : kL = kL} (L : List Lk) : @castL kL kL h L = L:=rfl
theorem ok_ne {x y : Int} (h : (x != y) = false) : x = y:=by simpa using h
def sameB (N : Int) (L : List Lk) (M : Int) (K : List Lk) : Bool:=decide (N = M) && decide (L = K)
theorem same_n {N M : Int} {L K : List Lk} (h : (N != M) = true) : sameB N L M K = false:=by
 unfold sameB;rw [decide_eq_false (by simpa using h)];rfl
theorem same_l {N M : Int} {L K : List Lk} (h : ((L.length : Int) != (K.length : Int)) = true) : sameB N L M K = false:=by
 unfold sameB;rw [decide_eq_false (p:=L = K) (fun e => by subst e;simp at h),Bool.and_false]
theorem same_y {N M : Int} {L K : List Lk} (h : (N != M) = false) : sameB N L M K = decide (L = K):=by
 unfold sameB;rw [decide_eq_true (by simpa using h),Bool.true_and]
theorem same_end {L K : List Lk} {i : Nat} (h : L.length ≤ i) (h2 : L.length = K.length) : decide (L.drop i = K.drop i) = true:=by
 rw [List.drop_eq_nil_of_le h,List.drop_eq_nil_of_le (by omega)];rfl
theorem same_no {L K : List Lk} {i : Nat} (h : i < L.length) (h2 : L.length = K.length) (hb : ¬ (lk L i = lk K i)) : decide (L.drop i = K.drop i) = false:=by
 rw [drop_lk h,drop_lk (L:=K) (by omega)]
 exact decide_eq_false fun e => hb (List.cons.inj e).1
theorem same_go {L K : List Lk} {i : Nat} (h : i < L.length) (h2 : L.length = K.length) (hb : lk L i = lk K i) : decide (L.drop i = K.drop i) = decide (L.drop (i + 1) = K.drop (i + 1)):=by
 rw [drop_lk h,drop_lk (L:=K) (by omega),hb]
 exact decide_eq_decide.2 ⟨fun e => (List.cons.inj e).2,fun e => by rw [e]⟩
theorem ne_link {a b : Lk} (h : (!(a.1 == b.1 && (a.2.1 == b.2.1 && (a.2.2 == b.2.2 && true)))) = true) : ¬ a = b:=fun e => by subst e;simp at h
theorem eq_link {a b : Lk} (h : (!(a.1 == b.1 && (a.2.1 == b.2.1 && (a.2.2 == b.2.2 && true)))) = false) : a = b:=by
 simp at h
 exact Prod.ext h.1 (Prod.ext h.2.1 h.2.2)
theorem lt_of_dec {i n : Nat} (h : decide ((i : Int) < (n : Int)) = true) : i < n:=by simpa using h
theorem ge_of_dec {i n : Nat} (h : decide ((i : Int) < (n : Int)) = false) : n ≤ i:=by simpa using h
attribute [local irreducible] sameB
def c49 : Ctr:=fSS (fun _ L _ _ => [(Duty.of (L.length ≤ 1000000))]) (fun N L M K => bl (sameB N L M K))
theorem c49_ok : Ctr.Ok Tryz.prog Γ 12 c49:=fSS_ok (d:=0) (prog_ok CsOk.nil BsOk.nil false 0) (body_of Tryz.func12 rfl rfl) (fun _ _ _ _ => rfl) (by
 intro N L M K ⟨hL,_⟩
 simp only [Duty.of_p] at hL
 have g0:=@same_n N M L K
 have g1:=@same_l N M L K
 have g2:=@same_y N M L K
 generalize sameB N L M K = res at *
 repeat' ((conv => whnf);(first | apply And.intro | intro _))
 all_goals try (conv => whnf)
 all_goals try exact Tk.mk (by kernel_rfl)
 all_goals subst_vars
 all_goals try simp only [getL,getI,castLk] at *
 all_goals try first
  | exact ⟨rfl⟩
  | exact (g0 (by assumption)).symm
  | exact (g1 (by assumption)).symm
  | exact g0 (by assumption)
  | exact g1 (by assumption)
 have hl : ((L.length : Int) != (K.length : Int)) = false:=by assumption
 have hl2:=ok_ne hl
 have hr:=g2 (by assumption)
 clear g0 g1 g2
 refine ⟨Nat,fun i => i ≤ L.length ∧ res = decide (L.drop i = K.drop i),fun i => ⟨slotsT 38 [2,3,5] [.a (.p 2 [] 0 0),.a (.p 3 [] 0 0),.a (vI i)],[],[.arr 54 kL L false false,.arr 54 kL K false false,.box true [vI N,.sl 0 [] 0 L.length],.box true [vI M,.sl 1 [] 0 K.length]]⟩,fun i => L.length - i,0,[],⟨Nat.zero_le _,hr⟩,?_,?_⟩
 ·repeat' ((conv => whnf);(first | apply And.intro | intro _))
  all_goals first | rfl | trivial | exact leb9 rfl | exact ⟨rfl,rfl,rfl⟩ | exact ⟨rfl,rfl,rfl,rfl⟩
 rintro i ⟨hi,hv⟩
 repeat' ((conv => whnf);(first | apply And.intro | intro _))
 all_goals try (conv => whnf)
 all_goals try exact Tk.mk (by kernel_rfl)
 all_goals try exact ⟨leb9 rfl⟩
 all_goals try exact ⟨rfl⟩
 all_goals try (refine Ob.mk ?_;(try simp only [Duty.of_p,inRQ]);subst_vars;(try simp only [getL,getI,getB,castL_rfl] at *);(try dsimp only [kL,kI,Tup,CK.ty] at *);(try simp only [getL,getI,getB,gi_nn,castL_rfl,Nat.zero_add,Nat.add_zero,Nat.sub_zero,Int.toNat_natCast,List.length_set,List.length_replicate,List.length_cons,List.length_nil,decide_eq_true_eq,decide_eq_false_iff_not,cap40,inR] at *);(all_goals first | omega | (split <;> omega)))
 all_goals try subst_vars
 all_goals try simp only [getL,getI,Nat.zero_add,Int.toNat_natCast] at *
 all_goals try first
  | exact hv.trans (same_no (lt_of_dec (by assumption)) (by omega) (ne_link (by assumption)))
  | exact hv.trans (same_end (ge_of_dec (by assumption)) (by omega))
  | exact (hv.trans (same_no (lt_of_dec (by assumption)) (by omega) (ne_link (by assumption)))).symm
  | exact (hv.trans (same_end (ge_of_dec (by assumption)) (by omega))).symm
 all_goals have hi1 : i < L.length:=lt_of_dec (by assumption)
 all_goals try (refine Ob.mk ?_;show -9223372036854775808 ≤ (i : Int) + 1 ∧ (i : Int) + 1 ≤ 9223372036854775807;omega)
 refine ⟨i + 1,[],⟨by omega,hv.trans (same_go hi1 (by omega) (eq_link (by assumption)))⟩,?_,by omega⟩
 repeat' ((conv => whnf);(first | apply And.intro | intro _))
 all_goals first | rfl | trivial | exact leb9 rfl | exact ⟨rfl,rfl,rfl⟩ | exact ⟨rfl,rfl,rfl,rfl⟩)
theorem tf_no (h : true = false) : False:=by cases h
theorem ft_no (h : false = true) : False:=by cases h
theorem _root_.Go.Sy.ProgOk.cuts {E : Env} (h : ProgOk Tryz.prog Γ E) (o : Nat → Bool) : ProgOk Tryz.prog Γ { E with cut:=o }:=⟨h.mixed,h.fn,h.inl,{ h.env with }⟩
end Go.Proofs.YtcmojakklijgfaaGreatDoor
end
section
namespace Go.Proofs.YtcmojakklijgfaaGreatDoor
open Go Go.Sy Go.Chn
variable {Γ : Glob}
structure LaidT (w : World) : Prop where
 tab : Lib.TabIs Tryz.prog w "internal/strconv.uint64pow10" .u64 Lib.pow10Tab
 mx : ∃ m,w.cell? ⟨2,0,none⟩ = some (.int .i64 m)
 e1 : ∃ ev,w.cell? ⟨0,0,none⟩ = some ev ∧ (ev = .nilIface ∨ ∃ te pe,ev = .iface te pe)
 e2 : ∃ ev,w.cell? ⟨1,0,none⟩ = some ev ∧ (ev = .nilIface ∨ ∃ te pe,ev = .iface te pe)
theorem pow10_at : Tryz.prog.globalNamed "internal/strconv.uint64pow10" = some 3 := by kernel_rfl
theorem laidT_step (w w' : World) (h : LaidT w) (hb : ∀ b,b < 4 → w'.heap[b]? = w.heap[b]?) : LaidT w':=by
 obtain ⟨h0,⟨m,h1⟩,⟨v1,h2,h3⟩,v2,h4,h5⟩:=h
 have h0' : Lib.TabIs Tryz.prog w' "internal/strconv.uint64pow10" .u64 Lib.pow10Tab := by
  unfold Lib.TabIs World.var? at *
  rw [pow10_at] at *
  simp only [Option.bind_some] at *
  rw [hb 3 (by omega)];exact h0
 exact ⟨h0',⟨m,by rw [World.cell?_of_block (hb 2 (by omega))];exact h1⟩,⟨v1,by rw [World.cell?_of_block (hb 0 (by omega))];exact h2,h3⟩,v2,by rw [World.cell?_of_block (hb 1 (by omega))];exact h4,h5⟩
def ΓT : Glob:=⟨4,LaidT,laidT_step⟩
def c_IndexByte : Ctr:=.fn fun args _ => match args with
 | [.a (.v (.string s)),.a (.v (.int .u8 c))] => some ([(Duty.of (c = 10))],.a (vI (lnI s)))
 | _ => none
theorem c_IndexByte_ok : Ctr.Ok Tryz.prog Γ 56 c_IndexByte:=by
 intro args rg q t hF hq M w0 ρ w vs hl hgn hgl hargs hrg
 simp only at hF
 split at hF
 next s c =>
  obtain ⟨rfl,rfl⟩:=Prod.mk.inj (Option.some.inj hF);clear hF
  obtain ⟨h1,-⟩:=hq
  simp only [Duty.of_p] at h1
  match vs,hargs with
  | [y,z],⟨⟨hy,_⟩,⟨hz,_⟩,_⟩ =>
    subst hy hz h1
    refine (Tryz.strings_IndexByte s 10 w).mono fun e w' ⟨he,hw⟩ => ?_
    subst hw
    exact ⟨_,he,⟨rfl,rfl⟩,Go.RowKit.Below.refl _ _⟩
 next => cases hF
def c_TrimSuffix : Ctr:=.fn fun args _ => match args with
 | [.a (.v (.string s)),.a (.v (.string p))] => some ([(Duty.of (s.size ≤ 1000000)),(Duty.of (p = nl1))],.a (.v (.string (trA s))))
 | _ => none
theorem c_TrimSuffix_ok : Ctr.Ok Tryz.prog Γ 31 c_TrimSuffix:=by
 intro args rg q t hF hq M w0 ρ w vs hl hgn hgl hargs hrg
 simp only at hF
 split at hF
 next s p =>
  obtain ⟨rfl,rfl⟩:=Prod.mk.inj (Option.some.inj hF);clear hF
  obtain ⟨h1,h2,-⟩:=hq
  simp only [Duty.of_p] at h1 h2
  match vs,hargs with
  | [y,z],⟨⟨hy,_⟩,⟨hz,_⟩,_⟩ =>
    subst hy hz h2
    refine (Tryz.strings_TrimSuffix s nl1 w (by omega)).mono fun e w' ⟨he,hw⟩ => ?_
    subst hw
    exact ⟨_,he,⟨rfl,rfl⟩,Go.RowKit.Below.refl _ _⟩
 next => cases hF
abbrev kSt : List CK:=[.str]
theorem cnt_le (s : ByteArray) : Lib.countB s sp1 ≤ s.size:=by
 have key : ∀ (k : Nat) (s : ByteArray),Lib.countB s sp1 = k → k ≤ s.size:=by
  intro k
  induction k with
  | zero => intro s _;exact Nat.zero_le _
  | succ k ih =>
    intro s hs
    rcases Lib.indexB_cases s sp1 with h | ⟨i,h,h2⟩
    ·rw [Lib.countB_miss s sp1 h] at hs;omega
    ·have e:=Lib.countB_hit s sp1 i (by decide) h
     have e1 : sp1.size = 1:=rfl
     have:=ih (s.extract (i + sp1.size) s.size) (by omega)
     rw [ByteArray.size_extract] at this
     omega
 exact key _ s rfl
theorem wdT_len (s : ByteArray) : (wdT s).length = Lib.countB s sp1 + 1:=Lib.splitB_all sp1 (by decide) 0 _ s rfl
theorem wdT_le (s : ByteArray) : (wdT s).length ≤ s.size + 1:=by
 rw [wdT_len]
 have : Lib.countB s sp1 ≤ s.size:=cnt_le s
 omega
def c_Split : Ctr:=.new fun args rg K => match args with
 | [.a (.v (.string s)),.a (.v (.string p))] => oblige false [(Duty.of (s.size ≤ 1000000)),(Duty.of (p = sp1))] (K ⟨[.arr 9 kSt (wdT s) true true],.a (.sl 0 [] 0 (wdT s).length)⟩)
 | _ => False
theorem c_Split_ok : Ctr.Ok Tryz.prog ΓT 30 c_Split:=by
 intro args rg K hC M w0 ρ w vs hl hgn hgl hargs hrg
 split at hC
 next s p =>
  rw [oblige_iff] at hC
  obtain ⟨⟨h1,h2,-⟩,hK⟩:=hC
  simp only [Duty.of_p] at h1 h2
  match vs,hargs with
  | [y,z],⟨⟨hy,_⟩,⟨hz,_⟩,_⟩ =>
    subst hy hz h2
    have hG : LaidT w:=hgl
    obtain ⟨m,hm⟩:=hG.mx
    refine (Tryz.strings_Split s sp1 m w (by omega) hm (by decide)).mono fun e w' ⟨he,hw⟩ => ?_
    subst hw
    have hlen:=wdT_len s
    have hle:=wdT_le s
    have hb : Go.RowKit.Below w.heap.size w (w.alloc (.cells ((wdT s).map Value.string).toArray 9)):=below_alloc _
    refine ⟨_,_,setρ ρ rg.length (fun _ => ⟨w.heap.size,0,1,Lib.countB s sp1 + 1,false⟩),he,hK,hb,fun r hr π => by rw [setρ_lt hr],?_,?_⟩
    ·show rg.length + 0 < rg.length + 1 ∧ (setρ ρ rg.length _ (rg.length + 0) []).head 0 (wdT s).length _
     rw [Nat.add_zero,setρ_at]
     exact ⟨Nat.lt_succ_self _,fun h => (by cases h),fun _ => ⟨by show 0 + (wdT s).length ≤ Lib.countB s sp1 + 1;omega,_,by rw [hlen];rfl,fun _ => by simp [RI.at]⟩⟩
    ·refine hrg.fresh hb ?_ ?_ ?_ ?_
     ·intro π o B hB
      obtain ⟨rfl,rfl,rfl⟩:=flat_has (tg:=kSt) rfl hB
      show Ar.lies _ (setρ ρ rg.length _ rg.length) [] ⟨9,kSt,wdT s⟩
      rw [setρ_at]
      refine ⟨by simp [kSt],rfl,fun h => (by cases h),fun _ => by show (wdT s).length ≤ Lib.countB s sp1 + 1;omega,fun i hi => ?_⟩
      have hi : i < (wdT s).length:=hi
      refine ⟨[.string ((wdT s).getD i ByteArray.empty)],⟨_,rfl,rfl⟩,fun k y hy => ?_⟩
      cases k with
      | succ k => cases hy
      | zero =>
        cases hy
        show (w.alloc (.cells ((wdT s).map Value.string).toArray 9)).cell? ⟨w.heap.size,0 + (i * 1 + 0),none⟩ = _
        rw [cell_alloc_at]
        simp [hi]
     ·intro π o B hB _
      exact ⟨Nat.le_refl _,by simp⟩
     ·intro π B hB _
      obtain ⟨rfl,_,rfl⟩:=flat_has (tg:=kSt) rfl hB
      refine ⟨⟨.inr hl,fun j => by simp⟩,?_,_,alloc_new _,by show (List.map Value.string (wdT s)).toArray.size = 0 + (Lib.countB s sp1 + 1) * 1;simp [hlen]⟩
      show Lib.countB s sp1 + 1 ≤ maxLen
      unfold maxLen;omega
     ·intro π π' o o' B B' h1 h2 _ _
      obtain ⟨rfl,_,_⟩:=flat_has (tg:=kSt) rfl h1
      obtain ⟨rfl,_,_⟩:=flat_has (tg:=kSt) rfl h2
      rfl
 next => exact hC.elim
def c_Atoi : Ctr:=.new fun args rg K => match args with
 | [.a (.v (.string s))] => oblige false [(Duty.of (s.size ≤ 1000000))] ((∀ n,Lib.atoiAll s.data.toList = .ok n → inR .i64 n → K ⟨[],.tup [.a (vI n),.a (.v .nilIface)]⟩) ∧ (∀ n,(∀ n,Lib.atoiAll s.data.toList ≠ .ok n) → inR .i64 n → K ⟨[],.tup [.a (vI n),.a .err]⟩))
 | _ => False
theorem c_Atoi_ok : Ctr.Ok Tryz.prog ΓT 32 c_Atoi:=by
 intro args rg K hC M w0 ρ w vs hl hgn hgl hargs hrg
 split at hC
 next s =>
  rw [oblige_iff] at hC
  obtain ⟨⟨h1,-⟩,hok,herr⟩:=hC
  simp only [Duty.of_p] at h1
  match vs,hargs with
  | [y],⟨⟨hy,_⟩,_⟩ =>
    subst hy
    have hG : LaidT w:=hgl
    cases ha : Lib.atoiAll s.data.toList with
    | ok n =>
      have hb:=Lib.atoiAll_bounds ha
      refine (Tryz.strconv_Atoi_ok s (by omega) n ha w).mono fun e w' ⟨he,hw⟩ => ?_
      have hbl : Go.RowKit.Below w.heap.size w w':=by
       rcases hw with rfl | ⟨t,rfl⟩
       ·exact Go.RowKit.Below.refl _ _
       ·exact Lib.bytesWorld_below _ _ _
      exact ⟨_,_,ρ,he,hok n ha (by unfold inR;omega),hbl,fun _ _ _ => rfl,⟨_,rfl,⟨rfl,rfl⟩,⟨rfl,rfl⟩,trivial⟩,by simpa using hrg.later hbl.size hbl.block⟩
    | range =>
      obtain ⟨ev,h2,h3⟩:=hG.e2
      have hb:=Lib.atoiSat_bounds s.data.toList
      refine (Tryz.strconv_Atoi_range s (by omega) ha ev w h2 h3).mono fun e w' ⟨N,he,_,_,hbl⟩ => ?_
      exact ⟨_,_,ρ,he,herr _ (fun n hn => by rw [ha] at hn;cases hn) (by unfold inR;omega),hbl,fun _ _ _ => rfl,⟨_,rfl,⟨rfl,rfl⟩,⟨_,_,rfl⟩,trivial⟩,by simpa using hrg.later hbl.size hbl.block⟩
    | _ =>
      obtain ⟨ev,h2,h3⟩:=hG.e1
      refine (Tryz.strconv_Atoi_syntax s (by omega) ha ev w h2 h3).mono fun e w' ⟨N,he,_,_,hbl⟩ => ?_
      exact ⟨_,_,ρ,he,herr 0 (fun n hn => by rw [ha] at hn;cases hn) (by unfold inR;omega),hbl,fun _ _ _ => rfl,⟨_,rfl,⟨rfl,rfl⟩,⟨_,_,rfl⟩,trivial⟩,by simpa using hrg.later hbl.size hbl.block⟩
 next => exact hC.elim
def c_Itoa : Ctr:=.fn fun args _ => match args with
 | [.a (.v (.int .i64 n))] => some ([(Duty.of (-9223372036854775808 ≤ n ∧ n ≤ 9223372036854775807))],.a (.v (.string (bA (Lib.itoa n)))))
 | _ => none
theorem c_Itoa_ok : Ctr.Ok Tryz.prog ΓT 54 c_Itoa:=by
 intro args rg q t hF hq M w0 ρ w vs hl hgn hgl hargs hrg
 simp only at hF
 split at hF
 next n =>
  obtain ⟨rfl,rfl⟩:=Prod.mk.inj (Option.some.inj hF);clear hF
  obtain ⟨h1,-⟩:=hq
  simp only [Duty.of_p] at h1
  match vs,hargs with
  | [y],⟨⟨hy,_⟩,_⟩ =>
    subst hy
    have hL : LaidT w:=hgl
    refine (Tryz.strconv_Itoa n h1.1 h1.2 w hL.tab).mono fun e w' ⟨he,k,os,hw⟩ => ?_
    subst hw
    exact ⟨_,he,⟨rfl,rfl⟩,Lib.below_grow _ _ (Nat.le_refl _) _ _⟩
 next => cases hF
end Go.Proofs.YtcmojakklijgfaaGreatDoor
end
section
namespace Go.Proofs.YtcmojakklijgfaaGreatDoor
open Go Go.Sy Go.Chn
variable {Γ : Glob}
def fsI (D : ByteArray → List Int → List Duty) (F : ByteArray → List Int → Tm) : Ctr:=.fn fun args rg => match args with
 | [.a (.v (.string s0)),.a x0] => (match arrOf 3 kI rg x0 with | some (q0,L0) => some (q0 ++ (D s0 L0),F s0 L0) | _ => none)
 | _ => none
theorem fsI_ok {f : FuncId} {b : Body} {E : Env} {d : Nat} (hP : ProgOk Tryz.prog Γ E) (hb : BodyOk Tryz.prog f b) {D : ByteArray → List Int → List Duty} {F : ByteArray → List Int → Tm} (hp : ∀ (s0 : ByteArray) (L0 : List Int),(F s0 L0).plain = true)
  (H : ∀ (s0 : ByteArray) (L0 : List Int),obl (D s0 L0) → evTop E d b [.a (.v (.string s0)),.a (.sl 0 [] 0 L0.length)] [.arr 3 kI L0 false false] (fun x _ => eqT x (F s0 L0))) : Ctr.Ok Tryz.prog Γ f (fsI D F):=Ctr.fn_ok (d:=d) hP hb (by
 intro args rg q t hF hq
 split at hF
 next s0 x0 =>
  split at hF
  next q0 L0 hx0 =>
   obtain ⟨rfl,rfl⟩:=Prod.mk.inj (Option.some.inj hF);clear hF
   rw [obl_append] at hq
   obtain ⟨hq0,hD⟩:=hq
   obtain ⟨e0,he0⟩:=pas_arr (by simp [kI]) hx0 hq0
   obtain ⟨p0,r0⟩:=he0 [e0] 0 1 rfl (by omega)
   refine ⟨hp _ _,[e0],[.a (.v (.string s0)),.a (.sl 0 [] 0 L0.length)],[.arr 3 kI L0 false false],⟨⟨rfl,p0,trivial⟩,fun r g hg => ?_⟩,H _ _ hD⟩
   match r,hg with
   | 0,hg => obtain rfl:=Option.some.inj hg;exact r0
  next => cases hF
 next => cases hF)
def fsn (D : ByteArray → Int → List Duty) (F : ByteArray → Int → Tm) : Ctr:=.fn fun args rg => match args with
 | [.a (.v (.string s0)),.a (.v (.int .i64 n0))] => some (D s0 n0,F s0 n0)
 | _ => none
theorem fsn_ok {f : FuncId} {b : Body} {E : Env} {d : Nat} (hP : ProgOk Tryz.prog Γ E) (hb : BodyOk Tryz.prog f b) {D : ByteArray → Int → List Duty} {F : ByteArray → Int → Tm} (hp : ∀ (s0 : ByteArray) (n0 : Int),(F s0 n0).plain = true)
  (H : ∀ (s0 : ByteArray) (n0 : Int),obl (D s0 n0) → evTop E d b [.a (.v (.string s0)),.a (vI n0)] [] (fun x _ => eqT x (F s0 n0))) : Ctr.Ok Tryz.prog Γ f (fsn D F):=Ctr.fn_ok (d:=d) hP hb (by
 intro args rg q t hF hq
 split at hF
 next s0 n0 =>
  obtain ⟨rfl,rfl⟩:=Prod.mk.inj (Option.some.inj hF);clear hF
  have hD:=hq
  refine ⟨hp _ _,[],[.a (.v (.string s0)),.a (vI n0)],[],⟨⟨rfl,rfl,trivial⟩,fun r g hg => ?_⟩,H _ _ hD⟩
  cases hg
 next => cases hF)
theorem itoa_len {n : Int} (h : -9223372036854775808 ≤ n ∧ n ≤ 9223372036854775807) : (bA (Lib.itoa n)).size ≤ 21:=by rw [bA_size];exact Lib.itoa_length_le n h.1 h.2
def itF (n : Int) : ByteArray:=bA (Lib.itoa n)
abbrev intA (w : List Int) (i : Int) : Int:=@Ar.get ⟨3,kI,w⟩ (0 + Int.toNat i)
theorem intA_eq (w : List Int) (i : Nat) : intA w i = w.getD i 0:=by unfold intA;rw [Nat.zero_add,Int.toNat_natCast];rfl
theorem getD_mem {w : List Int} {i : Nat} (h : i < w.length) : w.getD i 0 ∈ w:=by rw [List.getD_eq_getElem?_getD,List.getElem?_eq_getElem h];exact List.getElem_mem h
def lnR (w : ByteArray) (l : List Int) : Nat → ByteArray
 | 0 => w
 | k + 1 => lnR w l k ++ (sp1 ++ itF (l.getD k 0))
theorem lnR_succ (w : ByteArray) (l : List Int) (k : Nat) : lnR w l (k + 1) = lnR w l k ++ (sp1 ++ bA (Lib.itoa (l.getD k 0))):=rfl
def lineF (w : ByteArray) (l : List Int) : ByteArray:=lnR w l l.length ++ nl1
theorem lnR_size {w : ByteArray} {l : List Int} (hl : ∀ v ∈ l,-9223372036854775808 ≤ v ∧ v ≤ 9223372036854775807) : ∀ k,k ≤ l.length → (lnR w l k).size ≤ w.size + 22 * k
 | 0,_ => Nat.le_refl _
 | k + 1,hk => by
   have h1:=lnR_size (w:=w) hl k (by omega)
   have h2 : (itF (l.getD k 0)).size ≤ 21:=itoa_len (hl _ (getD_mem hk))
   rw [lnR,ByteArray.size_append,ByteArray.size_append]
   have : sp1.size = 1:=rfl
   omega
def c_line : Ctr:=fsI (fun w l => [(Duty.of (l.length ≤ 10)),(Duty.of (∀ v ∈ l,-9223372036854775808 ≤ v ∧ v ≤ 9223372036854775807)),(Duty.of (w.size ≤ 100))]) (fun w l => .a (.v (.string (lineF w l))))
noncomputable def Lline : List (Nat × Ctr):=[(54,c_Itoa)]
theorem Lline_ok : CsOk Tryz.prog ΓT Lline:=(CsOk.nil.cons (body_of Tryz.func54 rfl rfl).fn c_Itoa_ok)
attribute [local irreducible] itF
theorem c_line_ok : Ctr.Ok Tryz.prog ΓT 27 c_line:=fsI_ok (d:=0) (prog_ok Lline_ok BsOk.nil false 0) (body_of Tryz.func27 rfl rfl) (fun _ _ => rfl) (by
 intro w l ⟨hl,hv,hw,_⟩
 simp only [Duty.of_p] at hl hv hw
 repeat' ((conv => whnf);first | apply And.intro | (intro h9;try (have h8 : (_ : Bool) = _:=h9;clear h8;revert h9;subst_vars;intro h9;exact bon9 h9 (by assumption))))
 all_goals try (conv => whnf)
 all_goals try first | (apply Tk.mk <;> kernel_rfl) | exact ⟨leb9 rfl⟩ | exact ⟨rfl⟩ | exact ⟨trivial⟩
 all_goals subst_vars
 all_goals try first | rfl | contradiction | (apply Ob.mk;first | (simp only [inRQ,inR,Duty.of_p];omega) | ((try simp only [Duty.of_p]);(try dsimp only);omega))
 all_goals try first
  | exact True.intro
  | exact ⟨show ((bA (Lib.itoa (Int.tdiv n 10))).size + (strOfNums (List.take 1 (List.drop 0 [(48 + Int.tmod n 10 : Int)]))).size : Nat) ≤ 9223372036854775807 by omega⟩
  | exact ⟨gv⟩
  | exact ⟨hd⟩
  | exact ⟨hn⟩
  | exact congrArg Value.string hs
  | exact hs
  | exact ⟨Nat.zero_add _⟩
  | exact ⟨show 0 ≤ (k : Int) ∧ (k : Int) < (l.length : Int) by omega⟩
  | exact ⟨show 0 + Int.toNat (k : Int) < l.length by omega⟩
  | exact ⟨show ((1 + (bA (Lib.itoa (intA l k))).size : Nat) ≤ 9223372036854775807) by omega⟩
  | exact ⟨show (((lnR w l k).size + (sp1 ++ bA (Lib.itoa (intA l k))).size : Nat) ≤ 9223372036854775807) by omega⟩
  | exact ⟨show (((lnR w l l.length).size + 1 : Nat) ≤ 9223372036854775807) by omega⟩
  | (apply Ob.mk;show (inRQ .i64 _).p;simp only [inRQ,inR,Duty.of_p];omega)
  | (refine Ob.mk ?_;show (inRQ .u8 _).p;simp only [inRQ,inR,Duty.of_p];omega)
  | (refine Ob.mk ?_;simp only [Duty.of_p,ByteArray.size_append];omega)
 refine ⟨Nat,fun k => k ≤ l.length,fun k => ⟨slotsT 21 [0,7,8,9] [.a (.v (.string (lnR w l k))),.a (.sl 0 [] 0 l.length),.a (vI l.length),.a (vI k)],[],[.arr 3 kI l false false]⟩,fun k => l.length - k,0,[],Nat.zero_le _,?_,?_⟩
 ·repeat' ((conv => whnf);(first | apply And.intro | intro _))
  all_goals first | rfl | trivial | exact leb9 rfl | exact mem9 ‹_› rfl | exact men9 ‹_› rfl | ((repeat' first | rfl | constructor);done)
 rintro k hk
 have hsz:=lnR_size (w:=w) hv k hk
 by_cases hk1 : k < l.length
 ·have p0 : decide ((k : Int) < (l.length : Int)) = true:=decide_eq_true (by omega)
  have ge : intA l k = l.getD k 0:=intA_eq l k
  have gv : -9223372036854775808 ≤ intA l k ∧ intA l k ≤ 9223372036854775807:=by rw [ge];exact hv _ (getD_mem hk1)
  have gs : (bA (Lib.itoa (intA l k))).size ≤ 21:=itoa_len gv
  have hsu : lnR w l k ++ (sp1 ++ bA (Lib.itoa (intA l k))) = lnR w l (k + 1):=by rw [ge];exact (lnR_succ w l k).symm
  have hs2 : (sp1 ++ bA (Lib.itoa (intA l k))).size ≤ 22:=by rw [ByteArray.size_append];have : sp1.size = 1:=rfl;omega
  repeat' ((conv => whnf);first | apply And.intro | (intro h9;try (have h8 : (_ : Bool) = _:=h9;clear h8;revert h9;subst_vars;intro h9;exact bon9 h9 (by assumption))))
  all_goals try (conv => whnf)
  all_goals try first | (apply Tk.mk <;> kernel_rfl) | exact ⟨leb9 rfl⟩ | exact ⟨rfl⟩ | exact ⟨trivial⟩
  all_goals subst_vars
  all_goals try first | rfl | contradiction | (apply Ob.mk;first | (simp only [inRQ,inR,Duty.of_p];omega) | ((try simp only [Duty.of_p]);(try dsimp only);omega))
  all_goals try first
   | exact True.intro
   | exact ⟨show ((bA (Lib.itoa (Int.tdiv n 10))).size + (strOfNums (List.take 1 (List.drop 0 [(48 + Int.tmod n 10 : Int)]))).size : Nat) ≤ 9223372036854775807 by omega⟩
   | exact ⟨gv⟩
   | exact ⟨hd⟩
   | exact ⟨hn⟩
   | exact congrArg Value.string hs
   | exact hs
   | exact ⟨Nat.zero_add _⟩
   | exact ⟨show 0 ≤ (k : Int) ∧ (k : Int) < (l.length : Int) by omega⟩
   | exact ⟨show 0 + Int.toNat (k : Int) < l.length by omega⟩
   | exact ⟨show ((1 + (bA (Lib.itoa (intA l k))).size : Nat) ≤ 9223372036854775807) by omega⟩
   | exact ⟨show (((lnR w l k).size + (sp1 ++ bA (Lib.itoa (intA l k))).size : Nat) ≤ 9223372036854775807) by omega⟩
   | exact ⟨show (((lnR w l l.length).size + 1 : Nat) ≤ 9223372036854775807) by omega⟩
   | (apply Ob.mk;show (inRQ .i64 _).p;simp only [inRQ,inR,Duty.of_p];omega)
   | (refine Ob.mk ?_;show (inRQ .u8 _).p;simp only [inRQ,inR,Duty.of_p];omega)
   | (refine Ob.mk ?_;simp only [Duty.of_p,ByteArray.size_append];omega)
  refine ⟨k + 1,[],hk1,?_,by show l.length - (k + 1) < l.length - k;omega⟩
  repeat' ((conv => whnf);(first | apply And.intro | intro _))
  all_goals first | rfl | trivial | exact leb9 rfl | exact mem9 ‹_› rfl | exact men9 ‹_› rfl | ((repeat' first | rfl | constructor);done) | exact congrArg Value.string hsu | exact hsu
 have p0 : decide ((k : Int) < (l.length : Int)) = false:=decide_eq_false (by omega)
 obtain rfl : k = l.length:=by omega
 repeat' ((conv => whnf);first | apply And.intro | (intro h9;try (have h8 : (_ : Bool) = _:=h9;clear h8;revert h9;subst_vars;intro h9;exact bon9 h9 (by assumption))))
 all_goals try (conv => whnf)
 all_goals try first | (apply Tk.mk <;> kernel_rfl) | exact ⟨leb9 rfl⟩ | exact ⟨rfl⟩ | exact ⟨trivial⟩
 all_goals subst_vars
 all_goals try first | rfl | contradiction | (apply Ob.mk;first | (simp only [inRQ,inR,Duty.of_p];omega) | ((try simp only [Duty.of_p]);(try dsimp only);omega))
 all_goals first
  | trivial
  | exact True.intro
  | exact ⟨show ((bA (Lib.itoa (Int.tdiv n 10))).size + (strOfNums (List.take 1 (List.drop 0 [(48 + Int.tmod n 10 : Int)]))).size : Nat) ≤ 9223372036854775807 by omega⟩
  | exact ⟨gv⟩
  | exact ⟨hd⟩
  | exact ⟨hn⟩
  | exact congrArg Value.string hs
  | exact hs
  | exact ⟨Nat.zero_add _⟩
  | exact ⟨show 0 ≤ (k : Int) ∧ (k : Int) < (l.length : Int) by omega⟩
  | exact ⟨show 0 + Int.toNat (k : Int) < l.length by omega⟩
  | exact ⟨show ((1 + (bA (Lib.itoa (intA l k))).size : Nat) ≤ 9223372036854775807) by omega⟩
  | exact ⟨show (((lnR w l k).size + (sp1 ++ bA (Lib.itoa (intA l k))).size : Nat) ≤ 9223372036854775807) by omega⟩
  | exact ⟨show (((lnR w l l.length).size + 1 : Nat) ≤ 9223372036854775807) by omega⟩
  | (apply Ob.mk;show (inRQ .i64 _).p;simp only [inRQ,inR,Duty.of_p];omega)
  | (refine Ob.mk ?_;show (inRQ .u8 _).p;simp only [inRQ,inR,Duty.of_p];omega)
  | (refine Ob.mk ?_;simp only [Duty.of_p,ByteArray.size_append];omega))
/-! ### Numerals -/
def c_dg (k : Nat) : Ctr:=.fn fun args _ => match args with
 | [.a (.v (.int .i64 n))] => some ([(Duty.of (0 ≤ n ∧ n < 10 ^ k ∧ n ≤ 9007199254740992))],.a (.v (.string (bA (Lib.itoa n)))))
 | _ => none
def lastD (n : Int) : ByteArray:=strOfNums (List.take 1 (List.drop 0 [(48 + Int.tmod n 10 : Int)]))
theorem last_eq {n : Int} (h : 0 ≤ n) : lastD n = bA [UInt8.ofNat (48 + n.toNat % 10)]:=by
 obtain ⟨a,rfl⟩ : ∃ a : Nat,n = (a : Int):=⟨n.toNat,by omega⟩
 have k : ∀ a : Nat,a < 10 → strOfNums (List.take 1 (List.drop 0 [(48 + (a : Int) : Int)])) = bA [UInt8.ofNat (48 + a)]:=by decide +kernel
 unfold lastD
 rw [Int.tmod_eq_emod_of_nonneg h,Int.toNat_natCast,show ((a : Int) % 10) = ((a % 10 : Nat) : Int) by omega]
 exact k (a % 10) (Nat.mod_lt _ (by omega))
theorem itoa_pos {n : Int} (h : 0 ≤ n) : Lib.itoa n = Lib.decDigits n.toNat:=by unfold Lib.itoa;rw [if_neg (by omega)]
theorem itoa_low {n : Int} (h : 0 ≤ n) (h1 : n < 10) : lastD n = bA (Lib.itoa n):=by
 rw [last_eq h,itoa_pos h,Lib.decDigits,dif_pos (by omega),Nat.mod_eq_of_lt (by omega)]
theorem itoa_high {n : Int} (h1 : 10 ≤ n) : bA (Lib.itoa (Int.tdiv n 10)) ++ lastD n = bA (Lib.itoa n):=by
 have e : Int.tdiv n 10 = n / 10:=Int.tdiv_eq_ediv_of_nonneg (by omega)
 rw [last_eq (by omega),e,itoa_pos (by omega),itoa_pos (show 0 ≤ n by omega),bA_app]
 conv => rhs;rw [Lib.decDigits]
 rw [dif_neg (by omega),show (n / 10).toNat = n.toNat / 10 by omega]
theorem itoa_min {n : Int} (h : n < 0) : ({ data:=#[45] } : ByteArray) ++ bA (Lib.itoa (0 - n)) = bA (Lib.itoa n):=by
 rw [itoa_pos (show 0 ≤ 0 - n by omega)]
 show bA [45] ++ _ = _
 rw [bA_app]
 unfold Lib.itoa
 rw [if_pos h,show (0 - n).toNat = n.natAbs by omega];rfl
theorem last_size (n : Int) : (strOfNums (List.take 1 (List.drop 0 [(48 + Int.tmod n 10 : Int)]))).size = 1:=by
 simp [strOfNums,ByteArray.size]
theorem c_dg_ok : ∀ k : Nat,k ≤ 16 → Ctr.Ok Tryz.prog Γ 35 (c_dg k)
 | 0,_ => Ctr.fn_ok (d:=0) (prog_ok CsOk.nil BsOk.nil false 0) (body_of Tryz.func35 rfl rfl) (by
   intro args rg q t hF hq
   split at hF
   next n =>
    obtain ⟨rfl,rfl⟩:=Prod.mk.inj (Option.some.inj hF);clear hF
    obtain ⟨hn,-⟩:=hq
    simp only [Duty.of_p] at hn
    refine ⟨rfl,[],[.a (vI n)],[],⟨⟨rfl,trivial⟩,fun r g hg => (by cases hg)⟩,?_⟩
    have p0 : decide (n < 0) = false:=decide_eq_false (by omega)
    have p1 : decide (n < 10) = true:=decide_eq_true (by simp only [Int.pow_zero] at hn;omega)
    have m1 : 0 ≤ Int.tmod n 10 ∧ Int.tmod n 10 ≤ 9:=by rw [Int.tmod_eq_emod_of_nonneg hn.1];omega
    have hs : strOfNums (List.take 1 (List.drop 0 [(48 + Int.tmod n 10 : Int)])) = bA (Lib.itoa n):=itoa_low hn.1 (of_decide_eq_true p1)
    repeat' ((conv => whnf);first | apply And.intro | (intro h9;try (have h8 : (_ : Bool) = _:=h9;clear h8;revert h9;subst_vars;intro h9;exact bon9 h9 (by assumption))))
    all_goals try (conv => whnf)
    all_goals try first | (apply Tk.mk <;> kernel_rfl) | exact ⟨leb9 rfl⟩ | exact ⟨rfl⟩ | exact ⟨trivial⟩
    all_goals subst_vars
    all_goals try first | rfl | contradiction | (apply Ob.mk;first | (simp only [inRQ,inR,Duty.of_p];omega) | ((try simp only [Duty.of_p]);(try dsimp only);omega))
    all_goals first
     | trivial
     | exact True.intro
     | exact ⟨show ((bA (Lib.itoa (Int.tdiv n 10))).size + (strOfNums (List.take 1 (List.drop 0 [(48 + Int.tmod n 10 : Int)]))).size : Nat) ≤ 9223372036854775807 by omega⟩
     | exact ⟨gv⟩
     | exact ⟨hd⟩
     | exact ⟨hn⟩
     | exact congrArg Value.string hs
     | exact hs
     | exact ⟨Nat.zero_add _⟩
     | exact ⟨show 0 ≤ (k : Int) ∧ (k : Int) < (l.length : Int) by omega⟩
     | exact ⟨show 0 + Int.toNat (k : Int) < l.length by omega⟩
     | exact ⟨show ((1 + (bA (Lib.itoa (intA l k))).size : Nat) ≤ 9223372036854775807) by omega⟩
     | exact ⟨show (((lnR w l k).size + (sp1 ++ bA (Lib.itoa (intA l k))).size : Nat) ≤ 9223372036854775807) by omega⟩
     | exact ⟨show (((lnR w l l.length).size + 1 : Nat) ≤ 9223372036854775807) by omega⟩
     | (apply Ob.mk;show (inRQ .i64 _).p;simp only [inRQ,inR,Duty.of_p];omega)
     | (refine Ob.mk ?_;show (inRQ .u8 _).p;simp only [inRQ,inR,Duty.of_p];omega)
     | (refine Ob.mk ?_;simp only [Duty.of_p,ByteArray.size_append];omega)
   next => cases hF)
 | k + 1,hk => Ctr.fn_ok (d:=0) (prog_ok (l:=[(35,c_dg k)]) (CsOk.nil.cons (body_of Tryz.func35 rfl rfl).fn (c_dg_ok k (by omega))) BsOk.nil false 0) (body_of Tryz.func35 rfl rfl) (by
   intro args rg q t hF hq
   split at hF
   next n =>
    obtain ⟨rfl,rfl⟩:=Prod.mk.inj (Option.some.inj hF);clear hF
    obtain ⟨hn,-⟩:=hq
    simp only [Duty.of_p] at hn
    refine ⟨rfl,[],[.a (vI n)],[],⟨⟨rfl,trivial⟩,fun r g hg => (by cases hg)⟩,?_⟩
    have p0 : decide (n < 0) = false:=decide_eq_false (by omega)
    have m1 : 0 ≤ Int.tmod n 10 ∧ Int.tmod n 10 ≤ 9:=by rw [Int.tmod_eq_emod_of_nonneg hn.1];omega
    have z1:=last_size n
    by_cases h1 : n < 10
    ·have p1 : decide (n < 10) = true:=decide_eq_true h1
     have hs : strOfNums (List.take 1 (List.drop 0 [(48 + Int.tmod n 10 : Int)])) = bA (Lib.itoa n):=itoa_low hn.1 h1
     repeat' ((conv => whnf);first | apply And.intro | (intro h9;try (have h8 : (_ : Bool) = _:=h9;clear h8;revert h9;subst_vars;intro h9;exact bon9 h9 (by assumption))))
     all_goals try (conv => whnf)
     all_goals try first | (apply Tk.mk <;> kernel_rfl) | exact ⟨leb9 rfl⟩ | exact ⟨rfl⟩ | exact ⟨trivial⟩
     all_goals subst_vars
     all_goals try first | rfl | contradiction | (apply Ob.mk;first | (simp only [inRQ,inR,Duty.of_p];omega) | ((try simp only [Duty.of_p]);(try dsimp only);omega))
     all_goals first
      | trivial
      | exact True.intro
      | exact ⟨show ((bA (Lib.itoa (Int.tdiv n 10))).size + (strOfNums (List.take 1 (List.drop 0 [(48 + Int.tmod n 10 : Int)]))).size : Nat) ≤ 9223372036854775807 by omega⟩
      | exact ⟨gv⟩
      | exact ⟨hd⟩
      | exact ⟨hn⟩
      | exact congrArg Value.string hs
      | exact hs
      | exact ⟨Nat.zero_add _⟩
      | exact ⟨show 0 ≤ (k : Int) ∧ (k : Int) < (l.length : Int) by omega⟩
      | exact ⟨show 0 + Int.toNat (k : Int) < l.length by omega⟩
      | exact ⟨show ((1 + (bA (Lib.itoa (intA l k))).size : Nat) ≤ 9223372036854775807) by omega⟩
      | exact ⟨show (((lnR w l k).size + (sp1 ++ bA (Lib.itoa (intA l k))).size : Nat) ≤ 9223372036854775807) by omega⟩
      | exact ⟨show (((lnR w l l.length).size + 1 : Nat) ≤ 9223372036854775807) by omega⟩
      | (apply Ob.mk;show (inRQ .i64 _).p;simp only [inRQ,inR,Duty.of_p];omega)
      | (refine Ob.mk ?_;show (inRQ .u8 _).p;simp only [inRQ,inR,Duty.of_p];omega)
      | (refine Ob.mk ?_;simp only [Duty.of_p,ByteArray.size_append];omega)
    ·have p1 : decide (n < 10) = false:=decide_eq_false h1
     have hs : bA (Lib.itoa (Int.tdiv n 10)) ++ strOfNums (List.take 1 (List.drop 0 [(48 + Int.tmod n 10 : Int)])) = bA (Lib.itoa n):=itoa_high (by omega)
     have e:=Int.tdiv_eq_ediv_of_nonneg (b:=10) (show 0 ≤ n by omega)
     have hd : 0 ≤ Int.tdiv n 10 ∧ Int.tdiv n 10 < 10 ^ k ∧ Int.tdiv n 10 ≤ 9007199254740992:=by
      rw [e]
      refine ⟨by omega,?_,by omega⟩
      have:=hn.2.1
      rw [Int.pow_succ] at this
      omega
     have hz : (bA (Lib.itoa (Int.tdiv n 10))).size ≤ 21:=itoa_len (by omega)
     clear e
     repeat' ((conv => whnf);first | apply And.intro | (intro h9;try (have h8 : (_ : Bool) = _:=h9;clear h8;revert h9;subst_vars;intro h9;exact bon9 h9 (by assumption))))
     all_goals try (conv => whnf)
     all_goals try first | (apply Tk.mk <;> kernel_rfl) | exact ⟨leb9 rfl⟩ | exact ⟨rfl⟩ | exact ⟨trivial⟩
     all_goals subst_vars
     all_goals try first | rfl | contradiction | (apply Ob.mk;first | (simp only [inRQ,inR,Duty.of_p];omega) | ((try simp only [Duty.of_p]);(try dsimp only);omega))
     all_goals first
      | trivial
      | exact True.intro
      | exact ⟨show ((bA (Lib.itoa (Int.tdiv n 10))).size + (strOfNums (List.take 1 (List.drop 0 [(48 + Int.tmod n 10 : Int)]))).size : Nat) ≤ 9223372036854775807 by omega⟩
      | exact ⟨gv⟩
      | exact ⟨hd⟩
      | exact ⟨hn⟩
      | exact congrArg Value.string hs
      | exact hs
      | exact ⟨Nat.zero_add _⟩
      | exact ⟨show 0 ≤ (k : Int) ∧ (k : Int) < (l.length : Int) by omega⟩
      | exact ⟨show 0 + Int.toNat (k : Int) < l.length by omega⟩
      | exact ⟨show ((1 + (bA (Lib.itoa (intA l k))).size : Nat) ≤ 9223372036854775807) by omega⟩
      | exact ⟨show (((lnR w l k).size + (sp1 ++ bA (Lib.itoa (intA l k))).size : Nat) ≤ 9223372036854775807) by omega⟩
      | exact ⟨show (((lnR w l l.length).size + 1 : Nat) ≤ 9223372036854775807) by omega⟩
      | (apply Ob.mk;show (inRQ .i64 _).p;simp only [inRQ,inR,Duty.of_p];omega)
      | (refine Ob.mk ?_;show (inRQ .u8 _).p;simp only [inRQ,inR,Duty.of_p];omega)
      | (refine Ob.mk ?_;simp only [Duty.of_p,ByteArray.size_append];omega)
   next => cases hF)
def c_digits : Ctr:=.fn fun args _ => match args with
 | [.a (.v (.int .i64 n))] => some ([(Duty.of (-9007199254740992 ≤ n ∧ n ≤ 9007199254740992))],.a (.v (.string (bA (Lib.itoa n)))))
 | _ => none
theorem c_digits_ok : Ctr.Ok Tryz.prog Γ 35 c_digits:=Ctr.fn_ok (d:=0) (prog_ok (l:=[(35,c_dg 16)]) (CsOk.nil.cons (body_of Tryz.func35 rfl rfl).fn (c_dg_ok 16 (Nat.le_refl _))) BsOk.nil false 0) (body_of Tryz.func35 rfl rfl) (by
  intro args rg q t hF hq
  split at hF
  next n =>
   obtain ⟨rfl,rfl⟩:=Prod.mk.inj (Option.some.inj hF);clear hF
   obtain ⟨hn,-⟩:=hq
   simp only [Duty.of_p] at hn
   refine ⟨rfl,[],[.a (vI n)],[],⟨⟨rfl,trivial⟩,fun r g hg => (by cases hg)⟩,?_⟩
   have p10 : (10 : Int) ^ 16 = 10000000000000000:=by decide
   by_cases h0 : n < 0
   ·have p0 : decide (n < 0) = true:=decide_eq_true h0
    have hd : 0 ≤ 0 - n ∧ 0 - n < 10 ^ 16 ∧ 0 - n ≤ 9007199254740992:=by rw [p10];omega
    have hs:=itoa_min h0
    have hz : (bA (Lib.itoa (0 - n))).size ≤ 21:=itoa_len (by omega)
    have z1 : ({ data:=#[45] } : ByteArray).size = 1:=rfl
    clear p10
    repeat' ((conv => whnf);first | apply And.intro | (intro h9;try (have h8 : (_ : Bool) = _:=h9;clear h8;revert h9;subst_vars;intro h9;exact bon9 h9 (by assumption))))
    all_goals try (conv => whnf)
    all_goals try first | (apply Tk.mk <;> kernel_rfl) | exact ⟨leb9 rfl⟩ | exact ⟨rfl⟩ | exact ⟨trivial⟩
    all_goals subst_vars
    all_goals try first | rfl | contradiction | (apply Ob.mk;first | (simp only [inRQ,inR,Duty.of_p];omega) | ((try simp only [Duty.of_p]);(try dsimp only);omega))
    all_goals first
     | trivial
     | exact True.intro
     | exact ⟨show ((bA (Lib.itoa (Int.tdiv n 10))).size + (strOfNums (List.take 1 (List.drop 0 [(48 + Int.tmod n 10 : Int)]))).size : Nat) ≤ 9223372036854775807 by omega⟩
     | exact ⟨gv⟩
     | exact ⟨hd⟩
     | exact ⟨hn⟩
     | exact congrArg Value.string hs
     | exact hs
     | exact ⟨Nat.zero_add _⟩
     | exact ⟨show 0 ≤ (k : Int) ∧ (k : Int) < (l.length : Int) by omega⟩
     | exact ⟨show 0 + Int.toNat (k : Int) < l.length by omega⟩
     | exact ⟨show ((1 + (bA (Lib.itoa (intA l k))).size : Nat) ≤ 9223372036854775807) by omega⟩
     | exact ⟨show (((lnR w l k).size + (sp1 ++ bA (Lib.itoa (intA l k))).size : Nat) ≤ 9223372036854775807) by omega⟩
     | exact ⟨show (((lnR w l l.length).size + 1 : Nat) ≤ 9223372036854775807) by omega⟩
     | (apply Ob.mk;show (inRQ .i64 _).p;simp only [inRQ,inR,Duty.of_p];omega)
     | (refine Ob.mk ?_;show (inRQ .u8 _).p;simp only [inRQ,inR,Duty.of_p];omega)
     | (refine Ob.mk ?_;simp only [Duty.of_p,ByteArray.size_append];omega)
   have p0 : decide (n < 0) = false:=decide_eq_false h0
   have m1 : 0 ≤ Int.tmod n 10 ∧ Int.tmod n 10 ≤ 9:=by rw [Int.tmod_eq_emod_of_nonneg (by omega)];omega
   have z1:=last_size n
   by_cases h1 : n < 10
   ·have p1 : decide (n < 10) = true:=decide_eq_true h1
    have hs : strOfNums (List.take 1 (List.drop 0 [(48 + Int.tmod n 10 : Int)])) = bA (Lib.itoa n):=itoa_low (by omega) h1
    clear p10
    repeat' ((conv => whnf);first | apply And.intro | (intro h9;try (have h8 : (_ : Bool) = _:=h9;clear h8;revert h9;subst_vars;intro h9;exact bon9 h9 (by assumption))))
    all_goals try (conv => whnf)
    all_goals try first | (apply Tk.mk <;> kernel_rfl) | exact ⟨leb9 rfl⟩ | exact ⟨rfl⟩ | exact ⟨trivial⟩
    all_goals subst_vars
    all_goals try first | rfl | contradiction | (apply Ob.mk;first | (simp only [inRQ,inR,Duty.of_p];omega) | ((try simp only [Duty.of_p]);(try dsimp only);omega))
    all_goals first
     | trivial
     | exact True.intro
     | exact ⟨show ((bA (Lib.itoa (Int.tdiv n 10))).size + (strOfNums (List.take 1 (List.drop 0 [(48 + Int.tmod n 10 : Int)]))).size : Nat) ≤ 9223372036854775807 by omega⟩
     | exact ⟨gv⟩
     | exact ⟨hd⟩
     | exact ⟨hn⟩
     | exact congrArg Value.string hs
     | exact hs
     | exact ⟨Nat.zero_add _⟩
     | exact ⟨show 0 ≤ (k : Int) ∧ (k : Int) < (l.length : Int) by omega⟩
     | exact ⟨show 0 + Int.toNat (k : Int) < l.length by omega⟩
     | exact ⟨show ((1 + (bA (Lib.itoa (intA l k))).size : Nat) ≤ 9223372036854775807) by omega⟩
     | exact ⟨show (((lnR w l k).size + (sp1 ++ bA (Lib.itoa (intA l k))).size : Nat) ≤ 9223372036854775807) by omega⟩
     | exact ⟨show (((lnR w l l.length).size + 1 : Nat) ≤ 9223372036854775807) by omega⟩
     | (apply Ob.mk;show (inRQ .i64 _).p;simp only [inRQ,inR,Duty.of_p];omega)
     | (refine Ob.mk ?_;show (inRQ .u8 _).p;simp only [inRQ,inR,Duty.of_p];omega)
     | (refine Ob.mk ?_;simp only [Duty.of_p,ByteArray.size_append];omega)
   ·have p1 : decide (n < 10) = false:=decide_eq_false h1
    have hs : bA (Lib.itoa (Int.tdiv n 10)) ++ strOfNums (List.take 1 (List.drop 0 [(48 + Int.tmod n 10 : Int)])) = bA (Lib.itoa n):=itoa_high (by omega)
    have e:=Int.tdiv_eq_ediv_of_nonneg (b:=10) (show 0 ≤ n by omega)
    have hd : 0 ≤ Int.tdiv n 10 ∧ Int.tdiv n 10 < 10 ^ 16 ∧ Int.tdiv n 10 ≤ 9007199254740992:=by rw [e,p10];omega
    have hz : (bA (Lib.itoa (Int.tdiv n 10))).size ≤ 21:=itoa_len (by omega)
    clear e p10
    repeat' ((conv => whnf);first | apply And.intro | (intro h9;try (have h8 : (_ : Bool) = _:=h9;clear h8;revert h9;subst_vars;intro h9;exact bon9 h9 (by assumption))))
    all_goals try (conv => whnf)
    all_goals try first | (apply Tk.mk <;> kernel_rfl) | exact ⟨leb9 rfl⟩ | exact ⟨rfl⟩ | exact ⟨trivial⟩
    all_goals subst_vars
    all_goals try first | rfl | contradiction | (apply Ob.mk;first | (simp only [inRQ,inR,Duty.of_p];omega) | ((try simp only [Duty.of_p]);(try dsimp only);omega))
    all_goals first
     | trivial
     | exact True.intro
     | exact ⟨show ((bA (Lib.itoa (Int.tdiv n 10))).size + (strOfNums (List.take 1 (List.drop 0 [(48 + Int.tmod n 10 : Int)]))).size : Nat) ≤ 9223372036854775807 by omega⟩
     | exact ⟨gv⟩
     | exact ⟨hd⟩
     | exact ⟨hn⟩
     | exact congrArg Value.string hs
     | exact hs
     | exact ⟨Nat.zero_add _⟩
     | exact ⟨show 0 ≤ (k : Int) ∧ (k : Int) < (l.length : Int) by omega⟩
     | exact ⟨show 0 + Int.toNat (k : Int) < l.length by omega⟩
     | exact ⟨show ((1 + (bA (Lib.itoa (intA l k))).size : Nat) ≤ 9223372036854775807) by omega⟩
     | exact ⟨show (((lnR w l k).size + (sp1 ++ bA (Lib.itoa (intA l k))).size : Nat) ≤ 9223372036854775807) by omega⟩
     | exact ⟨show (((lnR w l l.length).size + 1 : Nat) ≤ 9223372036854775807) by omega⟩
     | (apply Ob.mk;show (inRQ .i64 _).p;simp only [inRQ,inR,Duty.of_p];omega)
     | (refine Ob.mk ?_;show (inRQ .u8 _).p;simp only [inRQ,inR,Duty.of_p];omega)
     | (refine Ob.mk ?_;simp only [Duty.of_p,ByteArray.size_append];omega)
  next => cases hF)
end Go.Proofs.YtcmojakklijgfaaGreatDoor
end
section
namespace Go.Proofs.YtcmojakklijgfaaGreatDoor
open Go Go.Sy Go.Chn
variable {Γ : Glob}
def fSp (D : Int → List Lk → List Duty) (F : Int → List Lk → Tm) : Ctr:=.fn fun args rg => match args with
 | [.agg [.v (.int .i64 n0),x0]] => (match arrOf 54 kL rg x0 with | some (q0,L0) => some (q0 ++ (D n0 L0),F n0 L0) | _ => none)
 | _ => none
theorem fSp_ok {f : FuncId} {b : Body} {E : Env} {d : Nat} (hP : ProgOk Tryz.prog Γ E) (hb : BodyOk Tryz.prog f b) {D : Int → List Lk → List Duty} {F : Int → List Lk → Tm} (hp : ∀ (n0 : Int) (L0 : List Lk),(F n0 L0).plain = true)
  (H : ∀ (n0 : Int) (L0 : List Lk),obl (D n0 L0) → evTop E d b [.agg [vI n0,.sl 0 [] 0 L0.length]] [.arr 54 kL L0 false false] (fun x _ => eqT x (F n0 L0))) : Ctr.Ok Tryz.prog Γ f (fSp D F):=Ctr.fn_ok (d:=d) hP hb (by
 intro args rg q t hF hq
 split at hF
 next n0 x0 =>
  split at hF
  next q0 L0 hx0 =>
   obtain ⟨rfl,rfl⟩:=Prod.mk.inj (Option.some.inj hF);clear hF
   rw [obl_append] at hq
   obtain ⟨hq0,hD⟩:=hq
   obtain ⟨e0,he0⟩:=pas_arr (by simp [kL]) hx0 hq0
   obtain ⟨p0,r0⟩:=he0 [e0] 0 1 rfl (by omega)
   refine ⟨hp _ _,[e0],[.agg [vI n0,.sl 0 [] 0 L0.length]],[.arr 54 kL L0 false false],⟨⟨⟨rfl,p0,trivial⟩,trivial⟩,fun r g hg => ?_⟩,H _ _ hD⟩
   match r,hg with
   | 0,hg => obtain rfl:=Option.some.inj hg;exact r0
  next => cases hF
 next => cases hF)
structure Kz (p : Prop) : Prop where
 h : p
theorem sharez {B G : Prop} (h : Kz B → G) (b : B) : G:=h ⟨b⟩
def c_value : Ctr:=fsn (fun s n => [(Duty.of (s.size ≤ 1000000)),(Duty.of (0 ≤ n ∧ n ≤ 2000000))]) (fun s n => .tup [.a (vI (valS s n.toNat).1),.a (vI ((valS s n.toNat).2 : Int))])
noncomputable def e_val : Env:={ tabs.env [] [] false 0 with cut:=fun t => Nat.beq t 17 }
theorem e_val_ok : ProgOk Tryz.prog Γ e_val:=(prog_ok CsOk.nil BsOk.nil false 0).cuts _
theorem byt_int (s : ByteArray) (i : Nat) : ((s.data.getD (Int.toNat (i : Int)) 0).toNat : Int) = byt s i:=by unfold byt;rw [Int.toNat_natCast]
attribute [local irreducible] valL byt isNeg sgV stV valS
theorem min_if (x : Int) : (if (9007199254740992 : Int) < x then (9007199254740992 : Int) else x) = min x 9007199254740992:=by split <;> omega
theorem c_value_ok : Ctr.Ok Tryz.prog Γ 34 c_value:=fsn_ok (d:=0) e_val_ok (body_of Tryz.func34 rfl rfl) (fun _ _ => rfl) (by
 intro s n ⟨hz,hn,_⟩
 simp only [Duty.of_p] at hz hn
 obtain ⟨j,rfl⟩ : ∃ j : Nat,n = (j : Int):=⟨n.toNat,by omega⟩
 rw [Int.toNat_natCast]
 apply sharez
 case h =>
  intro key
  obtain a1 | a1 : decide ((j : Int) < (s.size : Int)) = false ∨ decide ((j : Int) < (s.size : Int)) = true:=by cases decide ((j : Int) < (s.size : Int)) <;> simp
  ·have f0 : isNeg s j = false:=by unfold isNeg;rw [a1];rfl
   have f1 : vI 1 = vI (sgV s j):=by unfold sgV;rw [f0]
   have f2 : vI j = vI (stV s j):=by unfold stV;rw [f0]
   have f1' : (1 : Int) = sgV s j:=by unfold sgV;rw [f0]
   have f2' : (j : Int) = (stV s j : Int):=by unfold stV;rw [f0]
   repeat' ((conv => whnf);first | apply And.intro | (intro h9;try (have h8 : (_ : Bool) = _:=h9;clear h8;revert h9;subst_vars;intro h9;exact bon9 h9 (by assumption))))
   all_goals try (conv => whnf)
   all_goals try first | (apply Tk.mk <;> kernel_rfl) | exact ⟨leb9 rfl⟩ | exact ⟨rfl⟩ | exact ⟨trivial⟩
   all_goals subst_vars
   all_goals try first | rfl | contradiction | (apply Ob.mk;first | (simp only [inRQ,inR,Duty.of_p];omega) | ((try simp only [Duty.of_p]);(try dsimp only);omega))
   all_goals try first
    | exact True.intro
    | exact ⟨r1⟩
    | exact ⟨show 0 ≤ (j : Int) ∧ (j : Int) < (s.size : Int) by omega⟩
    | exact ⟨show 0 ≤ (i : Int) ∧ (i : Int) < (s.size : Int) by omega⟩
    | (apply Ob.mk;show (inRQ .i64 _).p;simp only [inRQ,inR,Duty.of_p];omega)
    | (refine Ob.mk ?_;show (inRQ .u8 _).p;simp only [inRQ,inR,Duty.of_p];omega)
    | exact ⟨hn⟩
    | exact ⟨g1⟩
    | exact ⟨f1'⟩
    | exact ⟨f2'⟩
    | exact ⟨f3'⟩
    | exact ⟨show 0 ≤ (k : Int) ∧ (k : Int) < (L.length : Int) by omega⟩
    | exact ⟨show 0 + Int.toNat (k : Int) < L.length by omega⟩
    | exact ⟨show 0 + 1 ≤ 1 from Nat.le_refl _⟩
    | (refine Ob.mk ?_;simp only [Duty.of_p,ByteArray.size_append,z1,z2,z3,z4];omega)
   refine ⟨Unit,fun _ => True,fun _ => ⟨slotsT 51 [0,1,6] [.a (.v (.string s)),.a (vI (stV s j)),.a (vI (sgV s j))],[],[]⟩,?_,key.h⟩
   repeat' ((conv => whnf);first | apply And.intro | (intro h9;try (have h8 : (_ : Bool) = _:=h9;clear h8;revert h9;subst_vars;intro h9;exact bon9 h9 (by assumption))))
   all_goals try (conv => whnf)
   all_goals try first | (apply Tk.mk <;> kernel_rfl) | exact ⟨leb9 rfl⟩ | exact ⟨rfl⟩ | exact ⟨trivial⟩
   all_goals subst_vars
   all_goals try first | rfl | contradiction | (apply Ob.mk;first | (simp only [inRQ,inR,Duty.of_p];omega) | ((try simp only [Duty.of_p]);(try dsimp only);omega))
   all_goals try first
    | exact True.intro
    | exact ⟨r1⟩
    | exact ⟨show 0 ≤ (j : Int) ∧ (j : Int) < (s.size : Int) by omega⟩
    | exact ⟨show 0 ≤ (i : Int) ∧ (i : Int) < (s.size : Int) by omega⟩
    | (apply Ob.mk;show (inRQ .i64 _).p;simp only [inRQ,inR,Duty.of_p];omega)
    | (refine Ob.mk ?_;show (inRQ .u8 _).p;simp only [inRQ,inR,Duty.of_p];omega)
    | exact ⟨hn⟩
    | exact ⟨g1⟩
    | exact ⟨f1'⟩
    | exact ⟨f2'⟩
    | exact ⟨f3'⟩
    | exact ⟨show 0 ≤ (k : Int) ∧ (k : Int) < (L.length : Int) by omega⟩
    | exact ⟨show 0 + Int.toNat (k : Int) < L.length by omega⟩
    | exact ⟨show 0 + 1 ≤ 1 from Nat.le_refl _⟩
    | (refine Ob.mk ?_;simp only [Duty.of_p,ByteArray.size_append,z1,z2,z3,z4];omega)
   refine ⟨(),[],trivial,?_⟩
   repeat' ((conv => whnf);(first | apply And.intro | intro _))
   all_goals first | rfl | trivial | exact leb9 rfl | exact mem9 ‹_› rfl | exact men9 ‹_› rfl | ((repeat' first | rfl | constructor);done) | exact f1 | exact f2 | exact f1' | exact f2' | exact f1'.symm | exact f2'.symm
  have h1 : j < s.size:=by have:=of_decide_eq_true a1;omega
  have e1:=byt_int s j
  obtain b1 | b1 : ((((s.data.getD (Int.toNat (j : Int)) 0).toNat : Nat) : Int) == 45) = false ∨ ((((s.data.getD (Int.toNat (j : Int)) 0).toNat : Nat) : Int) == 45) = true:=by cases ((((s.data.getD (Int.toNat (j : Int)) 0).toNat : Nat) : Int) == 45) <;> simp
  ·have f0 : isNeg s j = false:=by unfold isNeg;rw [a1,← e1];exact b1
   have f1 : vI 1 = vI (sgV s j):=by unfold sgV;rw [f0]
   have f2 : vI j = vI (stV s j):=by unfold stV;rw [f0]
   have f1' : (1 : Int) = sgV s j:=by unfold sgV;rw [f0]
   have f2' : (j : Int) = (stV s j : Int):=by unfold stV;rw [f0]
   clear e1
   repeat' ((conv => whnf);first | apply And.intro | (intro h9;try (have h8 : (_ : Bool) = _:=h9;clear h8;revert h9;subst_vars;intro h9;exact bon9 h9 (by assumption))))
   all_goals try (conv => whnf)
   all_goals try first | (apply Tk.mk <;> kernel_rfl) | exact ⟨leb9 rfl⟩ | exact ⟨rfl⟩ | exact ⟨trivial⟩
   all_goals subst_vars
   all_goals try first | rfl | contradiction | (apply Ob.mk;first | (simp only [inRQ,inR,Duty.of_p];omega) | ((try simp only [Duty.of_p]);(try dsimp only);omega))
   all_goals try first
    | exact True.intro
    | exact ⟨r1⟩
    | exact ⟨show 0 ≤ (j : Int) ∧ (j : Int) < (s.size : Int) by omega⟩
    | exact ⟨show 0 ≤ (i : Int) ∧ (i : Int) < (s.size : Int) by omega⟩
    | (apply Ob.mk;show (inRQ .i64 _).p;simp only [inRQ,inR,Duty.of_p];omega)
    | (refine Ob.mk ?_;show (inRQ .u8 _).p;simp only [inRQ,inR,Duty.of_p];omega)
    | exact ⟨hn⟩
    | exact ⟨g1⟩
    | exact ⟨f1'⟩
    | exact ⟨f2'⟩
    | exact ⟨f3'⟩
    | exact ⟨show 0 ≤ (k : Int) ∧ (k : Int) < (L.length : Int) by omega⟩
    | exact ⟨show 0 + Int.toNat (k : Int) < L.length by omega⟩
    | exact ⟨show 0 + 1 ≤ 1 from Nat.le_refl _⟩
    | (refine Ob.mk ?_;simp only [Duty.of_p,ByteArray.size_append,z1,z2,z3,z4];omega)
   refine ⟨Unit,fun _ => True,fun _ => ⟨slotsT 51 [0,1,6] [.a (.v (.string s)),.a (vI (stV s j)),.a (vI (sgV s j))],[],[]⟩,?_,key.h⟩
   repeat' ((conv => whnf);first | apply And.intro | (intro h9;try (have h8 : (_ : Bool) = _:=h9;clear h8;revert h9;subst_vars;intro h9;exact bon9 h9 (by assumption))))
   all_goals try (conv => whnf)
   all_goals try first | (apply Tk.mk <;> kernel_rfl) | exact ⟨leb9 rfl⟩ | exact ⟨rfl⟩ | exact ⟨trivial⟩
   all_goals subst_vars
   all_goals try first | rfl | contradiction | (apply Ob.mk;first | (simp only [inRQ,inR,Duty.of_p];omega) | ((try simp only [Duty.of_p]);(try dsimp only);omega))
   all_goals try first
    | exact True.intro
    | exact ⟨r1⟩
    | exact ⟨show 0 ≤ (j : Int) ∧ (j : Int) < (s.size : Int) by omega⟩
    | exact ⟨show 0 ≤ (i : Int) ∧ (i : Int) < (s.size : Int) by omega⟩
    | (apply Ob.mk;show (inRQ .i64 _).p;simp only [inRQ,inR,Duty.of_p];omega)
    | (refine Ob.mk ?_;show (inRQ .u8 _).p;simp only [inRQ,inR,Duty.of_p];omega)
    | exact ⟨hn⟩
    | exact ⟨g1⟩
    | exact ⟨f1'⟩
    | exact ⟨f2'⟩
    | exact ⟨f3'⟩
    | exact ⟨show 0 ≤ (k : Int) ∧ (k : Int) < (L.length : Int) by omega⟩
    | exact ⟨show 0 + Int.toNat (k : Int) < L.length by omega⟩
    | exact ⟨show 0 + 1 ≤ 1 from Nat.le_refl _⟩
    | (refine Ob.mk ?_;simp only [Duty.of_p,ByteArray.size_append,z1,z2,z3,z4];omega)
   refine ⟨(),[],trivial,?_⟩
   repeat' ((conv => whnf);(first | apply And.intro | intro _))
   all_goals first | rfl | trivial | exact leb9 rfl | exact mem9 ‹_› rfl | exact men9 ‹_› rfl | ((repeat' first | rfl | constructor);done) | exact f1 | exact f2 | exact f1' | exact f2' | exact f1'.symm | exact f2'.symm
  have f0 : isNeg s j = true:=by unfold isNeg;rw [a1,← e1];exact b1
  have f1' : (-1 : Int) = sgV s j:=by unfold sgV;rw [f0]
  have f2' : (j : Int) + 1 = (stV s j : Int):=by unfold stV;rw [f0];rfl
  have f1 : vI (-1) = vI (sgV s j):=by rw [← f1']
  have f2 : vI ((j : Int) + 1) = vI (stV s j):=by rw [← f2']
  clear e1
  repeat' ((conv => whnf);first | apply And.intro | (intro h9;try (have h8 : (_ : Bool) = _:=h9;clear h8;revert h9;subst_vars;intro h9;exact bon9 h9 (by assumption))))
  all_goals try (conv => whnf)
  all_goals try first | (apply Tk.mk <;> kernel_rfl) | exact ⟨leb9 rfl⟩ | exact ⟨rfl⟩ | exact ⟨trivial⟩
  all_goals subst_vars
  all_goals try first | rfl | contradiction | (apply Ob.mk;first | (simp only [inRQ,inR,Duty.of_p];omega) | ((try simp only [Duty.of_p]);(try dsimp only);omega))
  all_goals try first
   | exact True.intro
   | exact ⟨r1⟩
   | exact ⟨show 0 ≤ (j : Int) ∧ (j : Int) < (s.size : Int) by omega⟩
   | exact ⟨show 0 ≤ (i : Int) ∧ (i : Int) < (s.size : Int) by omega⟩
   | (apply Ob.mk;show (inRQ .i64 _).p;simp only [inRQ,inR,Duty.of_p];omega)
   | (refine Ob.mk ?_;show (inRQ .u8 _).p;simp only [inRQ,inR,Duty.of_p];omega)
   | exact ⟨hn⟩
   | exact ⟨g1⟩
   | exact ⟨f1'⟩
   | exact ⟨f2'⟩
   | exact ⟨f3'⟩
   | exact ⟨show 0 ≤ (k : Int) ∧ (k : Int) < (L.length : Int) by omega⟩
   | exact ⟨show 0 + Int.toNat (k : Int) < L.length by omega⟩
   | exact ⟨show 0 + 1 ≤ 1 from Nat.le_refl _⟩
   | (refine Ob.mk ?_;simp only [Duty.of_p,ByteArray.size_append,z1,z2,z3,z4];omega)
  refine ⟨Unit,fun _ => True,fun _ => ⟨slotsT 51 [0,1,6] [.a (.v (.string s)),.a (vI (stV s j)),.a (vI (sgV s j))],[],[]⟩,?_,key.h⟩
  repeat' ((conv => whnf);first | apply And.intro | (intro h9;try (have h8 : (_ : Bool) = _:=h9;clear h8;revert h9;subst_vars;intro h9;exact bon9 h9 (by assumption))))
  all_goals try (conv => whnf)
  all_goals try first | (apply Tk.mk <;> kernel_rfl) | exact ⟨leb9 rfl⟩ | exact ⟨rfl⟩ | exact ⟨trivial⟩
  all_goals subst_vars
  all_goals try first | rfl | contradiction | (apply Ob.mk;first | (simp only [inRQ,inR,Duty.of_p];omega) | ((try simp only [Duty.of_p]);(try dsimp only);omega))
  all_goals try first
   | exact True.intro
   | exact ⟨r1⟩
   | exact ⟨show 0 ≤ (j : Int) ∧ (j : Int) < (s.size : Int) by omega⟩
   | exact ⟨show 0 ≤ (i : Int) ∧ (i : Int) < (s.size : Int) by omega⟩
   | (apply Ob.mk;show (inRQ .i64 _).p;simp only [inRQ,inR,Duty.of_p];omega)
   | (refine Ob.mk ?_;show (inRQ .u8 _).p;simp only [inRQ,inR,Duty.of_p];omega)
   | exact ⟨hn⟩
   | exact ⟨g1⟩
   | exact ⟨f1'⟩
   | exact ⟨f2'⟩
   | exact ⟨f3'⟩
   | exact ⟨show 0 ≤ (k : Int) ∧ (k : Int) < (L.length : Int) by omega⟩
   | exact ⟨show 0 + Int.toNat (k : Int) < L.length by omega⟩
   | exact ⟨show 0 + 1 ≤ 1 from Nat.le_refl _⟩
   | (refine Ob.mk ?_;simp only [Duty.of_p,ByteArray.size_append,z1,z2,z3,z4];omega)
  refine ⟨(),[],trivial,?_⟩
  repeat' ((conv => whnf);(first | apply And.intro | intro _))
  all_goals first | rfl | trivial | exact leb9 rfl | exact mem9 ‹_› rfl | exact men9 ‹_› rfl | ((repeat' first | rfl | constructor);done) | exact f1 | exact f2 | exact f1' | exact f2' | exact f1'.symm | exact f2'.symm
 case b =>
 rintro ⟨⟩ -
 have hvs : valS s j = (sgV s j * (valL (s.data.toList.drop (stV s j)) 0).1,stV s j + (valL (s.data.toList.drop (stV s j)) 0).2):=by unfold valS;rfl
 have hvb:=valS_le s j
 have hsg : sgV s j = 1 ∨ sgV s j = -1:=by unfold sgV;cases isNeg s j <;> simp
 have hst : stV s j = j ∨ stV s j = j + 1:=by unfold stV;cases isNeg s j <;> simp
 repeat' ((conv => whnf);first | apply And.intro | (intro h9;try (have h8 : (_ : Bool) = _:=h9;clear h8;revert h9;subst_vars;intro h9;exact bon9 h9 (by assumption))))
 all_goals try (conv => whnf)
 all_goals try first | (apply Tk.mk <;> kernel_rfl) | exact ⟨leb9 rfl⟩ | exact ⟨rfl⟩ | exact ⟨trivial⟩
 all_goals subst_vars
 all_goals try first | rfl | contradiction | (apply Ob.mk;first | (simp only [inRQ,inR,Duty.of_p];omega) | ((try simp only [Duty.of_p]);(try dsimp only);omega))
 all_goals try first
  | exact True.intro
  | exact ⟨r1⟩
  | exact ⟨show 0 ≤ (j : Int) ∧ (j : Int) < (s.size : Int) by omega⟩
  | exact ⟨show 0 ≤ (i : Int) ∧ (i : Int) < (s.size : Int) by omega⟩
  | (apply Ob.mk;show (inRQ .i64 _).p;simp only [inRQ,inR,Duty.of_p];omega)
  | (refine Ob.mk ?_;show (inRQ .u8 _).p;simp only [inRQ,inR,Duty.of_p];omega)
  | exact ⟨hn⟩
  | exact ⟨g1⟩
  | exact ⟨f1'⟩
  | exact ⟨f2'⟩
  | exact ⟨f3'⟩
  | exact ⟨show 0 ≤ (k : Int) ∧ (k : Int) < (L.length : Int) by omega⟩
  | exact ⟨show 0 + Int.toNat (k : Int) < L.length by omega⟩
  | exact ⟨show 0 + 1 ≤ 1 from Nat.le_refl _⟩
  | (refine Ob.mk ?_;simp only [Duty.of_p,ByteArray.size_append,z1,z2,z3,z4];omega)
 refine ⟨Nat × Int,fun p => (p.1 ≤ max (stV s j) s.size ∧ (0 ≤ p.2 ∧ p.2 ≤ 9007199254740992)) ∧ ((valL (s.data.toList.drop p.1) p.2).1 = (valL (s.data.toList.drop (stV s j)) 0).1 ∧ p.1 + (valL (s.data.toList.drop p.1) p.2).2 = stV s j + (valL (s.data.toList.drop (stV s j)) 0).2),
  fun p => ⟨slotsT 51 [0,1,6,7] [.a (.v (.string s)),.a (vI p.1),.a (vI (sgV s j)),.a (vI p.2)],[],[]⟩,fun p => s.size - p.1,(stV s j,0),[],⟨⟨Nat.le_max_left _ _,by omega⟩,rfl,rfl⟩,?_,?_⟩
 ·repeat' ((conv => whnf);(first | apply And.intro | intro _))
  all_goals first | rfl | trivial | exact leb9 rfl | exact mem9 ‹_› rfl | exact men9 ‹_› rfl | ((repeat' first | rfl | constructor);done)
 rintro ⟨i,m⟩ ⟨⟨hi,hm⟩,hv1,hv2⟩
 dsimp only at hi hm hv1 hv2
 obtain a1 | a1 : decide ((i : Int) < (s.size : Int)) = false ∨ decide ((i : Int) < (s.size : Int)) = true:=by cases decide ((i : Int) < (s.size : Int)) <;> simp
 ·have hge : s.size ≤ i:=by have:=of_decide_eq_false a1;omega
  rw [valL_end hge] at hv1 hv2
  rw [← hv1,← hv2] at hvs
  dsimp only at hvs
  rw [hvs] at hvb ⊢
  dsimp only at hvb
  have r1 : inR .i64 (sgV s j * m):=by unfold inR;omega
  clear hvs hv1 hv2
  repeat' ((conv => whnf);first | apply And.intro | (intro h9;try (have h8 : (_ : Bool) = _:=h9;clear h8;revert h9;subst_vars;intro h9;exact bon9 h9 (by assumption))))
  all_goals try (conv => whnf)
  all_goals try first | (apply Tk.mk <;> kernel_rfl) | exact ⟨leb9 rfl⟩ | exact ⟨rfl⟩ | exact ⟨trivial⟩
  all_goals subst_vars
  all_goals try first | rfl | contradiction | (apply Ob.mk;first | (simp only [inRQ,inR,Duty.of_p];omega) | ((try simp only [Duty.of_p]);(try dsimp only);omega))
  all_goals first
   | trivial
   | exact True.intro
   | exact ⟨r1⟩
   | exact ⟨show 0 ≤ (j : Int) ∧ (j : Int) < (s.size : Int) by omega⟩
   | exact ⟨show 0 ≤ (i : Int) ∧ (i : Int) < (s.size : Int) by omega⟩
   | (apply Ob.mk;show (inRQ .i64 _).p;simp only [inRQ,inR,Duty.of_p];omega)
   | (refine Ob.mk ?_;show (inRQ .u8 _).p;simp only [inRQ,inR,Duty.of_p];omega)
   | exact ⟨hn⟩
   | exact ⟨g1⟩
   | exact ⟨f1'⟩
   | exact ⟨f2'⟩
   | exact ⟨f3'⟩
   | exact ⟨show 0 ≤ (k : Int) ∧ (k : Int) < (L.length : Int) by omega⟩
   | exact ⟨show 0 + Int.toNat (k : Int) < L.length by omega⟩
   | exact ⟨show 0 + 1 ≤ 1 from Nat.le_refl _⟩
   | (refine Ob.mk ?_;simp only [Duty.of_p,ByteArray.size_append,z1,z2,z3,z4];omega)
 have h1 : i < s.size:=by have:=of_decide_eq_true a1;omega
 have e1:=byt_int s i
 have hbl:=byt_le s i
 rw [← e1] at hbl
 have stp:=valL_step h1 m
 rw [← e1] at stp
 obtain b1 | b1 : decide ((((s.data.getD (Int.toNat (i : Int)) 0).toNat : Nat) : Int) ≥ 48) = false ∨ decide ((((s.data.getD (Int.toNat (i : Int)) 0).toNat : Nat) : Int) ≥ 48) = true:=by cases decide ((((s.data.getD (Int.toNat (i : Int)) 0).toNat : Nat) : Int) ≥ 48) <;> simp
 ·rw [b1,Bool.false_and] at stp
  dsimp only at stp
  rw [stp] at hv1 hv2
  rw [← hv1,← hv2] at hvs
  dsimp only at hvs
  rw [hvs] at hvb ⊢
  dsimp only at hvb
  have r1 : inR .i64 (sgV s j * m):=by unfold inR;omega
  clear hvs hv1 hv2 stp e1
  repeat' ((conv => whnf);first | apply And.intro | (intro h9;try (have h8 : (_ : Bool) = _:=h9;clear h8;revert h9;subst_vars;intro h9;exact bon9 h9 (by assumption))))
  all_goals try (conv => whnf)
  all_goals try first | (apply Tk.mk <;> kernel_rfl) | exact ⟨leb9 rfl⟩ | exact ⟨rfl⟩ | exact ⟨trivial⟩
  all_goals subst_vars
  all_goals try first | rfl | contradiction | (apply Ob.mk;first | (simp only [inRQ,inR,Duty.of_p];omega) | ((try simp only [Duty.of_p]);(try dsimp only);omega))
  all_goals first
   | trivial
   | exact True.intro
   | exact ⟨r1⟩
   | exact ⟨show 0 ≤ (j : Int) ∧ (j : Int) < (s.size : Int) by omega⟩
   | exact ⟨show 0 ≤ (i : Int) ∧ (i : Int) < (s.size : Int) by omega⟩
   | (apply Ob.mk;show (inRQ .i64 _).p;simp only [inRQ,inR,Duty.of_p];omega)
   | (refine Ob.mk ?_;show (inRQ .u8 _).p;simp only [inRQ,inR,Duty.of_p];omega)
   | exact ⟨hn⟩
   | exact ⟨g1⟩
   | exact ⟨f1'⟩
   | exact ⟨f2'⟩
   | exact ⟨f3'⟩
   | exact ⟨show 0 ≤ (k : Int) ∧ (k : Int) < (L.length : Int) by omega⟩
   | exact ⟨show 0 + Int.toNat (k : Int) < L.length by omega⟩
   | exact ⟨show 0 + 1 ≤ 1 from Nat.le_refl _⟩
   | (refine Ob.mk ?_;simp only [Duty.of_p,ByteArray.size_append,z1,z2,z3,z4];omega)
 obtain c1 | c1 : decide ((((s.data.getD (Int.toNat (i : Int)) 0).toNat : Nat) : Int) ≤ 57) = false ∨ decide ((((s.data.getD (Int.toNat (i : Int)) 0).toNat : Nat) : Int) ≤ 57) = true:=by cases decide ((((s.data.getD (Int.toNat (i : Int)) 0).toNat : Nat) : Int) ≤ 57) <;> simp
 ·rw [b1,c1,Bool.and_false] at stp
  dsimp only at stp
  rw [stp] at hv1 hv2
  rw [← hv1,← hv2] at hvs
  dsimp only at hvs
  rw [hvs] at hvb ⊢
  dsimp only at hvb
  have r1 : inR .i64 (sgV s j * m):=by unfold inR;omega
  clear hvs hv1 hv2 stp e1
  repeat' ((conv => whnf);first | apply And.intro | (intro h9;try (have h8 : (_ : Bool) = _:=h9;clear h8;revert h9;subst_vars;intro h9;exact bon9 h9 (by assumption))))
  all_goals try (conv => whnf)
  all_goals try first | (apply Tk.mk <;> kernel_rfl) | exact ⟨leb9 rfl⟩ | exact ⟨rfl⟩ | exact ⟨trivial⟩
  all_goals subst_vars
  all_goals try first | rfl | contradiction | (apply Ob.mk;first | (simp only [inRQ,inR,Duty.of_p];omega) | ((try simp only [Duty.of_p]);(try dsimp only);omega))
  all_goals first
   | trivial
   | exact True.intro
   | exact ⟨r1⟩
   | exact ⟨show 0 ≤ (j : Int) ∧ (j : Int) < (s.size : Int) by omega⟩
   | exact ⟨show 0 ≤ (i : Int) ∧ (i : Int) < (s.size : Int) by omega⟩
   | (apply Ob.mk;show (inRQ .i64 _).p;simp only [inRQ,inR,Duty.of_p];omega)
   | (refine Ob.mk ?_;show (inRQ .u8 _).p;simp only [inRQ,inR,Duty.of_p];omega)
   | exact ⟨hn⟩
   | exact ⟨g1⟩
   | exact ⟨f1'⟩
   | exact ⟨f2'⟩
   | exact ⟨f3'⟩
   | exact ⟨show 0 ≤ (k : Int) ∧ (k : Int) < (L.length : Int) by omega⟩
   | exact ⟨show 0 + Int.toNat (k : Int) < L.length by omega⟩
   | exact ⟨show 0 + 1 ≤ 1 from Nat.le_refl _⟩
   | (refine Ob.mk ?_;simp only [Duty.of_p,ByteArray.size_append,z1,z2,z3,z4];omega)
 rw [b1,c1,Bool.and_self] at stp
 dsimp only at stp
 rw [stp] at hv1 hv2
 dsimp only at hv1 hv2
 have hb1:=of_decide_eq_true b1
 have hb2:=of_decide_eq_true c1
 have hmn:=min_if (10 * m + ((((s.data.getD (Int.toNat (i : Int)) 0).toNat : Nat) : Int) - 48))
 have hmi : (i : Int) + 1 = ((i + 1 : Nat) : Int):=rfl
 clear hvs stp e1
 repeat' ((conv => whnf);first | apply And.intro | (intro h9;try (have h8 : (_ : Bool) = _:=h9;clear h8;revert h9;subst_vars;intro h9;exact bon9 h9 (by assumption))))
 all_goals try (conv => whnf)
 all_goals try first | (apply Tk.mk <;> kernel_rfl) | exact ⟨leb9 rfl⟩ | exact ⟨rfl⟩ | exact ⟨trivial⟩
 all_goals subst_vars
 all_goals try first | rfl | contradiction | (apply Ob.mk;first | (simp only [inRQ,inR,Duty.of_p];omega) | ((try simp only [Duty.of_p]);(try dsimp only);omega))
 all_goals try first
  | exact True.intro
  | exact ⟨r1⟩
  | exact ⟨show 0 ≤ (j : Int) ∧ (j : Int) < (s.size : Int) by omega⟩
  | exact ⟨show 0 ≤ (i : Int) ∧ (i : Int) < (s.size : Int) by omega⟩
  | (apply Ob.mk;show (inRQ .i64 _).p;simp only [inRQ,inR,Duty.of_p];omega)
  | (refine Ob.mk ?_;show (inRQ .u8 _).p;simp only [inRQ,inR,Duty.of_p];omega)
  | exact ⟨hn⟩
  | exact ⟨g1⟩
  | exact ⟨f1'⟩
  | exact ⟨f2'⟩
  | exact ⟨f3'⟩
  | exact ⟨show 0 ≤ (k : Int) ∧ (k : Int) < (L.length : Int) by omega⟩
  | exact ⟨show 0 + Int.toNat (k : Int) < L.length by omega⟩
  | exact ⟨show 0 + 1 ≤ 1 from Nat.le_refl _⟩
  | (refine Ob.mk ?_;simp only [Duty.of_p,ByteArray.size_append,z1,z2,z3,z4];omega)
 refine ⟨(i + 1,min (10 * m + ((((s.data.getD (Int.toNat (i : Int)) 0).toNat : Nat) : Int) - 48)) 9007199254740992),[],⟨⟨by show i + 1 ≤ _;omega,by dsimp only;omega⟩,hv1,by show i + 1 + (valL (s.data.toList.drop (i + 1)) (min (10 * m + ((((s.data.getD (Int.toNat (i : Int)) 0).toNat : Nat) : Int) - 48)) 9007199254740992)).2 = _;omega⟩,?_,by show s.size - (i + 1) < s.size - i;omega⟩
 repeat' ((conv => whnf);(first | apply And.intro | intro _))
 all_goals first | rfl | trivial | exact leb9 rfl | exact mem9 ‹_› rfl | exact men9 ‹_› rfl | ((repeat' first | rfl | constructor);done) | exact hmn | exact congrArg vI hmn | exact hmi | exact (congrArg (Value.int .i64) hmn))
/-! ### Print -/
theorem chk_ok {N : Int} {L : List Lk} (h : (checkF N L).1 = 0) : (1 ≤ N ∧ N ≤ 60) ∧ L.length ≤ 300 ∧ ∀ l ∈ L,okL l:=by
 obtain ⟨hn,hl,_⟩:=checkF_ok h
 have hb : ∀ l ∈ L,badL N l = false:=by
  unfold checkF at h
  rw [if_neg (by omega),if_neg (by omega)] at h
  exact ckL_all h
 refine ⟨hn,hl,fun l hl => ?_⟩
 have h:=hb l hl
 simp [badL,nodeB] at h
 unfold Chn.okL
 omega
abbrev lkA (L : List Lk) (i : Int) : Lk:=@Ar.get ⟨54,kL,L⟩ (0 + Int.toNat i)
theorem lkA_eq (L : List Lk) (i : Nat) : lkA L i = lk L i:=by unfold lkA;rw [Nat.zero_add,Int.toNat_natCast];rfl
theorem lk_in {L : List Lk} {i : Nat} (h : i < L.length) : lk L i ∈ L:=by
 unfold lk;rw [List.getD_eq_getElem?_getD,List.getElem?_eq_getElem h];exact List.getElem_mem h
theorem hd_eq (N : Int) : (({ data:=#[110,111,100,101,115,32] } : ByteArray) ++ bA (Lib.itoa N)) ++ ({ data:=#[10] } : ByteArray) = bA (hdT N ++ [10]):=by
 show (bA wdN ++ bA (Lib.itoa N)) ++ bA [10] = _
 rw [bA_app,bA_app];rfl
theorem rw_eq (s : ByteArray) (a b c : Int) : ((((((s ++ ({ data:=#[108,105,110,107,32] } : ByteArray)) ++ bA (Lib.itoa a)) ++ ({ data:=#[32] } : ByteArray)) ++ bA (Lib.itoa b)) ++ ({ data:=#[32] } : ByteArray)) ++ bA (Lib.itoa c)) ++ ({ data:=#[10] } : ByteArray) = s ++ bA (rwT (a,b,c) ++ [10]):=by
 obtain ⟨⟨l⟩⟩:=s
 show ((((((bA l ++ bA wdL) ++ bA (Lib.itoa a)) ++ bA [32]) ++ bA (Lib.itoa b)) ++ bA [32]) ++ bA (Lib.itoa c)) ++ bA [10] = bA l ++ bA (rwT (a,b,c) ++ [10])
 rw [bA_app,bA_app,bA_app,bA_app,bA_app,bA_app,bA_app,bA_app]
 simp [rwT]
theorem rws_succ {L : List Lk} {k : Nat} (h : k < L.length) : rwsT (L.take (k + 1)) = rwsT (L.take k) ++ (rwT (lk L k) ++ [10]):=by
 have e : L[k] = lk L k:=by unfold lk;rw [List.getD_eq_getElem?_getD,List.getElem?_eq_getElem h];rfl
 rw [List.take_succ_eq_append_getElem h,rwsT_app,e]
 simp [rwsT]
theorem rw_len {l : Lk} (h : okL l) : (rwT l ++ [10]).length ≤ 80:=by
 obtain ⟨h1,h2,h3⟩:=h
 have a1:=Lib.itoa_length_le l.1 (by omega) (by omega)
 have a2:=Lib.itoa_length_le l.2.1 (by omega) (by omega)
 have a3:=Lib.itoa_length_le l.2.2 (by omega) (by omega)
 unfold rwT wdL
 simp only [List.length_append,List.length_cons,List.length_nil]
 omega
theorem rws_le : ∀ {L : List Lk},(∀ l ∈ L,okL l) → (rwsT L).length ≤ 80 * L.length
 | [],_ => Nat.le_refl _
 | l :: L,h => by
   have h1:=rw_len (h l (List.mem_cons_self ..))
   have h2:=rws_le (L:=L) fun x hx => h x (List.mem_cons_of_mem _ hx)
   rw [rwsT,List.length_append,List.length_cons];omega
theorem hd_len {N : Int} (h : 1 ≤ N ∧ N ≤ 60) : (hdT N ++ [10]).length ≤ 30:=by
 have a1:=Lib.itoa_length_le N (by omega) (by omega)
 unfold hdT wdN
 simp only [List.length_append,List.length_cons,List.length_nil]
 omega
theorem bA_sz (l : List UInt8) : (bA l).size = l.length:=bA_size l
theorem ok_take {L : List Lk} (h : ∀ l ∈ L,okL l) (k : Nat) : ∀ l ∈ L.take k,okL l:=fun l hl => h l (List.mem_of_mem_take hl)
theorem hs_size {N : Int} {L : List Lk} (hN : 1 ≤ N ∧ N ≤ 60) (hL : L.length ≤ 300) (hw : ∀ l ∈ L,okL l) (k : Nat) : (bA (hdT N ++ [10] ++ rwsT (L.take k))).size ≤ 24030:=by
 have h1:=hd_len hN
 have h2:=rws_le (ok_take hw k)
 have h3:=List.length_take_le k L
 have h4 : (L.take k).length ≤ L.length:=by rw [List.length_take];exact Nat.min_le_right _ _
 rw [bA_sz,List.length_append];omega
def c_refPrint : Ctr:=fSp (fun N L => [(Duty.of ((checkF N L).1 = 0))]) (fun N L => .a (.v (.string (bA (txT N L)))))
noncomputable def LrPrint : List (Nat × Ctr):=[(35,c_digits)]
theorem LrPrint_ok : CsOk Tryz.prog Γ LrPrint:=(CsOk.nil.cons (body_of Tryz.func35 rfl rfl).fn c_digits_ok)
attribute [local irreducible] bA checkF hdT rwT rwsT
theorem c_refPrint_ok : Ctr.Ok Tryz.prog Γ 11 c_refPrint:=fSp_ok (d:=0) (prog_ok LrPrint_ok BsOk.nil false 0) (body_of Tryz.func11 rfl rfl) (fun _ _ => rfl) (by
 intro N L ⟨hc,_⟩
 simp only [Duty.of_p] at hc
 obtain ⟨hn,hl,hw⟩:=chk_ok hc
 have z1 : ({ data:=#[110,111,100,101,115,32] } : ByteArray).size = 6:=rfl
 have z2 : ({ data:=#[32] } : ByteArray).size = 1:=rfl
 have z3 : ({ data:=#[10] } : ByteArray).size = 1:=rfl
 have z4 : ({ data:=#[108,105,110,107,32] } : ByteArray).size = 5:=rfl
 have d1 : (bA (Lib.itoa N)).size ≤ 21:=itoa_len (by omega)
 have hh:=hd_eq N
 have h0 : bA (hdT N ++ [10]) = bA (hdT N ++ [10] ++ rwsT (L.take 0)):=by rw [List.take_zero];rw [show rwsT [] = [] by unfold rwsT;rfl,List.append_nil]
 have g1 : -9007199254740992 ≤ N ∧ N ≤ 9007199254740992:=by omega
 repeat' ((conv => whnf);first | apply And.intro | (intro h9;try (have h8 : (_ : Bool) = _:=h9;clear h8;revert h9;subst_vars;intro h9;exact bon9 h9 (by assumption))))
 all_goals try (conv => whnf)
 all_goals try first | (apply Tk.mk <;> kernel_rfl) | exact ⟨leb9 rfl⟩ | exact ⟨rfl⟩ | exact ⟨trivial⟩
 all_goals subst_vars
 all_goals try first | rfl | contradiction | (apply Ob.mk;first | (simp only [inRQ,inR,Duty.of_p];omega) | ((try simp only [Duty.of_p]);(try dsimp only);omega))
 all_goals try first
  | exact True.intro
  | exact ⟨r1⟩
  | exact ⟨show 0 ≤ (j : Int) ∧ (j : Int) < (s.size : Int) by omega⟩
  | exact ⟨show 0 ≤ (i : Int) ∧ (i : Int) < (s.size : Int) by omega⟩
  | (apply Ob.mk;show (inRQ .i64 _).p;simp only [inRQ,inR,Duty.of_p];omega)
  | (refine Ob.mk ?_;show (inRQ .u8 _).p;simp only [inRQ,inR,Duty.of_p];omega)
  | exact ⟨hn⟩
  | exact ⟨g1⟩
  | exact ⟨f1'⟩
  | exact ⟨f2'⟩
  | exact ⟨f3'⟩
  | exact ⟨show 0 ≤ (k : Int) ∧ (k : Int) < (L.length : Int) by omega⟩
  | exact ⟨show 0 + Int.toNat (k : Int) < L.length by omega⟩
  | exact ⟨show 0 + 1 ≤ 1 from Nat.le_refl _⟩
  | (refine Ob.mk ?_;simp only [Duty.of_p,ByteArray.size_append,z1,z2,z3,z4];omega)
 refine ⟨Nat,fun k => k ≤ L.length,fun k => ⟨slotsT 41 [1,3,4] [.a (.p 1 [] 0 0),.a (.v (.string (bA (hdT N ++ [10] ++ rwsT (L.take k))))),.a (vI k)],[],[.arr 54 kL L false false,.box true [vI N,.sl 0 [] 0 L.length]]⟩,fun k => L.length - k,0,[0,1],Nat.zero_le _,?_,?_⟩
 ·repeat' ((conv => whnf);(first | apply And.intro | intro _))
  all_goals first | rfl | trivial | exact leb9 rfl | exact mem9 ‹_› rfl | exact men9 ‹_› rfl | ((repeat' first | rfl | constructor);done) | exact hh.trans h0 | exact congrArg Value.string (hh.trans h0)
 clear h0 hh
 rintro k hk
 by_cases hk1 : k < L.length
 ·have p0 : decide ((k : Int) < (L.length : Int)) = true:=decide_eq_true (by omega)
  have ew : lkA L k = lk L k:=lkA_eq L k
  obtain ⟨f1,f2,f3⟩:=hw _ (lk_in hk1)
  rw [← ew] at f1 f2 f3
  have f1' : -9007199254740992 ≤ (lkA L k).1 ∧ (lkA L k).1 ≤ 9007199254740992:=by omega
  have f2' : -9007199254740992 ≤ (lkA L k).2.1 ∧ (lkA L k).2.1 ≤ 9007199254740992:=by omega
  have f3' : -9007199254740992 ≤ (lkA L k).2.2 ∧ (lkA L k).2.2 ≤ 9007199254740992:=by omega
  have d2 : (bA (Lib.itoa (@Ar.get ⟨54,kL,L⟩ (0 + Int.toNat (k : Int))).1)).size ≤ 21:=itoa_len (n:=(lkA L k).1) (by omega)
  have d3 : (bA (Lib.itoa (@Ar.get ⟨54,kL,L⟩ (0 + Int.toNat (k : Int))).2.1)).size ≤ 21:=itoa_len (n:=(lkA L k).2.1) (by omega)
  have d4 : (bA (Lib.itoa (@Ar.get ⟨54,kL,L⟩ (0 + Int.toNat (k : Int))).2.2)).size ≤ 21:=itoa_len (n:=(lkA L k).2.2) (by omega)
  have hrw:=rw_eq (bA (hdT N ++ [10] ++ rwsT (L.take k))) (lkA L k).1 (lkA L k).2.1 (lkA L k).2.2
  have hsu : bA (hdT N ++ [10] ++ rwsT (L.take k)) ++ bA (rwT ((lkA L k).1,(lkA L k).2.1,(lkA L k).2.2) ++ [10]) = bA (hdT N ++ [10] ++ rwsT (L.take (k + 1))):=by
   rw [ew,bA_app,rws_succ hk1,List.append_assoc,List.append_assoc]
  have hsz:=hs_size hn hl hw k
  repeat' ((conv => whnf);first | apply And.intro | (intro h9;try (have h8 : (_ : Bool) = _:=h9;clear h8;revert h9;subst_vars;intro h9;exact bon9 h9 (by assumption))))
  all_goals try (conv => whnf)
  all_goals try first | (apply Tk.mk <;> kernel_rfl) | exact ⟨leb9 rfl⟩ | exact ⟨rfl⟩ | exact ⟨trivial⟩
  all_goals subst_vars
  all_goals try first | rfl | contradiction | (apply Ob.mk;first | (simp only [inRQ,inR,Duty.of_p];omega) | ((try simp only [Duty.of_p]);(try dsimp only);omega))
  all_goals try first
   | exact True.intro
   | exact ⟨r1⟩
   | exact ⟨show 0 ≤ (j : Int) ∧ (j : Int) < (s.size : Int) by omega⟩
   | exact ⟨show 0 ≤ (i : Int) ∧ (i : Int) < (s.size : Int) by omega⟩
   | (apply Ob.mk;show (inRQ .i64 _).p;simp only [inRQ,inR,Duty.of_p];omega)
   | (refine Ob.mk ?_;show (inRQ .u8 _).p;simp only [inRQ,inR,Duty.of_p];omega)
   | exact ⟨hn⟩
   | exact ⟨g1⟩
   | exact ⟨f1'⟩
   | exact ⟨f2'⟩
   | exact ⟨f3'⟩
   | exact ⟨show 0 ≤ (k : Int) ∧ (k : Int) < (L.length : Int) by omega⟩
   | exact ⟨show 0 + Int.toNat (k : Int) < L.length by omega⟩
   | exact ⟨show 0 + 1 ≤ 1 from Nat.le_refl _⟩
   | (refine Ob.mk ?_;simp only [Duty.of_p,ByteArray.size_append,z1,z2,z3,z4];omega)
  refine ⟨k + 1,[0,1],hk1,?_,by show L.length - (k + 1) < L.length - k;omega⟩
  repeat' ((conv => whnf);(first | apply And.intro | intro _))
  all_goals first | rfl | trivial | exact leb9 rfl | exact mem9 ‹_› rfl | exact men9 ‹_› rfl | ((repeat' first | rfl | constructor);done) | exact hrw.trans hsu | exact congrArg Value.string (hrw.trans hsu)
 have p0 : decide ((k : Int) < (L.length : Int)) = false:=decide_eq_false (by omega)
 obtain rfl : k = L.length:=by omega
 rw [show bA (txT N L) = bA (hdT N ++ [10] ++ rwsT (L.take L.length)) by rw [List.take_length];rfl]
 repeat' ((conv => whnf);first | apply And.intro | (intro h9;try (have h8 : (_ : Bool) = _:=h9;clear h8;revert h9;subst_vars;intro h9;exact bon9 h9 (by assumption))))
 all_goals try (conv => whnf)
 all_goals try first | (apply Tk.mk <;> kernel_rfl) | exact ⟨leb9 rfl⟩ | exact ⟨rfl⟩ | exact ⟨trivial⟩
 all_goals subst_vars
 all_goals try first | rfl | contradiction | (apply Ob.mk;first | (simp only [inRQ,inR,Duty.of_p];omega) | ((try simp only [Duty.of_p]);(try dsimp only);omega))
 all_goals first
  | trivial
  | exact True.intro
  | exact ⟨r1⟩
  | exact ⟨show 0 ≤ (j : Int) ∧ (j : Int) < (s.size : Int) by omega⟩
  | exact ⟨show 0 ≤ (i : Int) ∧ (i : Int) < (s.size : Int) by omega⟩
  | (apply Ob.mk;show (inRQ .i64 _).p;simp only [inRQ,inR,Duty.of_p];omega)
  | (refine Ob.mk ?_;show (inRQ .u8 _).p;simp only [inRQ,inR,Duty.of_p];omega)
  | exact ⟨hn⟩
  | exact ⟨g1⟩
  | exact ⟨f1'⟩
  | exact ⟨f2'⟩
  | exact ⟨f3'⟩
  | exact ⟨show 0 ≤ (k : Int) ∧ (k : Int) < (L.length : Int) by omega⟩
  | exact ⟨show 0 + Int.toNat (k : Int) < L.length by omega⟩
  | exact ⟨show 0 + 1 ≤ 1 from Nat.le_refl _⟩
  | (refine Ob.mk ?_;simp only [Duty.of_p,ByteArray.size_append,z1,z2,z3,z4];omega))
end Go.Proofs.YtcmojakklijgfaaGreatDoor
end
