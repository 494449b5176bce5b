/-
  Texts of the claims: Sy3t. No condition: lemmas and contracts.
-/
import Derived.Test.YtcmojakklijgfaaGreatDoorSy2t
import Derived.Deep.AppendLies
import Derived.Lib.AppendZeros
import Derived.Test.YtcmojakklijgfaaGreatDoorSy1t
import Derived.RangeFuncRecord
import Derived.Laws.MakeOwn
import Derived.WalkSpells
import Derived.Lib.SliceRun
import Derived.Deep.LoopGhost
set_option linter.all false
set_option maxRecDepth 100000
set_option maxHeartbeats 4000000
section
namespace Go.Sy
open Go Go.RowKit
universe u
section
variable {P : Program} {Γ : Glob} {E : Env} {M : Nat → Prop} {w0 : World} {ρ : Keys} {st : St} {vs : Fv} {a : Act} {w : World}
theorem memN_mem {r : Nat} : ∀ {l : List Nat},memN r l = false → ∀ x ∈ l,x ≠ r
 | [],_,x,h => by simp at h
 | y :: l,h,x,hx => by
   simp only [memN] at h
   split at h
   ·cases h
   ·rename_i hy
    simp only [List.mem_cons] at hx
    rcases hx with rfl | hx
    ·intro e;subst e;simp at hy
    ·exact memN_mem h x hx
theorem beq_ne {a b : Nat} (h : Nat.beq a b = false) : a ≠ b:=fun e => by subst e;simp at h
theorem At.kill_ok {N r : Nat} {η : Path → RI} {x : At} {y : Value} (h : x.ok N ρ y) : (x.kill true true r).ok N (setρ ρ r η) y:=by
 have hne : ∀ {r'},r' ≠ r → setρ ρ r η r' = ρ r':=fun hh => by simp [setρ,hh]
 cases x with
 | p r' π i j =>
   simp only [At.kill]
   split
   ·rename_i hb;obtain ⟨h1,h2⟩:=h;exact ⟨h1,by rw [hne (beq_ne hb)];exact h2⟩
   ·trivial
   ·trivial
 | sl r' π lo n =>
   simp only [At.kill]
   split
   ·rename_i hb;obtain ⟨h1,h2⟩:=h;exact ⟨h1,by rw [hne (beq_ne hb)];exact h2⟩
   ·trivial
   ·trivial
 | fn f l =>
   simp only [At.kill]
   split
   ·trivial
   ·rename_i hm
    obtain ⟨h1,h2⟩:=h
    have hm : memN r l = false:=by
     cases hh : memN r l with
     | false => rfl
     | true => exact absurd hh (hm rfl)
    refine ⟨h1,?_⟩
    rw [h2]
    congr 2
    exact List.map_congr_left fun r' hr' => by rw [hne (memN_mem hm r' hr')]
 | mp r' =>
   simp only [At.kill]
   split
   ·trivial
   ·rename_i hm
    obtain ⟨h1,h2⟩:=h
    have : r' ≠ r:=fun e => by subst e;exact hm (by simp) rfl
    exact ⟨h1,by rw [hne this];exact h2⟩
 | it r' =>
   simp only [At.kill]
   split
   ·trivial
   ·rename_i hm
    obtain ⟨h1,h2⟩:=h
    have : r' ≠ r:=fun e => by subst e;exact hm (by simp) rfl
    exact ⟨h1,by rw [hne this];exact h2⟩
 | yl r' =>
   simp only [At.kill]
   split
   ·trivial
   ·rename_i hm
    obtain ⟨h1,h2⟩:=h
    have : r' ≠ r:=fun e => by subst e;exact hm (by simp) rfl
    exact ⟨h1,by rw [hne this];exact h2⟩
 | _ => exact h
theorem okL_map {α : Type} {R R' : α → Value → Prop} {f : α → α} (hf : ∀ x y,R x y → R' (f x) y) : ∀ {l : List α} {ys : List Value},okL R l ys → okL R' (l.map f) ys
 | [],[],_ => trivial
 | _ :: _,_ :: _,h => ⟨hf _ _ h.1,okL_map hf h.2⟩
theorem C1.kill_ok {N r : Nat} {η : Path → RI} {x : C1} {y : Value} (h : x.ok N ρ y) : (x.mapA (At.kill true true r)).ok N (setρ ρ r η) y:=by
 cases x with
 | a x => exact At.kill_ok h
 | agg l => obtain ⟨ys,h1,h2⟩:=h;exact ⟨ys,h1,okL_map (fun _ _ h => At.kill_ok h) h2⟩
theorem Tm.kill_ok {N r : Nat} {η : Path → RI} {x : Tm} {y : Value} (h : x.ok N ρ y) : (x.mapA (At.kill true true r)).ok N (setρ ρ r η) y:=by
 cases x with
 | a x => exact At.kill_ok h
 | agg l => obtain ⟨ys,h1,h2⟩:=h;exact ⟨ys,h1,okL_map (fun _ _ h => At.kill_ok h) h2⟩
 | tup l => obtain ⟨ys,h1,h2⟩:=h;exact ⟨ys,h1,okL_map (fun _ _ h => C1.kill_ok h) h2⟩
theorem Sl.kill_ok {N r : Nat} {η : Path → RI} {s : Sl} {xs : Array Value} (h : s.ok N ρ xs) : (s.map (At.kill true true r)).ok N (setρ ρ r η) xs :=
 ⟨h.n,fun i => by
   show ((s.t.map _).get i).ok _ _ _
   rw [Tr.get_map rfl]
   exact Tm.kill_ok (h.h i)⟩
theorem okL_kill {N r : Nat} {η : Path → RI} : ∀ {fr : List Sl} {vs : List (Array Value)},okL (Sl.ok N ρ) fr vs → okL (Sl.ok N (setρ ρ r η)) (fr.map (Sl.map (At.kill true true r))) vs
 | [],[],_ => trivial
 | _ :: _,_ :: _,h => ⟨Sl.kill_ok h.1,okL_kill h.2⟩
theorem kill_has {r : Nat} {g : Reg} {π : Path} {o : Bool} {B' : Blk} (h : (g.mapA (At.kill true true r)).has π o B') : ∃ B,g.has π o B ∧
  (∀ N (η : Path → RI) r' w',r' ≠ r → B.lies N ρ r' π w' → B'.lies N (setρ ρ r η) r' π w') ∧ (∀ w' I,B.mine M w0 w' I → B'.mine M w0 w' I):=by
 cases g with
 | box ow l =>
   obtain ⟨rfl,rfl,rfl⟩:=h
   refine ⟨.box l,⟨rfl,rfl,rfl⟩,fun N η r' w' hne hl => ?_,fun _ _ hh => hh⟩
   have e : setρ ρ r η r' = ρ r':=by simp [setρ,hne]
   obtain ⟨_,h1,h2,h3⟩:=hl
   refine ⟨rfl,by rw [e];exact h1,by rw [e];exact h2,fun j x hx => ?_⟩
   simp only [List.getElem?_map,Option.map_eq_some_iff] at hx
   obtain ⟨x',hx',rfl⟩:=hx
   obtain ⟨y,hy,hc⟩:=h3 j x' hx'
   exact ⟨y,At.kill_ok hy,by rw [e];exact hc⟩
 | arr te tg xs ow i =>
   obtain ⟨hf,A,hA,rfl⟩:=h
   refine ⟨.arr A,⟨hf,A,hA,rfl⟩,fun N η r' w' hne hl => ?_,fun _ _ hh => hh⟩
   have e : setρ ρ r η r' = ρ r':=by simp [setρ,hne]
   show Ar.lies w' (setρ ρ r η r') π A
   rw [e];exact hl
 | dead => exact h.elim
 | map t k c es ow =>
   obtain ⟨rfl,rfl,rfl⟩:=h
   refine ⟨.map k c es,⟨rfl,rfl,rfl⟩,fun N η r' w' hne hl => ?_,fun _ _ hh => hh⟩
   have e : setρ ρ r η r' = ρ r':=by simp [setρ,hne]
   obtain ⟨_,h1,h2⟩:=hl
   exact ⟨rfl,by rw [e];exact h1,by rw [e];exact h2⟩
 | mps t kk e tg es ow i =>
   rcases h with ⟨rfl,rfl,rfl⟩ | ⟨j,rfl,rfl,hj,hf,rfl⟩
   ·refine ⟨_,.inl ⟨rfl,rfl,rfl⟩,fun N η r' w' hne hl => ?_,fun _ _ hh => hh⟩
    have e : setρ ρ r η r' = ρ r':=by simp [setρ,hne]
    obtain ⟨_,h1,h2⟩:=hl
    exact ⟨rfl,by rw [e];exact h1,by rw [e];exact h2⟩
   ·refine ⟨_,.inr ⟨j,rfl,rfl,hj,hf,rfl⟩,fun N η r' w' hne hl => ?_,fun _ _ hh => hh⟩
    have e : setρ ρ r η r' = ρ r':=by simp [setρ,hne]
    show Ar.lies w' (setρ ρ r η r') _ _
    rw [e];exact hl
 | iter m n l =>
   cases m with
   | none =>
     obtain ⟨rfl,rfl,rfl⟩:=h
     refine ⟨.it none n l,⟨rfl,rfl,rfl⟩,fun N η r' w' hne hl => ?_,fun _ _ hh => hh⟩
     have e : setρ ρ r η r' = ρ r':=by simp [setρ,hne]
     obtain ⟨_,h1,h2,h3⟩:=hl
     exact ⟨rfl,by rw [e];exact h1,h2,by rw [e];exact h3⟩
   | some m =>
     simp only [Reg.mapA,At.kill] at h
     split at h
     ·rename_i hm
      split at hm
      ·cases hm
      ·rename_i hk
       injection hm with hm
       subst hm
       obtain ⟨rfl,rfl,rfl⟩:=h
       refine ⟨.it (some m) n l,⟨rfl,rfl,rfl⟩,fun N η r' w' hne hl => ?_,fun _ _ hh => hh⟩
       have hmr : m ≠ r:=fun e => by subst e;exact hk (by simp) rfl
       have e : setρ ρ r η r' = ρ r':=by simp [setρ,hne]
       have e' : setρ ρ r η m = ρ m:=by simp [setρ,hmr]
       obtain ⟨_,h1,h2,h3⟩:=hl
       exact ⟨rfl,by rw [e];exact h1,h2,by rw [e];simp only [Option.map_some] at h3 ⊢;rw [e'];exact h3⟩
     ·exact h.elim
 | lp b s L q j =>
   obtain ⟨rfl,rfl,rfl⟩:=h
   refine ⟨.lp b s L q j,⟨rfl,rfl,rfl⟩,fun N η r' w' hne hl => ?_,fun _ _ hh => hh⟩
   have e : setρ ρ r η r' = ρ r':=by simp [setρ,hne]
   obtain ⟨_,h1,h2,h3,h4⟩:=hl
   exact ⟨rfl,by rw [e];exact h1,Sl.kill_ok h2,by rw [e];exact h3,by rw [e];exact h4⟩
theorem Rel.replace (h : Rel Γ M w0 ρ st vs a w) {r : Nat} {e : TypeId} {tg : List CK} {xs xs' : List (Tup tg)} {inn inn' : Bool} (hr : st.rg[r]? = some (.arr e tg xs true inn)) (hflat : flatK tg = true) {w' : World} (hf : Frame M w0 w')
  (hs : w.heap.size ≤ w'.heap.size) (hsame : ∀ b,b < w.heap.size → ((ρ r []).void = true ∨ b ≠ (ρ r []).b) → w'.heap[b]? = w.heap[b]?) {I : RI} (hnew : Ar.lies w' (fun _ => I) [] ⟨e,tg,xs'⟩) (hlt : I.void = false → I.b < w'.heap.size)
  (hmine : I.void = false → Mine M w0 w' I ∧ Whole w' I e) (hI : I.void = false → w.heap.size ≤ I.b ∨ ((ρ r []).void = false ∧ I.b = (ρ r []).b)) :
  Rel Γ M w0 (setρ ρ r fun _ => I) ((st.map (At.kill true true r)).setR r (.arr e tg xs' true inn')) vs a w':=by
 have hlt' : r < st.rg.length:=reg_lt hr
 have hB : (Reg.arr e tg xs true inn).has [] true (.arr ⟨e,tg,xs⟩):=⟨rfl,_,rfl,rfl⟩
 have hlen : ((st.map (At.kill true true r)).setR r (.arr e tg xs' true inn')).rg.length = st.rg.length:=by simp [St.setR,St.map]
 have old : (ρ r []).void = false → Mine M w0 w (ρ r []):=fun hv => (h.rs.own r _ [] _ hr hB hv).1
 have get : ∀ (r1 : Nat) (g1 : Reg),((st.map (At.kill true true r)).setR r (.arr e tg xs' true inn')).rg[r1]? = some g1 → (r1 = r ∧ g1 = .arr e tg xs' true inn') ∨ (r1 ≠ r ∧ ∃ g0,st.rg[r1]? = some g0 ∧ g1 = g0.mapA (At.kill true true r)):=by
  intro r1 g1 h1
  rcases set_get (l:=(st.map (At.kill true true r)).rg) h1 with ⟨rfl,rfl,_⟩ | ⟨hne,h1⟩
  ·exact .inl ⟨rfl,rfl⟩
  ·simp only [St.map,List.getElem?_map,Option.map_eq_some_iff] at h1
   obtain ⟨g0,h1,h2⟩:=h1
   exact .inr ⟨hne,g0,h1,h2.symm⟩
 have hne : ∀ {r'},r' ≠ r → setρ ρ r (fun _ => I) r' = ρ r':=fun hh => by simp [setρ,hh]
 -- other regions' blocks stay
 have stay : ∀ (r1 : Nat) (g0 : Reg) π o B,r1 ≠ r → st.rg[r1]? = some g0 → g0.has π o B → (ρ r1 π).void = false → w'.heap[(ρ r1 π).b]? = w.heap[(ρ r1 π).b]? ∧ (I.void = false → I.b ≠ (ρ r1 π).b):=by
  intro r1 g0 π o B hn h1 h2 hv
  have hl:=h.rs.lt r1 g0 π o B h1 h2 hv
  have hd : (ρ r []).void = true ∨ (ρ r1 π).b ≠ (ρ r []).b:=by
   cases hv0 : (ρ r []).void with
   | true => exact .inl rfl
   | false => exact .inr fun e => h.rs.dj r r1 _ g0 [] π o _ B hr h1 hB h2 hv0 hv (fun e' => hn e'.1.symm) e.symm
  refine ⟨hsame _ hl hd,fun hIv e => ?_⟩
  rcases hI hIv with hI | ⟨h3,h4⟩
  ·omega
  ·rcases hd with hd | hd
   ·rw [h3] at hd;cases hd
   ·exact hd (e.symm.trans h4)
 have newHas : ∀ {π : Path} {o : Bool} {B : Blk},(Reg.arr e tg xs' true inn').has π o B → π = [] ∧ o = true ∧ B = .arr ⟨e,tg,xs'⟩:=by
  rintro π o B ⟨hf,A,hA,rfl⟩
  obtain ⟨rfl,rfl⟩:=has_flat hflat hA
  exact ⟨rfl,hf,rfl⟩
 refine ⟨?_,?_,h.df,?_,hf,Γ.st _ _ h.gl fun b hb => hsame b (Nat.lt_of_lt_of_le (h.gn b hb).2 h.bl.size) ?_,h.gn⟩
 ·rw [hlen];exact Sl.kill_ok h.tm
 ·rw [hlen];exact okL_kill h.fr
 ·rw [hlen]
  refine ⟨fun r1 g1 π o B h1 h2 => ?_,fun r1 g1 π o B h1 h2 hv => ?_,fun r1 g1 π B h1 h2 hv => ?_,fun r1 r2 g1 g2 π π' o' B B' h1 h2 k1 k2 v1 v2 hn => ?_⟩
  ·rcases get r1 g1 h1 with ⟨rfl,rfl⟩ | ⟨hn,g0,p1,rfl⟩
   ·obtain ⟨rfl,rfl,rfl⟩:=newHas h2
    show Ar.lies w' (setρ ρ r1 _ r1) [] _
    rw [setρ_at];exact hnew
   ·obtain ⟨B0,b1,b2,_⟩:=kill_has (ρ:=ρ) (M:=M) (w0:=w0) h2
    refine b2 _ _ r1 w' hn ?_
    exact (h.rs.blk r1 g0 π o B0 p1 b1).later (fun _ => rfl) (Nat.le_refl _) (fun _ _ _ => rfl) (fun hv => (stay r1 g0 π o B0 hn p1 b1 hv).1)
  ·rcases get r1 g1 h1 with ⟨rfl,rfl⟩ | ⟨hn,g0,p1,rfl⟩
   ·obtain ⟨rfl,rfl,rfl⟩:=newHas h2
    rw [setρ_at] at hv ⊢;exact hlt hv
   ·obtain ⟨B0,b1,_,_⟩:=kill_has (ρ:=ρ) (M:=M) (w0:=w0) h2
    rw [hne hn] at hv ⊢
    exact Nat.lt_of_lt_of_le (h.rs.lt r1 g0 π o B0 p1 b1 hv) hs
  ·rcases get r1 g1 h1 with ⟨rfl,rfl⟩ | ⟨hn,g0,p1,rfl⟩
   ·obtain ⟨rfl,_,rfl⟩:=newHas h2
    rw [setρ_at] at hv ⊢;exact hmine hv
   ·obtain ⟨B0,b1,_,b3⟩:=kill_has (ρ:=ρ) (M:=M) (w0:=w0) h2
    rw [hne hn] at hv ⊢
    exact b3 _ _ ((h.rs.own r1 g0 π B0 p1 b1 hv).later (stay r1 g0 π true B0 hn p1 b1 hv).1)
  ·rcases get r1 g1 h1 with ⟨e1,f1⟩ | ⟨n1,g10,p1,f1⟩ <;> rcases get r2 g2 h2 with ⟨e2,f2⟩ | ⟨n2,g20,p2,f2⟩
   ·subst e1 f1 e2 f2
    obtain ⟨rfl,_,_⟩:=newHas k1
    obtain ⟨rfl,_,_⟩:=newHas k2
    exact absurd ⟨rfl,rfl⟩ hn
   ·subst e1 f1 f2
    obtain ⟨rfl,_,_⟩:=newHas k1
    obtain ⟨B0,b1,_,_⟩:=kill_has (ρ:=ρ) (M:=M) (w0:=w0) k2
    rw [setρ_at] at v1 ⊢;rw [hne n2] at v2 ⊢
    exact (stay r2 g20 π' o' B0 n2 p2 b1 v2).2 v1
   ·subst e2 f2 f1
    obtain ⟨rfl,_,_⟩:=newHas k2
    obtain ⟨B0,b1,_,_⟩:=kill_has (ρ:=ρ) (M:=M) (w0:=w0) k1
    rw [setρ_at] at v2 ⊢;rw [hne n1] at v1 ⊢
    exact ((stay r1 g10 π true B0 n1 p1 b1 v1).2 v2).symm
   ·subst f1 f2
    obtain ⟨Ba,b1,_,_⟩:=kill_has (ρ:=ρ) (M:=M) (w0:=w0) k1
    obtain ⟨Bb,b2,_,_⟩:=kill_has (ρ:=ρ) (M:=M) (w0:=w0) k2
    rw [hne n1] at v1 ⊢;rw [hne n2] at v2 ⊢
    exact h.rs.dj r1 r2 g10 g20 π π' o' Ba Bb p1 p2 b1 b2 v1 v2 hn
 ·cases hv : (ρ r []).void with
  | true => exact .inl rfl
  | false =>
    have:=h.gn b hb
    refine .inr fun e => ?_
    subst e
    rcases (old hv).own with ho | ho
    ·exact this.1 ho
    ·omega
end
end Go.Sy
end
section
namespace Go.Sy
open Go Go.RowKit
universe u
section
variable {P : Program} {Γ : Glob} {E : Env} {M : Nat → Prop} {w0 : World} {ρ : Keys} {st : St} {vs : Fv} {a : Act} {w : World}
theorem run_append_zero {t ty e : TypeId} {m : Nat} (hu : P.underlying t = some (.slice e)) (hm : (P.info? e).map (·.size) = some m) (a0 b0 : Option Addr) (k c c2 : Nat) (hk : k ≤ c) :
  (Builtin.append_ #[t,t] ty #[.slice a0 k c,.slice b0 0 c2]).run P w = .ok (.slice a0 k c) w:=by
 have hf : (Builtin.firstCells m 0 (.slice b0 0 c2)).run P w = .ok #[] w:=by
  cases b0 with
  | none => simp [Builtin.firstCells]
  | some b => have:=run_firstCells_some (P:=P) w m 0 b 0 c2 [] (by simp) (fun j v h => by simp at h)
              simpa using this
 cases a0 with
 | none => simp [Builtin.append_,run_underlying hu,run_size hm,Builtin.lenOf,hk,hf]
 | some ad => simp [Builtin.append_,run_underlying hu,run_size hm,Builtin.lenOf,hk,hf,storeCells]
theorem run_append_in {t ty e : TypeId} {m : Nat} (hu : P.underlying t = some (.slice e)) (hm : (P.info? e).map (·.size) = some m) (g off k c : Nat) (b : Addr) (n c2 : Nat) (news : List Value) (hl : news.length = n * m)
  (hnews : ∀ j v,news[j]? = some v → w.cell? (b.add j) = some v) (hone : ∀ v ∈ news,v.oneCell' = true) (hroom : k + n ≤ c)
  (hc : ∀ s,s < news.length → (w.cell? ⟨g,off + k * m + s,none⟩).isSome = true) (hf : ∀ o,w.frozen? ⟨g,o,none⟩ = false) :
  (Builtin.append_ #[t,t] ty #[.slice (some ⟨g,off,none⟩) k c,.slice (some b) n c2]).run P w = .ok (.slice (some ⟨g,off,none⟩) (k + n) c) (w.setCells g (off + k * m) news):=by
 have hfc:=run_firstCells_some (P:=P) w m n b n c2 news hl hnews
 have hst:=run_storeCells_cells (P:=P) g (off + k * m) news 0 w (fun s hs => by simpa using hc s hs) (fun s _ => hf _) hone
 simp only [Nat.add_zero] at hst
 simp [Builtin.append_,run_underlying hu,run_size hm,Builtin.lenOf,hroom,hfc,Addr.add_lit,hst]
theorem lies_one {η : Path → RI} {π : Path} {i : Nat} : ∀ {tg : List CK} {j : Nat} {x : Tup tg} {ys : List Value},flatK tg = true → Tup.lies η π i j tg x ys → ∀ y ∈ ys,y.oneCell' = true:=by
 have one : ∀ {c : CK} {j : Nat} {x : c.ty} {y : Value},c.flat = true → c.lies η π i j x y → y.oneCell' = true:=fun {c} _ _ _ hf h => by
  cases c with
  | int => obtain rfl:=show _ = _ from h;rfl
  | bool => obtain rfl:=show _ = _ from h;rfl
  | str => obtain rfl:=show _ = _ from h;rfl
  | sl => cases hf
 intro tg
 induction tg with
 | nil => intro j x ys _ h y hy;have h : ys = []:=h;subst h;simp at hy
 | cons c cs ih =>
   intro j x ys hf h
   simp only [flatK] at hf
   split at hf
   ·rename_i hc
    cases cs with
    | nil => obtain ⟨y,rfl,h2⟩:=h;intro z hz;simp at hz;subst hz;exact one hc h2
    | cons c' cs =>
      obtain ⟨y,ys',rfl,h2,h3⟩:=h
      intro z hz
      rcases List.mem_cons.1 hz with rfl | hz
      ·exact one hc h2
      ·exact ih hf h3 z hz
   ·cases hf
theorem flat_cells {η : Path → RI} {π : Path} {A : Ar} (h : A.lies w η π) (hf : flatK A.tg = true) : ∀ N,N ≤ A.xs.length → ∃ vals : List Value,vals.length = N * A.tg.length ∧ (∀ j v,vals[j]? = some v → w.cell? ((η π).at j) = some v) ∧
  (∀ i,i < N → ∃ ys,Tup.lies η π i 0 A.tg (A.get i) ys ∧ ∀ s,s < A.tg.length → vals[i * A.tg.length + s]? = ys[s]?) ∧ ∀ v ∈ vals,v.oneCell' = true
 | 0,_ => ⟨[],by simp,by simp,by simp,by simp⟩
 | N + 1,hN => by
   obtain ⟨vals,h1,h2,h3,h4⟩:=flat_cells h hf N (by omega)
   obtain ⟨ys,h5,h6⟩:=h.cell N (by omega)
   have hy:=lies_length h5
   refine ⟨vals ++ ys,by rw [List.length_append,h1,hy,Nat.add_mul,Nat.one_mul],fun j v hv => ?_,fun i hi => ?_,fun v hv => ?_⟩
   ·rcases Nat.lt_or_ge j vals.length with hl | hl
    ·rw [List.getElem?_append_left hl] at hv;exact h2 j v hv
    ·rw [List.getElem?_append_right hl] at hv
     have:=h6 _ v hv
     rw [h.m,h1] at this
     rw [show N * A.tg.length + (j - N * A.tg.length) = j by omega] at this
     exact this
   ·rcases Nat.lt_or_ge i N with hl | hl
    ·obtain ⟨zs,z1,z2⟩:=h3 i hl
     refine ⟨zs,z1,fun s hs => ?_⟩
     rw [List.getElem?_append_left,z2 s hs]
     rw [h1]
     have : (i + 1) * A.tg.length ≤ N * A.tg.length:=Nat.mul_le_mul_right _ hl
     rw [Nat.add_mul] at this;omega
    ·obtain rfl : i = N:=by omega
     refine ⟨ys,h5,fun s hs => ?_⟩
     rw [List.getElem?_append_right (by omega),h1,Nat.add_sub_cancel_left]
   ·rcases List.mem_append.1 hv with hv | hv
    ·exact h4 v hv
    ·exact lies_one hf h5 v hv
theorem head_form {I : RI} {lo n : Nat} {y : Value} (h : I.head lo n y) : ∃ ad c,y = .slice ad n c ∧ n ≤ c ∧ (I.void = true → n = 0 ∧ c = 0) ∧ (I.void = false → c = I.cap - lo ∧ lo + n ≤ I.cap ∧ (lo < I.cap → ad = some (I.at (lo * I.m)))):=by
 cases hv : I.void with
 | true => obtain ⟨rfl,ad,rfl⟩:=h.1 hv;exact ⟨ad,0,rfl,Nat.le_refl _,fun _ => ⟨rfl,rfl⟩,fun hh => by cases hh⟩
 | false => obtain ⟨h1,ad,rfl,h2⟩:=h.2 hv;exact ⟨ad,_,rfl,by omega,(fun hh => by cases hh),fun _ => ⟨rfl,h1,h2⟩⟩
theorem lies_of_cells {te : TypeId} {tg : List CK} (htg : tg ≠ []) (hf : flatK tg = true) {xs : List (Tup tg)} {I : RI} (hm : I.m = tg.length) (hv : I.void = false) (hcap : xs.length ≤ I.cap)
  (hc : ∀ i,i < xs.length → ∃ (η : Path → RI) (π : Path) (k : Nat) (ys : List Value),Tup.lies η π k 0 tg (Ar.get ⟨te,tg,xs⟩ i) ys ∧ ∀ s y,ys[s]? = some y → w.cell? (I.at (i * tg.length + s)) = some y) : Ar.lies w (fun _ => I) [] ⟨te,tg,xs⟩ :=
 ⟨htg,hm,(fun hh => by rw [hv] at hh;cases hh),fun _ => hcap,fun i hi => by
   obtain ⟨η,π,k,ys,h1,h2⟩:=hc i hi
   exact ⟨ys,lies_flat hf h1,fun s y hy => by rw [hm];exact h2 s y hy⟩⟩
end
end Go.Sy
end
section
namespace Go.Sy
open Go Go.RowKit
universe u
section
variable {P : Program} {Γ : Glob} {E : Env} {M : Nat → Prop} {w0 : World} {ρ : Keys} {st : St} {vs : Fv} {a : Act} {w : World}
structure Appended (M : Nat → Prop) (w0 w w' : World) (I0 I : RI) (e : TypeId) (tg : List CK) (xs : List (Tup tg)) (n : Nat) (v : Value) : Prop where
 head : I.head 0 n v
 lies : Ar.lies w' (fun _ => I) [] ⟨e,tg,xs⟩
 mine : I.void = false → I.b < w'.heap.size ∧ Mine M w0 w' I ∧ Whole w' I e
 fr : Frame M w0 w'
 size : w.heap.size ≤ w'.heap.size
 same : ∀ b,b < w.heap.size → (I0.void = true ∨ b ≠ I0.b) → w'.heap[b]? = w.heap[b]?
 at_ : I.void = false → w.heap.size ≤ I.b ∨ (I0.void = false ∧ I.b = I0.b)
theorem get_app {te : TypeId} {tg : List CK} {xs ys : List (Tup tg)} {i : Nat} : Ar.get ⟨te,tg,xs ++ ys⟩ i = if i < xs.length then Ar.get ⟨te,tg,xs⟩ i else Ar.get ⟨te,tg,ys⟩ (i - xs.length):=by
 simp only [Ar.get,List.getD_eq_getElem?_getD]
 split
 ·rename_i h;rw [List.getElem?_append_left h]
 ·rename_i h;rw [List.getElem?_append_right (by omega)]
theorem whole_shift {I : RI} {e : TypeId} (h : Whole w I e) {l : Nat} (hl : l ≤ I.cap) : Whole w (I.shift l) e:=by
 obtain ⟨h1,cur,h2,h3⟩:=h
 refine ⟨by simp only [RI.shift];omega,cur,h2,?_⟩
 simp only [RI.shift]
 rw [h3]
 have : I.cap * I.m = l * I.m + (I.cap - l) * I.m:=by rw [← Nat.add_mul];congr 1;omega
 omega
theorem whole_cell {I : RI} {e : TypeId} (h : Whole w I e) {o : Nat} (ho : o < I.off + I.cap * I.m) : (w.cell? ⟨I.b,o,none⟩).isSome = true:=by
 obtain ⟨_,cur,h2,h3⟩:=h
 simp only [World.cell?,h2]
 simp [h3,ho]
theorem run_append_flat (hE : EnvOk P Γ E) {t ty e : TypeId} {m : Nat} (ht : E.ty t = .sl e m) {tg : List CK} (hD : E.kd e = some tg) (hflat : flatK tg = true) {I0 : RI} {xs : List (Tup tg)} {l k : Nat} {v0 : Value}
  (h0 : Ar.lies w (fun _ => I0) [] ⟨e,tg,xs⟩) (hk : l + k = xs.length) (hs : I0.head l k v0) (hown : I0.void = false → Mine M w0 w I0 ∧ Whole w I0 e ∧ I0.b < w.heap.size)
  {I2 : RI} {te2 : TypeId} {ys : List (Tup tg)} {lo n : Nat} {vx : Value} (h2 : Ar.lies w (fun _ => I2) [] ⟨te2,tg,ys⟩) (hx : I2.head lo n vx) (hn : lo + n ≤ ys.length) (hcap : (k + n) * tg.length ≤ cap40) (hfr : Frame M w0 w) :
  ∃ v w' I,(Builtin.append_ #[t,t] ty #[v0,vx]).run P w = .ok v w' ∧ Appended M w0 w w' I0 I e tg (xs.drop l ++ (ys.drop lo).take n) (k + n) v:=by
 obtain ⟨hu,_,_⟩:=hE.tySl ht
 obtain ⟨htg,⟨i,z,hi,hsz,hz,hzc,hby⟩⟩:=hE.kd e tg hD
 have hm : (P.info? e).map (·.size) = some tg.length:=by rw [hi];simp [hsz]
 have hmpos : 0 < tg.length:=List.length_pos_iff.2 htg
 obtain ⟨ad,c,rfl,hkc,hvo,hnv⟩:=head_form hs
 obtain ⟨bd,c2,rfl,hnc,hvo2,hnv2⟩:=head_form hx
 have hxl : (xs.drop l).length = k:=by rw [List.length_drop];omega
 have hyl : ((ys.drop lo).take n).length = n:=by rw [List.length_take,List.length_drop];omega
 have htake : (xs.drop l).take k = xs.drop l:=List.take_of_length_le (by omega)
 have hI0m : I0.m = tg.length:=h0.m
 have hI2m : I2.m = tg.length:=h2.m
 -- what was there
 have hold : Ar.lies w (fun _ => I0.shift l) [] ⟨e,tg,xs.drop l⟩:=by
  have:=lies_part (te:=e) hflat h0 (lo:=l) (n:=k) (by omega) (η':=fun _ => I0.shift l) (π':=[]) rfl e
  rwa [htake] at this
 rcases Nat.eq_zero_or_pos n with rfl | hnpos
 ·-- nothing is appended
  refine ⟨_,w,I0.shift l,run_append_zero hu hm ad bd k c c2 hkc,?_,?_,fun hv => ?_,hfr,Nat.le_refl _,fun _ _ _ => rfl,fun hv => .inr ⟨hv,rfl⟩⟩
  ·rw [Nat.add_zero];exact head_shift hs
  ·simpa using hold
  ·obtain ⟨o1,o2,o3⟩:=hown hv
   exact ⟨o3,⟨o1.own,o1.fz⟩,whole_shift o2 (by have:=(hnv hv).2.1;omega)⟩
 ·-- something is
  have hv2 : I2.void = false:=by
   cases hh : I2.void with
   | false => rfl
   | true => have:=(hvo2 hh).1;omega
  obtain ⟨hc2,hlc2,hbd⟩:=hnv2 hv2
  have hbd:=hbd (by omega)
  subst hbd
  have hnew:=lies_part (te:=te2) hflat h2 hn (η':=fun _ => I2.shift lo) (π':=[]) rfl te2
  obtain ⟨news,w1,w2,w3,w4⟩:=flat_cells hnew hflat n (by rw [hyl];exact Nat.le_refl _)
  obtain ⟨olds,u1,u2,u3,u4⟩:=flat_cells hold hflat k (by rw [hxl];exact Nat.le_refl _)
  simp only at w1 w2 w3 u1 u2 u3
  have hnews : ∀ j v,news[j]? = some v → w.cell? ((I2.at (lo * I2.m)).add j) = some v:=fun j v hv => by
   rw [RI.at_add];have:=w2 j v hv;rwa [RI.shift_at] at this
  have bytes : (k + n) * i.bytes ≤ 140737488355328:=by
   have h1 : (k + n) * i.bytes ≤ (k + n) * (32 * tg.length):=Nat.mul_le_mul_left _ hby
   have h2 : (k + n) * (32 * tg.length) = 32 * ((k + n) * tg.length):=by rw [← Nat.mul_assoc,Nat.mul_comm _ 32,Nat.mul_assoc]
   simp only [cap40] at hcap
   omega
  have hkn : k + n ≤ 1099511627776:=Nat.le_trans (Nat.le_mul_of_pos_right _ hmpos) hcap
  by_cases hroom : k + n ≤ c
  ·-- in its place
   have hv0 : I0.void = false:=by
    cases hh : I0.void with
    | false => rfl
    | true => have:=(hvo hh).2;omega
   obtain ⟨hc,hlc,had⟩:=hnv hv0
   have had:=had (by omega)
   subst had
   obtain ⟨o1,o2,o3⟩:=hown hv0
   have hmul : (l + (k + n)) * tg.length ≤ I0.cap * tg.length:=Nat.mul_le_mul_right _ (by omega)
   have hexp : (l + (k + n)) * tg.length = l * tg.length + k * tg.length + n * tg.length:=by rw [Nat.add_mul,Nat.add_mul];omega
   have hcell : ∀ s,s < news.length → (w.cell? ⟨I0.b,I0.off + l * I0.m + k * tg.length + s,none⟩).isSome = true:=fun s hs => whole_cell o2 (by rw [hI0m];rw [w1] at hs;omega)
   have hrun:=run_append_in (P:=P) (w:=w) (ty:=ty) hu hm I0.b (I0.off + l * I0.m) k c (I2.at (lo * I2.m)) n c2 news w1 hnews w4 hroom hcell o1.fz
   refine ⟨_,_,I0.shift l,by simpa only [RI.at] using hrun,?_,?_,fun hv => ?_,frame_setCells o1.own _ _ hfr,by rw [size_setCells];exact Nat.le_refl _,fun b hb hd => heap_setCells _ _ _ _ _ ?_,fun hv => .inr ⟨hv0,rfl⟩⟩
   ·refine ⟨fun hv => (by simp only [RI.shift] at hv;rw [hv0] at hv;cases hv),fun _ => ⟨by simp only [RI.shift];omega,_,by simp only [RI.shift,Nat.sub_zero];rw [hc],fun _ => by simp [RI.shift,RI.at]⟩⟩
   ·refine lies_of_cells htg hflat hI0m hv0 (by simp only [RI.shift,List.length_append,hxl,hyl];omega) fun i hi => ?_
    simp only [List.length_append,hxl,hyl] at hi
    rw [get_app,hxl]
    by_cases hik : i < k
    ·rw [if_pos hik]
     obtain ⟨zs,z1,z2⟩:=u3 i hik
     refine ⟨_,_,_,zs,z1,fun s y hy => ?_⟩
     have hs : s < tg.length:=by rw [← lies_length z1];exact (List.getElem?_eq_some_iff.1 hy).1
     rw [World.cell?_setCells_out]
     ·exact u2 _ y (by rw [z2 s hs];exact hy)
     ·intro _ _
      have : (i + 1) * tg.length ≤ k * tg.length:=Nat.mul_le_mul_right _ hik
      rw [Nat.add_mul] at this
      simp only [RI.shift,RI.at]
      omega
    ·rw [if_neg hik]
     obtain ⟨zs,z1,z2⟩:=w3 (i - k) (by omega)
     refine ⟨_,_,_,zs,z1,fun s y hy => ?_⟩
     have hs : s < tg.length:=by rw [← lies_length z1];exact (List.getElem?_eq_some_iff.1 hy).1
     have hlt : (i - k) * tg.length + s < news.length:=by
      have:=z2 s hs
      rw [hy] at this
      exact (List.getElem?_eq_some_iff.1 this).1
     have:=World.cell?_setCells_in I0.b news (I0.off + l * I0.m + k * tg.length) w hcell _ hlt
     have e1 : (I0.shift l).at (i * tg.length + s) = ⟨I0.b,I0.off + l * I0.m + k * tg.length + ((i - k) * tg.length + s),none⟩:=by
      have : i * tg.length = k * tg.length + (i - k) * tg.length:=by rw [← Nat.add_mul];congr 1;omega
      simp only [RI.shift,RI.at]
      congr 1
      omega
     rw [e1,this,← List.getElem?_eq_getElem hlt,z2 s hs];exact hy
   ·refine ⟨by rw [size_setCells];exact o3,⟨o1.own,fun j => by rw [World.frozen?_setCells];exact o1.fz j⟩,whole_shift (whole_setCells _ _ o2) (by omega)⟩
   ·rcases hd with hd | hd
    ·rw [hv0] at hd;cases hd
    ·exact hd
  ·-- in a new place
   have hrun : ∃ cp,k + n ≤ cp ∧ cp ≤ maxLen ∧ (Builtin.append_ #[t,t] ty #[.slice ad k c,.slice (some (I2.at (lo * I2.m))) n c2]).run P w =
     .ok (.slice (some ⟨w.heap.size,0,none⟩) (k + n) cp) (w.drew.alloc (.cells (olds ++ news ++ (Builtin.zeroCells z.cells (cp - (k + n))).toList).toArray e)):=by
    have hgl : ∀ old,grownCap w (k + n) old e ≤ maxLen:=fun old => grownCap_le_maxLen w _ _ _ (Nat.le_trans hkn (Nat.le_of_ble_eq_true rfl))
    cases ad with
    | none =>
      have hk0 : k = 0 ∧ c = 0:=by
       cases hh : I0.void with
       | true => exact hvo hh
       | false =>
         obtain ⟨g1,g2,g3⟩:=hnv hh
         by_cases hlt : l < I0.cap
         ·have:=g3 hlt;cases this
         ·omega
      obtain ⟨rfl,rfl⟩:=hk0
      have hr:=run_append_nil (P:=P) w t ty e i z hu hi hz (I2.at (lo * I2.m)) n c2 news (by rw [w1,hsz]) hnews hnpos (by omega) (by rw [Nat.zero_add] at bytes;omega)
      have ho : olds = []:=List.eq_nil_of_length_eq_zero (by rw [u1];simp)
      refine ⟨grownCap w n 0 e,by rw [Nat.zero_add];exact grownCap_ge w n 0 e,by have:=hgl 0;rwa [Nat.zero_add] at this,?_⟩
      rw [hr,ho,Nat.zero_add]
      congr 3
      apply Array.ext'
      simp
    | some b =>
      have hr:=run_append_grow (P:=P) w t ty e i z hu hi hz b k c olds (by rw [u1,hsz]) (fun j v hv => by
       have hk' : 0 < k:=by
        rcases Nat.eq_zero_or_pos k with rfl | hk'
        ·have:=(List.getElem?_eq_some_iff.1 hv).1
         rw [u1] at this;simp at this
        ·exact hk'
       have hv0 : I0.void = false:=by
        cases hh : I0.void with
        | false => rfl
        | true => have:=(hvo hh).1;omega
       obtain ⟨g1,g2,g3⟩:=hnv hv0
       have:=g3 (by omega)
       obtain rfl:=Option.some.inj this
       rw [RI.at_add]
       have:=u2 j v hv
       rwa [RI.shift_at] at this) (I2.at (lo * I2.m)) n c2 news (by rw [w1,hsz]) hnews (by omega) (by omega) (growslice_fits (by omega) bytes)
      refine ⟨grownCap w (k + n) c e,grownCap_ge w _ _ e,hgl c,?_⟩
      rw [hr]
      congr 3
      apply Array.ext'
      simp [List.append_assoc]
   obtain ⟨cp,hcp1,hcp2,hrun⟩:=hrun
   have hbel : Below w.heap.size w (w.drew.alloc (.cells (olds ++ news ++ (Builtin.zeroCells z.cells (cp - (k + n))).toList).toArray e)):=((Below.refl _ _).drew).alloc (Nat.le_refl _) _
   have hzl : z.cells.size = tg.length:=by
    have:=congrArg List.length hzc
    simpa [zero_length] using this
   have hcellN : ∀ j,(w.drew.alloc (.cells (olds ++ news ++ (Builtin.zeroCells z.cells (cp - (k + n))).toList).toArray e)).cell? ⟨w.heap.size,j,none⟩ = (olds ++ news ++ (Builtin.zeroCells z.cells (cp - (k + n))).toList)[j]?:=fun j => cell_alloc_at (w:=w.drew) _ e j
   refine ⟨_,_,⟨w.heap.size,0,tg.length,cp,false⟩,hrun,?_,?_,fun _ => ?_,hfr.below hbel,hbel.size,fun b hb _ => hbel.block b hb,fun _ => .inl (Nat.le_refl _)⟩
   ·exact ⟨fun hv => (by cases hv),fun _ => ⟨by rw [Nat.zero_add];exact hcp1,_,rfl,fun _ => by simp [RI.at]⟩⟩
   ·refine lies_of_cells htg hflat rfl rfl (by simp only [List.length_append,hxl,hyl];exact hcp1) fun i hi => ?_
    simp only [List.length_append,hxl,hyl] at hi
    rw [get_app,hxl]
    by_cases hik : i < k
    ·rw [if_pos hik]
     obtain ⟨zs,z1,z2⟩:=u3 i hik
     refine ⟨_,_,_,zs,z1,fun s y hy => ?_⟩
     have hs : s < tg.length:=by rw [← lies_length z1];exact (List.getElem?_eq_some_iff.1 hy).1
     simp only [RI.at,Nat.zero_add]
     have hg:=z2 s hs
     rw [hy] at hg
     rw [hcellN,List.append_assoc,List.getElem?_append_left (List.getElem?_eq_some_iff.1 hg).1];exact hg
    ·rw [if_neg hik]
     obtain ⟨zs,z1,z2⟩:=w3 (i - k) (by omega)
     refine ⟨_,_,_,zs,z1,fun s y hy => ?_⟩
     have hs : s < tg.length:=by rw [← lies_length z1];exact (List.getElem?_eq_some_iff.1 hy).1
     simp only [RI.at,Nat.zero_add]
     have hg:=z2 s hs
     rw [hy] at hg
     have e1 : i * tg.length + s = olds.length + ((i - k) * tg.length + s):=by
      have : i * tg.length = k * tg.length + (i - k) * tg.length:=by rw [← Nat.add_mul];congr 1;omega
      rw [u1];omega
     rw [hcellN,List.append_assoc,e1,List.getElem?_append_right (by omega),Nat.add_sub_cancel_left,List.getElem?_append_left (List.getElem?_eq_some_iff.1 hg).1];exact hg
   ·have hheap : (w.drew.alloc (.cells (olds ++ news ++ (Builtin.zeroCells z.cells (cp - (k + n))).toList).toArray e)).heap[w.heap.size]? = some (.cells (olds ++ news ++ (Builtin.zeroCells z.cells (cp - (k + n))).toList).toArray e):=by
     show (w.heap.push _)[w.heap.size]? = _
     simp
    refine ⟨(Array.getElem?_eq_some_iff.1 hheap).1,⟨.inr hfr.size,fun j => ?_⟩,hcp2,_,hheap,?_⟩
    ·have hheap' : (w.drew.alloc (.cells (olds ++ news ++ (Builtin.zeroCells z.cells (cp - (k + n))).toList).toArray e)).heap[w.heap.size]? = _:=hheap
     simp only [World.frozen?]
     rw [hheap']
     simp
    show _ = 0 + cp * tg.length
    simp only [List.size_toArray,List.length_append,u1,w1,Array.length_toList,size_zeroCells,hzl]
    rw [← Nat.add_mul,← Nat.add_mul,Nat.zero_add]
    congr 1
    omega
end
end Go.Sy
end
section
namespace Go.Sy
open Go Go.RowKit
universe u
section
variable {P : Program} {Γ : Glob} {E : Env} {M : Nat → Prop} {w0 : World} {ρ : Keys} {st : St} {vs : Fv} {a : Act} {w : World}
theorem isNil_true {α : Type u} {l : List α} (h : isNil l = true) : l = []:=by cases l;rfl;cases h
theorem At.killF_ok {N r : Nat} {η : Path → RI} {top : Bool} (ht : top = false → η [] = ρ r []) {x : At} {y : Value} (h : x.ok N ρ y) : (x.kill top true r).ok N (setρ ρ r η) y:=by
 have hne : ∀ {r'},r' ≠ r → setρ ρ r η r' = ρ r':=fun hh => by simp [setρ,hh]
 have hat : ∀ r',top = false → setρ ρ r η r' [] = ρ r' []:=fun r' h0 => by
  by_cases e : r' = r
  ·subst e;rw [setρ_at];exact ht h0
  ·rw [hne e]
 cases x with
 | p r' π i j =>
   simp only [At.kill]
   split
   ·rename_i hb;obtain ⟨h1,h2⟩:=h;exact ⟨h1,by rw [hne (beq_ne hb)];exact h2⟩
   ·rename_i hb hn
    split
    ·trivial
    ·obtain rfl:=isNil_true hn;exact ⟨h.1,by rw [hat _ rfl];exact h.2⟩
   ·trivial
 | sl r' π lo n =>
   simp only [At.kill]
   split
   ·rename_i hb;obtain ⟨h1,h2⟩:=h;exact ⟨h1,by rw [hne (beq_ne hb)];exact h2⟩
   ·rename_i hb hn
    split
    ·trivial
    ·obtain rfl:=isNil_true hn;exact ⟨h.1,by rw [hat _ rfl];exact h.2⟩
   ·trivial
 | fn f l =>
   obtain ⟨h1,h2⟩:=h
   cases top with
   | false =>
     refine ⟨h1,?_⟩
     rw [h2]
     congr 2
     exact List.map_congr_left fun r' hr' => by rw [hat _ rfl]
   | true =>
     simp only [At.kill]
     split
     ·trivial
     ·rename_i hm
      have hm : memN r l = false:=by
       cases hh : memN r l with
       | false => rfl
       | true => exact absurd hh (hm rfl)
      refine ⟨h1,?_⟩
      rw [h2]
      congr 2
      exact List.map_congr_left fun r' hr' => by rw [hne (memN_mem hm r' hr')]
 | mp r' =>
   obtain ⟨h1,h2⟩:=h
   cases top with
   | false =>
     simp only [At.kill]
     split
     ·exact absurd ‹false = true› (by simp)
     ·exact ⟨h1,by rw [hat _ rfl];exact h2⟩
   | true =>
     simp only [At.kill]
     split
     ·trivial
     ·rename_i hm
      have : r' ≠ r:=fun e => by subst e;exact hm (by simp) rfl
      exact ⟨h1,by rw [hne this];exact h2⟩
 | it r' =>
   obtain ⟨h1,h2⟩:=h
   cases top with
   | false =>
     simp only [At.kill]
     split
     ·exact absurd ‹false = true› (by simp)
     ·exact ⟨h1,by rw [hat _ rfl];exact h2⟩
   | true =>
     simp only [At.kill]
     split
     ·trivial
     ·rename_i hm
      have : r' ≠ r:=fun e => by subst e;exact hm (by simp) rfl
      exact ⟨h1,by rw [hne this];exact h2⟩
 | yl r' =>
   obtain ⟨h1,h2⟩:=h
   cases top with
   | false =>
     simp only [At.kill]
     split
     ·exact absurd ‹false = true› (by simp)
     ·exact ⟨h1,by rw [hat _ rfl];exact h2⟩
   | true =>
     simp only [At.kill]
     split
     ·trivial
     ·rename_i hm
      have : r' ≠ r:=fun e => by subst e;exact hm (by simp) rfl
      exact ⟨h1,by rw [hne this];exact h2⟩
 | _ => exact h
theorem C1.killF_ok {N r : Nat} {η : Path → RI} {top : Bool} (ht : top = false → η [] = ρ r []) {x : C1} {y : Value} (h : x.ok N ρ y) : (x.mapA (At.kill top true r)).ok N (setρ ρ r η) y:=by
 cases x with
 | a x => exact At.killF_ok ht h
 | agg l => obtain ⟨ys,h1,h2⟩:=h;exact ⟨ys,h1,okL_map (fun _ _ h => At.killF_ok ht h) h2⟩
theorem Tm.killF_ok {N r : Nat} {η : Path → RI} {top : Bool} (ht : top = false → η [] = ρ r []) {x : Tm} {y : Value} (h : x.ok N ρ y) : (x.mapA (At.kill top true r)).ok N (setρ ρ r η) y:=by
 cases x with
 | a x => exact At.killF_ok ht h
 | agg l => obtain ⟨ys,h1,h2⟩:=h;exact ⟨ys,h1,okL_map (fun _ _ h => At.killF_ok ht h) h2⟩
 | tup l => obtain ⟨ys,h1,h2⟩:=h;exact ⟨ys,h1,okL_map (fun _ _ h => C1.killF_ok ht h) h2⟩
theorem Sl.killF_ok {N r : Nat} {η : Path → RI} {top : Bool} (ht : top = false → η [] = ρ r []) {s : Sl} {xs : Array Value} (h : s.ok N ρ xs) : (s.map (At.kill top true r)).ok N (setρ ρ r η) xs :=
 ⟨h.n,fun i => by
   show ((s.t.map _).get i).ok _ _ _
   rw [Tr.get_map rfl]
   exact Tm.killF_ok ht (h.h i)⟩
theorem okL_killF {N r : Nat} {η : Path → RI} {top : Bool} (ht : top = false → η [] = ρ r []) : ∀ {fr : List Sl} {vs : List (Array Value)},okL (Sl.ok N ρ) fr vs → okL (Sl.ok N (setρ ρ r η)) (fr.map (Sl.map (At.kill top true r))) vs
 | [],[],_ => trivial
 | _ :: _,_ :: _,h => ⟨Sl.killF_ok ht h.1,okL_killF ht h.2⟩
theorem killF_has {r : Nat} {g : Reg} {π : Path} {o : Bool} {B' : Blk} {top : Bool} (h : (g.mapA (At.kill top true r)).has π o B') : ∃ B,g.has π o B ∧
  (∀ N (η : Path → RI) r' w',(top = false → η [] = ρ r []) → r' ≠ r → B.lies N ρ r' π w' → B'.lies N (setρ ρ r η) r' π w') ∧ (∀ w' I,B.mine M w0 w' I → B'.mine M w0 w' I):=by
 cases g with
 | box ow l =>
   obtain ⟨rfl,rfl,rfl⟩:=h
   refine ⟨.box l,⟨rfl,rfl,rfl⟩,fun N η r' w' ht hne hl => ?_,fun _ _ hh => hh⟩
   have e : setρ ρ r η r' = ρ r':=by simp [setρ,hne]
   obtain ⟨_,h1,h2,h3⟩:=hl
   refine ⟨rfl,by rw [e];exact h1,by rw [e];exact h2,fun j x hx => ?_⟩
   simp only [List.getElem?_map,Option.map_eq_some_iff] at hx
   obtain ⟨x',hx',rfl⟩:=hx
   obtain ⟨y,hy,hc⟩:=h3 j x' hx'
   exact ⟨y,At.killF_ok ht hy,by rw [e];exact hc⟩
 | arr te tg xs ow i =>
   obtain ⟨hf,A,hA,rfl⟩:=h
   refine ⟨.arr A,⟨hf,A,hA,rfl⟩,fun N η r' w' _ hne hl => ?_,fun _ _ hh => hh⟩
   have e : setρ ρ r η r' = ρ r':=by simp [setρ,hne]
   show Ar.lies w' (setρ ρ r η r') π A
   rw [e];exact hl
 | dead => exact h.elim
 | map t k c es ow =>
   obtain ⟨rfl,rfl,rfl⟩:=h
   refine ⟨.map k c es,⟨rfl,rfl,rfl⟩,fun N η r' w' _ hne hl => ?_,fun _ _ hh => hh⟩
   have e : setρ ρ r η r' = ρ r':=by simp [setρ,hne]
   obtain ⟨_,h1,h2⟩:=hl
   exact ⟨rfl,by rw [e];exact h1,by rw [e];exact h2⟩
 | mps t kk e tg es ow i =>
   rcases h with ⟨rfl,rfl,rfl⟩ | ⟨j,rfl,rfl,hj,hf,rfl⟩
   ·refine ⟨_,.inl ⟨rfl,rfl,rfl⟩,fun N η r' w' _ hne hl => ?_,fun _ _ hh => hh⟩
    have e : setρ ρ r η r' = ρ r':=by simp [setρ,hne]
    obtain ⟨_,h1,h2⟩:=hl
    exact ⟨rfl,by rw [e];exact h1,by rw [e];exact h2⟩
   ·refine ⟨_,.inr ⟨j,rfl,rfl,hj,hf,rfl⟩,fun N η r' w' _ hne hl => ?_,fun _ _ hh => hh⟩
    have e : setρ ρ r η r' = ρ r':=by simp [setρ,hne]
    show Ar.lies w' (setρ ρ r η r') _ _
    rw [e];exact hl
 | iter m n l =>
   cases m with
   | none =>
     obtain ⟨rfl,rfl,rfl⟩:=h
     refine ⟨.it none n l,⟨rfl,rfl,rfl⟩,fun N η r' w' _ hne hl => ?_,fun _ _ hh => hh⟩
     have e : setρ ρ r η r' = ρ r':=by simp [setρ,hne]
     obtain ⟨_,h1,h2,h3⟩:=hl
     exact ⟨rfl,by rw [e];exact h1,h2,by rw [e];exact h3⟩
   | some m =>
     simp only [Reg.mapA,At.kill] at h
     split at h
     ·rename_i hm
      split at hm
      ·cases hm
      ·rename_i hk
       injection hm with hm
       subst hm
       obtain ⟨rfl,rfl,rfl⟩:=h
       refine ⟨.it (some m) n l,⟨rfl,rfl,rfl⟩,fun N η r' w' ht hne hl => ?_,fun _ _ hh => hh⟩
       have e : setρ ρ r η r' = ρ r':=by simp [setρ,hne]
       have e' : setρ ρ r η m [] = ρ m []:=by
        by_cases hmr : m = r
        ·subst hmr
         rw [setρ_at]
         refine ht ?_
         exact Bool.eq_false_iff.2 (fun hh => hk (by simp) hh)
        ·simp [setρ,hmr]
       obtain ⟨_,h1,h2,h3⟩:=hl
       exact ⟨rfl,by rw [e];exact h1,h2,by rw [e];simp only [Option.map_some] at h3 ⊢;rw [e'];exact h3⟩
     ·exact h.elim
 | lp b s L q j =>
   obtain ⟨rfl,rfl,rfl⟩:=h
   refine ⟨.lp b s L q j,⟨rfl,rfl,rfl⟩,fun N η r' w' ht hne hl => ?_,fun _ _ hh => hh⟩
   have e : setρ ρ r η r' = ρ r':=by simp [setρ,hne]
   obtain ⟨_,h1,h2,h3,h4⟩:=hl
   exact ⟨rfl,by rw [e];exact h1,Sl.killF_ok ht h2,by rw [e];exact h3,by rw [e];exact h4⟩
theorem CK.lies.tail {η η' : Path → RI} {p p' σ : Path} {i j : Nat} (he : ∀ τ,η' (τ ++ p') = η (τ ++ p)) : ∀ {c : CK} {x : c.ty} {y : Value},c.lies η (σ ++ p) i j x y → c.lies η' (σ ++ p') i j x y
 | .int _,_,_,h => h
 | .bool,_,_,h => h
 | .str,_,_,h => h
 | .sl _ _,_,_,h => by
   show RI.head (η' ((i,j) :: (σ ++ p'))) 0 _ _
   rw [← List.cons_append,he];exact h
theorem Tup.lies.tail {η η' : Path → RI} {p p' σ : Path} {i : Nat} (he : ∀ τ,η' (τ ++ p') = η (τ ++ p)) : ∀ {tg : List CK} {j : Nat} {x : Tup tg} {ys : List Value},Tup.lies η (σ ++ p) i j tg x ys → Tup.lies η' (σ ++ p') i j tg x ys
 | [],_,_,_,h => h
 | [c],_,_,_,h => by obtain ⟨y,h1,h2⟩:=h;exact ⟨y,h1,h2.tail he⟩
 | c :: c' :: cs,_,_,_,h => by obtain ⟨y,ys',h1,h2,h3⟩:=h;exact ⟨y,ys',h1,h2.tail he,h3.tail (tg:=c' :: cs) he⟩
theorem Ar.lies.tail {η η' : Path → RI} {p p' σ : Path} {A : Ar} (he : ∀ τ,η' (τ ++ p') = η (τ ++ p)) (h : A.lies w η (σ ++ p)) : A.lies w η' (σ ++ p') where
 tg:=h.tg
 m:=by rw [he];exact h.m
 void:=by rw [he];exact h.void
 len:=by rw [he];exact h.len
 cell:=fun i hi => by
  obtain ⟨ys,h1,h2⟩:=h.cell i hi
  exact ⟨ys,h1.tail he,fun s y hy => by rw [he];exact h2 s y hy⟩
theorem Tup.lies.move {η η' : Path → RI} {π π' : Path} {i i' : Nat} : ∀ {tg : List CK} {j : Nat} {x : Tup tg} {ys : List Value},(∀ s,s < tg.length → η' ((i',j + s) :: π') = η ((i,j + s) :: π)) → Tup.lies η π i j tg x ys → Tup.lies η' π' i' j tg x ys:=by
 have one : ∀ {c : CK} {j : Nat} {x : c.ty} {y : Value},η' ((i',j) :: π') = η ((i,j) :: π) → c.lies η π i j x y → c.lies η' π' i' j x y:=by
  intro c j x y he h
  cases c with
  | sl e t => show RI.head (η' ((i',j) :: π')) 0 _ _;rw [he];exact h
  | _ => exact h
 intro tg
 induction tg with
 | nil => intro j x ys _ h;exact h
 | cons c cs ih =>
   intro j x ys he h
   have h0:=he 0 (by simp)
   rw [Nat.add_zero] at h0
   cases cs with
   | nil => obtain ⟨y,h1,h2⟩:=h;exact ⟨y,h1,one h0 h2⟩
   | cons c' cs =>
     obtain ⟨y,ys',h1,h2,h3⟩:=h
     exact ⟨y,ys',h1,one h0 h2,ih (fun s hs => by have:=he (s + 1) (by simpa using hs);rw [show j + 1 + s = j + (s + 1) by omega];exact this) h3⟩
theorem Rel.rebuild (h : Rel Γ M w0 ρ st vs a w) {r r2 : Nat} {e : TypeId} {tg : List CK} {xs xs' : List (Tup tg)} {inn inn' top : Bool} {g2 : Reg}
  (hr : st.rg[r]? = some (.arr e tg xs true inn)) (hr2 : st.rg[r2]? = some g2) (hne2 : r ≠ r2) {w' : World} (hf : Frame M w0 w')
  (hs : w.heap.size ≤ w'.heap.size) (hsame : ∀ b,b < w.heap.size → ((ρ r []).void = true ∨ b ≠ (ρ r []).b) → w'.heap[b]? = w.heap[b]?) {I : RI} (htop : top = false → I = ρ r []) {src : Nat → Nat → Nat × Path}
  (hsrc : ∀ i j C,i < xs'.length → Tup.sub tg (xs'.getD i (Tup.d tg)) j = some C → ∃ g f,st.rg[(src i j).1]? = some g ∧ (((src i j).1 = r ∧ (src i j).2 ≠ []) ∨ (src i j).1 = r2) ∧ (inn' = true → f = true) ∧ ∀ σ D,C.has σ D → g.has (σ ++ (src i j).2) f (.arr D))
  (hinj : ∀ i j i' j' C C',i < xs'.length → i' < xs'.length → Tup.sub tg (xs'.getD i (Tup.d tg)) j = some C → Tup.sub tg (xs'.getD i' (Tup.d tg)) j' = some C' → (src i j).1 = (src i' j').1 →
    ∀ σ σ',σ ++ (src i j).2 = σ' ++ (src i' j').2 → i = i' ∧ j = j' ∧ σ = σ')
  (htg : tg ≠ []) (hm : I.m = tg.length) (hvoid : I.void = true → xs' = []) (hcap : I.void = false → xs'.length ≤ I.cap)
  (hcell : ∀ i,i < xs'.length → ∃ ys,Tup.lies (Go.Sy.gl I fun i j σ => ρ (src i j).1 (σ ++ (src i j).2)) [] i 0 tg (xs'.getD i (Tup.d tg)) ys ∧ ∀ s y,ys[s]? = some y → w'.cell? (I.at (i * I.m + s)) = some y)
  (hlt : I.void = false → I.b < w'.heap.size) (hmine : I.void = false → Mine M w0 w' I ∧ Whole w' I e) (hI : I.void = false → w.heap.size ≤ I.b ∨ ((ρ r []).void = false ∧ I.b = (ρ r []).b)) :
  Rel Γ M w0 (setρ ρ r (Go.Sy.gl I fun i j σ => ρ (src i j).1 (σ ++ (src i j).2))) (((st.setR r2 .dead).map (At.kill top true r)).setR r (.arr e tg xs' true inn')) vs a w':=by
 generalize hη : (Go.Sy.gl I fun i j σ => ρ (src i j).1 (σ ++ (src i j).2)) = η at hcell ⊢
 have η0 : η [] = I:=by rw [← hη];rfl
 have ηs : ∀ σ i j,η (σ ++ [(i,j)]) = ρ (src i j).1 (σ ++ (src i j).2):=fun σ i j => by rw [← hη,gl_snoc]
 have ht : top = false → η [] = ρ r []:=fun h0 => by rw [η0];exact htop h0
 have hlt' : r < st.rg.length:=reg_lt hr
 have hB : (Reg.arr e tg xs true inn).has [] true (.arr ⟨e,tg,xs⟩):=⟨rfl,_,rfl,rfl⟩
 have hlen : (((st.setR r2 .dead).map (At.kill top true r)).setR r (.arr e tg xs' true inn')).rg.length = st.rg.length:=by simp [St.setR,St.map]
 have old : (ρ r []).void = false → Mine M w0 w (ρ r []):=fun hv => (h.rs.own r _ [] _ hr hB hv).1
 have get : ∀ (r1 : Nat) (g1 : Reg),(((st.setR r2 .dead).map (At.kill top true r)).setR r (.arr e tg xs' true inn')).rg[r1]? = some g1 →
   (r1 = r ∧ g1 = .arr e tg xs' true inn') ∨ (r1 ≠ r ∧ r1 = r2 ∧ g1 = .dead) ∨ (r1 ≠ r ∧ r1 ≠ r2 ∧ ∃ g0,st.rg[r1]? = some g0 ∧ g1 = g0.mapA (At.kill top true r)):=by
  intro r1 g1 h1
  rcases set_get (l:=((st.setR r2 .dead).map (At.kill top true r)).rg) h1 with ⟨rfl,rfl,_⟩ | ⟨hne,h1⟩
  ·exact .inl ⟨rfl,rfl⟩
  ·simp only [St.map,List.getElem?_map,Option.map_eq_some_iff] at h1
   obtain ⟨g0,h1,h2⟩:=h1
   rcases set_get (l:=st.rg) h1 with ⟨rfl,rfl,_⟩ | ⟨hne',h1⟩
   ·exact .inr (.inl ⟨hne,rfl,h2.symm⟩)
   ·exact .inr (.inr ⟨hne,hne',g0,h1,h2.symm⟩)
 have hne : ∀ {r'},r' ≠ r → setρ ρ r η r' = ρ r':=fun hh => by simp [setρ,hh]
 -- blocks that lie apart from the root stay
 have stay : ∀ (r1 : Nat) (g0 : Reg) π o B,¬ (r1 = r ∧ π = []) → st.rg[r1]? = some g0 → g0.has π o B → (ρ r1 π).void = false → w'.heap[(ρ r1 π).b]? = w.heap[(ρ r1 π).b]? ∧ (I.void = false → I.b ≠ (ρ r1 π).b):=by
  intro r1 g0 π o B hn h1 h2 hv
  have hl:=h.rs.lt r1 g0 π o B h1 h2 hv
  have hd : (ρ r []).void = true ∨ (ρ r1 π).b ≠ (ρ r []).b:=by
   cases hv0 : (ρ r []).void with
   | true => exact .inl rfl
   | false => exact .inr fun e => h.rs.dj r r1 _ g0 [] π o _ B hr h1 hB h2 hv0 hv (fun e' => hn ⟨e'.1.symm,e'.2.symm⟩) e.symm
  refine ⟨hsame _ hl hd,fun hIv e => ?_⟩
  rcases hI hIv with hI | ⟨h3,h4⟩
  ·omega
  ·rcases hd with hd | hd
   ·rw [h3] at hd;cases hd
   ·exact hd (e.symm.trans h4)
 -- what lies deeper
 have deep : ∀ (σ : Path) (i j : Nat) (D : Ar),Ar.has ⟨e,tg,xs'⟩ (σ ++ [(i,j)]) D → ∃ C g f,i < xs'.length ∧ Tup.sub tg (xs'.getD i (Tup.d tg)) j = some C ∧ C.has σ D ∧ st.rg[(src i j).1]? = some g ∧ (inn' = true → f = true) ∧
   g.has (σ ++ (src i j).2) f (.arr D) ∧ ¬ ((src i j).1 = r ∧ σ ++ (src i j).2 = []) ∧ ((src i j).1 = r ∨ (src i j).1 = r2):=by
  intro σ i j D hD
  obtain ⟨C,h1,h2,h3⟩:=has_snoc.1 hD
  obtain ⟨g,f,k1,k2,k3,k4⟩:=hsrc i j C h1 h2
  refine ⟨C,g,f,h1,h2,h3,k1,k3,k4 σ D h3,fun hh => ?_,?_⟩
  ·rcases k2 with ⟨_,k2⟩ | k2
   ·exact k2 (List.append_eq_nil_iff.1 hh.2).2
   ·exact hne2 (hh.1.symm.trans k2)
  ·rcases k2 with ⟨k2,_⟩ | k2
   ·exact .inl k2
   ·exact .inr k2
 refine ⟨?_,?_,h.df,?_,hf,Γ.st _ _ h.gl fun b hb => hsame b (Nat.lt_of_lt_of_le (h.gn b hb).2 h.bl.size) ?_,h.gn⟩
 ·rw [hlen];exact Sl.killF_ok ht h.tm
 ·rw [hlen];exact okL_killF ht h.fr
 ·rw [hlen]
  refine ⟨fun r1 g1 π o B h1 h2 => ?_,fun r1 g1 π o B h1 h2 hv => ?_,fun r1 g1 π B h1 h2 hv => ?_,fun r1 r2' g1 g2' π π' o' B B' h1 h2 k1 k2 v1 v2 hn => ?_⟩
  ·rcases get r1 g1 h1 with ⟨rfl,rfl⟩ | ⟨_,_,rfl⟩ | ⟨hn,_,g0,p1,rfl⟩
   ·obtain ⟨_,A,hA,rfl⟩:=h2
    show Ar.lies w' (setρ ρ r1 η r1) π A
    rw [setρ_at]
    rcases path_last π with rfl | ⟨σ,i,j,rfl⟩
    ·obtain rfl : A = ⟨e,tg,xs'⟩:=hA
     exact ⟨htg,by rw [η0];exact hm,by rw [η0];exact hvoid,by rw [η0];exact hcap,fun i hi => by
      obtain ⟨ys,c1,c2⟩:=hcell i hi
      exact ⟨ys,c1,fun s y hy => by rw [η0];exact c2 s y hy⟩⟩
    ·obtain ⟨C,g,f,d1,d2,d3,d4,d5,d6,d7,_⟩:=deep σ i j A hA
     have hl : A.lies w (ρ (src i j).1) (σ ++ (src i j).2):=h.rs.blk _ g _ f (.arr A) d4 d6
     have hl' : A.lies w' (ρ (src i j).1) (σ ++ (src i j).2):=hl.later (fun _ => rfl) (fun hv => (stay _ g _ f (.arr A) d7 d4 d6 hv).1)
     exact hl'.tail (fun τ => ηs τ i j)
   ·exact h2.elim
   ·obtain ⟨B0,b1,b2,_⟩:=killF_has (ρ:=ρ) (M:=M) (w0:=w0) h2
    refine b2 _ _ r1 w' ht hn ?_
    exact (h.rs.blk r1 g0 π o B0 p1 b1).later (fun _ => rfl) (Nat.le_refl _) (fun _ _ _ => rfl) (fun hv => (stay r1 g0 π o B0 (fun hh => hn hh.1) p1 b1 hv).1)
  ·rcases get r1 g1 h1 with ⟨rfl,rfl⟩ | ⟨_,_,rfl⟩ | ⟨hn,_,g0,p1,rfl⟩
   ·rw [setρ_at] at hv ⊢
    obtain ⟨_,A,hA,rfl⟩:=h2
    rcases path_last π with rfl | ⟨σ,i,j,rfl⟩
    ·rw [η0] at hv ⊢;exact hlt hv
    ·obtain ⟨C,g,f,d1,d2,d3,d4,d5,d6,d7,_⟩:=deep σ i j A hA
     rw [ηs] at hv ⊢
     exact Nat.lt_of_lt_of_le (h.rs.lt _ g _ f (.arr A) d4 d6 hv) hs
   ·exact h2.elim
   ·obtain ⟨B0,b1,_,_⟩:=killF_has (ρ:=ρ) (M:=M) (w0:=w0) h2
    rw [hne hn] at hv ⊢
    exact Nat.lt_of_lt_of_le (h.rs.lt r1 g0 π o B0 p1 b1 hv) hs
  ·rcases get r1 g1 h1 with ⟨rfl,rfl⟩ | ⟨_,_,rfl⟩ | ⟨hn,_,g0,p1,rfl⟩
   ·rw [setρ_at] at hv ⊢
    obtain ⟨ho,A,hA,rfl⟩:=h2
    rcases path_last π with rfl | ⟨σ,i,j,rfl⟩
    ·obtain rfl : A = ⟨e,tg,xs'⟩:=hA
     rw [η0] at hv ⊢;exact hmine hv
    ·obtain ⟨C,g,f,d1,d2,d3,d4,d5,d6,d7,_⟩:=deep σ i j A hA
     rw [ηs] at hv ⊢
     have hinn : inn' = true:=by cases σ <;> exact ho.symm
     obtain rfl:=d5 hinn
     exact (h.rs.own _ g _ (.arr A) d4 d6 hv).later (stay _ g _ true (.arr A) d7 d4 d6 hv).1
   ·exact h2.elim
   ·obtain ⟨B0,b1,_,b3⟩:=killF_has (ρ:=ρ) (M:=M) (w0:=w0) h2
    rw [hne hn] at hv ⊢
    exact b3 _ _ ((h.rs.own r1 g0 π B0 p1 b1 hv).later (stay r1 g0 π true B0 (fun hh => hn hh.1) p1 b1 hv).1)
  ·-- where a region's part lies: the root,or what it was
   have spot : ∀ (r1 : Nat) (g1 : Reg) π o B,(((st.setR r2 .dead).map (At.kill top true r)).setR r (.arr e tg xs' true inn')).rg[r1]? = some g1 → g1.has π o B → (setρ ρ r η r1 π).void = false →
     (r1 = r ∧ π = [] ∧ setρ ρ r η r1 π = I) ∨ ∃ rs g πs f B0,st.rg[rs]? = some g ∧ g.has πs f B0 ∧ (o = true → f = true) ∧ setρ ρ r η r1 π = ρ rs πs ∧ ¬ (rs = r ∧ πs = []) ∧
       ((r1 ≠ r ∧ r1 ≠ r2 ∧ rs = r1 ∧ πs = π) ∨ (r1 = r ∧ (rs = r ∨ rs = r2) ∧ ∃ σ i j C,π = σ ++ [(i,j)] ∧ i < xs'.length ∧ Tup.sub tg (xs'.getD i (Tup.d tg)) j = some C ∧ rs = (src i j).1 ∧ πs = σ ++ (src i j).2)):=by
    intro r1 g1 π o B h1 h2 hv
    rcases get r1 g1 h1 with ⟨rfl,rfl⟩ | ⟨_,_,rfl⟩ | ⟨hn,hn',g0,p1,rfl⟩
    ·obtain ⟨ho,A,hA,rfl⟩:=h2
     rw [setρ_at]
     rcases path_last π with rfl | ⟨σ,i,j,rfl⟩
     ·exact .inl ⟨rfl,rfl,η0⟩
     ·obtain ⟨C,g,f,d1,d2,d3,d4,d5,d6,d7,d8⟩:=deep σ i j A hA
      refine .inr ⟨_,g,_,f,_,d4,d6,fun h0 => d5 ?_,ηs σ i j,d7,.inr ⟨rfl,d8,σ,i,j,C,rfl,d1,d2,rfl,rfl⟩⟩
      rw [h0] at ho;cases σ <;> exact ho.symm
    ·exact h2.elim
    ·obtain ⟨B0,b1,_,_⟩:=killF_has (ρ:=ρ) (M:=M) (w0:=w0) h2
     exact .inr ⟨r1,g0,π,o,B0,p1,b1,id,by rw [hne hn],fun hh => hn hh.1,.inl ⟨hn,hn',rfl,rfl⟩⟩
   have s1:=spot r1 g1 π true B h1 k1 v1
   have s2:=spot r2' g2' π' o' B' h2 k2 v2
   rcases s1 with ⟨e1,e2,e3⟩ | ⟨rs,g,πs,f,B0,p1,p2,p3,p4,p5,p6⟩ <;> rcases s2 with ⟨f1,f2,f3⟩ | ⟨rs',g',πs',f',B0',q1,q2,q3,q4,q5,q6⟩
   ·exact absurd ⟨e1.trans f1.symm,e2.trans f2.symm⟩ hn
   ·rw [e3] at v1 ⊢;rw [q4] at v2 ⊢
    exact (stay rs' g' πs' f' B0' q5 q1 q2 v2).2 v1
   ·rw [f3] at v2 ⊢;rw [p4] at v1 ⊢
    exact ((stay rs g πs f B0 p5 p1 p2 v1).2 v2).symm
   ·rw [p4] at v1 ⊢;rw [q4] at v2 ⊢
    obtain rfl:=p3 rfl
    refine h.rs.dj rs rs' g g' πs πs' f' B0 B0' p1 q1 p2 q2 v1 v2 ?_
    rintro ⟨rfl,rfl⟩
    rcases p6 with ⟨a1,a2,a3,a4⟩ | ⟨a1,a2,σ,i,j,C,a3,a4,a5,a6,a7⟩ <;> rcases q6 with ⟨b1,b2,b3,b4⟩ | ⟨b1,b2,σ',i',j',C',b3,b4,b5,b6,b7⟩
    ·exact hn ⟨a3.symm.trans b3,a4.symm.trans b4⟩
    ·rcases b2 with b2 | b2
     ·exact a1 (a3.symm.trans b2)
     ·exact a2 (a3.symm.trans b2)
    ·rcases a2 with a2 | a2
     ·exact b1 (b3.symm.trans a2)
     ·exact b2 (b3.symm.trans a2)
    ·obtain ⟨c1,c2,c3⟩:=hinj i j i' j' C C' a4 b4 a5 b5 (a6.symm.trans b6) σ σ' (a7.symm.trans b7)
     subst c1 c2 c3
     exact hn ⟨a1.trans b1.symm,a3.trans b3.symm⟩
 ·cases hv : (ρ r []).void with
  | true => exact .inl rfl
  | false =>
    have:=h.gn b hb
    refine .inr fun e => ?_
    subst e
    rcases (old hv).own with ho | ho
    ·exact this.1 ho
    ·omega
end
end Go.Sy
end
section
namespace Go.Sy
open Go Go.RowKit
universe u
section
variable {P : Program} {Γ : Glob} {E : Env} {M : Nat → Prop} {w0 : World} {ρ : Keys} {st : St} {vs : Fv} {a : Act} {w : World}
theorem lies_one' {η : Path → RI} {π : Path} {i : Nat} : ∀ {tg : List CK} {j : Nat} {x : Tup tg} {ys : List Value},Tup.lies η π i j tg x ys → ∀ y ∈ ys,y.oneCell' = true:=by
 have one : ∀ {c : CK} {j : Nat} {x : c.ty} {y : Value},c.lies η π i j x y → y.oneCell' = true:=fun {c} _ _ _ h => by
  cases c with
  | int => obtain rfl:=show _ = _ from h;rfl
  | bool => obtain rfl:=show _ = _ from h;rfl
  | str => obtain rfl:=show _ = _ from h;rfl
  | sl => obtain ⟨ad,c,rfl,_⟩:=head_form (show RI.head _ _ _ _ from h);rfl
 intro tg
 induction tg with
 | nil => intro j x ys h y hy;have h : ys = []:=h;subst h;simp at hy
 | cons c cs ih =>
   intro j x ys h
   cases cs with
   | nil => obtain ⟨y,rfl,h2⟩:=h;intro z hz;simp at hz;subst hz;exact one h2
   | cons c' cs =>
     obtain ⟨y,ys',rfl,h2,h3⟩:=h
     intro z hz
     rcases List.mem_cons.1 hz with rfl | hz
     ·exact one h2
     ·exact ih h3 z hz
theorem cells_of {η : Path → RI} {π : Path} {A : Ar} (h : A.lies w η π) (lo : Nat) : ∀ N,lo + N ≤ A.xs.length → ∃ vals : List Value,vals.length = N * A.tg.length ∧ (∀ j v,vals[j]? = some v → w.cell? ((η π).at (lo * A.tg.length + j)) = some v) ∧
  (∀ i,i < N → ∃ ys,Tup.lies η π (lo + i) 0 A.tg (A.get (lo + i)) ys ∧ ∀ s,s < A.tg.length → vals[i * A.tg.length + s]? = ys[s]?) ∧ ∀ v ∈ vals,v.oneCell' = true
 | 0,_ => ⟨[],by simp,by simp,by simp,by simp⟩
 | N + 1,hN => by
   obtain ⟨vals,h1,h2,h3,h4⟩:=cells_of h lo N (by omega)
   obtain ⟨ys,h5,h6⟩:=h.cell (lo + N) (by omega)
   have hy:=lies_length h5
   refine ⟨vals ++ ys,by rw [List.length_append,h1,hy,Nat.add_mul,Nat.one_mul],fun j v hv => ?_,fun i hi => ?_,fun v hv => ?_⟩
   ·rcases Nat.lt_or_ge j vals.length with hl | hl
    ·rw [List.getElem?_append_left hl] at hv;exact h2 j v hv
    ·rw [List.getElem?_append_right hl] at hv
     have:=h6 _ v hv
     rw [h.m,h1,Nat.add_mul] at this
     rw [show lo * A.tg.length + N * A.tg.length + (j - N * A.tg.length) = lo * A.tg.length + j by omega] at this
     exact this
   ·rcases Nat.lt_or_ge i N with hl | hl
    ·obtain ⟨zs,z1,z2⟩:=h3 i hl
     refine ⟨zs,z1,fun s hs => ?_⟩
     rw [List.getElem?_append_left,z2 s hs]
     rw [h1]
     have : (i + 1) * A.tg.length ≤ N * A.tg.length:=Nat.mul_le_mul_right _ hl
     rw [Nat.add_mul] at this;omega
    ·obtain rfl : i = N:=by omega
     refine ⟨ys,h5,fun s hs => ?_⟩
     rw [List.getElem?_append_right (by omega),h1,Nat.add_sub_cancel_left]
   ·rcases List.mem_append.1 hv with hv | hv
    ·exact h4 v hv
    ·exact lies_one' h5 v hv
structure AppendedD (M : Nat → Prop) (w0 w w' : World) (I0 I : RI) (e : TypeId) (m k n : Nat) (C : Nat → List Value → Prop) (v : Value) : Prop where
 head : I.head 0 (k + n) v
 hm : I.m = m
 void : I.void = true → k + n = 0
 len : I.void = false → k + n ≤ I.cap
 cell : ∀ i,i < k + n → ∃ ys,C i ys ∧ ∀ s y,ys[s]? = some y → w'.cell? (I.at (i * m + s)) = some y
 mine : I.void = false → I.b < w'.heap.size ∧ Mine M w0 w' I ∧ Whole w' I e
 fr : Frame M w0 w'
 size : w.heap.size ≤ w'.heap.size
 same : ∀ b,b < w.heap.size → (I0.void = true ∨ b ≠ I0.b) → w'.heap[b]? = w.heap[b]?
 at_ : I.void = false → w.heap.size ≤ I.b ∨ (I0.void = false ∧ I.b = I0.b)
theorem run_append_deep (hE : EnvOk P Γ E) {t ty e : TypeId} {m : Nat} (ht : E.ty t = .sl e m) {tg : List CK} (hD : E.kd e = some tg) {η0 : Path → RI} {xs : List (Tup tg)} {l k : Nat} {v0 : Value}
  (h0 : Ar.lies w η0 [] ⟨e,tg,xs⟩) (hk : l + k = xs.length) (hs : (η0 []).head l k v0) (hown : (η0 []).void = false → Mine M w0 w (η0 []) ∧ Whole w (η0 []) e ∧ (η0 []).b < w.heap.size)
  {η2 : Path → RI} {π2 : Path} {te2 : TypeId} {ys : List (Tup tg)} {lo n : Nat} {vx : Value} (h2 : Ar.lies w η2 π2 ⟨te2,tg,ys⟩) (hx : (η2 π2).head lo n vx) (hn : lo + n ≤ ys.length) (hcap : (k + n) * tg.length ≤ cap40) (hfr : Frame M w0 w) :
  ∃ v w' I,(Builtin.append_ #[t,t] ty #[v0,vx]).run P w = .ok v w' ∧ AppendedD M w0 w w' (η0 []) I e tg.length k n
   (fun i zs => (i < k → Tup.lies η0 [] (l + i) 0 tg (Ar.get ⟨e,tg,xs⟩ (l + i)) zs) ∧ (k ≤ i → Tup.lies η2 π2 (lo + (i - k)) 0 tg (Ar.get ⟨te2,tg,ys⟩ (lo + (i - k))) zs)) v:=by
 obtain ⟨hu,_,_⟩:=hE.tySl ht
 obtain ⟨htg,⟨i,z,hi,hsz,hz,hzc,hby⟩⟩:=hE.kd e tg hD
 have hm : (P.info? e).map (·.size) = some tg.length:=by rw [hi];simp [hsz]
 have hmpos : 0 < tg.length:=List.length_pos_iff.2 htg
 have hI0m : (η0 []).m = tg.length:=h0.m
 have hI2m : (η2 π2).m = tg.length:=h2.m
 have hvd0 : (η0 []).void = true → xs = []:=h0.void
 have hln0 : (η0 []).void = false → xs.length ≤ (η0 []).cap:=h0.len
 obtain ⟨news,w1,w2,w3,w4⟩:=cells_of h2 lo n hn
 obtain ⟨olds,u1,u2,u3,u4⟩:=cells_of h0 l k (by simpa using Nat.le_of_eq hk)
 simp only at w1 w2 w3 u1 u2 u3
 have hl2 : n ≠ 0 → (η2 π2).void = false:=fun h0 => by
  cases hh : (η2 π2).void with
  | false => rfl
  | true => have:=(hx.1 hh).1;omega
 generalize η0 [] = I0 at *
 generalize η2 π2 = I2 at *
 obtain ⟨ad,c,rfl,hkc,hvo,hnv⟩:=head_form hs
 obtain ⟨bd,c2,rfl,hnc,hvo2,hnv2⟩:=head_form hx
 rcases Nat.eq_zero_or_pos n with rfl | hnpos
 ·-- nothing is appended
  refine ⟨_,w,I0.shift l,run_append_zero hu hm ad bd k c c2 hkc,?_,hI0m,fun hv => ?_,fun hv => ?_,fun i hi => ?_,fun hv => ?_,hfr,Nat.le_refl _,fun _ _ _ => rfl,fun hv => .inr ⟨hv,rfl⟩⟩
  ·rw [Nat.add_zero];exact head_shift hs
  ·have:=hvd0 hv;subst this;simp at hk;omega
  ·have:=(hnv hv).2.1;simp only [RI.shift];omega
  ·obtain ⟨zs,z1,z2⟩:=u3 i (by omega)
   refine ⟨zs,⟨fun _ => z1,fun hh => by omega⟩,fun s y hy => ?_⟩
   have hs : s < tg.length:=by rw [← lies_length z1];exact (List.getElem?_eq_some_iff.1 hy).1
   rw [RI.shift_at,hI0m]
   exact u2 _ y (by rw [z2 s hs];exact hy)
  ·obtain ⟨o1,o2,o3⟩:=hown hv
   exact ⟨o3,⟨o1.own,o1.fz⟩,whole_shift o2 (by have:=(hnv hv).2.1;omega)⟩
 ·-- something is
  have hv2 : I2.void = false:=hl2 (by omega)
  obtain ⟨hc2,hlc2,hbd⟩:=hnv2 hv2
  have hbd:=hbd (by omega)
  subst hbd
  have hnews : ∀ j v,news[j]? = some v → w.cell? ((I2.at (lo * I2.m)).add j) = some v:=fun j v hv => by
   rw [RI.at_add,hI2m];exact w2 j v hv
  have bytes : (k + n) * i.bytes ≤ 140737488355328:=by
   have h1 : (k + n) * i.bytes ≤ (k + n) * (32 * tg.length):=Nat.mul_le_mul_left _ hby
   have h2 : (k + n) * (32 * tg.length) = 32 * ((k + n) * tg.length):=by rw [← Nat.mul_assoc,Nat.mul_comm _ 32,Nat.mul_assoc]
   simp only [cap40] at hcap
   omega
  have hkn : k + n ≤ 1099511627776:=Nat.le_trans (Nat.le_mul_of_pos_right _ hmpos) hcap
  by_cases hroom : k + n ≤ c
  ·-- in its place
   have hv0 : I0.void = false:=by
    cases hh : I0.void with
    | false => rfl
    | true => have:=(hvo hh).2;omega
   obtain ⟨hc,hlc,had⟩:=hnv hv0
   have had:=had (by omega)
   subst had
   obtain ⟨o1,o2,o3⟩:=hown hv0
   have hmul : (l + (k + n)) * tg.length ≤ I0.cap * tg.length:=Nat.mul_le_mul_right _ (by omega)
   have hexp : (l + (k + n)) * tg.length = l * tg.length + k * tg.length + n * tg.length:=by rw [Nat.add_mul,Nat.add_mul];omega
   have hcell : ∀ s,s < news.length → (w.cell? ⟨I0.b,I0.off + l * I0.m + k * tg.length + s,none⟩).isSome = true:=fun s hs => whole_cell o2 (by rw [hI0m];rw [w1] at hs;omega)
   have hrun:=run_append_in (P:=P) (w:=w) (ty:=ty) hu hm I0.b (I0.off + l * I0.m) k c (I2.at (lo * I2.m)) n c2 news w1 hnews w4 hroom hcell o1.fz
   refine ⟨_,_,I0.shift l,by simpa only [RI.at] using hrun,?_,hI0m,fun hv => ?_,fun _ => ?_,fun i hi => ?_,fun hv => ?_,frame_setCells o1.own _ _ hfr,by rw [size_setCells];exact Nat.le_refl _,fun b hb hd => heap_setCells _ _ _ _ _ ?_,fun hv => .inr ⟨hv0,rfl⟩⟩
   ·refine ⟨fun hv => (by simp only [RI.shift] at hv;rw [hv0] at hv;cases hv),fun _ => ⟨by simp only [RI.shift];omega,_,by simp only [RI.shift,Nat.sub_zero];rw [hc],fun _ => by simp [RI.shift,RI.at]⟩⟩
   ·simp only [RI.shift] at hv;rw [hv0] at hv;cases hv
   ·simp only [RI.shift];omega
   ·by_cases hik : i < k
    ·obtain ⟨zs,z1,z2⟩:=u3 i hik
     refine ⟨zs,⟨fun _ => z1,fun hh => by omega⟩,fun s y hy => ?_⟩
     have hs : s < tg.length:=by rw [← lies_length z1];exact (List.getElem?_eq_some_iff.1 hy).1
     rw [World.cell?_setCells_out]
     ·rw [RI.shift_at,hI0m];exact u2 _ y (by rw [z2 s hs];exact hy)
     ·intro _ _
      have : (i + 1) * tg.length ≤ k * tg.length:=Nat.mul_le_mul_right _ hik
      rw [Nat.add_mul] at this
      simp only [RI.shift,RI.at]
      omega
    ·obtain ⟨zs,z1,z2⟩:=w3 (i - k) (by omega)
     refine ⟨zs,⟨fun hh => absurd hh hik,fun _ => z1⟩,fun s y hy => ?_⟩
     have hs : s < tg.length:=by rw [← lies_length z1];exact (List.getElem?_eq_some_iff.1 hy).1
     have hlt : (i - k) * tg.length + s < news.length:=by
      have:=z2 s hs
      rw [hy] at this
      exact (List.getElem?_eq_some_iff.1 this).1
     have:=World.cell?_setCells_in I0.b news (I0.off + l * I0.m + k * tg.length) w hcell _ hlt
     have e1 : (I0.shift l).at (i * tg.length + s) = ⟨I0.b,I0.off + l * I0.m + k * tg.length + ((i - k) * tg.length + s),none⟩:=by
      have : i * tg.length = k * tg.length + (i - k) * tg.length:=by rw [← Nat.add_mul];congr 1;omega
      simp only [RI.shift,RI.at]
      congr 1
      omega
     rw [e1,this,← List.getElem?_eq_getElem hlt,z2 s hs];exact hy
   ·refine ⟨by rw [size_setCells];exact o3,⟨o1.own,fun j => by rw [World.frozen?_setCells];exact o1.fz j⟩,whole_shift (whole_setCells _ _ o2) (by omega)⟩
   ·rcases hd with hd | hd
    ·rw [hv0] at hd;cases hd
    ·exact hd
  ·-- in a new place
   have hrun : ∃ cp,k + n ≤ cp ∧ cp ≤ maxLen ∧ (Builtin.append_ #[t,t] ty #[.slice ad k c,.slice (some (I2.at (lo * I2.m))) n c2]).run P w =
     .ok (.slice (some ⟨w.heap.size,0,none⟩) (k + n) cp) (w.drew.alloc (.cells (olds ++ news ++ (Builtin.zeroCells z.cells (cp - (k + n))).toList).toArray e)):=by
    have hgl : ∀ old,grownCap w (k + n) old e ≤ maxLen:=fun old => grownCap_le_maxLen w _ _ _ (Nat.le_trans hkn (Nat.le_of_ble_eq_true rfl))
    cases ad with
    | none =>
      have hk0 : k = 0 ∧ c = 0:=by
       cases hh : I0.void with
       | true => exact hvo hh
       | false =>
         obtain ⟨g1,g2,g3⟩:=hnv hh
         by_cases hlt : l < I0.cap
         ·have:=g3 hlt;cases this
         ·omega
      obtain ⟨rfl,rfl⟩:=hk0
      have hr:=run_append_nil (P:=P) w t ty e i z hu hi hz (I2.at (lo * I2.m)) n c2 news (by rw [w1,hsz]) hnews hnpos (by omega) (by rw [Nat.zero_add] at bytes;omega)
      have ho : olds = []:=List.eq_nil_of_length_eq_zero (by rw [u1];simp)
      refine ⟨grownCap w n 0 e,by rw [Nat.zero_add];exact grownCap_ge w n 0 e,by have:=hgl 0;rwa [Nat.zero_add] at this,?_⟩
      rw [hr,ho,Nat.zero_add]
      congr 3
      apply Array.ext'
      simp
    | some b =>
      have hr:=run_append_grow (P:=P) w t ty e i z hu hi hz b k c olds (by rw [u1,hsz]) (fun j v hv => by
       have hk' : 0 < k:=by
        rcases Nat.eq_zero_or_pos k with rfl | hk'
        ·have:=(List.getElem?_eq_some_iff.1 hv).1
         rw [u1] at this;simp at this
        ·exact hk'
       have hv0 : I0.void = false:=by
        cases hh : I0.void with
        | false => rfl
        | true => have:=(hvo hh).1;omega
       obtain ⟨g1,g2,g3⟩:=hnv hv0
       have:=g3 (by omega)
       obtain rfl:=Option.some.inj this
       rw [RI.at_add,hI0m]
       exact u2 j v hv) (I2.at (lo * I2.m)) n c2 news (by rw [w1,hsz]) hnews (by omega) (by omega) (growslice_fits (by omega) bytes)
      refine ⟨grownCap w (k + n) c e,grownCap_ge w _ _ e,hgl c,?_⟩
      rw [hr]
      congr 3
      apply Array.ext'
      simp [List.append_assoc]
   obtain ⟨cp,hcp1,hcp2,hrun⟩:=hrun
   have hbel : Below w.heap.size w (w.drew.alloc (.cells (olds ++ news ++ (Builtin.zeroCells z.cells (cp - (k + n))).toList).toArray e)):=((Below.refl _ _).drew).alloc (Nat.le_refl _) _
   have hzl : z.cells.size = tg.length:=by
    have:=congrArg List.length hzc
    simpa [zero_length] using this
   have hcellN : ∀ j,(w.drew.alloc (.cells (olds ++ news ++ (Builtin.zeroCells z.cells (cp - (k + n))).toList).toArray e)).cell? ⟨w.heap.size,j,none⟩ = (olds ++ news ++ (Builtin.zeroCells z.cells (cp - (k + n))).toList)[j]?:=fun j => cell_alloc_at (w:=w.drew) _ e j
   refine ⟨_,_,⟨w.heap.size,0,tg.length,cp,false⟩,hrun,?_,rfl,fun hv => (by cases hv),fun _ => hcp1,fun i hi => ?_,fun _ => ?_,hfr.below hbel,hbel.size,fun b hb _ => hbel.block b hb,fun _ => .inl (Nat.le_refl _)⟩
   ·exact ⟨fun hv => (by cases hv),fun _ => ⟨by rw [Nat.zero_add];exact hcp1,_,rfl,fun _ => by simp [RI.at]⟩⟩
   ·by_cases hik : i < k
    ·obtain ⟨zs,z1,z2⟩:=u3 i hik
     refine ⟨zs,⟨fun _ => z1,fun hh => by omega⟩,fun s y hy => ?_⟩
     have hs : s < tg.length:=by rw [← lies_length z1];exact (List.getElem?_eq_some_iff.1 hy).1
     simp only [RI.at,Nat.zero_add]
     have hg:=z2 s hs
     rw [hy] at hg
     rw [hcellN,List.append_assoc,List.getElem?_append_left (List.getElem?_eq_some_iff.1 hg).1];exact hg
    ·obtain ⟨zs,z1,z2⟩:=w3 (i - k) (by omega)
     refine ⟨zs,⟨fun hh => absurd hh hik,fun _ => z1⟩,fun s y hy => ?_⟩
     have hs : s < tg.length:=by rw [← lies_length z1];exact (List.getElem?_eq_some_iff.1 hy).1
     simp only [RI.at,Nat.zero_add]
     have hg:=z2 s hs
     rw [hy] at hg
     have e1 : i * tg.length + s = olds.length + ((i - k) * tg.length + s):=by
      have : i * tg.length = k * tg.length + (i - k) * tg.length:=by rw [← Nat.add_mul];congr 1;omega
      rw [u1];omega
     rw [hcellN,List.append_assoc,e1,List.getElem?_append_right (by omega),Nat.add_sub_cancel_left,List.getElem?_append_left (List.getElem?_eq_some_iff.1 hg).1];exact hg
   ·have hheap : (w.drew.alloc (.cells (olds ++ news ++ (Builtin.zeroCells z.cells (cp - (k + n))).toList).toArray e)).heap[w.heap.size]? = some (.cells (olds ++ news ++ (Builtin.zeroCells z.cells (cp - (k + n))).toList).toArray e):=by
     show (w.heap.push _)[w.heap.size]? = _
     simp
    refine ⟨(Array.getElem?_eq_some_iff.1 hheap).1,⟨.inr hfr.size,fun j => ?_⟩,hcp2,_,hheap,?_⟩
    ·have hheap' : (w.drew.alloc (.cells (olds ++ news ++ (Builtin.zeroCells z.cells (cp - (k + n))).toList).toArray e)).heap[w.heap.size]? = _:=hheap
     simp only [World.frozen?]
     rw [hheap']
     simp
    show _ = 0 + cp * tg.length
    simp only [List.size_toArray,List.length_append,u1,w1,Array.length_toList,size_zeroCells,hzl]
    rw [← Nat.add_mul,← Nat.add_mul,Nat.zero_add]
    congr 1
    omega
theorem getD_drop_app {α : Type} {xs ys : List α} {d : α} {l k i : Nat} (hk : l + k = xs.length) : (xs.drop l ++ ys).getD i d = if i < k then xs.getD (l + i) d else ys.getD (i - k) d:=by
 simp only [List.getD_eq_getElem?_getD]
 split
 ·rw [List.getElem?_append_left (by rw [List.length_drop];omega),List.getElem?_drop]
 ·rw [List.getElem?_append_right (by rw [List.length_drop];omega),List.length_drop];congr 2;omega
theorem app_arr_deep (hE : EnvOk P Γ E) (h : Rel Γ M w0 ρ st vs a w) {t ty e te2 : TypeId} {m : Nat} (ht : E.ty t = .sl e m) {tg : List CK} (hD : E.kd e = some tg) {r r2 l k n : Nat} {xs ys : List (Tup tg)} {inn : Bool}
  (hr : st.rg[r]? = some (.arr e tg xs true inn)) (hr2 : st.rg[r2]? = some (.arr te2 tg ys true true)) (hne : r ≠ r2) (hk : l + k = xs.length) {v0 : Value} (hs : (ρ r []).head l k v0) {vx : Value}
  (hx : (ρ r2 []).head 0 n vx) (hn : n = ys.length) (hcap : (k + n) * tg.length ≤ cap40) :
  ∃ v w' ρ',(Builtin.append_ #[t,t] ty #[v0,vx]).run P w = .ok v w' ∧ Rel Γ M w0 ρ' (((st.setR r2 .dead).map (At.kill true true r)).setR r (.arr e tg (xs.drop l ++ ys) true inn)) vs a w' ∧ (ρ' r []).head 0 (k + n) v:=by
 obtain ⟨htg,_⟩:=hE.kd e tg hD
 have hhas : (Reg.arr e tg xs true inn).has [] true (.arr ⟨e,tg,xs⟩):=⟨rfl,_,rfl,rfl⟩
 have hhas2 : (Reg.arr te2 tg ys true true).has [] true (.arr ⟨te2,tg,ys⟩):=⟨rfl,_,rfl,rfl⟩
 have h0 : Ar.lies w (ρ r) [] ⟨e,tg,xs⟩:=h.rs.blk r _ [] true _ hr hhas
 have h2 : Ar.lies w (ρ r2) [] ⟨te2,tg,ys⟩:=h.rs.blk r2 _ [] true _ hr2 hhas2
 obtain ⟨v,w',I,hrun,hA⟩:=run_append_deep (ty:=ty) hE ht hD h0 hk hs (fun hv => ⟨(h.rs.own r _ [] _ hr hhas hv).1,(h.rs.own r _ [] _ hr hhas hv).2,h.rs.lt r _ [] true _ hr hhas hv⟩) h2 hx (by omega) hcap h.bl
 have hlen : (xs.drop l ++ ys).length = k + n:=by rw [List.length_append,List.length_drop];omega
 have sub : ∀ i j C,Tup.sub tg ((xs.drop l ++ ys).getD i (Tup.d tg)) j = some C → (i < k ∧ Tup.sub tg (xs.getD (l + i) (Tup.d tg)) j = some C) ∨ (¬ i < k ∧ Tup.sub tg (ys.getD (i - k) (Tup.d tg)) j = some C):=by
  intro i j C hC
  rw [getD_drop_app hk] at hC
  split at hC
  ·exact .inl ⟨‹_›,hC⟩
  ·exact .inr ⟨‹_›,hC⟩
 refine ⟨v,w',_,hrun,h.rebuild (src:=fun i j => if i < k then (r,[(l + i,j)]) else (r2,[(i - k,j)])) (I:=I) hr hr2 hne hA.fr hA.size hA.same (fun hh => by cases hh) ?_ ?_ htg hA.hm ?_ ?_ ?_ (fun hv => (hA.mine hv).1) (fun hv => (hA.mine hv).2) hA.at_,by rw [setρ_at];exact hA.head⟩
 ·intro i j C hi hC
  rw [hlen] at hi
  rcases sub i j C hC with ⟨hik,hC⟩ | ⟨hik,hC⟩
  ·simp only [if_pos hik]
   exact ⟨_,inn,hr,.inl ⟨trivial,by simp⟩,id,fun σ D hD => ⟨by cases σ <;> rfl,D,has_snoc.2 ⟨C,by simp only;omega,hC,hD⟩,rfl⟩⟩
  ·simp only [if_neg hik]
   exact ⟨_,true,hr2,.inr trivial,fun _ => rfl,fun σ D hD => ⟨by cases σ <;> rfl,D,has_snoc.2 ⟨C,by simp only;omega,hC,hD⟩,rfl⟩⟩
 ·intro i j i' j' C C' hi hi' hC hC' he σ σ' hσ
  have lastEq : ∀ {p q : Nat × Nat} {σ σ' : Path},σ ++ [p] = σ' ++ [q] → σ = σ' ∧ p = q:=fun hh => by
   have:=List.append_inj' hh rfl
   exact ⟨this.1,by simpa using this.2⟩
  by_cases h1 : i < k <;> by_cases h2 : i' < k
  ·simp only [if_pos h1,if_pos h2] at hσ
   obtain ⟨e1,e2⟩:=lastEq hσ
   simp only [Prod.mk.injEq] at e2
   exact ⟨by omega,e2.2,e1⟩
  ·simp only [if_pos h1,if_neg h2] at he;exact absurd he hne
  ·simp only [if_neg h1,if_pos h2] at he;exact absurd he.symm hne
  ·simp only [if_neg h1,if_neg h2] at hσ
   obtain ⟨e1,e2⟩:=lastEq hσ
   simp only [Prod.mk.injEq] at e2
   exact ⟨by omega,e2.2,e1⟩
 ·intro hv
  have:=hA.void hv
  exact List.eq_nil_of_length_eq_zero (by rw [hlen];exact this)
 ·intro hv;rw [hlen];exact hA.len hv
 ·intro i hi
  rw [hlen] at hi
  obtain ⟨zs,⟨z1,z2⟩,z3⟩:=hA.cell i hi
  refine ⟨zs,?_,fun s y hy => by rw [hA.hm];exact z3 s y hy⟩
  rw [getD_drop_app hk]
  by_cases hik : i < k
  ·rw [if_pos hik]
   refine (z1 hik).move fun s _ => ?_
   rw [show [(i,0 + s)] = [] ++ [(i,0 + s)] from rfl,gl_snoc]
   simp only [if_pos hik];rfl
  ·rw [if_neg hik]
   have:=z2 (by omega)
   rw [Nat.zero_add] at this
   refine this.move fun s _ => ?_
   rw [show [(i,0 + s)] = [] ++ [(i,0 + s)] from rfl,gl_snoc]
   simp only [if_neg hik];rfl
theorem has_shared {te : TypeId} {tg : List CK} {xs : List (Tup tg)} {π : Path} {B : Blk} (h : (Reg.arr te tg xs false false).has π true B) : False:=by
 obtain ⟨ho,_⟩:=h
 revert ho
 cases π <;> exact fun h => by cases h
theorem Rel.twice (h : Rel Γ M w0 ρ st vs a w) {r : Nat} {te : TypeId} {tg : List CK} {xs : List (Tup tg)} (hr : st.rg[r]? = some (.arr te tg xs false false)) :
  Rel Γ M w0 (setρ ρ st.rg.length (ρ r)) (st.push [.arr te tg xs false false]) vs a w:=by
 have hlt : r < st.rg.length:=reg_lt hr
 have lies : ∀ {π o B},(Reg.arr te tg xs false false).has π o B → B.lies (st.rg.length + 1) (setρ ρ st.rg.length (ρ r)) st.rg.length π w:=by
  intro π o B hB
  have:=h.rs.blk r _ π o B hr hB
  obtain ⟨_,A,_,rfl⟩:=hB
  show Ar.lies w (setρ ρ st.rg.length (ρ r) st.rg.length) π A
  rw [setρ_at];exact this
 refine h.grow (Below.refl _ _) (fun r' hr' π => by rw [setρ_lt hr']) ?_
 refine h.rs.snoc (Nat.le_succ _) (Nat.le_refl _) (fun π o B hB => lies hB) (fun π o B hB hv => h.rs.lt r _ π o B hr hB hv) (fun π B hB _ => (has_shared hB).elim) (fun π B hB _ => (has_shared hB).elim) (fun π o B hB hv r' g' π' B' h1 h2 v' => ?_) (fun π π' o' B B' hB => (has_shared hB).elim)
 refine h.rs.dj r' r g' _ π' π o B' B h1 hr h2 hB v' hv ?_
 rintro ⟨rfl,rfl⟩
 rw [hr] at h1
 obtain rfl:=Option.some.inj h1
 exact has_shared h2
theorem app_arr_share (hE : EnvOk P Γ E) (h : Rel Γ M w0 ρ st vs a w) {t ty e te2 : TypeId} {m : Nat} (ht : E.ty t = .sl e m) {tg : List CK} (hD : E.kd e = some tg) {r r2 l k lo n : Nat} {xs ys : List (Tup tg)} {inn o2 i2 : Bool}
  (hr : st.rg[r]? = some (.arr e tg xs true inn)) (hr2 : st.rg[r2]? = some (.arr te2 tg ys o2 i2)) (hne : r ≠ r2) (hk : l + k = xs.length) {v0 : Value} (hs : (ρ r []).head l k v0) {vx : Value}
  (hx : (ρ r2 []).head lo n vx) (hn : lo + n ≤ ys.length) (hcap : (k + n) * tg.length ≤ cap40) :
  ∃ v w' ρ',(Builtin.append_ #[t,t] ty #[v0,vx]).run P w = .ok v w' ∧ Rel Γ M w0 ρ' ((((st.setR r2 (.arr te2 tg ys false false)).push [.dead]).map (At.kill true true r)).setR r (.arr e tg (xs.drop l ++ (ys.drop lo).take n) true false)) vs a w' ∧ (ρ' r []).head 0 (k + n) v:=by
 obtain ⟨htg,_⟩:=hE.kd e tg hD
 have h1 : Rel Γ M w0 ρ (st.setR r2 (Reg.arr te2 tg ys o2 i2).frozen) vs a w:=⟨by simpa [St.setR] using h.tm,by simpa [St.setR] using h.fr,h.df,by simpa [St.setR] using h.rs.weaken hr2 weaker_frozen,h.bl,h.gl,h.gn⟩
 have hlen1 : (st.setR r2 (Reg.arr te2 tg ys o2 i2).frozen).rg.length = st.rg.length:=by simp [St.setR]
 have hrlt:=reg_lt hr
 have hr2lt:=reg_lt hr2
 have hr1 : (st.setR r2 (Reg.arr te2 tg ys o2 i2).frozen).rg[r]? = some (.arr e tg xs true inn):=by
  simp only [St.setR];rw [List.getElem?_set_ne (fun e => hne e.symm)];exact hr
 have hr21 : (st.setR r2 (Reg.arr te2 tg ys o2 i2).frozen).rg[r2]? = some (.arr te2 tg ys false false):=by
  simp only [St.setR];rw [List.getElem?_set_self hr2lt];rfl
 have h2:=h1.twice hr21
 rw [hlen1] at h2
 have e3 : (((st.setR r2 (.arr te2 tg ys false false)).push [.dead] : St)) = ((((st.setR r2 (Reg.arr te2 tg ys o2 i2).frozen).push [.arr te2 tg ys false false]).setR st.rg.length .dead) : St):=by
  simp [St.setR,St.push,Reg.frozen]
 rw [e3]
 have hr' : ((st.setR r2 (Reg.arr te2 tg ys o2 i2).frozen).push [.arr te2 tg ys false false]).rg[r]? = some (.arr e tg xs true inn):=by
  simp only [St.push];rw [List.getElem?_append_left (by rw [hlen1];exact hrlt)];exact hr1
 have hr3 : ((st.setR r2 (Reg.arr te2 tg ys o2 i2).frozen).push [.arr te2 tg ys false false]).rg[st.rg.length]? = some (.arr te2 tg ys false false):=by
  simp only [St.push];rw [List.getElem?_append_right (by rw [hlen1];exact Nat.le_refl _),hlen1,Nat.sub_self];rfl
 have hs' : (setρ ρ st.rg.length (ρ r2) r []).head l k v0:=by rw [setρ_lt hrlt];exact hs
 have hx' : (setρ ρ st.rg.length (ρ r2) st.rg.length []).head lo n vx:=by rw [setρ_at];exact hx
 have hne' : r ≠ st.rg.length:=by omega
 generalize (st.setR r2 (Reg.arr te2 tg ys o2 i2).frozen).push [.arr te2 tg ys false false] = S at *
 generalize setρ ρ st.rg.length (ρ r2) = ρ at *
 generalize st.rg.length = r3 at *
 have hhas : (Reg.arr e tg xs true inn).has [] true (.arr ⟨e,tg,xs⟩):=⟨rfl,_,rfl,rfl⟩
 have hhas2 : (Reg.arr te2 tg ys false false).has [] false (.arr ⟨te2,tg,ys⟩):=⟨rfl,_,rfl,rfl⟩
 have h0 : Ar.lies w (ρ r) [] ⟨e,tg,xs⟩:=h2.rs.blk r _ [] true _ hr' hhas
 have h4 : Ar.lies w (ρ r3) [] ⟨te2,tg,ys⟩:=h2.rs.blk r3 _ [] false _ hr3 hhas2
 obtain ⟨v,w',I,hrun,hA⟩:=run_append_deep (ty:=ty) hE ht hD h0 hk hs' (fun hv => ⟨(h2.rs.own r _ [] _ hr' hhas hv).1,(h2.rs.own r _ [] _ hr' hhas hv).2,h2.rs.lt r _ [] true _ hr' hhas hv⟩) h4 hx' hn hcap h2.bl
 have hlen : (xs.drop l ++ (ys.drop lo).take n).length = k + n:=by rw [List.length_append,List.length_drop,List.length_take,List.length_drop];omega
 have get2 : ∀ i,i < n → ((ys.drop lo).take n).getD i (Tup.d tg) = ys.getD (lo + i) (Tup.d tg):=fun i hi => by
  simp only [List.getD_eq_getElem?_getD];rw [List.getElem?_take_of_lt hi,List.getElem?_drop]
 have sub : ∀ i j C,i < k + n → Tup.sub tg ((xs.drop l ++ (ys.drop lo).take n).getD i (Tup.d tg)) j = some C → (i < k ∧ Tup.sub tg (xs.getD (l + i) (Tup.d tg)) j = some C) ∨ (¬ i < k ∧ Tup.sub tg (ys.getD (lo + (i - k)) (Tup.d tg)) j = some C):=by
  intro i j C hi hC
  rw [getD_drop_app hk] at hC
  split at hC
  ·exact .inl ⟨‹_›,hC⟩
  ·rw [get2 _ (by omega)] at hC;exact .inr ⟨‹_›,hC⟩
 refine ⟨v,w',_,hrun,h2.rebuild (src:=fun i j => if i < k then (r,[(l + i,j)]) else (r3,[(lo + (i - k),j)])) (I:=I) hr' hr3 hne' hA.fr hA.size hA.same (fun hh => by cases hh) ?_ ?_ htg hA.hm ?_ ?_ ?_ (fun hv => (hA.mine hv).1) (fun hv => (hA.mine hv).2) hA.at_,by rw [setρ_at];exact hA.head⟩
 ·intro i j C hi hC
  rw [hlen] at hi
  rcases sub i j C hi hC with ⟨hik,hC⟩ | ⟨hik,hC⟩
  ·simp only [if_pos hik]
   exact ⟨_,inn,hr',.inl ⟨trivial,by simp⟩,(fun h => by cases h),fun σ D hD => ⟨by cases σ <;> rfl,D,has_snoc.2 ⟨C,by simp only;omega,hC,hD⟩,rfl⟩⟩
  ·simp only [if_neg hik]
   exact ⟨_,false,hr3,.inr trivial,id,fun σ D hD => ⟨by cases σ <;> rfl,D,has_snoc.2 ⟨C,by simp only;omega,hC,hD⟩,rfl⟩⟩
 ·intro i j i' j' C C' hi hi' hC hC' he σ σ' hσ
  have lastEq : ∀ {p q : Nat × Nat} {σ σ' : Path},σ ++ [p] = σ' ++ [q] → σ = σ' ∧ p = q:=fun hh => by
   have:=List.append_inj' hh rfl
   exact ⟨this.1,by simpa using this.2⟩
  by_cases h1 : i < k <;> by_cases h2 : i' < k
  ·simp only [if_pos h1,if_pos h2] at hσ
   obtain ⟨e1,e2⟩:=lastEq hσ
   simp only [Prod.mk.injEq] at e2
   exact ⟨by omega,e2.2,e1⟩
  ·simp only [if_pos h1,if_neg h2] at he;exact absurd he hne'
  ·simp only [if_neg h1,if_pos h2] at he;exact absurd he.symm hne'
  ·simp only [if_neg h1,if_neg h2] at hσ
   obtain ⟨e1,e2⟩:=lastEq hσ
   simp only [Prod.mk.injEq] at e2
   exact ⟨by omega,e2.2,e1⟩
 ·intro hv
  have:=hA.void hv
  exact List.eq_nil_of_length_eq_zero (by rw [hlen];exact this)
 ·intro hv;rw [hlen];exact hA.len hv
 ·intro i hi
  rw [hlen] at hi
  obtain ⟨zs,⟨z1,z2⟩,z3⟩:=hA.cell i hi
  refine ⟨zs,?_,fun s y hy => by rw [hA.hm];exact z3 s y hy⟩
  rw [getD_drop_app hk]
  by_cases hik : i < k
  ·rw [if_pos hik]
   refine (z1 hik).move fun s _ => ?_
   rw [show [(i,0 + s)] = [] ++ [(i,0 + s)] from rfl,gl_snoc]
   simp only [if_pos hik];rfl
  ·rw [if_neg hik,get2 _ (by omega)]
   have:=z2 (by omega)
   refine this.move fun s _ => ?_
   rw [show [(i,0 + s)] = [] ++ [(i,0 + s)] from rfl,gl_snoc]
   simp only [if_neg hik];rfl
end
end Go.Sy
end
section
namespace Go.Sy
open Go Go.RowKit
universe u
section
variable {cc : Bool} {P : Program} {Γ : Glob} {E : Env} {M : Nat → Prop} {w0 : World} {ρ : Keys} {st : St} {vs : Fv} {a : Act} {w : World}
theorem setSub_put {η η' : Path → RI} {π π' : Path} {i i' : Nat} : ∀ {tg : List CK} {x b : Tup tg} {j j0 : Nat} {C : Ar} {ys : List Value} {y : Value},Tup.setSub tg x j C = some b →
  (∀ s,s < tg.length → s ≠ j → η' ((i',j0 + s) :: π') = η ((i,j0 + s) :: π)) → (η' ((i',j0 + j) :: π')).head 0 C.xs.length y → Tup.lies η π i j0 tg x ys → j < tg.length ∧ Tup.lies η' π' i' j0 tg b (ys.set j y):=by
 have one : ∀ {c : CK} {j : Nat} {x : c.ty} {y : Value},η' ((i',j) :: π') = η ((i,j) :: π) → c.lies η π i j x y → c.lies η' π' i' j x y:=by
  intro c j x y he h
  cases c with
  | sl e t => show RI.head (η' ((i',j) :: π')) 0 _ _;rw [he];exact h
  | _ => exact h
 have put : ∀ {c : CK} {j : Nat} {C : Ar} {z : c.ty} {y : Value},c.setSub C = some z → (η' ((i',j) :: π')).head 0 C.xs.length y → c.lies η' π' i' j z y:=by
  intro c j C z y h hy
  cases c with
  | sl e tg =>
    have:=setSubC_same h
    obtain rfl:=Option.some.inj this
    exact hy
  | _ => cases h
 intro tg
 induction tg with
 | nil => intro x b j j0 C ys y h;cases h
 | cons c cs ih =>
   intro x b j j0 C ys y h he hy hl
   cases cs with
   | nil => cases j with
     | zero => obtain ⟨v,rfl,h2⟩:=hl;exact ⟨by simp,y,rfl,put h hy⟩
     | succ j => cases h
   | cons c' cs => cases j with
     | zero =>
       simp only [Tup.setSub] at h
       split at h
       ·rename_i z hz;obtain rfl:=Option.some.inj h
        obtain ⟨v,ys',rfl,h2,h3⟩:=hl
        exact ⟨by simp,y,ys',rfl,put hz hy,h3.move fun s hs => by have:=he (s + 1) (by simpa using hs) (by omega);rw [show j0 + 1 + s = j0 + (s + 1) by omega];exact this⟩
       ·cases h
     | succ j =>
       simp only [Tup.setSub] at h
       split at h
       ·rename_i z hz;obtain rfl:=Option.some.inj h
        obtain ⟨v,ys',rfl,h2,h3⟩:=hl
        obtain ⟨k1,k2⟩:=ih (j0:=j0 + 1) hz (fun s hs hne => by have:=he (s + 1) (by simpa using hs) (by omega);rw [show j0 + 1 + s = j0 + (s + 1) by omega];exact this)
         (by rw [show j0 + 1 + j = j0 + (j + 1) by omega];exact hy) h3
        exact ⟨by simpa using k1,v,ys'.set j y,rfl,one (by have:=he 0 (by simp) (by omega);rwa [Nat.add_zero] at this) h2,k2⟩
       ·cases h
theorem setSub_lt : ∀ {tg : List CK} {x b : Tup tg} {j : Nat} {C : Ar},Tup.setSub tg x j C = some b → j < tg.length:=by
 intro tg
 induction tg with
 | nil => intro x b j C h;cases h
 | cons c cs ih =>
   intro x b j C h
   cases cs with
   | nil => cases j with
     | zero => simp
     | succ j => cases h
   | cons c' cs => cases j with
     | zero => simp
     | succ j =>
       simp only [Tup.setSub] at h
       split at h
       ·rename_i z hz;have:=ih hz;simpa using this
       ·cases h
theorem store_deep (h : Rel Γ M w0 ρ st vs a w) {r r2 i j n : Nat} {te e2 : TypeId} {tg tg2 : List CK} {xs : List (Tup tg)} {ys : List (Tup tg2)} {b : Tup tg} (hr : st.rg[r]? = some (.arr te tg xs true true)) (hr2 : st.rg[r2]? = some (.arr e2 tg2 ys true true)) (hne : r ≠ r2)
  (hi : i < xs.length) (hset : Tup.setSub tg (Ar.get ⟨te,tg,xs⟩ i) j ⟨e2,tg2,ys⟩ = some b) {y : Value} (hx : (ρ r2 []).head 0 n y) (hn : n = ys.length) :
  (∀ s,s < 1 → (w.cell? ((ρ r []).at (i * (ρ r []).m + j + s))).isSome = true) ∧ (∀ o,w.frozen? ⟨(ρ r []).b,o,none⟩ = false) ∧
  ∃ ρ',Rel Γ M w0 ρ' (((st.setR r2 .dead).map (At.kill false true r)).setR r (.arr te tg (xs.set i b) true true)) vs a (w.setCells (ρ r []).b ((ρ r []).off + (i * (ρ r []).m + j)) [y]):=by
 have hhas : (Reg.arr te tg xs true true).has [] true (.arr ⟨te,tg,xs⟩):=⟨rfl,_,rfl,rfl⟩
 have hhas2 : (Reg.arr e2 tg2 ys true true).has [] true (.arr ⟨e2,tg2,ys⟩):=⟨rfl,_,rfl,rfl⟩
 have h0 : Ar.lies w (ρ r) [] ⟨te,tg,xs⟩:=h.rs.blk r _ [] true _ hr hhas
 have hv : (ρ r []).void = false:=by
  cases hv : (ρ r []).void with
  | false => rfl
  | true => have:=h0.void hv;simp only at this;rw [this] at hi;simp at hi
 obtain ⟨hmine,hwhole⟩:=h.rs.own r _ [] _ hr hhas hv
 have hlt:=h.rs.lt r _ [] true _ hr hhas hv
 have hm : (ρ r []).m = tg.length:=h0.m
 obtain ⟨ys0,c1,c2⟩:=h0.cell i hi
 simp only at c1 c2
 have hj : j < tg.length:=setSub_lt hset
 have hcell : ∀ s,s < 1 → (w.cell? ((ρ r []).at (i * (ρ r []).m + j + s))).isSome = true:=fun s hs => by
  have:=c2 (j + s) (ys0[j + s]'(by rw [lies_length c1];omega)) (List.getElem?_eq_getElem _)
  rw [Nat.add_assoc,this];rfl
 refine ⟨hcell,hmine.fz,_,h.rebuild (src:=fun k s => if k = i ∧ s = j then (r2,[]) else (r,[(k,s)])) (I:=ρ r []) (xs':=xs.set i b) hr hr2 hne (frame_setCells hmine.own _ _ h.bl) (by rw [size_setCells];exact Nat.le_refl _) (fun b' hb hd => heap_setCells _ _ _ _ _ ?_) (fun _ => rfl) ?_ ?_ h0.tg hm
  (fun hh => by rw [hv] at hh;cases hh) (fun hh => by simpa using h0.len hh) ?_ (fun _ => by rw [size_setCells];exact hlt) (fun _ => ⟨⟨hmine.own,fun j => by rw [World.frozen?_setCells];exact hmine.fz j⟩,whole_setCells _ _ hwhole⟩) (fun hh => .inr ⟨hh,rfl⟩)⟩
 ·rcases hd with hd | hd
  ·rw [hv] at hd;cases hd
  ·exact hd
 ·intro k s C hk hC
  have hk' : k < xs.length:=by simpa using hk
  have hC : Tup.sub tg (Ar.get ⟨te,tg,xs.set i b⟩ k) s = some C:=hC
  rw [get_set hi] at hC
  by_cases e1 : k = i
  ·rw [if_pos e1] at hC
   by_cases e3 : s = j
   ·subst e3
    rw [setSub_same hset] at hC
    obtain rfl:=Option.some.inj hC
    rw [if_pos (And.intro e1 rfl)]
    exact ⟨_,true,hr2,.inr rfl,fun _ => rfl,fun σ D hD => ⟨by rw [List.append_nil];cases σ <;> rfl,D,by rw [List.append_nil];exact hD,rfl⟩⟩
   ·rw [setSub_other hset s e3] at hC
    simp only [if_neg (fun hh : k = i ∧ s = j => e3 hh.2)]
    exact ⟨_,true,hr,.inl ⟨trivial,by simp⟩,fun _ => rfl,fun σ D hD => ⟨by cases σ <;> rfl,D,has_snoc.2 ⟨C,hk',by rw [e1];exact hC,hD⟩,rfl⟩⟩
  ·rw [if_neg e1] at hC
   simp only [if_neg (fun hh : k = i ∧ s = j => e1 hh.1)]
   exact ⟨_,true,hr,.inl ⟨trivial,by simp⟩,fun _ => rfl,fun σ D hD => ⟨by cases σ <;> rfl,D,has_snoc.2 ⟨C,hk',hC,hD⟩,rfl⟩⟩
 ·intro k s k' s' C C' _ _ _ _ he σ σ' hσ
  by_cases e1 : k = i ∧ s = j <;> by_cases e3 : k' = i ∧ s' = j
  ·simp only [if_pos e1,if_pos e3,List.append_nil] at hσ
   exact ⟨e1.1.trans e3.1.symm,e1.2.trans e3.2.symm,hσ⟩
  ·simp only [if_pos e1,if_neg e3] at he;exact absurd he.symm hne
  ·simp only [if_neg e1,if_pos e3] at he;exact absurd he hne
  ·simp only [if_neg e1,if_neg e3] at hσ
   have:=List.append_inj' hσ rfl
   obtain ⟨q1,q2⟩:=this
   simp only [List.cons.injEq,Prod.mk.injEq,and_true] at q2
   exact ⟨q2.1,q2.2,q1⟩
 ·intro k hk
  have hk' : k < xs.length:=by simpa using hk
  show ∃ zs,Tup.lies _ [] k 0 tg (Ar.get ⟨te,tg,xs.set i b⟩ k) zs ∧ _
  rw [get_set hi]
  by_cases e : k = i
  ·subst e
   rw [if_pos rfl]
   refine ⟨ys0.set j y,(setSub_put hset (fun s hs hs' => ?_) ?_ c1).2,fun s z hz => ?_⟩
   ·rw [show [(k,0 + s)] = [] ++ [(k,0 + s)] from rfl,gl_snoc,Nat.zero_add]
    rw [if_neg (fun hh : k = k ∧ s = j => hs' hh.2)]
    try rfl
   ·rw [show [(k,0 + j)] = [] ++ [(k,0 + j)] from rfl,gl_snoc,Nat.zero_add,if_pos ⟨rfl,rfl⟩,← hn]
    exact hx
   ·by_cases e3 : s = j
    ·subst e3
     rw [List.getElem?_set_self (by rw [lies_length c1];exact hj)] at hz
     obtain rfl:=Option.some.inj hz
     have:=World.cell?_setCells_in (ρ r []).b [y] ((ρ r []).off + (k * (ρ r []).m + s)) w (fun s' hs' => by have:=hcell s' (by simpa using hs');simpa [RI.at,Nat.add_assoc] using this) 0 (by simp)
     simpa [RI.at] using this
    ·rw [List.getElem?_set_ne (Ne.symm e3)] at hz
     rw [World.cell?_setCells_out]
     ·exact c2 s z hz
     ·intro _ _;simp only [RI.at,List.length_cons,List.length_nil];omega
  ·rw [if_neg e]
   obtain ⟨zs,z1,z2⟩:=h0.cell k hk'
   refine ⟨zs,z1.move fun s _ => ?_,fun s z hz => ?_⟩
   ·rw [show [(k,0 + s)] = [] ++ [(k,0 + s)] from rfl,gl_snoc,if_neg (fun hh : k = i ∧ 0 + s = j => e hh.1)]
    try rfl
   ·have hs : s < tg.length:=by rw [← lies_length z1];exact (List.getElem?_eq_some_iff.1 hz).1
    rw [World.cell?_setCells_out]
    ·exact z2 s z hz
    ·intro _ _
     simp only [RI.at,List.length_cons,List.length_nil]
     rcases Nat.lt_or_gt_of_ne e with hlt | hgt
     ·have h1 : (k + 1) * (ρ r []).m ≤ i * (ρ r []).m:=Nat.mul_le_mul_right _ hlt
      rw [Nat.add_mul] at h1
      omega
     ·have h1 : (i + 1) * (ρ r []).m ≤ k * (ρ r []).m:=Nat.mul_le_mul_right _ hgt
      rw [Nat.add_mul] at h1
      omega
theorem storeK2_sound (hE : EnvOk P Γ E) (h : Rel Γ M w0 ρ st vs a w) {t : TypeId} (hno : E.ty t ≠ .other) {r i j : Nat} {π : Path} {l : List At} {vx : Value} (hr : r < st.rg.length) (hl : okL (At.ok st.rg.length ρ) l vx.cells.toList) (hone : ∀ z ∈ vx.cells.toList,z.oneCell' = true)
  (hlen : l.length = (E.ty t).cells) {K : St → Prop} (hK : storeK2 cc st r π i j l K) :
  ∃ (w' : World) (st' : St) (ρ' : Keys),(Instr.storeAt t (.pointer (some ((ρ r π).at (i * (ρ r π).m + j)))) vx).run P w = .ok () w' ∧ Rel Γ M w0 ρ' st' vs a w' ∧ K st':=by
 unfold storeK2 at hK
 split at hK
 ·rename_i r2 q g hq
  unfold storeMv at hq
  split at hq
  case h_2 => cases hq
  rename_i r2' n te tg xs hg
  split at hq
  case h_2 => cases hq
  rename_i e2 tg2 ys hg2 hb
  split at hq
  case h_2 => cases hq
  rename_i b hset
  simp only [Option.some.injEq,Prod.mk.injEq] at hq
  obtain ⟨rfl,rfl,rfl⟩:=hq
  rw [oblige_iff] at hK
  obtain ⟨⟨hi,hn,_⟩,hK⟩:=hK
  simp only [Duty.of_p] at hi hn
  simp only [St.setRK_eq,St.mapK_eq,St.setNK_eq] at hK
  -- the value stored
  have hcs : ∃ y,vx.cells.toList = [y] ∧ (ρ r2' []).head 0 n y:=by
   match hc : vx.cells.toList,hl with
   | [y],hl => exact ⟨y,rfl,hl.1.2⟩
  obtain ⟨y,hy,hx⟩:=hcs
  obtain ⟨s1,s2,ρ',s3⟩:=store_deep h (getD_reg hg (by simp)) (getD_reg hg2 (by simp)) (beq_ne hb) hi hset hx hn
  have hsz:=ty_size hE hno
  refine ⟨_,_,ρ',?_,s3,hK⟩
  have hst:=run_storeCells_cells (P:=P) (ρ r []).b ((ρ r []).off + (i * (ρ r []).m + j)) vx.cells.toList 0 w
   (fun s hs => by rw [hy] at hs;have:=s1 s (by simpa using hs);simpa [RI.at,Nat.add_assoc] using this) (fun s _ => s2 _) hone
  have hcs' : vx.cells.size = (E.ty t).cells:=by
   have : vx.cells.toList.length = (E.ty t).cells:=by rw [← hlen,hl.length]
   simpa using this
  simp only [Nat.add_zero] at hst
  rw [← hy]
  simp [Instr.storeAt,Instr.sureAddr,storeVar,run_size hsz,hcs',RI.at,hst]
 ·obtain ⟨w',st',h1,h2,h3⟩:=storeK_sound hE h hno hr hl hone hlen hK
  exact ⟨w',st',ρ,h1,h2,h3⟩
end
end Go.Sy
end
section
namespace Go.Sy
open Go Go.RowKit
universe u
section
variable {P : Program} {Γ : Glob} {E : Env} {M : Nat → Prop} {w0 : World} {ρ : Keys} {st : St} {vs : Fv} {a : Act} {w : World}
theorem lies_const {te : TypeId} {tg : List CK} {xs : List (Tup tg)} (hf : flatK tg = true) {η : Path → RI} {π : Path} (te' : TypeId) (h : Ar.lies w η π ⟨te,tg,xs⟩) : Ar.lies w (fun _ => η π) [] ⟨te',tg,xs⟩ :=
 ⟨h.tg,h.m,h.void,h.len,fun i hi => by obtain ⟨ys,h1,h2⟩:=h.cell i hi;exact ⟨ys,lies_flat hf h1,h2⟩⟩
theorem newsOf_sound (h : Rel Γ M w0 ρ st vs a w) {tg : List CK} (hf : flatK tg = true) {r lo n : Nat} {π : Path} {q : List Duty} {news : List (Tup tg)} (he : newsOf st tg r π lo n = some (q,news)) (hq : obl q) :
  ∃ te ys,Ar.lies w (fun _ => ρ r π) [] ⟨te,tg,ys⟩ ∧ lo + n ≤ ys.length ∧ news = (ys.drop lo).take n:=by
 unfold newsOf at he
 split at he
 ·rename_i q' B hB
  split at he
  ·rename_i hh _
   simp only [Option.some.injEq,Prod.mk.injEq] at he
   obtain ⟨rfl,rfl⟩:=he
   rw [obl_append] at hq
   obtain ⟨_,hl⟩:=dn_sound h hB hq.1
   obtain ⟨te,tg',ys⟩:=B
   obtain ⟨hh⟩:=hh
   have hh' : tg' = tg:=hh
   subst hh'
   exact ⟨te,ys,lies_const hf te hl,hq.2.1,rfl⟩
  ·cases he
 ·cases he
theorem tySize (hE : EnvOk P Γ E) {e : TypeId} {tg : List CK} (hD : E.kd e = some tg) : (P.info? e).map (·.size) = some tg.length:=by
 obtain ⟨_,i,z,hi,hsz,_⟩:=hE.kd e tg hD
 rw [hi];simp [hsz]
theorem app_arr (hE : EnvOk P Γ E) (h : Rel Γ M w0 ρ st vs a w) {t ty e : TypeId} {m : Nat} (ht : E.ty t = .sl e m) {tg : List CK} (hD : E.kd e = some tg) (hflat : flatK tg = true) {r l k : Nat} {xs : List (Tup tg)} {inn inn' : Bool}
  (hr : st.rg[r]? = some (.arr e tg xs true inn)) (hk : l + k = xs.length) {v0 : Value} (hs : (ρ r []).head l k v0) {I2 : RI} {te2 : TypeId} {ys : List (Tup tg)} {lo n : Nat} {vx : Value}
  (h2 : Ar.lies w (fun _ => I2) [] ⟨te2,tg,ys⟩) (hx : I2.head lo n vx) (hn : lo + n ≤ ys.length) (hcap : (k + n) * tg.length ≤ cap40) :
  ∃ v w' ρ',(Builtin.append_ #[t,t] ty #[v0,vx]).run P w = .ok v w' ∧ Rel Γ M w0 ρ' ((st.map (At.kill true true r)).setR r (.arr e tg (xs.drop l ++ (ys.drop lo).take n) true inn')) vs a w' ∧ (ρ' r []).head 0 (k + n) v:=by
 have hhas : (Reg.arr e tg xs true inn).has [] true (.arr ⟨e,tg,xs⟩):=⟨rfl,_,rfl,rfl⟩
 have h0:=lies_const hflat e (h.rs.blk r _ [] true _ hr hhas)
 obtain ⟨v,w',I,hrun,hA⟩:=run_append_flat (ty:=ty) hE ht hD hflat h0 hk hs (fun hv => ⟨(h.rs.own r _ [] _ hr hhas hv).1,(h.rs.own r _ [] _ hr hhas hv).2,h.rs.lt r _ [] true _ hr hhas hv⟩) h2 hx hn hcap h.bl
 exact ⟨v,w',_,hrun,h.replace hr hflat hA.fr hA.size hA.same hA.lies (fun hv => (hA.mine hv).1) (fun hv => (hA.mine hv).2) hA.at_,by rw [setρ_at];exact hA.head⟩
theorem app_new (hE : EnvOk P Γ E) (h : Rel Γ M w0 ρ st vs a w) {t ty e : TypeId} {m : Nat} (ht : E.ty t = .sl e m) {tg : List CK} (hD : E.kd e = some tg) (hflat : flatK tg = true) {v0 : Value} (hs : ∃ a0,v0 = .slice a0 0 0) {b : Bool}
  {I2 : RI} {te2 : TypeId} {ys : List (Tup tg)} {lo n : Nat} {vx : Value} (h2 : Ar.lies w (fun _ => I2) [] ⟨te2,tg,ys⟩) (hx : I2.head lo n vx) (hn : lo + n ≤ ys.length) (hcap : n * tg.length ≤ cap40) :
  ∃ v w' ρ',(Builtin.append_ #[t,t] ty #[v0,vx]).run P w = .ok v w' ∧ Rel Γ M w0 ρ' (st.push [.arr e tg ((ys.drop lo).take n) true b]) vs a w' ∧ (ρ' st.rg.length []).head 0 n v:=by
 obtain ⟨htg,_⟩:=hE.kd e tg hD
 have h0 : Ar.lies w (fun _ => { noRI with m:=tg.length }) [] ⟨e,tg,([] : List (Tup tg))⟩:=⟨htg,rfl,fun _ => rfl,fun hv => (by cases hv),fun i hi => (by simp at hi)⟩
 obtain ⟨v,w',I,hrun,hA⟩:=run_append_flat (ty:=ty) (k:=0) (l:=0) hE ht hD hflat h0 rfl ⟨fun _ => ⟨rfl,hs⟩,fun hv => (by cases hv)⟩ (fun hv => (by cases hv)) h2 hx hn (by rw [Nat.zero_add];exact hcap) h.bl
 simp only [List.drop_nil,List.nil_append,Nat.zero_add] at hA
 have hbel : Below w.heap.size w w':=⟨hA.fr.os.trans h.bl.os.symm,hA.fr.tape.trans h.bl.tape.symm,hA.fr.output.trans h.bl.output.symm,hA.size,fun b hb => hA.same b hb (.inl rfl)⟩
 refine ⟨v,w',setρ ρ st.rg.length fun _ => I,hrun,h.grow hbel (fun r hr π => by rw [setρ_lt hr]) (h.rs.fresh hbel ?_ ?_ ?_ ?_),by rw [setρ_at];exact hA.head⟩
 ·rintro π o B ⟨_,A,hA',rfl⟩
  obtain ⟨rfl,rfl⟩:=has_flat hflat hA'
  show Ar.lies w' (setρ ρ st.rg.length _ st.rg.length) [] _
  rw [setρ_at];exact hA.lies
 ·rintro π o B _ hv
  rcases hA.at_ hv with hI | ⟨hI,_⟩
  ·exact ⟨hI,(hA.mine hv).1⟩
  ·cases hI
 ·rintro π B ⟨_,A,hA',rfl⟩ hv
  obtain ⟨rfl,rfl⟩:=has_flat hflat hA'
  exact (hA.mine hv).2
 ·rintro π π' o o' B B' ⟨_,A,hA',rfl⟩ ⟨_,A',hA'',rfl⟩ _ _
  obtain ⟨rfl,rfl⟩:=has_flat hflat hA'
  obtain ⟨rfl,rfl⟩:=has_flat hflat hA''
  rfl
theorem app_zero (hE : EnvOk P Γ E) (h : Rel Γ M w0 ρ st vs a w) {t ty e : TypeId} {m : Nat} (ht : E.ty t = .sl e m) {tg : List CK} (hD : E.kd e = some tg) {d : Option Nat} {s : Tm} {vS vX : Value} {K : St → Prop}
  (hz : ∃ a0,vX = .slice a0 0 0) (hk : match s with
      | .a (.sl _ _ _ _) => st.putK d s K
      | .a (.v (.slice none 0 0)) => st.putK d s K
      | .a .z => st.putK d s K
      | _ => False) (hs : s.ok st.rg.length ρ vS) : ∃ v w' st' ρ' y,(Builtin.append_ #[t,t] ty #[vS,vX]).run P w = .ok v w' ∧ Rel Γ M w0 ρ' st' vs a w' ∧ Tm.ok st'.rg.length ρ' y v ∧ st'.fits d ∧ K (st'.put d y):=by
 obtain ⟨hu,_,_⟩:=hE.tySl ht
 have hsz:=tySize hE hD
 have zero : ∀ a0 k c,vS = .slice a0 k c → k ≤ c → st.putK d s K →
   ∃ v w' st' ρ' y,(Builtin.append_ #[t,t] ty #[vS,vX]).run P w = .ok v w' ∧ Rel Γ M w0 ρ' st' vs a w' ∧ Tm.ok st'.rg.length ρ' y v ∧ st'.fits d ∧ K (st'.put d y):=by
  intro a0 k c hv hkc hk
  obtain ⟨b0,hx0⟩:=hz
  rw [St.putK_iff] at hk
  refine ⟨_,w,st,ρ,s,?_,h,hs,hk.1,hk.2⟩
  rw [hv,hx0]
  exact run_append_zero hu hsz a0 b0 k c 0 hkc
 split at hk
 ·obtain ⟨ad,c,hv,hkc,_,_⟩:=head_form (show RI.head _ _ _ _ from hs.2)
  exact zero _ _ _ hv hkc hk
 ·exact zero _ _ _ hs.1 (Nat.le_refl _) hk
 ·obtain ⟨a0,hv⟩:=hs
  exact zero _ _ _ hv (Nat.le_refl _) hk
 ·exact hk.elim
theorem appMv_sound (hE : EnvOk P Γ E) (h : Rel Γ M w0 ρ st vs a w) {d : Option Nat} {t ty e : TypeId} {m : Nat} (ht : E.ty t = .sl e m) {tg : List CK} (hD : E.kd e = some tg) {r l k r2 n : Nat} {v0 vx : Value} (hs : (ρ r []).head l k v0) (hx : (ρ r2 []).head 0 n vx) {K : St → Prop}
  (hK : appMv E st d e tg r l k r2 n K) :
  ∃ v w' st' ρ' y,(Builtin.append_ #[t,t] ty #[v0,vx]).run P w = .ok v w' ∧ Rel Γ M w0 ρ' st' vs a w' ∧ Tm.ok st'.rg.length ρ' y v ∧ st'.fits d ∧ K (st'.put d y):=by
 unfold appMv at hK
 split at hK
 case h_2 => exact hK.elim
 rename_i e' tg' xs inn te2 tg2 ys hg hg2 hb
 split at hK
 case h_2 => exact hK.elim
 rename_i h1 h2 he _ _
 obtain rfl:=Nat.eq_of_beq_eq_true he
 obtain ⟨h1⟩:=h1
 obtain ⟨h2⟩:=h2
 have h1' : tg = tg':=h1
 subst h1'
 have h2' : tg2 = tg:=h2
 subst h2'
 rw [oblige_iff] at hK
 obtain ⟨⟨q1,q2,q3,_⟩,hK⟩:=hK
 simp only [Duty.of_p] at q1 q2 q3
 simp only [St.setRK_eq,St.mapK_eq,St.setNK_eq,appPut_iff] at hK
 have hr:=getD_reg hg (by simp)
 obtain ⟨v,w',ρ',c1,c2,c3⟩:=app_arr_deep (ty:=ty) hE h ht hD hr (getD_reg hg2 (by simp)) (beq_ne hb) q2 hs hx q1 q3
 exact ⟨v,w',_,ρ',.a (.sl r [] 0 (k + n)),c1,c2,⟨by simpa [St.setR,St.map] using reg_lt hr,c3⟩,hK.1,hK.2⟩
theorem Rel.voidArr (h : Rel Γ M w0 ρ st vs a w) (e : TypeId) {tg : List CK} (htg : tg ≠ []) :
  Rel Γ M w0 (setρ ρ st.rg.length fun _ => { noRI with m:=tg.length }) (st.push [.arr e tg [] true true]) vs a w:=by
 have hbel : Below w.heap.size w w:=Below.refl _ _
 refine h.grow hbel (fun r hr π => by rw [setρ_lt hr]) (h.rs.fresh hbel ?_ ?_ ?_ ?_)
 ·rintro π o B hB
  obtain ⟨rfl,rfl⟩:=has_nil hB
  show Ar.lies w (setρ ρ st.rg.length _ st.rg.length) [] _
  rw [setρ_at]
  exact ⟨htg,rfl,fun _ => rfl,fun hh => (by cases hh),fun i hi => (by simp at hi)⟩
 ·rintro π o B _ hv;cases hv
 ·rintro π B _ hv;cases hv
 ·rintro π π' o o' B B' _ _ hv;cases hv
theorem appSh_sound (hE : EnvOk P Γ E) (h : Rel Γ M w0 ρ st vs a w) {d : Option Nat} {t ty e : TypeId} {m : Nat} (ht : E.ty t = .sl e m) {tg : List CK} (hD : E.kd e = some tg) {r l k r2 lo n : Nat} {v0 vx : Value} (hs : (ρ r []).head l k v0) (hx : (ρ r2 []).head lo n vx) {K : St → Prop}
  (hK : appSh E st d e tg r l k r2 lo n K) :
  ∃ v w' st' ρ' y,(Builtin.append_ #[t,t] ty #[v0,vx]).run P w = .ok v w' ∧ Rel Γ M w0 ρ' st' vs a w' ∧ Tm.ok st'.rg.length ρ' y v ∧ st'.fits d ∧ K (st'.put d y):=by
 unfold appSh at hK
 split at hK
 case h_2 => exact hK.elim
 rename_i e' tg' xs inn te2 tg2 ys o2 hg hg2 hb
 split at hK
 case h_2 => exact hK.elim
 rename_i h1 h2 he _ _
 obtain rfl:=Nat.eq_of_beq_eq_true he
 obtain ⟨h1⟩:=h1
 obtain ⟨h2⟩:=h2
 have h1' : tg = tg':=h1
 subst h1'
 have h2' : tg2 = tg:=h2
 subst h2'
 rw [oblige_iff] at hK
 obtain ⟨⟨q1,q2,q3,_⟩,hK⟩:=hK
 simp only [Duty.of_p] at q1 q2 q3
 simp only [St.setRK_eq,St.pushK_eq,St.mapK_eq,St.setNK_eq,appPut_iff] at hK
 have hr:=getD_reg hg (by simp)
 obtain ⟨v,w',ρ',c1,c2,c3⟩:=app_arr_share (ty:=ty) hE h ht hD hr (getD_reg hg2 (by simp)) (beq_ne hb) q2 hs hx q1 q3
 exact ⟨v,w',_,ρ',.a (.sl r [] 0 (k + n)),c1,c2,⟨by simpa [St.setR,St.map,St.push] using Nat.lt_succ_of_lt (reg_lt hr),c3⟩,hK.1,hK.2⟩
theorem appDp_sound (hE : EnvOk P Γ E) (h : Rel Γ M w0 ρ st vs a w) {d : Option Nat} {t ty e : TypeId} {m : Nat} (ht : E.ty t = .sl e m) {tg : List CK} (hD : E.kd e = some tg) {r l k r2 lo n : Nat} {v0 vx : Value} (hs : (ρ r []).head l k v0) (hx : (ρ r2 []).head lo n vx) {K : St → Prop}
  (hK : appDp E st d e tg r l k r2 lo n K) :
  ∃ v w' st' ρ' y,(Builtin.append_ #[t,t] ty #[v0,vx]).run P w = .ok v w' ∧ Rel Γ M w0 ρ' st' vs a w' ∧ Tm.ok st'.rg.length ρ' y v ∧ st'.fits d ∧ K (st'.put d y):=by
 unfold appDp at hK
 split at hK
 ·exact appSh_sound hE h ht hD hs hx hK
 ·split at hK
  ·exact appMv_sound hE h ht hD hs hx hK
  ·exact hK.elim
theorem appZ_sound (hE : EnvOk P Γ E) (h : Rel Γ M w0 ρ st vs a w) {d : Option Nat} {t t' ty : TypeId} {n : Int} {K : St → Prop} (hK : appZ E st d t t' n K) :
  ∃ v w' st' ρ' y,(Builtin.append_ #[t,t'] ty #[.slice none 0 0,.int .i64 n]).run P w = .ok v w' ∧ Rel Γ M w0 ρ' st' vs a w' ∧ Tm.ok st'.rg.length ρ' y v ∧ st'.fits d ∧ K (st'.put d y):=by
 unfold appZ at hK
 split at hK
 case h_2 => exact hK.elim
 rename_i e m kn ht ht'
 split at hK
 case h_2 => exact hK.elim
 rename_i tg hD
 split at hK
 case h_2 => exact hK.elim
 rename_i hflat
 rw [oblige_iff] at hK
 obtain ⟨⟨h0,hsz,_⟩,hK⟩:=hK
 simp only [Duty.of_p] at h0 hsz
 simp only [lenC_eq,St.pushK_eq,appPut_iff] at hK
 obtain ⟨hu,_,_⟩:=hE.tySl ht
 have hu' : P.underlying t' = some (.int kn):=by have:=hE.ty t';rw [ht'] at this;exact this.1
 obtain ⟨htg,i,z,hi,hs,hz,hzc,hby⟩:=hE.kd e tg hD
 have hpos : 0 < tg.length:=List.length_pos_iff.2 htg
 obtain ⟨N,rfl⟩ : ∃ N : Nat,n = (N : Int):=⟨n.toNat,by omega⟩
 have hsz' : N * tg.length ≤ 16777216:=by
  have h5 : ((N * tg.length : Nat) : Int) ≤ 16777216:=by rw [Int.natCast_mul];exact hsz
  omega
 have hN : N ≤ 16777216:=Nat.le_trans (Nat.le_mul_of_pos_right N hpos) hsz'
 have bytes : N * i.bytes ≤ 281474976710656:=by
  have h1:=Nat.mul_le_mul_left N hby
  have h2 : N * (32 * tg.length) = 32 * (N * tg.length):=by rw [← Nat.mul_assoc,Nat.mul_comm N 32,Nat.mul_assoc]
  omega
 have hzl : z.cells.size = tg.length:=by
  have:=congrArg List.length hzc
  simpa [zero_length] using this
 have hrun:=Lib.run_append_nil_zeros w t t' ty e i z .i64 kn hu hu' hi hz N (by omega) (by rw [hs];exact hpos) (by omega) bytes
 generalize hcp : grownCap w N 0 e = cp at hrun
 have hcp1 : N ≤ cp:=by rw [← hcp];exact grownCap_ge w _ _ e
 have hcp2 : cp ≤ maxLen:=by rw [← hcp];exact grownCap_le_maxLen w _ _ _ (Nat.le_trans hN (Nat.le_of_ble_eq_true rfl))
 have hbel : Below w.heap.size w (w.drew.alloc (.cells (Builtin.zeroCells z.cells N ++ Builtin.zeroCells z.cells (cp - N)) e)):=((Below.refl _ _).drew).alloc (Nat.le_refl _) _
 have hheap : (w.drew.alloc (.cells (Builtin.zeroCells z.cells N ++ Builtin.zeroCells z.cells (cp - N)) e)).heap[w.heap.size]? = some (.cells (Builtin.zeroCells z.cells N ++ Builtin.zeroCells z.cells (cp - N)) e):=by
  show (w.heap.push _)[w.heap.size]? = _
  simp
 refine ⟨_,_,st.push [.arr e tg [] true true],setρ ρ st.rg.length fun _ => ⟨w.heap.size,0,tg.length,cp,false⟩,.a (.sl st.rg.length [] 0 N),hrun,h.grow (gs:=[.arr e tg [] true true]) hbel (fun r hr π => by rw [setρ_lt hr]) (h.rs.fresh (g:=.arr e tg [] true true) hbel ?_ ?_ ?_ ?_),⟨by simp [St.push],?_⟩,hK.1,hK.2⟩
 ·rintro π o B hB
  obtain ⟨rfl,rfl⟩:=has_nil hB
  show Ar.lies _ (setρ ρ st.rg.length _ st.rg.length) [] _
  rw [setρ_at]
  exact ⟨htg,rfl,fun _ => rfl,fun _ => Nat.zero_le _,fun i hi => (by simp at hi)⟩
 ·rintro π o B _ _
  exact ⟨Nat.le_refl _,(Array.getElem?_eq_some_iff.1 hheap).1⟩
 ·rintro π B hB _
  obtain ⟨rfl,rfl⟩:=has_nil hB
  refine ⟨⟨.inr h.bl.size,fun j => ?_⟩,hcp2,_,hheap,?_⟩
  ·have hheap':=hheap
   simp only [World.frozen?]
   rw [hheap']
   simp
  ·show _ = 0 + cp * tg.length
   rw [Array.size_append,size_zeroCells,size_zeroCells,hzl,← Nat.add_mul,Nat.zero_add]
   congr 1
   omega
 ·rintro π π' o o' B B' hB hB' _ _
  obtain ⟨rfl,rfl⟩:=has_nil hB
  obtain ⟨rfl,rfl⟩:=has_nil hB'
  rfl
 ·rw [setρ_at]
  exact ⟨fun hv => (by cases hv),fun _ => ⟨by simp only [Nat.zero_add];exact hcp1,_,rfl,fun _ => by simp [RI.at]⟩⟩
theorem appK1_sound (hE : EnvOk P Γ E) (h : Rel Γ M w0 ρ st vs a w) {d : Option Nat} {t ty : TypeId} {s x : Tm} {vS vX : Value} (hs : s.ok st.rg.length ρ vS) (hx : x.ok st.rg.length ρ vX) {K : St → Prop} (hK : appK1 E st d t s x K) :
  ∃ v w' st' ρ' y,(Builtin.append_ #[t,t] ty #[vS,vX]).run P w = .ok v w' ∧ Rel Γ M w0 ρ' st' vs a w' ∧ Tm.ok st'.rg.length ρ' y v ∧ st'.fits d ∧ K (st'.put d y):=by
 unfold appK1 at hK
 split at hK
 case h_2 => exact hK.elim
 rename_i e m ht
 split at hK
 case h_2 => exact hK.elim
 rename_i tg hD
 obtain ⟨hu,_,_⟩:=hE.tySl ht
 have hsz:=tySize hE hD
 have zero':=fun hz hk => app_zero hE h ht hD (ty:=ty) (d:=d) (vX:=vX) (K:=K) hz hk hs
 split at hK
 ·-- nothing
  rename_i hxx
  split at hxx <;> try dsimp only at hK
  ·exact zero' ⟨_,hx.1⟩ hK
  ·exact zero' hx hK
  ·cases hxx
  ·cases hxx
 ·rename_i r2 π2 lo n hxx
  split at hxx
  ·cases hxx
  ·cases hxx
  ·rename_i r2' π2' lo' n'
   simp only [Option.some.injEq,Prod.mk.injEq] at hxx
   obtain ⟨rfl,rfl,rfl,rfl⟩:=hxx
   have hx':=hx.2
   have new : (∃ a0,vS = .slice a0 0 0) → newsK E.conc st tg r2' π2' lo' n' (fun st news b => oblige E.conc [(Duty.of (n' * tg.length ≤ cap40))] (nameR E.conc (.arr e tg news true b) (fun g => lenC E.conc st.rg (fun r => st.pushK [g] (fun st => appPut E.conc st d r n' K))))) →
     ∃ v w' st' ρ' y,(Builtin.append_ #[t,t] ty #[vS,vX]).run P w = .ok v w' ∧ Rel Γ M w0 ρ' st' vs a w' ∧ Tm.ok st'.rg.length ρ' y v ∧ st'.fits d ∧ K (st'.put d y):=by
    intro hz hk
    unfold newsK at hk
    split at hk
    ·rename_i hflat
     split at hk
     ·rename_i q xs hq
      rw [oblige_iff] at hk
      obtain ⟨te,ys,p1,p2,rfl⟩:=newsOf_sound h hflat hq hk.1
      obtain ⟨_,hk⟩:=hk
      rw [oblige_iff] at hk
      obtain ⟨⟨hcap,_⟩,hk⟩:=hk
      simp only [Duty.of_p] at hcap
      simp only [nameR_eq,lenC_eq,St.pushK_eq,appPut_iff] at hk
      obtain ⟨v,w',ρ',c1,c2,c3⟩:=app_new (ty:=ty) (b:=true) hE h ht hD hflat hz p1 hx' p2 hcap
      exact ⟨v,w',_,ρ',.a (.sl st.rg.length [] 0 n'),c1,c2,⟨by simp [St.push],c3⟩,hk.1,hk.2⟩
     ·exact hk.elim
    ·exact hk.elim
   have nil : (∃ a0,vS = .slice a0 0 0) → π2' = [] → lenC E.conc st.rg (fun r => st.pushK [.arr e tg [] true true] (fun st => appDp E st d e tg r 0 0 r2' lo' n' K)) →
     ∃ v w' st' ρ' y,(Builtin.append_ #[t,t] ty #[vS,vX]).run P w = .ok v w' ∧ Rel Γ M w0 ρ' st' vs a w' ∧ Tm.ok st'.rg.length ρ' y v ∧ st'.fits d ∧ K (st'.put d y):=by
    rintro hz rfl hk
    simp only [lenC_eq,St.pushK_eq] at hk
    obtain ⟨htg,_⟩:=hE.kd e tg hD
    refine appDp_sound hE (h.voidArr e htg) ht hD ?_ ?_ hk
    ·rw [setρ_at];exact ⟨fun _ => ⟨rfl,hz⟩,fun hh => (by cases hh)⟩
    ·rw [setρ_lt hx.1];exact hx'
   split at hK
   ·split at hK
    ·exact appDp_sound hE h ht hD hs.2 hx' hK
    ·obtain ⟨rfl,_⟩:=hs
     exact nil ⟨_,rfl⟩ rfl hK
    ·exact nil hs rfl hK
    ·exact hK.elim
   ·rename_i hflat'
    split at hK
    ·rename_i r l k
     split at hK
     ·rename_i e' tg' xs inn hg
      have hr:=getD_reg hg (by simp)
      split at hK
      ·rename_i hh hne he _
       obtain rfl:=Nat.eq_of_beq_eq_true he
       obtain ⟨hh⟩:=hh
       have hh' : tg = tg':=hh
       subst hh'
       unfold newsK at hK
       split at hK
       ·rename_i hflat
        split at hK
        ·rename_i q news hq
         rw [oblige_iff] at hK
         obtain ⟨te,ys,p1,p2,rfl⟩:=newsOf_sound h hflat hq hK.1
         obtain ⟨_,hK⟩:=hK
         rw [oblige_iff] at hK
         obtain ⟨⟨hk1,hcap,_⟩,hK⟩:=hK
         simp only [Duty.of_p] at hk1 hcap
         simp only [St.mapK_eq,St.setNK_eq,appPut_iff] at hK
         obtain ⟨v,w',ρ',c1,c2,c3⟩:=app_arr (ty:=ty) (inn':=bAnd inn true) hE h ht hD hflat hr hk1 hs.2 p1 hx' p2 hcap
         exact ⟨v,w',_,ρ',.a (.sl r [] 0 (k + n')),c1,c2,⟨by simpa [St.setR,St.map] using hs.1,c3⟩,hK.1,hK.2⟩
        ·exact hK.elim
       ·exact hK.elim
      ·exact hK.elim
     ·exact hK.elim
    ·obtain ⟨rfl,_⟩:=hs
     exact new ⟨_,rfl⟩ hK
    ·exact new hs hK
    ·exact hK.elim
  ·cases hxx
 ·exact hK.elim
end
end Go.Sy
end
section
namespace Go.Sy
open Go Go.RowKit
universe u
section
variable {P : Program} {Γ : Glob} {E : Env} {M : Nat → Prop} {w0 : World} {ρ : Keys} {st : St} {vs : Fv} {a : Act} {w : World}
theorem Rel.writeMap (h : Rel Γ M w0 ρ st vs a w) {r : Nat} {t : TypeId} {k : IntKind} {c : CK} {es es' : List (Int × c.ty)} (hr : st.rg[r]? = some (.map t k c es true)) {ents : Array MapEntry}
  (h1 : ents.toList.map (fun e => (e.key,e.val)) = entsOf k c es') (h2 : ents.toList.map (·.born) = List.range ents.size) :
  Rel Γ M w0 ρ (st.setR r (.map t k c es' true)) vs a { w with heap:=w.heap.setIfInBounds (ρ r []).b (.map ents ents.size) }:=by
 have hB : (Reg.map t k c es true).has [] true (.map k c es):=⟨rfl,rfl,rfl⟩
 obtain ⟨_,hv,ents0,hb0,_,_⟩:=h.rs.blk r _ [] true _ hr hB
 have hmine : Mine M w0 w (ρ r []):=h.rs.own r _ [] _ hr hB hv
 have hblt:=h.rs.lt r _ [] true _ hr hB hv
 have hlen : (st.setR r (.map t k c es' true)).rg.length = st.rg.length:=by simp [St.setR]
 have heap : ∀ k,k ≠ (ρ r []).b → (w.heap.setIfInBounds (ρ r []).b (Obj.map ents ents.size))[k]? = w.heap[k]?:=fun k hk => by rw [Array.getElem?_setIfInBounds,if_neg (Ne.symm hk)]
 have new : (w.heap.setIfInBounds (ρ r []).b (Obj.map ents ents.size))[(ρ r []).b]? = some (.map ents ents.size):=by rw [Array.getElem?_setIfInBounds,if_pos rfl,if_pos hblt]
 have other : ∀ (r1 : Nat) (g1 : Reg) σ o B,st.rg[r1]? = some g1 → g1.has σ o B → ¬ (r = r1 ∧ [] = σ) → (ρ r1 σ).void = false → (w.heap.setIfInBounds (ρ r []).b (Obj.map ents ents.size))[(ρ r1 σ).b]? = w.heap[(ρ r1 σ).b]? :=
  fun r1 g1 σ o B k1 k2 hne hv1 => heap _ (fun e => h.rs.dj r r1 _ g1 [] σ o _ B hr k1 hB k2 hv hv1 hne e.symm)
 have back : ∀ {r1 : Nat} {g1 : Reg},(st.rg.set r (.map t k c es' true))[r1]? = some g1 → ∀ {σ o B},g1.has σ o B → ∃ g2 B2,st.rg[r1]? = some g2 ∧ g2.has σ o B2:=by
  intro r1 g1 k1 σ o B k2
  rcases set_get k1 with ⟨rfl,rfl,_⟩ | ⟨_,k1⟩
  ·obtain ⟨rfl,rfl,rfl⟩:=k2
   exact ⟨_,_,hr,rfl,rfl,rfl⟩
  ·exact ⟨_,_,k1,k2⟩
 refine ⟨by rw [hlen];exact h.tm,by rw [hlen];exact h.fr,h.df,?_,⟨h.bl.os,h.bl.tape,h.bl.output,by simpa using h.bl.size,fun k hk hm => ?_⟩,Γ.st _ _ h.gl fun b hb => heap b ?_,h.gn⟩
 ·rw [hlen]
  refine ⟨fun r1 g1 σ o B k1 k2 => ?_,fun r1 g1 σ o B k1 k2 hv1 => ?_,fun r1 g1 σ B k1 k2 hv1 => ?_,fun r1 r2 g1 g2 σ σ' o' B B' k1 k2 k3 k4 v1 v2 hne => ?_⟩
  ·rcases set_get k1 with ⟨rfl,rfl,_⟩ | ⟨hne,k1⟩
   ·obtain ⟨rfl,rfl,rfl⟩:=k2
    exact ⟨rfl,hv,ents,new,h1,h2⟩
   ·exact (h.rs.blk r1 g1 σ o B k1 k2).later (fun _ => rfl) (Nat.le_refl _) (fun _ _ _ => rfl) (fun hv1 => other r1 g1 σ o B k1 k2 (fun e' => hne e'.1.symm) hv1)
  ·obtain ⟨g2,B2,b1,b2⟩:=back k1 k2
   simpa using h.rs.lt r1 g2 σ o B2 b1 b2 hv1
  ·rcases set_get k1 with ⟨rfl,rfl,_⟩ | ⟨hne,k1⟩
   ·obtain ⟨rfl,_,rfl⟩:=k2
    exact ⟨hmine.own,fun j => by simp only [World.frozen?];rw [new]⟩
   ·exact (h.rs.own r1 g1 σ B k1 k2 hv1).later (other r1 g1 σ true B k1 k2 (fun e' => hne e'.1.symm) hv1)
  ·obtain ⟨g3,B3,b1,b2⟩:=back k1 k3
   obtain ⟨g4,B4,b3,b4⟩:=back k2 k4
   exact h.rs.dj r1 r2 g3 g4 σ σ' o' B3 B4 b1 b3 b2 b4 v1 v2 hne
 ·have e : k ≠ (ρ r []).b:=fun e => by
   subst e
   rcases hmine.own with ho | ho
   ·exact hm ho
   ·omega
  exact (heap k e).trans (h.bl.block k hk hm)
 ·have:=h.gn b hb
  rcases hmine.own with ho | ho
  ·intro e;subst e;exact this.1 ho
  ·omega
theorem alloc_new (o : Obj) : (w.alloc o).heap[w.heap.size]? = some o:=by
 show (w.heap.push o)[w.heap.size]? = some o
 exact Array.getElem?_push_size
theorem Rel.newMap (h : Rel Γ M w0 ρ st vs a w) (t : TypeId) (k : IntKind) (c : CK) :
  Rel Γ M w0 (setρ ρ st.rg.length (boxRI w)) (st.push [.map t k c [] true]) vs a (w.alloc (.map #[] 0)):=by
 refine h.grow (below_alloc _) (fun r hr π => by rw [setρ_lt hr]) (h.rs.fresh (below_alloc _) ?_ ?_ ?_ ?_)
 ·rintro π o B ⟨rfl,rfl,rfl⟩
  exact ⟨rfl,by rw [setρ_at];rfl,#[],by rw [setρ_at];exact alloc_new _,rfl,rfl⟩
 ·rintro π o B ⟨rfl,rfl,rfl⟩ _
  exact ⟨Nat.le_refl _,by simp [boxRI]⟩
 ·rintro π B ⟨rfl,_,rfl⟩ _
  exact ⟨.inr h.bl.size,fun j => by simp only [boxRI,World.frozen?,alloc_new]⟩
 ·rintro π π' o o' B B' ⟨rfl,_⟩ ⟨rfl,_⟩ _ _
  rfl
end
end Go.Sy
end
section
namespace Go.Sy
open Go Go.RowKit
universe u
section
variable {P : Program} {Γ : Glob} {E : Env} {M : Nat → Prop} {w0 : World} {ρ : Keys} {st : St} {vs : Fv} {a : Act} {w : World}
theorem Rel.writeObj (h : Rel Γ M w0 ρ st vs a w) {r : Nat} {g g' : Reg} {B0 : Blk} (hr : st.rg[r]? = some g) (hB : g.has [] true B0) (hv : (ρ r []).void = false) (hm0 : Mine M w0 w (ρ r [])) {obj : Obj}
  (hg' : ∀ σ o B,g'.has σ o B → σ = [] ∧ o = true ∧ (∀ w' : World,w'.heap[(ρ r []).b]? = some obj → B.lies st.rg.length ρ r [] w') ∧ (∀ (w' : World) I,Mine M w0 w' I → B.mine M w0 w' I))
  (hfz : ∀ (w' : World) (b j : Nat),w'.heap[b]? = some obj → w'.frozen? ⟨b,j,none⟩ = false) :
  Rel Γ M w0 ρ (st.setR r g') vs a (w.putObj (ρ r []).b obj):=by
 have hblt:=h.rs.lt r _ [] true _ hr hB hv
 have hlen : (st.setR r g').rg.length = st.rg.length:=by simp [St.setR]
 have heap : ∀ k,k ≠ (ρ r []).b → (w.putObj (ρ r []).b obj).heap[k]? = w.heap[k]?:=fun k hk => World.putObj_heap_other hk
 have new : (w.putObj (ρ r []).b obj).heap[(ρ r []).b]? = some obj:=World.putObj_heap_same hblt
 have other : ∀ (r1 : Nat) (g1 : Reg) σ o B,st.rg[r1]? = some g1 → g1.has σ o B → ¬ (r = r1 ∧ [] = σ) → (ρ r1 σ).void = false → (w.putObj (ρ r []).b obj).heap[(ρ r1 σ).b]? = w.heap[(ρ r1 σ).b]? :=
  fun r1 g1 σ o B k1 k2 hne hv1 => heap _ (fun e => h.rs.dj r r1 _ g1 [] σ o _ B hr k1 hB k2 hv hv1 hne e.symm)
 have back : ∀ {r1 : Nat} {g1 : Reg},(st.rg.set r g')[r1]? = some g1 → ∀ {σ o B},g1.has σ o B → ∃ g2 B2,st.rg[r1]? = some g2 ∧ g2.has σ o B2:=by
  intro r1 g1 k1 σ o B k2
  rcases set_get k1 with ⟨rfl,rfl,_⟩ | ⟨_,k1⟩
  ·obtain ⟨rfl,rfl,_⟩:=hg' _ _ _ k2
   exact ⟨_,_,hr,hB⟩
  ·exact ⟨_,_,k1,k2⟩
 refine ⟨by rw [hlen];exact h.tm,by rw [hlen];exact h.fr,h.df,?_,⟨h.bl.os,h.bl.tape,h.bl.output,by rw [World.putObj_size];exact h.bl.size,fun k hk hm => ?_⟩,Γ.st _ _ h.gl fun b hb => heap b ?_,h.gn⟩
 ·rw [hlen]
  refine ⟨fun r1 g1 σ o B k1 k2 => ?_,fun r1 g1 σ o B k1 k2 hv1 => ?_,fun r1 g1 σ B k1 k2 hv1 => ?_,fun r1 r2 g1 g2 σ σ' o' B B' k1 k2 k3 k4 v1 v2 hne => ?_⟩
  ·rcases set_get k1 with ⟨rfl,rfl,_⟩ | ⟨hne,k1⟩
   ·obtain ⟨rfl,rfl,hl',_⟩:=hg' _ _ _ k2
    exact hl' _ new
   ·exact (h.rs.blk r1 g1 σ o B k1 k2).later (fun _ => rfl) (Nat.le_refl _) (fun _ _ _ => rfl) (fun hv1 => other r1 g1 σ o B k1 k2 (fun e' => hne e'.1.symm) hv1)
  ·obtain ⟨g2,B2,b1,b2⟩:=back k1 k2
   rw [World.putObj_size];exact h.rs.lt r1 g2 σ o B2 b1 b2 hv1
  ·rcases set_get k1 with ⟨rfl,rfl,_⟩ | ⟨hne,k1⟩
   ·obtain ⟨rfl,_,_,hm'⟩:=hg' _ _ _ k2
    exact hm' _ _ ⟨hm0.own,fun j => hfz _ _ _ new⟩
   ·exact (h.rs.own r1 g1 σ B k1 k2 hv1).later (other r1 g1 σ true B k1 k2 (fun e' => hne e'.1.symm) hv1)
  ·obtain ⟨g3,B3,b1,b2⟩:=back k1 k3
   obtain ⟨g4,B4,b3,b4⟩:=back k2 k4
   exact h.rs.dj r1 r2 g3 g4 σ σ' o' B3 B4 b1 b3 b2 b4 v1 v2 hne
 ·have e : k ≠ (ρ r []).b:=fun e => by
   subst e
   rcases hm0.own with ho | ho
   ·exact hm ho
   ·omega
  exact (heap k e).trans (h.bl.block k hk hm)
 ·have:=h.gn b hb
  rcases hm0.own with ho | ho
  ·intro e;subst e;exact this.1 ho
  ·omega
theorem Rel.newIter (h : Rel Γ M w0 ρ st vs a w) {m : Option Nat} {n : Nat} (hm : ∀ r,m = some r → r < st.rg.length) :
  Rel Γ M w0 (setρ ρ st.rg.length (boxRI w)) (st.push [.iter m n []]) vs a (w.alloc (.mapIter (m.map fun r => (ρ r []).b) n #[] n)):=by
 refine h.grow (below_alloc _) (fun r hr π => by rw [setρ_lt hr]) (h.rs.fresh (below_alloc _) ?_ ?_ ?_ ?_)
 ·rintro π o B ⟨rfl,rfl,rfl⟩
  refine ⟨rfl,by rw [setρ_at];rfl,fun r hr => by have:=hm r hr;omega,?_⟩
  rw [setρ_at]
  simp only [boxRI,alloc_new]
  cases m with
  | none => rfl
  | some r => simp only [Option.map_some];rw [setρ_lt (hm r rfl)];rfl
 ·rintro π o B ⟨rfl,rfl,rfl⟩ _
  exact ⟨Nat.le_refl _,by simp [boxRI]⟩
 ·rintro π B ⟨rfl,_,rfl⟩ _
  exact ⟨.inr h.bl.size,fun j => by simp only [boxRI,World.frozen?,alloc_new]⟩
 ·rintro π π' o o' B B' ⟨rfl,_⟩ ⟨rfl,_⟩ _ _
  rfl
theorem Rel.nextIter (h : Rel Γ M w0 ρ st vs a w) {r m n : Nat} {seen seen' : List Nat} (hr : st.rg[r]? = some (.iter (some m) n seen)) :
  Rel Γ M w0 ρ (st.setR r (.iter (some m) n seen')) vs a (w.putObj (ρ r []).b (.mapIter (some (ρ m []).b) n seen'.reverse.toArray n)):=by
 have hB : (Reg.iter (some m) n seen).has [] true (.it (some m) n seen):=⟨rfl,rfl,rfl⟩
 obtain ⟨_,hv,hm,_⟩:=h.rs.blk r _ [] true _ hr hB
 exact h.writeObj hr hB hv (h.rs.own r _ [] _ hr hB hv) (fun σ o B hh => by obtain ⟨rfl,rfl,rfl⟩:=hh;exact ⟨rfl,rfl,fun w' hw' => ⟨rfl,hv,hm,hw'⟩,fun _ _ hh => hh⟩) (fun w' b j hw' => by simp [World.frozen?,hw'])
end
end Go.Sy
end
section
namespace Go.Sy
open Go Go.RowKit
universe u
section
variable {P : Program} {Γ : Glob} {E : Env} {M : Nat → Prop} {w0 : World} {ρ : Keys} {st : St} {vs : Fv} {a : Act} {w : World}
theorem Rel.newMps (h : Rel Γ M w0 ρ st vs a w) (t : TypeId) (kk : List CK) (e : TypeId) (tg : List CK) :
  Rel Γ M w0 (setρ ρ st.rg.length (boxRI w)) (st.push [.mps t kk e tg [] true true]) vs a (w.alloc (.map #[] 0)):=by
 have root : ∀ {π : Path} {o : Bool} {B : Blk},(Reg.mps t kk e tg [] true true).has π o B → π = [] ∧ o = true ∧ B = .mps kk tg []:=by
  rintro π o B (h | ⟨j,_,_,hj,_⟩)
  ·exact h
  ·simp at hj
 refine h.grow (below_alloc _) (fun r hr π => by rw [setρ_lt hr]) (h.rs.fresh (below_alloc _) ?_ ?_ ?_ ?_)
 ·intro π o B hB
  obtain ⟨rfl,rfl,rfl⟩:=root hB
  exact ⟨rfl,by rw [setρ_at];rfl,#[],by rw [setρ_at];exact alloc_new _,rfl,rfl,fun j x hx => by simp at hx⟩
 ·intro π o B hB _
  obtain ⟨rfl,rfl,rfl⟩:=root hB
  exact ⟨Nat.le_refl _,by simp [boxRI]⟩
 ·intro π B hB _
  obtain ⟨rfl,_,rfl⟩:=root hB
  exact ⟨.inr h.bl.size,fun j => by simp only [boxRI,World.frozen?,alloc_new]⟩
 ·intro π π' o o' B B' h1 h2 _ _
  obtain ⟨rfl,_⟩:=root h1
  obtain ⟨rfl,_⟩:=root h2
  rfl
theorem lies_flat_at {η η' : Path → RI} {π π' : Path} {te : TypeId} {tg : List CK} {xs : List (Tup tg)} (hf : flatK tg = true) (he : η' π' = η π) (h : Ar.lies w η π ⟨te,tg,xs⟩) : Ar.lies w η' π' ⟨te,tg,xs⟩ where
 tg:=h.tg
 m:=by rw [he];exact h.m
 void:=by rw [he];exact h.void
 len:=by rw [he];exact h.len
 cell:=fun i hi => by
  obtain ⟨ys,h1,h2⟩:=h.cell i hi
  exact ⟨ys,lies_flat hf h1,fun s y hy => by rw [he];exact h2 s y hy⟩
theorem bAnd_true {a b : Bool} (h : bAnd a b = true) : a = true ∧ b = true:=by cases a <;> cases b <;> first | exact ⟨rfl,rfl⟩ | cases h
theorem Side.putMps {N : Nat} (hN : st.rg.length = N) {e : TypeId} {tg : List CK} {ys : List (Tup tg)} {b : Bool} (hs : Side M w0 w ρ st [.arr e tg ys b b])
  (htm : st.tm.ok N ρ a.tmps) (hfr : okL (Sl.ok N ρ) st.fr vs.fs) (hdf : a.defers = vs.ds) (hbl : Frame M w0 w) (hgl : Γ.G w) (hgn : ∀ b,b < Γ.n → ¬ M b ∧ b < w0.heap.size)
  {r : Nat} {t : TypeId} {kk : List CK} {es : List (Tup kk × List (Tup tg))} {inn : Bool} (hr : st.rg[r]? = some (.mps t kk e tg es true inn)) (hf : flatK tg = true) (k : Tup kk) {obj : Array MapEntry}
  (hobj : ∀ η' : Path → RI,(∀ j,j ≠ kix kk k es → η' [(j,0)] = ρ r [(j,0)]) → (η' [(kix kk k es,0)] = ρ N []) → ∀ w' : World,w'.heap[(ρ r []).b]? = some (.map obj obj.size) → MapsAt w' (ρ r []).b η' kk tg (kput kk k ys es)) :
  ∃ ρ',Rel Γ M w0 ρ' ((st.map (At.kill false true r)).setR r (.mps t kk e tg (kput kk k ys es) true (bAnd inn b))) vs a { w with heap:=w.heap.setIfInBounds (ρ r []).b (.map obj obj.size) }:=by
 subst hN
 have hrs:=hs.rs
 have hlt' : r < st.rg.length:=reg_lt hr
 have hr0 : (st.rg ++ [Reg.arr e tg ys b b])[r]? = some (.mps t kk e tg es true inn):=reg_side hr
 have hA : (st.rg ++ [Reg.arr e tg ys b b])[st.rg.length]? = some (.arr e tg ys b b):=by simp
 have hasA : (Reg.arr e tg ys b b).has [] b (.arr ⟨e,tg,ys⟩):=⟨rfl,_,rfl,rfl⟩
 have hB : (Reg.mps t kk e tg es true inn).has [] true (.mps kk tg es):=.inl ⟨rfl,rfl,rfl⟩
 obtain ⟨_,hv,_⟩:=hrs.blk r _ [] true _ hr0 hB
 have hmine : Mine M w0 w (ρ r []):=hrs.own r _ [] _ hr0 hB hv
 have hblt:=hrs.lt r _ [] true _ hr0 hB hv
 generalize hη : (fun τ : Path => if τ = [(kix kk k es,0)] then ρ st.rg.length [] else ρ r τ) = η
 have η0 : η [] = ρ r []:=by rw [← hη];simp
 have ηk : η [(kix kk k es,0)] = ρ st.rg.length []:=by rw [← hη];simp
 have ηj : ∀ τ,τ ≠ [(kix kk k es,0)] → η τ = ρ r τ:=fun τ h => by rw [← hη];simp only [if_neg h]
 have ht : false = false → η [] = ρ r []:=fun _ => η0
 have hne : ∀ {r'},r' ≠ r → setρ ρ r η r' = ρ r':=fun hh => by simp [setρ,hh]
 have heap : ∀ k,k ≠ (ρ r []).b → (w.heap.setIfInBounds (ρ r []).b (Obj.map obj obj.size))[k]? = w.heap[k]?:=fun k hk => by rw [Array.getElem?_setIfInBounds,if_neg (Ne.symm hk)]
 have new : (w.heap.setIfInBounds (ρ r []).b (Obj.map obj obj.size))[(ρ r []).b]? = some (.map obj obj.size):=by rw [Array.getElem?_setIfInBounds,if_pos rfl,if_pos hblt]
 have hlen : ((st.map (At.kill false true r)).setR r (.mps t kk e tg (kput kk k ys es) true (bAnd inn b))).rg.length = st.rg.length:=by simp [St.setR,St.map]
 have other : ∀ (r1 : Nat) (g1 : Reg) σ o B,(st.rg ++ [Reg.arr e tg ys b b])[r1]? = some g1 → g1.has σ o B → ¬ (r = r1 ∧ [] = σ) → (ρ r1 σ).void = false → (w.heap.setIfInBounds (ρ r []).b (Obj.map obj obj.size))[(ρ r1 σ).b]? = w.heap[(ρ r1 σ).b]? :=
  fun r1 g1 σ o B k1 k2 hn hv1 => heap _ (fun e => hrs.dj r r1 _ g1 [] σ o _ B hr0 k1 hB k2 hv hv1 hn e.symm)
 have get : ∀ (r1 : Nat) (g1 : Reg),((st.map (At.kill false true r)).setR r (.mps t kk e tg (kput kk k ys es) true (bAnd inn b))).rg[r1]? = some g1 →
   (r1 = r ∧ g1 = .mps t kk e tg (kput kk k ys es) true (bAnd inn b)) ∨ (r1 ≠ r ∧ r1 < st.rg.length ∧ ∃ g0,(st.rg ++ [Reg.arr e tg ys b b])[r1]? = some g0 ∧ g1 = g0.mapA (At.kill false true r)):=by
  intro r1 g1 h1
  rcases set_get (l:=(st.map (At.kill false true r)).rg) h1 with ⟨rfl,rfl,_⟩ | ⟨hn,h1⟩
  ·exact .inl ⟨rfl,rfl⟩
  ·simp only [St.map,List.getElem?_map,Option.map_eq_some_iff] at h1
   obtain ⟨g0,h1,h2⟩:=h1
   exact .inr ⟨hn,reg_lt h1,g0,reg_side h1,h2.symm⟩
 -- what lies at an entry
 have content : ∀ j,j < (kput kk k ys es).length → (j = kix kk k es ∧ ((kput kk k ys es).getD j (Tup.d kk,[])).2 = ys) ∨ (j ≠ kix kk k es ∧ j < es.length ∧ ((kput kk k ys es).getD j (Tup.d kk,[])).2 = (es.getD j (Tup.d kk,[])).2):=by
  intro j hj
  by_cases h1 : j = kix kk k es
  ·refine .inl ⟨h1,?_⟩
   rw [List.getD_eq_getElem?_getD,kput_get,if_pos h1];rfl
  ·refine .inr ⟨h1,?_,?_⟩
   ·rw [kput_length] at hj
    have:=kix_le (k:=k) es
    split at hj <;> omega
   ·rw [List.getD_eq_getElem?_getD,kput_get,if_neg h1,List.getD_eq_getElem?_getD]
 -- where a region's part was
 have spot : ∀ (r1 : Nat) (g1 : Reg) π o B,((st.map (At.kill false true r)).setR r (.mps t kk e tg (kput kk k ys es) true (bAnd inn b))).rg[r1]? = some g1 → g1.has π o B →
   r1 < st.rg.length ∧ ∃ rs g πs f B0,(st.rg ++ [Reg.arr e tg ys b b])[rs]? = some g ∧ g.has πs f B0 ∧ (o = true → f = true) ∧ setρ ρ r η r1 π = ρ rs πs ∧
    ((rs = r1 ∧ πs = π ∧ ¬ (r1 = r ∧ π = [(kix kk k es,0)])) ∨ (r1 = r ∧ π = [(kix kk k es,0)] ∧ rs = st.rg.length ∧ πs = [])):=by
  intro r1 g1 π o B h1 h2
  rcases get r1 g1 h1 with ⟨rfl,rfl⟩ | ⟨hn,hl1,g0,p1,rfl⟩
  ·refine ⟨hlt',?_⟩
   rcases h2 with ⟨rfl,rfl,rfl⟩ | ⟨j,rfl,ho,hj,_,rfl⟩
   ·exact ⟨r1,_,[],true,_,hr0,hB,id,by rw [setρ_at];exact η0,.inl ⟨rfl,rfl,by simp⟩⟩
   ·rcases content j hj with ⟨rfl,_⟩ | ⟨hjk,hj',_⟩
    ·refine ⟨_,_,[],b,_,hA,hasA,fun h0 => ?_,by rw [setρ_at];exact ηk,.inr ⟨rfl,rfl,rfl,rfl⟩⟩
     exact (bAnd_true (ho.symm.trans h0)).2
    ·refine ⟨r1,_,[(j,0)],inn,_,hr0,.inr ⟨j,rfl,rfl,hj',hf,rfl⟩,fun h0 => (bAnd_true (ho.symm.trans h0)).1,by rw [setρ_at];exact ηj _ (by simpa using hjk),.inl ⟨rfl,rfl,fun hh => hjk (by simpa using hh.2)⟩⟩
  ·obtain ⟨B0,b1,_,_⟩:=killF_has (ρ:=ρ) (M:=M) (w0:=w0) h2
   exact ⟨hl1,r1,g0,π,o,B0,p1,b1,id,by rw [hne hn],.inl ⟨rfl,rfl,fun hh => hn hh.1⟩⟩
 refine ⟨setρ ρ r η,?_,?_,hdf,?_,⟨hbl.os,hbl.tape,hbl.output,by simpa using hbl.size,fun k hk hm => ?_⟩,Γ.st _ _ hgl fun b hb => heap b ?_,hgn⟩
 ·rw [hlen];exact Sl.killF_ok ht htm
 ·rw [hlen];exact okL_killF ht hfr
 ·rw [hlen]
  refine ⟨fun r1 g1 π o B h1 h2 => ?_,fun r1 g1 π o B h1 h2 hv1 => ?_,fun r1 g1 π B h1 h2 hv1 => ?_,fun r1 r2 g1 g2 π π' o' B B' h1 h2 k1 k2 v1 v2 hn => ?_⟩
  ·rcases get r1 g1 h1 with ⟨rfl,rfl⟩ | ⟨hn,hl1,g0,p1,rfl⟩
   ·rcases h2 with ⟨rfl,rfl,rfl⟩ | ⟨j,rfl,ho,hj,_,rfl⟩
    ·refine ⟨rfl,by rw [setρ_at,η0];exact hv,?_⟩
     rw [setρ_at,η0]
     exact hobj η (fun j hj => ηj _ (by simpa using hj)) ηk _ new
    ·show Ar.lies _ (setρ ρ r1 η r1) [(j,0)] _
     rw [setρ_at]
     rcases content j hj with ⟨rfl,hc⟩ | ⟨hjk,hj',hc⟩
     ·rw [hc]
      have hl : Ar.lies w (ρ st.rg.length) [] ⟨e,tg,ys⟩:=hrs.blk _ _ [] b _ hA hasA
      exact lies_flat_at hf ηk (hl.later (fun _ => rfl) (fun hv1 => other _ _ [] b _ hA hasA (fun hh => by have:=hh.1;omega) hv1))
     ·rw [hc]
      have hh : (Reg.mps t kk e tg es true inn).has [(j,0)] inn (.arr ⟨e,tg,(es.getD j (Tup.d kk,[])).2⟩):=.inr ⟨j,rfl,rfl,hj',hf,rfl⟩
      have hl : Ar.lies w (ρ r1) [(j,0)] ⟨e,tg,(es.getD j (Tup.d kk,[])).2⟩:=hrs.blk _ _ _ inn _ hr0 hh
      exact lies_flat_at hf (ηj _ (by simpa using hjk)) (hl.later (fun _ => rfl) (fun hv1 => other _ _ _ inn _ hr0 hh (fun hh => by simp at hh) hv1))
   ·obtain ⟨B0,b1,b2,_⟩:=killF_has (ρ:=ρ) (M:=M) (w0:=w0) h2
    refine b2 _ _ r1 _ ht hn ?_
    exact (hrs.blk r1 g0 π o B0 p1 b1).later (fun _ => rfl) (Nat.le_refl _) (fun _ _ _ => rfl) (fun hv1 => other r1 g0 π o B0 p1 b1 (fun hh => hn hh.1.symm) hv1)
  ·obtain ⟨_,rs,g,πs,f,B0,p1,p2,_,p4,_⟩:=spot r1 g1 π o B h1 h2
   rw [p4] at hv1 ⊢
   simpa using hrs.lt rs g πs f B0 p1 p2 hv1
  ·rcases get r1 g1 h1 with ⟨rfl,rfl⟩ | ⟨hn,hl1,g0,p1,rfl⟩
   ·rcases h2 with ⟨rfl,ho,rfl⟩ | ⟨j,rfl,ho,hj,_,rfl⟩
    ·rw [setρ_at,η0]
     exact ⟨hmine.own,fun j => by simp only [World.frozen?];rw [new]⟩
    ·obtain ⟨ho1,ho2⟩:=bAnd_true ho.symm
     rw [setρ_at] at hv1 ⊢
     rcases content j hj with ⟨rfl,hc⟩ | ⟨hjk,hj',hc⟩
     ·rw [ηk] at hv1 ⊢
      subst ho2
      have:=(hrs.own _ _ [] _ hA hasA hv1).later (w':={ w with heap:=w.heap.setIfInBounds (ρ r1 []).b (.map obj obj.size) }) (other _ _ [] _ _ hA hasA (fun hh => by have:=hh.1;omega) hv1)
      exact this
     ·rw [ηj _ (by simpa using hjk)] at hv1 ⊢
      subst ho1
      have hh : (Reg.mps t kk e tg es true true).has [(j,0)] true (.arr ⟨e,tg,(es.getD j (Tup.d kk,[])).2⟩):=.inr ⟨j,rfl,rfl,hj',hf,rfl⟩
      have:=(hrs.own _ _ _ _ hr0 hh hv1).later (w':={ w with heap:=w.heap.setIfInBounds (ρ r1 []).b (.map obj obj.size) }) (other _ _ _ _ _ hr0 hh (fun hh => by simp at hh) hv1)
      exact this
   ·obtain ⟨B0,b1,_,b3⟩:=killF_has (ρ:=ρ) (M:=M) (w0:=w0) h2
    rw [hne hn] at hv1 ⊢
    exact b3 _ _ ((hrs.own r1 g0 π B0 p1 b1 hv1).later (other r1 g0 π true B0 p1 b1 (fun hh => hn hh.1.symm) hv1))
  ·obtain ⟨l1,rs,g,πs,f,B0,p1,p2,p3,p4,p5⟩:=spot r1 g1 π true B h1 k1
   obtain ⟨l2,rs',g',πs',f',B0',q1,q2,_,q4,q5⟩:=spot r2 g2 π' o' B' h2 k2
   rw [p4] at v1 ⊢;rw [q4] at v2 ⊢
   obtain rfl:=p3 rfl
   refine hrs.dj rs rs' g g' πs πs' f' B0 B0' p1 q1 p2 q2 v1 v2 ?_
   rintro ⟨e1,e2⟩
   rcases p5 with ⟨a1,a2,a3⟩ | ⟨a1,a2,a3,a4⟩ <;> rcases q5 with ⟨b1,b2,b3⟩ | ⟨b1,b2,b3,b4⟩
   ·exact hn ⟨a1.symm.trans (e1.trans b1),a2.symm.trans (e2.trans b2)⟩
   ·omega
   ·omega
   ·exact hn ⟨a1.trans b1.symm,a2.trans b2.symm⟩
 ·have e : k ≠ (ρ r []).b:=fun e => by
   subst e
   rcases hmine.own with ho | ho
   ·exact hm ho
   ·omega
  exact (heap k e).trans (hbl.block k hk hm)
 ·have:=hgn b hb
  rcases hmine.own with ho | ho
  ·intro e;subst e;exact this.1 ho
  ·omega
theorem isMps_sound {m : Operand} {r : Nat} (h : isMps st m = some r) : ev st m = some (.a (.mp r)) ∧ ∃ t kk e tg es o i,st.rg[r]? = some (.mps t kk e tg es o i):=by
 unfold isMps at h
 split at h
 ·rename_i r' h1
  split at h
  ·rename_i t kk e tg es o i hg
   obtain rfl:=Option.some.inj h
   exact ⟨h1,t,kk,e,tg,es,o,i,getD_reg hg (by simp)⟩
  ·cases h
 ·cases h
theorem mpsLook_sound (hE : EnvOk P Γ E) (h : Rel Γ M w0 ρ st vs a w) {d : Option Nat} {t : TypeId} {m n : Operand} {ok : Bool} {r : Nat} {K : St → Prop} (hr : isMps st m = some r) (hm : mpsLook E st d t r n ok K) :
  ∃ y x,(Instr.lookup t (a.eval m) (a.eval n) ok).run P w = .ok y w ∧ x.ok st.rg.length ρ y ∧ K (st.put d x):=by
 obtain ⟨h0,_⟩:=isMps_sound hr
 unfold mpsLook at hm
 split at hm
 ·rename_i kt et l t' kk e tg es o i ht hn hg
  split at hm
  ·rename_i kk' e' tg' k hk hv hc
   split at hm
   ·rename_i q1 q2 q3 _ _ _
    obtain rfl:=q1.down
    obtain ⟨ns,hko⟩:=keyTy_sound hE hk
    obtain ⟨_,_,hz⟩:=valTy_sound hE hv
    obtain ⟨hu,_⟩:=hE.tyMap ht
    obtain ⟨hr',em⟩:=ev_sound h h0
    obtain ⟨ys,en,hys⟩:=ev_sound h hn
    obtain rfl:=ofCells_vals hc hys
    have hgr:=getD_reg hg (by simp)
    obtain ⟨_,_,hat⟩:=h.rs.blk r _ [] o (.mps kk' tg es) hgr (.inl ⟨rfl,rfl,rfl⟩)
    obtain ⟨v,hrun,f1,f2⟩:=run_lookup_maps (P:=P) hu hko hz hat k ok
    rw [em,en]
    have hrun:=hrun w rfl
    have hle:=kix_le (k:=k) es
    rcases Nat.lt_or_ge (kix kk' k es) es.length with hlt | hge
    ·have hk1:=hm.1 _ rfl hlt
     rw [St.putK_iff] at hk1
     refine ⟨_,_,hrun,?_,hk1.2⟩
     rw [show decide (kix kk' k es < es.length) = true from decide_eq_true hlt]
     cases ok with
     | true => exact ⟨[_,_],rfl,⟨hr',f1 hlt⟩,rfl,trivial⟩
     | false => exact ⟨hr',f1 hlt⟩
    ·have hk1:=hm.2 (by omega)
     rw [St.putK_iff] at hk1
     refine ⟨_,_,hrun,?_,hk1.2⟩
     obtain rfl:=f2 (by omega)
     rw [show decide (kix kk' k es < es.length) = false from decide_eq_false (by omega)]
     cases ok with
     | true => exact ⟨[_,_],rfl,⟨rfl,rfl⟩,rfl,trivial⟩
     | false => exact ⟨rfl,rfl⟩
   ·exact hm.elim
  ·exact hm.elim
 ·exact hm.elim
theorem mpsSetK_sound (hE : EnvOk P Γ E) (h : Rel Γ M w0 ρ st vs a w) {d : Option Nat} {t : TypeId} {m n x : Operand} {r : Nat} {K : St → Prop} (hr : isMps st m = some r) (hm : mpsSetK E st d t r n x K) :
  ∃ w' st' ρ',(Instr.mapUpdate t (a.eval m) (a.eval n) (a.eval x)).run P w = .ok () w' ∧ Rel Γ M w0 ρ' st' vs a w' ∧ K (st'.put d (.a .un)):=by
 obtain ⟨h0,_⟩:=isMps_sound hr
 unfold mpsSetK at hm
 split at hm
 ·rename_i kt et l xa ht hn hx
  split at hm
  ·rename_i kk e tg hk hv
   split at hm
   ·rename_i k hc
    obtain ⟨htg,hflat,_⟩:=valTy_sound hE hv
    have hxo:=ev_sound h hx
    obtain ⟨st',ys,b,η,hK,hless,hside,hhead⟩:=grabK_sound (held:=[]) ⟨by rw [List.append_nil];exact h.rs⟩ hxo htg hm
    simp only [List.nil_append,List.length_nil,Nat.add_zero] at hside
    split at hK
    ·rename_i t' kk' e' tg' es inn hg
     split at hK
     ·rename_i q1 q2 q3 _ _ _
      obtain rfl:=q1.down
      obtain rfl:=q2.down
      obtain rfl:=q3.down
      rw [St.mapK_eq,St.setNK_eq,St.putK_iff] at hK
      obtain ⟨ns,hko⟩:=keyTy_sound hE hk
      obtain ⟨hu,_⟩:=hE.tyMap ht
      obtain ⟨hr',em⟩:=ev_sound h h0
      obtain ⟨us,en,hus⟩:=ev_sound h hn
      obtain rfl:=ofCells_vals hc hus
      have hgr:=getD_reg hg (by simp)
      have hlt : r < st'.rg.length:=reg_lt hgr
      have eρ : setρ ρ st.rg.length η r = ρ r:=setρ_lt hr'
      obtain ⟨_,_,hat⟩:=hside.rs.blk r _ [] true (.mps kk tg es) (reg_side hgr) (.inl ⟨rfl,rfl,rfl⟩)
      obtain ⟨obj,hrun,hobj⟩:=run_put_maps (P:=P) (xs:=ys) hu hko hat k (a.eval x)
      have hN : st'.rg.length = st.rg.length:=hless.len
      obtain ⟨ρ',hrel⟩:=hside.putMps (Γ:=Γ) (vs:=vs) (a:=a) hN
       (by rw [hless.tm];exact h.tm.mono (Nat.le_refl _) (fun r hr π => by rw [setρ_lt hr]))
       (by rw [hless.fr];exact h.fr.mono fun _ _ hh => hh.mono (Nat.le_refl _) (fun r hr π => by rw [setρ_lt hr])) h.df h.bl h.gl h.gn hgr hflat k
       (fun η' p1 p2 w' hw' => hobj η' p1 (by rw [p2,setρ_at];exact hhead) w' hw')
      refine ⟨_,_,ρ',?_,hrel,hK.2⟩
      rw [em,en]
      rw [eρ] at hrun ⊢
      exact hrun
     ·exact hK.elim
    ·exact hK.elim
   ·exact hm.elim
  ·exact hm.elim
 ·exact hm.elim
end
end Go.Sy
end
section
namespace Go.Sy
open Go Go.RowKit
universe u
section
variable {P : Program} {Γ : Glob} {E : Env} {M : Nat → Prop} {w0 : World} {ρ : Keys} {st : St} {vs : Fv} {a : Act} {w : World}
theorem Rel.put (h : Rel Γ M w0 ρ st vs a w) (d : Option Nat) {x : Tm} {y : Value} (hx : x.ok st.rg.length ρ y) : Rel Γ M w0 ρ (st.put d x) vs (a.put d y) w:=by
 cases d with
 | none => exact h
 | some d => exact ⟨by simpa [St.put,Act.put] using h.tm.put d hx,h.fr,h.df,h.rs,h.bl,h.gl,h.gn⟩
theorem intArg_sound (h : Rel Γ M w0 ρ st vs a w) {o : Operand} {n : Int} (he : intArg st o = some n) : ∃ k,a.eval o = .int k n:=by
 unfold intArg at he
 split at he
 ·rename_i k m hx
  simp only [Option.some.injEq] at he
  subst he
  exact ⟨k,(ev_sound h hx).1⟩
 ·cases he
theorem made_get (z : List Value) (n i s : Nat) (hi : i < n) (hs : s < z.length) : (madeCells z.toArray (n * z.length)).toList[i * z.length + s]? = z[s]?:=by
 have hlt : i * z.length + s < n * z.length:=by
  have : (i + 1) * z.length ≤ n * z.length:=Nat.mul_le_mul_right _ hi
  rw [Nat.add_mul] at this
  omega
 simp only [madeCells,Array.toList_map,Array.toList_range,List.getElem?_map,List.getElem?_range hlt,Option.map_some,List.size_toArray]
 rw [Nat.mul_comm i,Nat.mul_add_mod,Nat.mod_eq_of_lt hs]
 rw [List.getElem?_eq_getElem hs]
 congr 1
 simp [hs]
theorem mapSetK_sound (hE : EnvOk P Γ E) (h : Rel Γ M w0 ρ st vs a w) {d : Option Nat} {t : TypeId} {m n x : Operand} {K : St → Prop} (hm : mapSetK E st d t m n x K) :
  ∃ w' st',(Instr.mapUpdate t (a.eval m) (a.eval n) (a.eval x)).run P w = .ok () w' ∧ Rel Γ M w0 ρ st' vs a w' ∧ K (st'.put d (.a .un)):=by
 unfold mapSetK at hm
 split at hm
 ·rename_i kt et r k' n0 xa ht h1 h2 h3
  split at hm
  ·rename_i k t' k2 c es hk hg
   split at hm
   ·rename_i v hs1 hs2 hv
    obtain rfl:=sameKind_eq hs1
    obtain rfl:=sameKind_eq hs2
    rw [St.setNK_eq,St.putK_iff] at hm
    obtain ⟨hu,_⟩:=hE.tyMap ht
    obtain ⟨hr,em⟩:=ev_sound h h1
    obtain ⟨en,_⟩:=ev_sound h h2
    have ex:=ofAt_val hv (ev_sound h h3)
    have hgr:=getD_reg hg (by simp)
    obtain ⟨_,_,hat⟩:=h.rs.blk r _ [] true (.map k2 c es) hgr ⟨rfl,rfl,rfl⟩
    obtain ⟨ents,hrun,e1,e2⟩:=run_mapUpdate_map hu (k:=k2) (by have:=hE.ty kt;rw [hk] at this;exact this.1) hat n0 v
    refine ⟨_,_,?_,h.writeMap hgr e1 e2,hm.2⟩
    rw [em,en,ex];exact hrun
   ·exact hm.elim
  ·exact hm.elim
 ·exact hm.elim
theorem run_nil {t e : TypeId} (hu : P.underlying t = some (.slice e)) {op : BinOp} {b : Bool} (hb : nilOp op = some b) (u v : Operand) (ad : Option Addr) (n c n' c' : Nat) :
  (do eqGuard op t u v (.slice ad n c) (.slice none n' c');binOp op t (.slice ad n c) (.slice none n' c') : Sem Value).run P w = .ok (.bool (if ad.isNone then !b else b)) w:=by
 unfold nilOp at hb
 split at hb
 ·obtain rfl:=Option.some.inj hb
  rw [Sem.run_bind,show (eqGuard .eql t u v (.slice ad n c) (.slice none n' c')).run P w = .ok () w by simp [eqGuard],Result.andThen_ok,Lib.run_eql_slice_nil w t e ad n c n' c' hu]
  cases ad <;> rfl
 ·obtain rfl:=Option.some.inj hb
  rw [Sem.run_bind,show (eqGuard .neq t u v (.slice ad n c) (.slice none n' c')).run P w = .ok () w by simp [eqGuard],Result.andThen_ok,run_neq_slice_nil_any w t e ad n c n' c' hu]
  cases ad <;> rfl
 ·cases hb
theorem head_some {K : RI} {lo n : Nat} {y : Value} (h : K.head lo n y) : ∃ ad c,y = .slice ad n c ∧ (0 < n → ad.isNone = false):=by
 cases hv : K.void with
 | true => obtain ⟨rfl,ad,e⟩:=h.1 hv;exact ⟨ad,0,e,fun h => absurd h (by omega)⟩
 | false =>
   obtain ⟨_,ad,e,h2⟩:=h.2 hv
   exact ⟨ad,_,e,fun h => by rw [h2 (by omega)];rfl⟩
theorem nilK_sound (hE : EnvOk P Γ E) (h : Rel Γ M w0 ρ st vs a w) {d : Option Nat} {t : TypeId} {op : BinOp} {x y : Operand} {K : St → Prop} (hm : nilK E st d t op (ev st x) (ev st y) K) :
  ∃ z zt,(do eqGuard op t x y (a.eval x) (a.eval y);binOp op t (a.eval x) (a.eval y) : Sem Value).run P w = .ok z w ∧ zt.ok st.rg.length ρ z ∧ K (st.put d zt):=by
 unfold nilK at hm
 split at hm
 ·rename_i e m b x' n' c' ht hb hx hy
  obtain ⟨hu,_⟩:=hE.tySl ht
  have hy' : a.eval y = .slice none n' c':=(ev_sound h hy).1
  rw [hy']
  split at hm
  ·rename_i n c
   have hx' : a.eval x = .slice none n c:=(ev_sound h hx).1
   rw [hx',run_nil hu hb]
   split at hm
   ·rw [St.putK_iff] at hm
    exact ⟨_,.a .ff,rfl,rfl,hm.2⟩
   ·rw [St.putK_iff] at hm
    exact ⟨_,.a .tt,rfl,rfl,hm.2⟩
  ·obtain ⟨ad,hx'⟩:=ev_sound h hx
   split at hm
   ·exact hm.elim
   ·rw [hx',run_nil hu hb]
    have hk:=hm (if ad.isNone then !b else b)
    rw [St.putK_iff] at hk
    exact ⟨_,bl _,rfl,⟨rfl,rfl⟩,hk.2⟩
  ·rename_i r π lo n
   obtain ⟨ad,c,hx',h0⟩:=head_some (ev_sound h hx).2
   rw [hx',run_nil hu hb]
   split at hm
   ·rw [oblige_iff] at hm
    obtain ⟨⟨hn,_⟩,hk⟩:=hm
    simp only [Duty.of_p] at hn
    rw [St.putK_iff] at hk
    refine ⟨_,_,rfl,?_,hk.2⟩
    rw [h0 hn]
    cases b <;> rfl
   ·have hk:=hm (if ad.isNone then !b else b) (fun hn => by rw [h0 hn];rfl)
    rw [St.putK_iff] at hk
    exact ⟨_,bl _,rfl,⟨rfl,rfl⟩,hk.2⟩
  ·exact hm.elim
 ·exact hm.elim
theorem run_build0 (hE : EnvOk P Γ E) {t e : TypeId} {m : Nat} (ht : E.ty t = .sl e m) {tg : List CK} (hD : E.kd e = some tg) {parts : Array (Nat × Value)} (hp : parts.toList = []) :
  (Instr.buildSlice t 0 parts).run P w = .ok (.slice (some ⟨w.heap.size,0,none⟩) 0 0) (w.alloc (.cells #[] e)):=by
 obtain ⟨hu,_,_⟩:=hE.tySl ht
 obtain ⟨hne,⟨i,z,h1,h2,h3,h4,_⟩⟩:=hE.kd e tg hD
 simp only [Instr.buildSlice,run_underlying hu,Sem.run_bind,Result.andThen_ok]
 simp only [sizeOf,typeInfo,h1,Sem.run_bind,run_program,Result.andThen_ok,Sem.run_pure,h2]
 rw [if_neg (by omega),if_pos (by omega)]
 simp only [Sem.run_bind,Sem.run_pure,Result.andThen_ok,hp,Instr.fill]
 simp [newRow]
 rw [show (Array.range 0) = #[] from by decide]
 simp only [List.map_toArray,List.map_nil]
theorem evM_sound (hE : EnvOk P Γ E) (h : Rel Γ M w0 ρ st vs a w) {o : Oper} {K : St → Prop} (hm : evM E st o K) {next : Act → World → Prop} {Q : Exit → Act → World → Prop}
  (hK : ∀ st' a' w' ρ',K st' → Rel Γ M w0 ρ' st' vs a' w' → (notStore o = true → Below w.heap.size w w') → next a' w') : o.wp P a w next Q:=by
 unfold evM at hm
 unfold Oper.wp
 split at hm
 ·-- box
  rename_i t x hop
  split at hm
  ·exact hm.elim
  ·rename_i xv hx hno
   split at hm
   ·rename_i l hl
    split at hm
    ·obtain ⟨c1,_,_⟩:=tmCells_sound (ev_sound h hx) hl
     simp only [lenC_eq,St.pushK_eq,St.putK_iff] at hm
     have hrun : (execOp a.eval o).run P w = .ok (.value (.pointer (some ⟨w.heap.size,0,none⟩))) (w.alloc (.cells (a.eval x).cells.toList.toArray t)):=by
      simp [execOp,hop,Instr.box,newVar,newRow]
     rw [hrun]
     refine hK _ _ _ _ hm.2 ((h.box c1 t).put o.dst ⟨by simp [St.push],?_⟩) (fun _ => below_alloc _)
     rw [setρ_at];simp [RI.at,boxRI]
    ·exact hm.elim
   ·exact hm.elim
  ·exact hm.elim
 ·-- alloc
  rename_i t hop
  split at hm
  ·exact hm.elim
  ·rename_i z hz hno
   obtain ⟨_,i,zv,h1,h2,h3⟩:=hE.zero _ _ hz
   simp only [lenC_eq,St.pushK_eq,St.putK_iff] at hm
   have hrun : (execOp a.eval o).run P w = .ok (.value (.pointer (some ⟨w.heap.size,0,none⟩))) (w.alloc (.cells zv.cells.toList.toArray t)):=by
    simp [execOp,hop,Instr.alloc,newVar,newRow,zeroValue,typeInfo,h1,h2]
   rw [hrun]
   refine hK _ _ _ _ hm.2 ((h.box (h3 _ _) t).put o.dst ⟨by simp [St.push],?_⟩) (fun _ => below_alloc _)
   rw [setρ_at];simp [RI.at,boxRI]
  ·exact hm.elim
 ·-- store
  rename_i t ad x hop
  split at hm
  ·exact hm.elim
  ·rename_i r π i j xv ha hx hno
   split at hm
   ·rename_i l hl
    split at hm
    ·rename_i hlen
     obtain ⟨c1,_,c3⟩:=tmCells_sound (ev_sound h hx) hl
     obtain ⟨hr,hp⟩:=ev_sound h ha
     obtain ⟨w',st',ρ',hrun,hrel,hk⟩:=storeK2_sound hE h hno hr c1 c3 (lenIs_length hlen) hm
     rw [St.putK_iff] at hk
     have hrun' : (execOp a.eval o).run P w = .ok .skip w':=by
      simp [execOp,hop,hp,hrun]
     rw [hrun']
     exact hK _ _ _ _ hk.2 (hrel.put o.dst (x:=.a .un) (y:=undef) rfl) (fun hns => by simp [notStore,hop] at hns)
    ·exact hm.elim
   ·exact hm.elim
  ·exact hm.elim
 ·-- binOp
  rename_i op t x y hop
  obtain ⟨z,zt,hrun,hz,hk⟩:=nilK_sound hE h hm
  have hrun' : (execOp a.eval o).run P w = .ok (.value z) w:=by
   simp only [execOp,hop]
   change Sem.run P (do let x ← (do eqGuard _ _ _ _ _ _;binOp _ _ _ _ : Sem Value);pure (Next.value x)) w = _
   rw [Sem.run_bind,hrun];rfl
  rw [hrun']
  exact hK _ _ _ _ hk (h.put o.dst hz) (fun _ => Below.refl _ _)
 ·-- buildSlice
  rename_i t n parts hop
  split at hm
  ·rename_i e m ht
   split at hm
   ·rename_i tg hD
    split at hm
    ·rename_i hn0 hp
     obtain rfl:=Nat.eq_of_beq_eq_true hn0
     rw [St.putK_iff] at hm
     have hrun : (execOp a.eval o).run P w = .ok (.value (.slice (some ⟨w.heap.size,0,none⟩) 0 0)) (w.alloc (.cells #[] e)):=by
      simp only [execOp,hop,Sem.run_bind,run_build0 hE ht hD (parts:=parts.map fun (i,x) => (i,a.eval x)) (by simp [hp]),Result.andThen_ok,Sem.run_pure]
     rw [hrun]
     exact hK _ _ _ _ hm.2 ((h.later (below_alloc _)).put o.dst (x:=.a .z) ⟨_,rfl⟩) (fun _ => below_alloc _)
    have hside : Side M w0 w ρ st []:=⟨by simpa using h.rs⟩
    have hb : 0 < n ∧ n * tg.length ≤ 16777216:=by
     obtain ⟨st',xs,b,_,_,_,_,k1,_⟩:=litK_sound (a:=a) (hE.kn e tg hD) hside (fun o x hx => ev_sound h hx) hm
     split at k1
     ·rw [oblige_iff] at k1;exact ⟨k1.1.1,k1.1.2.1⟩
     ·exact k1.elim
    obtain ⟨st',xs,b,ρ',k1,k2,k3,k4,k5,k6⟩:=litK_new hE h ht hD (hE.kn e tg hD) hm hb.1 hb.2 (fun st xs b hk => by split at hk;assumption;exact hk.elim)
    split at k1
    ·rw [oblige_iff] at k1
     simp only [lenC_eq,St.pushK_eq,St.putK_iff,k5] at k1
     have hrun : (execOp a.eval o).run P w = .ok (.value (.slice (some ⟨w.heap.size,0,none⟩) n n)) (w.alloc (.cells ((parts.toList.flatMap fun p => (a.eval p.2).cells.toList)).toArray e)):=by
      simp only [execOp,hop,Sem.run_bind,k2,Result.andThen_ok,Sem.run_pure]
     rw [hrun]
     exact hK _ _ _ _ k1.2.2 (k3.put o.dst (x:=.a (.sl st.rg.length [] 0 n)) (by rw [show (st'.push [.arr e tg xs true b]).rg.length = st.rg.length + 1 by simp [St.push,k5]];exact k6)) (fun _ => below_alloc _)
    ·exact k1.elim
   ·exact hm.elim
  ·exact hm.elim
 ·-- makeSlice
  rename_i t len cap hop
  split at hm
  ·rename_i e m n c ht hn hc
   split at hm
   ·rename_i tg hD
    rw [oblige_iff] at hm
    obtain ⟨⟨h0,hnc,hsz,_⟩,hm⟩:=hm
    simp only [Duty.of_p] at h0 hnc hsz
    subst hnc
    simp only [lenC_eq,nameR_eq,St.pushK_eq,appPut_iff] at hm
    obtain ⟨kl,el⟩:=intArg_sound h hn
    obtain ⟨kc,ec⟩:=intArg_sound h hc
    obtain ⟨hu,_,_⟩:=hE.tySl ht
    obtain ⟨htg,i,z,hi,hs,hz,hzc,hby⟩:=hE.kd e tg hD
    have hpos : 0 < tg.length:=List.length_pos_iff.2 htg
    have hn1 : n ≤ 16777216:=Int.le_trans (by have:=Int.mul_le_mul_of_nonneg_left (show (1 : Int) ≤ tg.length by omega) h0;omega) hsz
    have hbytes : (i.bytes : Int) * n ≤ 281474976710656:=by
     have h1 : (i.bytes : Int) * n ≤ (32 * tg.length : Nat) * n:=Int.mul_le_mul_of_nonneg_right (by exact_mod_cast hby) h0
     have h2 : ((32 * tg.length : Nat) : Int) * n = 32 * (n * tg.length):=by push_cast;rw [Int.mul_assoc,Int.mul_comm (tg.length : Int)]
     omega
    have hrun:=run_make (P:=P) w t e i z hu hi hz kl kc n n h0 (Int.le_refl _) hbytes (by omega)
    have hzl : z.cells = (Tup.zero tg).toArray:=Array.ext' (by simpa using hzc)
    rw [hs,hzl] at hrun
    have hmade:=rel_made (te:=e) h htg (hE.kn e tg hD) (n:=n.toNat) (by simp only [maxLen];omega) (cs:=(madeCells (Tup.zero tg).toArray (n.toNat * tg.length)).toList) (by simp [madeCells])
     (fun i hi s hs => by have:=made_get (Tup.zero tg) n.toNat i s hi (by rw [zero_length];exact hs);rwa [zero_length] at this)
    simp only [Array.toArray_toList] at hmade
    have hrun' : (execOp a.eval o).run P w = .ok (.value (.slice (some ⟨w.heap.size,0,none⟩) n.toNat n.toNat)) (w.alloc (.cells (madeCells (Tup.zero tg).toArray (n.toNat * tg.length)) e)):=by
     simp [execOp,hop,el,ec,hrun]
    rw [hrun']
    refine hK _ _ _ _ hm.2 (hmade.put o.dst ⟨by simp [St.push],?_⟩) (fun _ => below_alloc _)
    rw [setρ_at]
    exact ⟨fun hv => by simp [gl_nil] at hv,fun _ => ⟨by simp [gl_nil],some ⟨w.heap.size,0,none⟩,by simp [gl_nil],fun _ => by simp [RI.at,gl_nil]⟩⟩
   ·exact hm.elim
  ·exact hm.elim
 ·-- makeMap
  rename_i t rv hop
  split at hm
  ·rename_i kt et ht
   have hrun : (execOp a.eval o).run P w = .ok (.value (.map (some w.heap.size))) (w.alloc (.map #[] 0)):=by
    simp [execOp,hop,Instr.makeMap]
   rw [hrun]
   split at hm
   ·rename_i kk e tg hk hc
    simp only [lenC_eq,St.pushK_eq,St.putK_iff] at hm
    refine hK _ _ _ _ hm.2 ((h.newMps t kk e tg).put o.dst ⟨by simp [St.push],?_⟩) (fun _ => below_alloc _)
    rw [setρ_at];rfl
   ·split at hm
    ·rename_i k c hk hc
     simp only [lenC_eq,St.pushK_eq,St.putK_iff] at hm
     refine hK _ _ _ _ hm.2 ((h.newMap t k c).put o.dst ⟨by simp [St.push],?_⟩) (fun _ => below_alloc _)
     rw [setρ_at];rfl
    ·exact hm.elim
  ·exact hm.elim
 ·-- range
  rename_i t x hop
  split at hm
  ·rename_i k et ht hx
   obtain ⟨hu,_⟩:=hE.tyMap ht
   have hv : a.eval x = .map none:=(ev_sound h hx).1
   simp only [lenC_eq,St.pushK_eq,St.putK_iff] at hm
   have hrun : (execOp a.eval o).run P w = .ok (.value (.pointer (some ⟨w.heap.size,0,none⟩))) (w.alloc (.mapIter none 0 #[] 0)):=by
    simp [execOp,hop,Instr.range,hv,run_underlying hu]
   rw [hrun]
   refine hK _ _ _ _ hm.2 ((h.newIter (m:=none) (n:=0) (fun r hr => by cases hr)).put o.dst ⟨by simp [St.push],?_⟩) (fun _ => below_alloc _)
   rw [setρ_at];rfl
  ·rename_i k et m ht hx
   obtain ⟨hu,_⟩:=hE.tyMap ht
   obtain ⟨hlt,hv⟩:=ev_sound h hx
   split at hm
   ·rename_i t2 k2 c2 es o2 hg
    simp only [cntC_eq,lenC_eq,St.pushK_eq,St.putK_iff] at hm
    obtain ⟨_,_,hmap⟩:=h.rs.blk m _ [] o2 (.map k2 c2 es) (getD_reg hg (by simp)) ⟨rfl,rfl,rfl⟩
    obtain ⟨ents,h1,h2,_⟩:=mapAt_get hmap
    have hrun : (execOp a.eval o).run P w = .ok (.value (.pointer (some ⟨w.heap.size,0,none⟩))) (w.alloc (.mapIter (some (ρ m []).b) es.length #[] es.length)):=by
     rw [← h2]
     simp [execOp,hop,Instr.range,hv,run_underlying hu,getObj,Sem.run,h1]
    rw [hrun]
    refine hK _ _ _ _ hm.2 ((h.newIter (m:=some m) (n:=es.length) (fun r hr => by cases hr;exact hlt)).put o.dst ⟨by simp [St.push],?_⟩) (fun _ => below_alloc _)
    rw [setρ_at];rfl
   ·rename_i t2 kk2 e2 tg2 es o2 i2 hg
    simp only [cntC_eq,lenC_eq,St.pushK_eq,St.putK_iff] at hm
    obtain ⟨_,_,ents,h1,h2,_⟩:=h.rs.blk m _ [] o2 (.mps kk2 tg2 es) (getD_reg hg (by simp)) (.inl ⟨rfl,rfl,rfl⟩)
    have hrun : (execOp a.eval o).run P w = .ok (.value (.pointer (some ⟨w.heap.size,0,none⟩))) (w.alloc (.mapIter (some (ρ m []).b) es.length #[] es.length)):=by
     rw [← h2]
     simp [execOp,hop,Instr.range,hv,run_underlying hu,getObj,Sem.run,h1]
    rw [hrun]
    refine hK _ _ _ _ hm.2 ((h.newIter (m:=some m) (n:=es.length) (fun r hr => by cases hr;exact hlt)).put o.dst ⟨by simp [St.push],?_⟩) (fun _ => below_alloc _)
    rw [setρ_at];rfl
   ·exact hm.elim
  ·exact hm.elim
 ·-- next
  rename_i x isStr hop
  split at hm
  ·rename_i r hx
   obtain ⟨hlt,hv⟩:=ev_sound h hx
   split at hm
   ·rename_i n seen hg
    obtain ⟨_,_,_,h4⟩:=h.rs.blk r _ [] true (.it none n seen) (getD_reg hg (by simp)) ⟨rfl,rfl,rfl⟩
    rw [St.putK_iff] at hm
    have hrun : (execOp a.eval o).run P w = .ok (.value (.tuple #[.bool false])) w:=by
     simp [execOp,hop,Instr.next,hv,getObj,Sem.run,h4]
    rw [hrun]
    exact hK _ _ _ _ hm.2 (h.put o.dst (x:=.tup [.a .ff]) ⟨[.bool false],rfl,rfl,trivial⟩) (fun _ => Below.refl _ _)
   ·rename_i m n seen hg
    split at hm
    ·rename_i t k c es own hgm
     rw [oblige_iff] at hm
     obtain ⟨⟨hn,_⟩,hm1,hm2⟩:=hm
     simp only [Duty.of_p] at hn
     have hgr:=getD_reg hg (by simp)
     obtain ⟨_,_,i3,i4⟩:=h.rs.blk r _ [] true (.it (some m) n seen) hgr ⟨rfl,rfl,rfl⟩
     obtain ⟨_,_,i6⟩:=h.rs.blk m _ [] own (.map k c es) (getD_reg hgm (by simp)) ⟨rfl,rfl,rfl⟩
     rcases run_next_mapAt (P:=P) (ty:=o.type) i6 i4 hn with ⟨hall,hrun0⟩ | ⟨j,hj,hns,w1,hw1,hrun0⟩
     ·have hk:=hm2 fun j hj => memN_true (hall j hj)
      rw [St.putK_iff] at hk
      have hrun : (execOp a.eval o).run P w = .ok (.value (.tuple #[.bool false])) w:=by
       simp [execOp,hop,hv,hrun0]
      rw [hrun]
      exact hK _ _ _ _ hk.2 (h.put o.dst (x:=.tup [.a .ff]) ⟨[.bool false],rfl,rfl,trivial⟩) (fun _ => Below.refl _ _)
     ·have hk:=hm1 j hj (memN_not hns)
      simp only [St.setRK_eq,St.putK_iff] at hk
      have h1 : Rel Γ M w0 ρ st vs a w1:=by
       rcases hw1 with rfl | rfl
       ·exact h
       ·exact h.later ((Below.refl _ _).drew)
      have hrun : (execOp a.eval o).run P w = .ok (.value (.tuple #[.bool true,.int k (es.getD j (0,c.d)).1,c.val (es.getD j (0,c.d)).2])) (w1.putObj (ρ r []).b (.mapIter (some (ρ m []).b) n (j :: seen).reverse.toArray n)):=by
       simp only [execOp,hop,hv,Sem.run_bind,hrun0,Result.andThen_ok,Sem.run_pure]
       rfl
      rw [hrun]
      exact hK _ _ _ _ hk.2 ((h1.nextIter (seen':=j :: seen) hgr).put o.dst (x:=.tup [.a .tt,.a (.v (.int k (es.getD j (0,c.d)).1)),.a (c.pl (es.getD j (0,c.d)).2)]) ⟨[.bool true,.int k (es.getD j (0,c.d)).1,c.val (es.getD j (0,c.d)).2],rfl,rfl,⟨rfl,rfl⟩,pl_ok,trivial⟩) (fun hns => by simp [notStore,hop] at hns)
    ·rename_i t kk e tg es own inn hgm
     rw [oblige_iff] at hm
     obtain ⟨⟨hn,_⟩,hm1,hm2⟩:=hm
     simp only [Duty.of_p] at hn
     have hgr:=getD_reg hg (by simp)
     obtain ⟨_,_,i3,i4⟩:=h.rs.blk r _ [] true (.it (some m) n seen) hgr ⟨rfl,rfl,rfl⟩
     obtain ⟨_,_,i6⟩:=h.rs.blk m _ [] own (.mps kk tg es) (getD_reg hgm (by simp)) (.inl ⟨rfl,rfl,rfl⟩)
     rcases run_next_mapsAt (P:=P) (ty:=o.type) i6 i4 hn with ⟨hall,hrun0⟩ | ⟨j,hj,hns,v,w1,hw1,hrun0⟩
     ·have hk:=hm2 fun j hj => memN_true (hall j hj)
      rw [St.putK_iff] at hk
      have hrun : (execOp a.eval o).run P w = .ok (.value (.tuple #[.bool false])) w:=by
       simp [execOp,hop,hv,hrun0]
      rw [hrun]
      exact hK _ _ _ _ hk.2 (h.put o.dst (x:=.tup [.a .ff]) ⟨[.bool false],rfl,rfl,trivial⟩) (fun _ => Below.refl _ _)
     ·have hk:=hm1 j hj (memN_not hns)
      simp only [St.setRK_eq,St.putK_iff] at hk
      have h1 : Rel Γ M w0 ρ st vs a w1:=by
       rcases hw1 with rfl | rfl
       ·exact h
       ·exact h.later ((Below.refl _ _).drew)
      have hrun : (execOp a.eval o).run P w = .ok (.value (.tuple #[.bool true,.agg (Tup.vals kk (es.getD j (Tup.d kk,[])).1).toArray,v])) (w1.putObj (ρ r []).b (.mapIter (some (ρ m []).b) n (j :: seen).reverse.toArray n)):=by
       simp only [execOp,hop,hv,Sem.run_bind,hrun0,Result.andThen_ok,Sem.run_pure]
       rfl
      rw [hrun]
      exact hK _ _ _ _ hk.2 ((h1.nextIter (seen':=j :: seen) hgr).put o.dst (x:=.tup [.a .tt,.agg (Tup.pls kk (es.getD j (Tup.d kk,[])).1),.a .any]) ⟨[.bool true,.agg (Tup.vals kk (es.getD j (Tup.d kk,[])).1).toArray,v],rfl,rfl,⟨_,rfl,pls_ok _ _⟩,trivial,trivial⟩) (fun hns => by simp [notStore,hop] at hns)
    ·exact hm.elim
   ·exact hm.elim
  ·exact hm.elim
 ·-- mapUpdate
  rename_i t m n x hop
  split at hm
  ·rename_i r hr
   obtain ⟨w',st',ρ',hrun,hrel,hk⟩:=mpsSetK_sound hE h hr hm
   have hrun' : (execOp a.eval o).run P w = .ok .skip w':=by simp [execOp,hop,hrun]
   rw [hrun']
   exact hK _ _ _ _ hk (hrel.put o.dst (x:=.a .un) (y:=undef) rfl) (fun hns => by simp [notStore,hop] at hns)
  ·obtain ⟨w',st',hrun,hrel,hk⟩:=mapSetK_sound hE h hm
   have hrun' : (execOp a.eval o).run P w = .ok .skip w':=by simp [execOp,hop,hrun]
   rw [hrun']
   exact hK _ _ _ _ hk (hrel.put o.dst (x:=.a .un) (y:=undef) rfl) (fun hns => by simp [notStore,hop] at hns)
 ·-- insert
  rename_i t m n x hop
  split at hm
  ·rename_i r hr
   obtain ⟨w',st',ρ',hrun,hrel,hk⟩:=mpsSetK_sound hE h hr hm
   have hrun' : (execOp a.eval o).run P w = .ok .skip w':=by simp [execOp,hop,hrun]
   rw [hrun']
   exact hK _ _ _ _ hk (hrel.put o.dst (x:=.a .un) (y:=undef) rfl) (fun hns => by simp [notStore,hop] at hns)
  ·obtain ⟨w',st',hrun,hrel,hk⟩:=mapSetK_sound hE h hm
   have hrun' : (execOp a.eval o).run P w = .ok .skip w':=by simp [execOp,hop,hrun]
   rw [hrun']
   exact hK _ _ _ _ hk (hrel.put o.dst (x:=.a .un) (y:=undef) rfl) (fun hns => by simp [notStore,hop] at hns)
 ·-- lookup
  rename_i t m n ok hop
  split at hm
  ·rename_i r hr
   obtain ⟨y,x,hrun,hx,hk⟩:=mpsLook_sound hE h hr hm
   have hrun' : (execOp a.eval o).run P w = .ok (.value y) w:=by simp [execOp,hop,hrun]
   rw [hrun']
   exact hK _ _ _ _ hk (h.put o.dst hx) (fun _ => Below.refl _ _)
  ·exact hm.elim
 ·-- append
  rename_i c hop
  split at hm
  ·rename_i hcal
   split at hm
   ·rename_i s x t t' hargs htys
    split at hm
    ·rename_i sv xv ht hs hx
     obtain rfl:=Nat.eq_of_beq_eq_true ht
     obtain ⟨v,w',st',ρ',y,hrun,hrel,hy,_,hk⟩:=appK1_sound (ty:=o.type) hE h (ev_sound h hs) (ev_sound h hx) hm
     have e1 : c = { callee:=.builtin .append,args:=#[s,x],argTypes:=#[t,t] }:=by
      cases c with
      | mk callee args argTypes =>
        simp only at hcal hargs htys
        congr 1
        ·exact Array.ext' (by simpa using hargs)
        ·exact Array.ext' (by simpa using htys)
     subst e1
     have hrun' : (execOp a.eval o).run P w = .ok (.value v) w':=by
      simp [execOp,hop,resolve,invoke,builtin,hrun]
     rw [hrun']
     exact hK _ _ _ _ hk (hrel.put o.dst hy) (fun hns => by simp [notStore,hop] at hns)
    ·rename_i n ht hs hx
     obtain ⟨v,w',st',ρ',y,hrun,hrel,hy,_,hk⟩:=appZ_sound (ty:=o.type) hE h hm
     have e1 : c = { callee:=.builtin .append,args:=#[s,x],argTypes:=#[t,t'] }:=by
      cases c with
      | mk callee args argTypes =>
        simp only at hcal hargs htys
        congr 1
        ·exact Array.ext' (by simpa using hargs)
        ·exact Array.ext' (by simpa using htys)
     subst e1
     have es : a.eval s = .slice none 0 0:=(ev_sound h hs).1
     have ex : a.eval x = .int .i64 n:=(ev_sound h hx).1
     have hrun' : (execOp a.eval o).run P w = .ok (.value v) w':=by
      simp [execOp,hop,resolve,invoke,builtin,es,ex,hrun]
     rw [hrun']
     exact hK _ _ _ _ hk (hrel.put o.dst hy) (fun hns => by simp [notStore,hop] at hns)
    ·exact hm.elim
   ·exact hm.elim
  ·exact hm.elim
 ·exact hm.elim
end
end Go.Sy
end
section
namespace Go.Sy
open Go Go.RowKit
universe u
structure FnOk (P : Program) (f : FuncId) : Prop where
 h : ∃ fn, P.funcs[f]? = some fn ∧ (fn.name == "runtime.NumGoroutine") = false ∧ fn.body.isNone = false
structure BodyOk (P : Program) (f : FuncId) (b : Body) : Prop where
 h : ∃ fn, P.funcs[f]? = some fn ∧ (fn.name == "runtime.NumGoroutine") = false ∧ fn.body = some b.code ∧ fn.ntmps = b.n ∧ fn.results = b.rs.toArray
structure ProgOk (P : Program) (Γ : Glob) (E : Env) : Prop where
 mixed : P.follows .mixedOrders = true
 fn : ∀ f c,E.ct f = some c → FnOk P f
 inl : ∀ f b,E.inl f = some b → BodyOk P f b
 env : EnvOk P Γ E
theorem BodyOk.fn {P : Program} {f : FuncId} {b : Body} (h : BodyOk P f b) : FnOk P f:=by
 obtain ⟨fn,h1,h2,h3,_⟩:=h.h
 exact ⟨fn,h1,h2,by rw [h3];rfl⟩
def ClOk (P : Program) (Γ : Glob) (E : Env) (cl : Cl) : Prop :=
 ∀ f b,E.inl f = some b → ∀ st args K,cl b args st K → ∀ (M : Nat → Prop) (w0 : World) (ρ : Keys) (vs : Fv) (a : Act) (w : World) (vals : List Value),Rel Γ M w0 ρ st vs a w → okL (Tm.ok st.rg.length ρ) args vals →
  Calls P f vals.toArray w fun e w' => ∃ v st' ρ' x,e = .returned v ∧ Rel Γ M w0 ρ' st' vs a w' ∧ Tm.ok st'.rg.length ρ' x v ∧ K x st'
section
variable {P : Program} {Γ : Glob} {E : Env} {cl : Cl} {M : Nat → Prop} {w0 : World} {ρ : Keys} {st : St} {vs : Fv} {a : Act} {w : World}
theorem evAll_sound (h : Rel Γ M w0 ρ st vs a w) : ∀ {os : List Operand} {l : List Tm},evAll st os = some l → okL (Tm.ok st.rg.length ρ) l (os.map a.eval)
 | [],l,he => by simp only [evAll,Option.some.injEq] at he;subst he;trivial
 | o :: os,l,he => by
   simp only [evAll] at he
   split at he
   ·rename_i x l' h1 h2
    simp only [Option.some.injEq] at he
    subst he
    exact ⟨ev_sound h h1,evAll_sound h h2⟩
   ·cases he
theorem evCallee_sound (h : Rel Γ M w0 ρ st vs a w) {fo : Operand} {f : FuncId} {caps : List Tm} (he : evCallee st fo = some (f,caps)) :
  ∃ us : List Value,a.eval fo = .func (.func f) #[] us.toArray ∧ okL (Tm.ok st.rg.length ρ) caps us:=by
 unfold evCallee at he
 split at he
 ·rename_i f' l hx
  simp only [Option.some.injEq,Prod.mk.injEq] at he
  obtain ⟨rfl,rfl⟩:=he
  obtain ⟨h1,h2⟩:=ev_sound h hx
  refine ⟨_,h2,?_⟩
  clear h2 hx
  induction l with
  | nil => trivial
  | cons r l ih => exact ⟨⟨h1 r (by simp),by simp⟩,ih fun r' hr' => h1 r' (by simp [hr'])⟩
 ·cases he
theorem run_call {f : FuncId} (hf : FnOk P f) {o : Oper} {c : Call} (ho : o.op = .call c) {fo : Operand} (hc : c.callee = .value fo) {us : List Value} (hv : a.eval fo = .func (.func f) #[] us.toArray) :
  (execOp a.eval o).run P w = .ok (.enter f ((c.args.toList.map a.eval) ++ us).toArray) w:=by
 obtain ⟨fn,h1,h2,h3⟩:=hf.h
 have e : (c.args.map a.eval) ++ us.toArray = ((c.args.toList.map a.eval) ++ us).toArray:=Array.ext' (by simp)
 cases c
 simp only at hc
 subst hc
 simp only [execOp,ho,resolve,hv,Deferred.ofValue]
 simp only [Sem.run_bind,Sem.run_pure,Result.andThen_ok,Array.empty_append,invoke]
 simp only at e
 rw [e]
 simp only [callFunc,Sem.run_bind,run_program,Result.andThen_ok,h1,h2,h3,Bool.false_eq_true,if_false,Sem.run_pure]
def St.chs (st : St) (ch : List (Nat × Reg)) : St:=⟨st.tm,st.fr,ch.foldl (fun rg c => rg.set c.1 c.2) st.rg⟩
theorem chK_eq (c : Bool) : ∀ (ch : List (Nat × Reg)) (st : St) (k : St → Prop),chK c st ch k = k (st.chs ch)
 | [],_,_ => rfl
 | (r,g) :: ch,st,k => by
   show St.setNK c st r g (fun st => chK c st ch k) = _
   rw [St.setNK_eq,chK_eq c ch];rfl
theorem chs_length (ch : List (Nat × Reg)) : ∀ (rg : List Reg),(ch.foldl (fun rg c => rg.set c.1 c.2) rg).length = rg.length:=by
 induction ch with
 | nil => intro rg;rfl
 | cons c ch ih => intro rg;rw [List.foldl_cons,ih,List.length_set]
theorem Rel.called (h : Rel Γ M w0 ρ st vs a w) {w' : World} {ρ' : Keys} {ch : List (Nat × Reg)} {gs : List Reg}
  (hf : Frame (fun b => ∃ (r : Nat) (g : Reg) (π : Path) (B : Blk),st.rg[r]? = some g ∧ g.has π true B ∧ (ρ r π).void = false ∧ (ρ r π).b = b) w w') (hρ : ∀ r,r < st.rg.length → ∀ π,ρ' r π = ρ r π)
  (hr : Regs M w0 (st.rg.length + gs.length) ρ' (ch.foldl (fun rg c => rg.set c.1 c.2) st.rg ++ gs) w') : Rel Γ M w0 ρ' ((st.chs ch).push gs) vs a w':=by
 have hN : ((st.chs ch).push gs).rg.length = st.rg.length + gs.length:=by simp [St.push,St.chs,chs_length]
 have keep : ∀ k,k < w0.heap.size → ¬ M k → k < w.heap.size → w'.heap[k]? = w.heap[k]?:=fun k hk hm hkw => hf.block k hkw (by
  rintro ⟨r,g,π,B,h1,h2,h3,h4⟩
  have hown:=h.rs.own r g π B h1 h2 h3
  have : M (ρ r π).b ∨ w0.heap.size ≤ (ρ r π).b:=by cases B with | box => exact hown.own | map => exact hown.own | mps => exact hown.own | it => exact hown.own | lp => exact hown.own | arr => exact hown.1.own
  rw [h4] at this
  rcases this with h5 | h5
  ·exact hm h5
  ·omega)
 refine ⟨?_,?_,h.df,?_,?_,Γ.st _ _ h.gl fun b hb => ?_,h.gn⟩
 ·rw [hN];exact h.tm.mono (Nat.le_add_right _ _) hρ
 ·rw [hN];exact h.fr.mono fun s v hs => hs.mono (Nat.le_add_right _ _) hρ
 ·rw [hN];exact hr
 ·exact ⟨hf.os.trans h.bl.os,hf.tape.trans h.bl.tape,hf.output.trans h.bl.output,Nat.le_trans h.bl.size hf.size,fun k hk hm => (keep k hk hm (Nat.lt_of_lt_of_le hk h.bl.size)).trans (h.bl.block k hk hm)⟩
 ·have:=h.gn b hb
  exact keep b this.2 this.1 (Nat.lt_of_lt_of_le this.2 h.bl.size)
theorem splitIx_at {d : Option Nat} {m : Nat} {i : Int} {K : St → Prop} : ∀ {n : Nat} {l : List At} {k : Nat},splitIx st d m i K n l k → ∀ j,j < n → i = ((k + j : Nat) : Int) → st.putK d (match (l.drop (j * m)).take m with | [x] => .a x | l => .agg l) K
 | 0,_,_,_,j,hj,_ => by omega
 | n + 1,l,k,h,j,hj,hi => by
   obtain ⟨h1,h2⟩ : (i = (k : Int) → st.putK d (match l.take m with | [x] => .a x | l => .agg l) K) ∧ splitIx st d m i K n (l.drop m) (k + 1):=h
   cases j with
   | zero => rw [Nat.zero_mul,List.drop_zero];exact h1 (by simpa using hi)
   | succ j =>
     have:=splitIx_at h2 j (by omega) (by rw [hi];congr 1;omega)
     rw [List.drop_drop] at this
     rwa [show m + j * m = (j + 1) * m by rw [Nat.add_mul];omega] at this
end
end Go.Sy
end
section
namespace Go.Sy
open Go Go.RowKit
universe u
section
variable {P : Program} {Γ : Glob} {E : Env} {cl : Cl} {M : Nat → Prop} {w0 : World} {ρ : Keys} {st : St} {vs : Fv} {a : Act} {w : World}
theorem plain_size (hE : EnvOk P Γ E) {e : TypeId} (h1 : ∀ fs n,E.ty e ≠ .st fs n) (h2 : ∀ a b c,E.ty e ≠ .ar a b c) (h3 : E.ty e ≠ .other) : (∃ d,P.underlying e = some d ∧ plainD d = true) ∧ (P.info? e).map (·.size) = some 1:=by
 have hty:=hE.ty e
 cases htt : E.ty e with
 | st fs n => exact absurd htt (h1 fs n)
 | ar a b c => exact absurd htt (h2 a b c)
 | other => exact absurd htt h3
 | int k => rw [htt] at hty;exact ⟨⟨_,hty.1,rfl⟩,hty.2⟩
 | bool => rw [htt] at hty;exact ⟨⟨_,hty.1,rfl⟩,hty.2⟩
 | str => rw [htt] at hty;exact ⟨⟨_,hty.1,rfl⟩,hty.2⟩
 | sl e m => rw [htt] at hty;exact ⟨⟨_,hty.1,rfl⟩,hty.2.2⟩
 | map k e => rw [htt] at hty;exact ⟨⟨_,hty.1,rfl⟩,hty.2⟩
 | word => rw [htt] at hty;exact hty
theorem run_index_one {t e : TypeId} {n : Nat} (hu : P.underlying t = some (.array n e)) (hs : (P.info? e).map (·.size) = some 1) {d : TypeDesc} (hue : P.underlying e = some d) (hd : plainD d = true) {ys : List Value} {k : IntKind} {i : Int} (hi : 0 ≤ i ∧ i < n) {y : Value} (hy : ys[i.toNat]? = some y) :
  (Instr.index t (.agg ys.toArray) (.int k i)).run P w = .ok y w:=by
 have hlt:=(List.getElem?_eq_some_iff.1 hy).1
 have hg:=(List.getElem?_eq_some_iff.1 hy).2
 cases d <;> first
  | (simp [plainD] at hd;done)
  | simp [Instr.index,run_underlying hu,asIntOf,run_size hs,hi,part,isAgg,run_underlying hue,hy]
theorem evOp_soundB (hP : ProgOk P Γ E) (hC : ClOk P Γ E cl) (h : Rel Γ M w0 ρ st vs a w) {o : Oper} {K : St → Prop} (he : evOp E cl st o K) {next : Act → World → Prop} {Q : Exit → Act → World → Prop}
  (hK : ∀ st' a' w' ρ',K st' → Rel Γ M w0 ρ' st' vs a' w' → (keeps E o = true → Below w.heap.size w w') → next a' w') : o.wp P a w next Q:=by
 unfold evOp at he
 split at he
 ·-- a call
  rename_i c hco
  have hop : o.op = .call c ∧ ∃ fo,c.callee = .value fo:=by
   unfold callOf at hco
   split at hco
   ·rename_i c' hop
    split at hco
    ·rename_i fo hcal
     simp only [Option.some.injEq] at hco
     subst hco
     exact ⟨hop,fo,hcal⟩
    ·cases hco
   ·cases hco
  obtain ⟨hop,fo,hcal⟩:=hop
  unfold Oper.wp
  unfold evCall at he
  rw [hcal] at he
  simp only at he
  split at he
  ·rename_i f caps args hcl hargs
   obtain ⟨us,hv,hcaps⟩:=evCallee_sound h hcl
   have hall:=(evAll_sound h hargs).append hcaps
   have hlo : w0.heap.size ≤ w.heap.size:=h.bl.size
   have hgn : ∀ b,b < Γ.n → b < w.heap.size:=fun b hb => Nat.lt_of_lt_of_le (h.gn b hb).2 hlo
   split at he
   ·rename_i F hF
    split at he
    ·rename_i q t hFt
     rw [oblige_iff,St.putN_iff] at he
     have hct : Ctr.Ok P Γ f (.fn F):=hP.env.ct f _ hF
     rw [run_call (hP.fn f _ hF) hop hcal hv]
     refine (hct _ _ _ _ hFt he.1 M w0 ρ w _ hlo hgn h.gl hall h.rs).mono ?_
     rintro e w' ⟨v,rfl,ht,hb⟩
     exact hK _ _ _ _ he.2.2 ((h.later hb).put o.dst ht) (fun _ => hb)
    ·exact he.elim
   ·rename_i C hF
    have hct : Ctr.Ok P Γ f (.new C):=hP.env.ct f _ hF
    rw [run_call (hP.fn f _ hF) hop hcal hv]
    refine (hct _ _ _ he M w0 ρ w _ hlo h.gn h.gl hall h.rs).mono ?_
    rintro e w' ⟨v,res,ρ',rfl,hk,hb,hρ,ht,hr⟩
    simp only [Res.intoK,lenK_eq,St.pushK_eq,St.putK_iff] at hk
    have hh:=h.grow hb hρ hr
    exact hK _ _ _ _ hk.2 (hh.put o.dst (by simpa [St.push] using ht)) (fun _ => hb)
   ·rename_i C hF
    have hct : Ctr.Ok P Γ f (.rel C):=hP.env.ct f _ hF
    rw [run_call (hP.fn f _ hF) hop hcal hv]
    refine (hct _ _ _ he M w0 ρ w _ hlo h.gn h.gl hall h.rs).mono ?_
    rintro e w' ⟨v,ch,res,ρ',rfl,hk,hf,hρ,_,ht,hr⟩
    simp only [chK_eq,Res.intoK,lenK_eq,St.pushK_eq,St.putK_iff] at hk
    have hh:=h.called hf hρ hr
    have hl : (st.chs ch).rg.length = st.rg.length:=chs_length ch st.rg
    rw [hl] at hk
    refine hK _ _ _ _ hk.2 (hh.put o.dst (by simpa [St.push,hl] using ht)) (fun hke => ?_)
    unfold keeps at hke
    rw [hop] at hke
    simp only [hcal] at hke
    split at hke
    ·rename_i g hg
     have : f = g:=by
      injection hg with hg
      subst hg
      simp only [evCallee,ev,Option.some.injEq,Prod.mk.injEq] at hcl
      exact hcl.1.symm
     subst this
     rw [hF] at hke
     cases hke
    ·cases hke
    ·rename_i hn1 hn2;exact absurd rfl (hn2 _)
   ·rename_i hF
    split at he
    ·rename_i b hb
     rw [run_call (hP.inl f b hb).fn hop hcal hv]
     refine (hC f b hb _ _ _ he M w0 ρ vs a w _ h hall).mono ?_
     rintro e w' ⟨v,st',ρ',x,rfl,hr,hx,hk⟩
     rw [St.putK_iff] at hk
     refine hK _ _ _ _ hk.2 (hr.put o.dst hx) (fun hke => ?_)
     unfold keeps at hke
     rw [hop] at hke
     simp only [hcal] at hke
     split at hke
     ·rename_i g hg
      have : f = g:=by
       injection hg with hg
       subst hg
       simp only [evCallee,ev,Option.some.injEq,Prod.mk.injEq] at hcl
       exact hcl.1.symm
      subst this
      rw [hF] at hke
      cases hke
     ·cases hke
     ·rename_i hn1 hn2;exact absurd rfl (hn2 _)
    ·exact he.elim
  ·exact he.elim
 ·rename_i hco
  have hkeep : keeps E o = notStore o:=by
   unfold keeps
   split
   ·rename_i c hop
    unfold callOf at hco
    rw [hop] at hco
    simp only at hco
    split at hco
    ·cases hco
    ·rename_i hno
     split
     ·rename_i g hg;exact absurd hg (hno _)
     ·rename_i x _ hg;exact absurd hg (hno _)
     ·rfl
   ·rfl
  split at he
  ·rename_i q x hp
   rw [oblige_iff,St.putN_iff] at he
   obtain ⟨y,hr,hy⟩:=evP_sound hP.env h hp he.1
   unfold Oper.wp
   rw [hr]
   exact hK _ _ _ _ he.2.2 (h.put o.dst hy) (fun _ => Below.refl _ _)
  ·split at he
   ·rename_i t x ix hop
    split at he
    ·rename_i e m n l k i ht hx hix
     rw [oblige_iff] at he
     obtain ⟨⟨hin,_⟩,he⟩:=he
     simp only [Duty.of_p] at hin
     obtain ⟨hu,hm,_⟩:=hP.env.tyAr ht
     obtain ⟨ys,hv,hl⟩:=ev_sound h hx
     have hvi : a.eval ix = .int k i:=(ev_sound h hix).1
     have fin : ∀ {T : Ty},E.ty e = T → (∀ fs n,T ≠ .st fs n) → (∀ a b c,T ≠ .ar a b c) → T ≠ .other → lenIs l (n * m) = true → splitIx st o.dst m i K n l 0 → o.wp P a w next Q:=by
      intro T hT n1 n2 n3 hlen hsp
      obtain ⟨⟨d,hd1,hd2⟩,hs1⟩:=plain_size hP.env (e:=e) (fun fs n => hT ▸ n1 fs n) (fun a b c => hT ▸ n2 a b c) (hT ▸ n3)
      obtain rfl : m = 1:=by rw [hm] at hs1;exact Option.some.inj hs1
      have hlen':=lenIs_length hlen
      rw [Nat.mul_one] at hlen'
      have hsp':=splitIx_at hsp i.toNat (by omega) (by omega)
      rw [Nat.mul_one] at hsp'
      have hlt : i.toNat < l.length:=by omega
      obtain ⟨y,hy,hxy⟩:=hl.get i.toNat l[i.toNat] (by simp [hlt])
      have e1 : (l.drop i.toNat).take 1 = [l[i.toNat]]:=by
       rw [List.drop_eq_getElem_cons hlt];rfl
      rw [e1] at hsp'
      simp only [St.putK_iff] at hsp'
      unfold Oper.wp
      have hrun : (execOp a.eval o).run P w = .ok (.value y) w:=by
       simp only [execOp,hop,hv,hvi,Sem.run_bind,run_index_one hu hm hd1 hd2 hin hy,Result.andThen_ok,Sem.run_pure]
      rw [hrun]
      exact hK _ _ _ _ hsp'.2 (h.put o.dst hxy) (fun _ => Below.refl _ _)
     split at he
     ·exact he.elim
     ·exact he.elim
     ·exact he.elim
     ·rename_i hlen n1 n2 n3
      exact fin rfl (fun fs n => n1 fs n) (fun a b c => n2 a b c) n3 hlen he
     ·exact he.elim
    ·exact he.elim
   ·exact evM_sound hP.env h he fun st' a' w' ρ' hk hr hb => hK st' a' w' ρ' hk hr (fun hke => hb (hkeep ▸ hke))
theorem evOp_sound (hP : ProgOk P Γ E) (hC : ClOk P Γ E cl) (h : Rel Γ M w0 ρ st vs a w) {o : Oper} {K : St → Prop} (he : evOp E cl st o K) {next : Act → World → Prop} {Q : Exit → Act → World → Prop}
  (hK : ∀ st' a' w' ρ',K st' → Rel Γ M w0 ρ' st' vs a' w' → next a' w') : o.wp P a w next Q :=
 evOp_soundB hP hC h he fun st' a' w' ρ' hk hr _ => hK st' a' w' ρ' hk hr
end
end Go.Sy
end
