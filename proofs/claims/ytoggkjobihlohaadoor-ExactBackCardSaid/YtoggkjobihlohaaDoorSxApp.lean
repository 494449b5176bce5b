/-
  The evaluator is sound: append.
-/
import Derived.Test.YtoggkjobihlohaaDoorSxStore
import Derived.Deep.AppendLies
namespace Go.Sx
open Go Go.RowKit
universe u

section
variable {P : Program} {Γ : Glob} {E : Env} {N0 : Nat} {w0 : World} {ρ : Nat → RI} {st : St} {a : Act} {w : World}

theorem memN_mem {r : Nat} : ∀ {l : List Nat}, memN r l = false → ∀ x ∈ l, x ≠ r
  | [], _, x, h => by simp at h
  | y :: l, h, x, hx => by
    simp only [memN] at h
    split at h
    · cases h
    · rename_i hy
      simp only [List.mem_cons] at hx
      rcases hx with rfl | hx
      · intro e; subst e; simp at hy
      · exact memN_mem h x hx
theorem beq_ne {a b : Nat} (h : Nat.beq a b = false) : a ≠ b := fun e => by subst e; simp at h

theorem At.kill_ok {N r : Nat} {I : RI} {x : At} {y : Value} (h : x.ok N ρ y) : (x.kill r).ok N (setρ ρ r I) y := by
  have hne : ∀ {r'}, r' ≠ r → setρ ρ r I r' = ρ r' := fun hh => by simp [setρ, hh]
  cases x with
  | p r' i j =>
    simp only [At.kill]
    split
    · trivial
    · rename_i hb; obtain ⟨h1, h2⟩ := h; exact ⟨h1, by rw [hne (beq_ne hb)]; exact h2⟩
  | sl r' lo n =>
    simp only [At.kill]
    split
    · trivial
    · rename_i hb; obtain ⟨h1, h2, h3⟩ := h; exact ⟨h1, by rw [hne (beq_ne hb)]; exact h2, by rw [hne (beq_ne hb)]; exact h3⟩
  | fn f l =>
    simp only [At.kill]
    split
    · trivial
    · rename_i hb
      obtain ⟨h1, h2⟩ := h
      refine ⟨h1, ?_⟩
      rw [h2]
      congr 2
      exact List.map_congr_left fun r' hr' => by rw [hne (memN_mem hb r' hr')]
  | _ => exact h
theorem okL_killA {N r : Nat} {I : RI} : ∀ {l : List At} {ys : List Value}, okL (At.ok N ρ) l ys → okL (At.ok N (setρ ρ r I)) (l.map (At.kill r)) ys
  | [], [], _ => trivial
  | _ :: _, _ :: _, h => ⟨At.kill_ok h.1, okL_killA h.2⟩
theorem C1.kill_ok {N r : Nat} {I : RI} {x : C1} {y : Value} (h : x.ok N ρ y) : (x.kill r).ok N (setρ ρ r I) y := by
  cases x with
  | a x => exact At.kill_ok h
  | agg l => obtain ⟨ys, h1, h2⟩ := h; exact ⟨ys, h1, okL_killA h2⟩
theorem okL_killC {N r : Nat} {I : RI} : ∀ {l : List C1} {ys : List Value}, okL (C1.ok N ρ) l ys → okL (C1.ok N (setρ ρ r I)) (l.map (C1.kill r)) ys
  | [], [], _ => trivial
  | _ :: _, _ :: _, h => ⟨C1.kill_ok h.1, okL_killC h.2⟩
theorem Tm.kill_ok {N r : Nat} {I : RI} {x : Tm} {y : Value} (h : x.ok N ρ y) : (x.kill r).ok N (setρ ρ r I) y := by
  cases x with
  | a x => exact At.kill_ok h
  | agg l => obtain ⟨ys, h1, h2⟩ := h; exact ⟨ys, h1, okL_killA h2⟩
  | tup l => obtain ⟨ys, h1, h2⟩ := h; exact ⟨ys, h1, okL_killC h2⟩
theorem okL_killT {N r : Nat} {I : RI} : ∀ {l : List Tm} {ys : List Value}, okL (Tm.ok N ρ) l ys → okL (Tm.ok N (setρ ρ r I)) (l.map (Tm.kill r)) ys
  | [], [], _ => trivial
  | _ :: _, _ :: _, h => ⟨Tm.kill_ok h.1, okL_killT h.2⟩
theorem Reg.kill_ok {N r : Nat} {I I' : RI} {g : Reg} (h : g.ok N ρ N0 w I') : (g.kill r).ok N (setρ ρ r I) N0 w I' := by
  cases g with
  | dead => trivial
  | box o l =>
    obtain ⟨h1, h2, h3, h4⟩ := h
    refine ⟨h1, h2, h3, fun j x hx => ?_⟩
    simp only [List.getElem?_map, Option.map_eq_some_iff] at hx
    obtain ⟨x', hx', rfl⟩ := hx
    obtain ⟨y, hy, hc⟩ := h4 j x' hx'
    exact ⟨y, At.kill_ok hy, hc⟩
  | arr te tg xs o => exact h
theorem Reg.kill_own {r : Nat} {I : RI} {g : Reg} : (g.kill r).own I ↔ g.own I := by cases g <;> exact Iff.rfl

/-- An array that has grown: in its place, or in a new one. -/
theorem Rel.app (h : Rel Γ N0 w0 ρ st a w) {r : Nat} {e : TypeId} {tg : List CK} {xs : List (Tup tg)} (hr : st.rg[r]? = some (.arr e tg xs true)) {w' : World} {row : Option Nat} (hg : w.grownBy w' row)
    (hrow : ∀ k, row = some k → (ρ r).nil = false ∧ k = (ρ r).b) {I : RI} {g : Reg} (hI : row = some I.b ∨ I.b = w.heap.size) (hok : g.ok st.rg.length (setρ ρ r I) N0 w' I) :
    Rel Γ N0 w0 (setρ ρ r I) ⟨st.tm.map (Tm.kill r), (st.rg.map (Reg.kill r)).set r g⟩ a w' := by
  have hlt : r < st.rg.length := (List.getElem?_eq_some_iff.1 hr).1
  have hrow' : ∀ k, row = some k → N0 ≤ k := fun k hk => by
    obtain ⟨h1, rfl⟩ := hrow k hk
    exact (h.rg r _ hr).own_ge ⟨rfl, h1⟩
  have hget : ∀ (r' : Nat) (g' : Reg), ((st.rg.map (Reg.kill r)).set r g)[r']? = some g' → (r' = r ∧ g' = g) ∨ (r' ≠ r ∧ ∃ g0, st.rg[r']? = some g0 ∧ g' = g0.kill r) := by
    intro r' g' h'
    by_cases he : r' = r
    · subst he; rw [List.getElem?_set_self (by simpa using hlt)] at h'; exact .inl ⟨rfl, (Option.some.inj h').symm⟩
    · rw [List.getElem?_set_ne (Ne.symm he)] at h'
      simp only [List.getElem?_map, Option.map_eq_some_iff] at h'
      obtain ⟨g0, h1, h2⟩ := h'
      exact .inr ⟨he, g0, h1, h2.symm⟩
  have hne : ∀ {r'}, r' ≠ r → setρ ρ r I r' = ρ r' := fun hh => by simp [setρ, hh]
  have hblk : ∀ (r' : Nat) (g0 : Reg), r' ≠ r → st.rg[r']? = some g0 → (g0.own (ρ r') ∨ (ρ r').b < N0) → (ρ r').b < w.heap.size ∧ some (ρ r').b ≠ row := fun r' g0 hn hg0 hh => by
    refine ⟨(h.rg r' g0 hg0).block_lt h.lo hh, fun e => ?_⟩
    obtain ⟨h1, h2⟩ := hrow _ e.symm
    rcases hh with hh | hh
    · exact h.dj r' r g0 _ hg0 hr hh ⟨rfl, h1⟩ hn h2
    · have := hrow' _ e.symm; omega
  refine ⟨?_, h.df, fun r' g' hr' => ?_, fun r1 r2 g1 g2 h1 h2 o1 o2 hn => ?_, h.bl.grown hg h.lo hrow', Nat.le_trans h.lo hg.size, Γ.st _ _ h.gl fun b hb => hg.block b ?_ ?_, h.gn⟩
  · simp only [List.length_set, List.length_map]; exact okL_killT h.tm
  · simp only [List.length_set, List.length_map]
    rcases hget r' g' hr' with ⟨rfl, rfl⟩ | ⟨hn, g0, hg0, rfl⟩
    · rw [setρ_at]; exact hok
    · rw [hne hn]
      refine Reg.kill_ok ((h.rg r' g0 hg0).later (Nat.le_refl _) (fun _ _ => rfl) (fun hh => ?_) hg.size)
      obtain ⟨b1, b2⟩ := hblk r' g0 hn hg0 hh
      exact hg.block _ b1 b2
  · have far : ∀ (r' : Nat) (g0 : Reg), r' ≠ r → st.rg[r']? = some g0 → g0.own (ρ r') → (ρ r').b ≠ I.b := fun r' g0 hn hg0 ho e => by
      obtain ⟨b1, b2⟩ := hblk r' g0 hn hg0 (.inl ho)
      rcases hI with hI | hI
      · exact b2 (by rw [hI, e])
      · omega
    rcases hget r1 g1 h1 with ⟨rfl, rfl⟩ | ⟨n1, g10, e1, rfl⟩ <;> rcases hget r2 g2 h2 with ⟨rfl, rfl⟩ | ⟨n2, g20, e2, rfl⟩
    · exact absurd rfl hn
    · rw [setρ_at, hne n2] at *; rw [Reg.kill_own] at o2; exact (far r2 g20 n2 e2 o2).symm
    · rw [setρ_at, hne n1] at *; rw [Reg.kill_own] at o1; exact far r1 g10 n1 e1 o1
    · rw [hne n1, hne n2] at *; rw [Reg.kill_own] at o1 o2; exact h.dj r1 r2 g10 g20 e1 e2 o1 o2 hn
  · have := h.gn; have := h.lo; omega
  · intro e; have := hrow' b e.symm; have := h.gn; omega

/-- What a grown row is. -/
theorem cap_of_row {e : TypeId} {m k : Nat} {g cap : Nat} {l : List Value} {n : Nat} (hown : w.ownsRow N0 e m (.slice (some ⟨g, 0, none⟩) n cap) k l) : k ≤ cap := by
  obtain ⟨h1, h2 | ⟨g', cap', cur, hv, hb, hg, hn, hc, hs, hx⟩⟩ := hown
  · obtain ⟨h2, _⟩ := h2; cases h2
  · obtain ⟨rfl, rfl⟩ : g = g' ∧ cap = cap' := by simpa using ⟨(by simpa using (Value.slice.inj hv).1 : g = g'), (Value.slice.inj hv).2.2⟩
    exact hn
theorem reg_of_row {tg : List CK} (hK : (kindOf tg).Ok) {xs : List (Tup tg)} {e : TypeId} {g cap : Nat} {N : Nat} (hown : w.ownsRow N0 e (kindOf tg).m (.slice (some ⟨g, 0, none⟩) xs.length cap) xs.length (xs.flatMap (kindOf tg).enc)) :
    (Reg.arr e tg xs true).ok N ρ N0 w ⟨g, 0, (kindOf tg).m, false, cap⟩ := by
  obtain ⟨h1, h2 | ⟨g', cap', cur, hv, hb, hg, hn, hc, hs, hx⟩⟩ := hown
  · obtain ⟨h2, _⟩ := h2; cases h2
  · obtain ⟨rfl, rfl⟩ : g = g' ∧ cap = cap' := by simpa using hv
    have hlt : g < w.heap.size := by
      rcases Nat.lt_or_ge g w.heap.size with hlt | hge
      · exact hlt
      · rw [Array.getElem?_eq_none hge] at hg; cases hg
    refine ⟨hK, rfl, fun hf => by simp at hf, fun _ => ⟨fun _ => ⟨hb, hlt, fun j => ?_, rfl, hn, hc, cur, hg, hs⟩, fun hf => by simp at hf⟩, fun i b hib j y hy => ?_⟩
    · simp [World.frozen?, hg]
    · have hj : j < (kindOf tg).m := by rw [← hK.len b]; exact (List.getElem?_eq_some_iff.1 hy).1
      have hf := flat_get hK.len xs i b hib j hj
      rw [← hx] at hf
      simp only [RI.at, Nat.zero_add, World.cell?, hg]
      simp only [Option.isSome_none, Bool.false_eq_true, if_false]
      rw [hy] at hf
      rw [List.getElem?_take] at hf
      split at hf
      · simpa using hf
      · cases hf

theorem newsOf_sound {tg : List CK} {r lo n : Nat} {q : List Prop} {news : List (Tup tg)} (h : Rel Γ N0 w0 ρ st a w) (he : newsOf tg (st.rg.getD r .dead) lo n = some (q, news)) (hq : obl q) (hr : r < st.rg.length) :
    0 < n ∧ news.length = n ∧ (ρ r).m = (kindOf tg).m ∧ ((ρ r).nil = false ∨ n = 0) ∧ ∀ j u, (news.flatMap (kindOf tg).enc)[j]? = some u → w.cell? (((ρ r).at (lo * (ρ r).m)).add j) = some u := by
  obtain ⟨g, hg⟩ : ∃ g, st.rg[r]? = some g := ⟨_, List.getElem?_eq_getElem hr⟩
  have e0 : st.rg.getD r .dead = g := by simp [List.getD, hg]
  rw [e0] at he
  unfold newsOf at he
  split at he
  · rename_i te tg2 ys o
    split at he
    · rename_i hh _
      obtain ⟨rfl⟩ := hh
      simp only [Option.some.injEq, Prod.mk.injEq] at he
      obtain ⟨rfl, rfl⟩ := he
      obtain ⟨h1, h2, -⟩ := hq
      obtain ⟨hK, hm, hnil, _, hcell⟩ := h.rg r _ hg
      have hys : castL rfl ys = ys := rfl
      rw [hys]
      refine ⟨h1, by simp; omega, hm, .inl ?_, fun j u hu => ?_⟩
      · cases hnn : (ρ r).nil with
        | false => rfl
        | true => have := hnil hnn; subst this; simp at h2; omega
      · have hlen : j < n * (kindOf tg2).m := by
          have := (List.getElem?_eq_some_iff.1 hu).1
          rw [flat_length hK.len] at this
          have h3 : ((ys.drop lo).take n).length = n := by simp; omega
          rwa [h3] at this
        have hpos := hK.pos
        have hq' : j / (kindOf tg2).m < n := Nat.div_lt_of_lt_mul (by rw [Nat.mul_comm]; exact hlen)
        have hr' : j % (kindOf tg2).m < (kindOf tg2).m := Nat.mod_lt _ hpos
        have hdm : j / (kindOf tg2).m * (kindOf tg2).m + j % (kindOf tg2).m = j := by rw [Nat.mul_comm]; exact Nat.div_add_mod j _
        have hget : ((ys.drop lo).take n)[j / (kindOf tg2).m]? = ys[lo + j / (kindOf tg2).m]? := by
          rw [List.getElem?_take_of_lt hq', List.getElem?_drop]
        obtain ⟨b, hb⟩ : ∃ b, ys[lo + j / (kindOf tg2).m]? = some b := ⟨_, List.getElem?_eq_getElem (Nat.lt_of_lt_of_le (Nat.add_lt_add_left hq' lo) h2)⟩
        have hf := flat_get hK.len ((ys.drop lo).take n) _ b (hget.trans hb) (j % (kindOf tg2).m) hr'
        rw [hdm, hu] at hf
        have := hcell _ b hb (j % (kindOf tg2).m) u hf.symm
        have hadd : ((ρ r).at (lo * (ρ r).m)).add j = (ρ r).at ((lo + j / (kindOf tg2).m) * (kindOf tg2).m + j % (kindOf tg2).m) := by
          rw [hm]
          simp only [RI.at, Addr.add]
          rw [Nat.add_mul, Nat.add_assoc, Nat.add_assoc (lo * _), hdm]
          split
          · rename_i hj; subst hj; rfl
          · rfl
        rw [hadd]; exact this
    · cases he
  · cases he

theorem evApp_sound (hE : EnvOk P Γ E) (h : Rel Γ N0 w0 ρ st a w) {t ty : TypeId} {s x : Tm} {vs vx : Value} (hs : s.ok st.rg.length ρ vs) (hx : x.ok st.rg.length ρ vx) {q : List Prop} {f : Eff} (he : evApp E st t s x = some (q, f)) (hq : obl q) :
    ∃ v w' st' ρ', (Builtin.append_ #[t, t] ty #[vs, vx]).run P w = .ok v w' ∧ Rel Γ N0 w0 ρ' st' a w' ∧ ∀ (d : Option Nat) (k : St → Prop), st.effK d f k → ∃ x : Tm, x.ok st'.rg.length ρ' v ∧ k (st'.put d x) := by
  unfold evApp at he
  split at he
  · rename_i e m r2 lo n hty
    obtain ⟨hu, hm1, _⟩ := hE.tySl hty
    obtain ⟨hr2, hnil2, hx⟩ := hx
    split at he
    · rename_i tg hD
      obtain ⟨hK, i, z, hi, hsz, hz, hzc, hby⟩ := hE.kd e tg hD
      have hzs : z.cells.size = (kindOf tg).m := by rw [← hK.len (kindOf tg).d, ← hzc]; simp
      split at he
      · -- onto nil
        split at he
        · rename_i q' news hn
          simp only [Option.some.injEq, Prod.mk.injEq] at he
          obtain ⟨rfl, rfl⟩ := he
          rw [obl_append] at hq
          obtain ⟨hq1, hq2, -⟩ := hq
          obtain ⟨h0, hl, hmm, hnn, hcells⟩ := newsOf_sound h hn hq1 hr2
          obtain rfl := hx.pos (.inr h0)
          have hnn' : (ρ r2).nil = false := by rcases hnn with hnn | hnn; exact hnn; omega
          have hmpos := hK.pos
          have hnle : n ≤ 1099511627776 := Nat.le_trans (by have := Nat.mul_le_mul_left n hmpos; omega) hq2
          have hbb : n * i.bytes ≤ n * (16 * (kindOf tg).m) := Nat.mul_le_mul_left n hby
          have hbb2 : n * (16 * (kindOf tg).m) = 16 * (n * (kindOf tg).m) := by rw [← Nat.mul_assoc, Nat.mul_comm n 16, Nat.mul_assoc]
          obtain ⟨g, cap, w', hrun, hown, hgr, hwhere, hglt⟩ := run_append_lies (P := P) w t ty N0 e i z (kindOf tg).m i.bytes hu hi hz hsz rfl hzs hmpos (.slice none 0 0) 0 [] ⟨by simp, .inl ⟨rfl, rfl⟩⟩
            ((ρ r2).at (lo * (ρ r2).m)) n ((ρ r2).cap - lo) (news.flatMap (kindOf tg).enc) (by rw [flat_length hK.len, hl]) hcells (fun u hu => by
              obtain ⟨b, _, hb⟩ := List.mem_flatMap.1 hu; exact hK.one b u hb) h0 (by simp only [maxLen]; omega) (by simp only [Nat.zero_add]; omega) h.lo _ rfl
          have hgeq : g = w.heap.size := by rcases hwhere with hw | hw; exact absurd hw (by simp [Value.ownBlock]); exact hw
          subst hgeq
          have hbelow : Below w.heap.size w w' := ⟨hgr.os, hgr.tape, hgr.output, hgr.size, fun k hk => hgr.block k hk (by simp [Value.ownBlock])⟩
          rw [Nat.zero_add, List.nil_append, ← hl] at hown
          have hvs : vs = .slice none 0 0 := hs.1
          refine ⟨.slice (some ⟨w.heap.size, 0, none⟩) n cap, w', st.push [.arr e tg news true], setρ ρ st.rg.length ⟨w.heap.size, 0, (kindOf tg).m, false, cap⟩, ?_, h.grow (I := ⟨w.heap.size, 0, (kindOf tg).m, false, cap⟩) (g := .arr e tg news true) hbelow (fun _ => Nat.le_refl _) (reg_of_row hK hown), fun d k hk => ?_⟩
          · rw [hvs, hnn']; simpa using hrun
          · simp only [St.effK, lenK_eq, St.pushK_eq, St.putK_eq] at hk
            refine ⟨_, ?_, hk⟩
            refine ⟨by simp [St.push], ?_, ?_⟩
            · rw [setρ_at]; simp
            · rw [setρ_at]; exact ⟨by have := cap_of_row hown; simp only [Reg.count] at *; omega, .inl (by simp [RI.at, hl])⟩
        · cases he
      · -- onto an array
        rename_i r k
        split at he
        · rename_i e' tg' xs hgr0
          split at he
          · rename_i hpl q' news hb1 hb2 hb3 hn
            simp only [Option.some.injEq, Prod.mk.injEq] at he
            obtain ⟨rfl, rfl⟩ := he
            obtain rfl := Nat.eq_of_beq_eq_true hb2
            obtain rfl : tg = tg' := hpl.down
            rw [obl_append] at hq
            obtain ⟨hq1, hk, hq2, -⟩ := hq
            subst hk
            obtain ⟨h0, hl, hmm, hnn, hcells⟩ := newsOf_sound h hn hq1 hr2
            obtain rfl := hx.pos (.inr h0)
            have hnn' : (ρ r2).nil = false := by rcases hnn with hnn | hnn; exact hnn; omega
            obtain ⟨hr, hnil, hs⟩ := hs
            obtain rfl := hs.pos (.inl rfl)
            have hgr : st.rg[r]? = some (.arr e tg xs true) := by
              have : st.rg[r]? = some st.rg[r] := List.getElem?_eq_getElem hr
              simpa [List.getD, this] using hgr0
            obtain ⟨_, hm, hxnil, hwh, hxc⟩ := h.rg r _ hgr
            have hmpos := hK.pos
            have hnle : xs.length + n ≤ 1099511627776 := Nat.le_trans (by have := Nat.mul_le_mul_left (xs.length + n) hmpos; omega) hq2
            have hbb : (xs.length + n) * i.bytes ≤ (xs.length + n) * (16 * (kindOf tg).m) := Nat.mul_le_mul_left _ hby
            have hbb2 : (xs.length + n) * (16 * (kindOf tg).m) = 16 * ((xs.length + n) * (kindOf tg).m) := by rw [← Nat.mul_assoc, Nat.mul_comm _ 16, Nat.mul_assoc]
            have hown0 : w.ownsRow N0 e (kindOf tg).m (.slice (if (ρ r).nil then none else some ((ρ r).at (0 * (ρ r).m))) xs.length ((ρ r).cap - 0)) xs.length (xs.flatMap (kindOf tg).enc) := by
              refine ⟨flat_length hK.len xs, ?_⟩
              cases hnn2 : (ρ r).nil with
              | true => obtain ⟨h5, h6⟩ := hnil hnn2; exact .inl ⟨by simp [h5, h6], h5⟩
              | false =>
                obtain ⟨b1, b2, b3, b4, b5, b6, cur, b7, b8⟩ := (hwh hnn2).1 rfl
                refine .inr ⟨(ρ r).b, (ρ r).cap, cur, by simp [RI.at, b4], b1, b7, b5, b6, b8, ?_⟩
                apply List.ext_getElem?
                intro p
                by_cases hp : p < xs.length * (kindOf tg).m
                · have hpq : p / (kindOf tg).m < xs.length := Nat.div_lt_of_lt_mul (by rw [Nat.mul_comm]; exact hp)
                  have hpr : p % (kindOf tg).m < (kindOf tg).m := Nat.mod_lt _ hmpos
                  have hdm : p / (kindOf tg).m * (kindOf tg).m + p % (kindOf tg).m = p := by rw [Nat.mul_comm]; exact Nat.div_add_mod p _
                  obtain ⟨b, hb⟩ : ∃ b, xs[p / (kindOf tg).m]? = some b := ⟨_, List.getElem?_eq_getElem hpq⟩
                  have hf := flat_get hK.len xs _ b hb (p % (kindOf tg).m) hpr
                  have hlt2 : p % (kindOf tg).m < ((kindOf tg).enc b).length := by rw [hK.len]; exact hpr
                  have hc := hxc _ b hb (p % (kindOf tg).m) _ (List.getElem?_eq_getElem hlt2)
                  rw [hdm] at hf hc
                  rw [List.getElem?_take_of_lt hp, hf, List.getElem?_eq_getElem hlt2, ← hc]
                  simp [RI.at, b4, World.cell?, b7]
                · rw [List.getElem?_eq_none (by simp; omega), List.getElem?_eq_none (by rw [flat_length hK.len]; omega)]
            obtain ⟨g, cap, w', hrun, hown, hgrw, hwhere, hglt⟩ := run_append_lies (P := P) w t ty N0 e i z (kindOf tg).m i.bytes hu hi hz hsz rfl hzs hmpos _ xs.length _ hown0
              ((ρ r2).at (lo * (ρ r2).m)) n ((ρ r2).cap - lo) (news.flatMap (kindOf tg).enc) (by rw [flat_length hK.len, hl]) hcells (fun u hu => by
                obtain ⟨b, _, hb⟩ := List.mem_flatMap.1 hu; exact hK.one b u hb) h0 (by simp only [maxLen]; omega) (by omega) h.lo _ rfl
            rw [← List.flatMap_append, show xs.length + n = (xs ++ news).length by simp [hl]] at hown
            refine ⟨.slice (some ⟨g, 0, none⟩) (xs.length + n) cap, w', ⟨st.tm.map (Tm.kill r), (st.rg.map (Reg.kill r)).set r (.arr e tg (xs ++ news) true)⟩, setρ ρ r ⟨g, 0, (kindOf tg).m, false, cap⟩, ?_, h.app hgr (I := ⟨g, 0, (kindOf tg).m, false, cap⟩) (g := .arr e tg (xs ++ news) true) hgrw (fun k' hk' => ?_) hwhere (reg_of_row hK hown), fun d k hk => ?_⟩
            · rw [hnn']; simpa using hrun
            · cases hnn2 : (ρ r).nil with
              | true => rw [hnn2] at hk'; simp [Value.ownBlock] at hk'
              | false => rw [hnn2] at hk'; simp [Value.ownBlock, RI.at] at hk'; exact ⟨rfl, hk'.symm⟩
            · simp only [St.effK, nameR_eq, killTs_eq, killRs_eq, St.setRK_eq, St.putK_eq, Reg.count] at hk
              refine ⟨_, ?_, hk⟩
              refine ⟨by simpa using hr, ?_, ?_⟩
              · rw [setρ_at]; simp
              · rw [setρ_at]; exact ⟨by have := cap_of_row hown; simpa using this, .inl (by simp [RI.at, hl])⟩
          · cases he
        · cases he
      · cases he
    · cases he
  · cases he

end
end Go.Sx
