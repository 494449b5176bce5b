/-
  The evaluator is sound: calls, lists of operations, regions that draw their order, code.
-/
import Derived.Test.YtoggkjobihlohaaDoorSxApp
import Derived.Deep.LoopGhost
namespace Go.Sx
open Go Go.RowKit
universe u

structure FnOk (P : Program) (f : FuncId) : Prop where
  h : ∃ fn, P.funcs[f]? = some fn ∧ (fn.name == "runtime.NumGoroutine") = false ∧ fn.body.isNone = false

structure ProgOk (P : Program) (Γ : Glob) (E : Env) : Prop where
  mixed : P.follows .mixedOrders = true
  fn : ∀ f c, E.ct f = some c → FnOk P f
  env : EnvOk P Γ E

section
variable {P : Program} {Γ : Glob} {E : Env} {N0 : Nat} {w0 : World} {ρ : Nat → RI} {st : St} {a : Act} {w : World}

theorem Reg.ok.lower {N : Nat} {N1 : Nat} {I : RI} {g : Reg} (h : g.ok N ρ N1 w I) (hf : g.flag = true) (hN : N0 ≤ N1) : g.ok N ρ N0 w I := by
  cases g with
  | dead => trivial
  | box o cells =>
    obtain rfl : o = true := hf
    obtain ⟨h1, h2, h3, h4⟩ := h
    exact ⟨h1, fun ho => ⟨Nat.le_trans hN (h2 ho).1, (h2 ho).2⟩, fun hh => by simp at hh, h4⟩
  | arr te tg xs o =>
    obtain rfl : o = true := hf
    obtain ⟨h1, h2, h3, h4, h5⟩ := h
    exact ⟨h1, h2, h3, fun hn => ⟨fun ho => ⟨Nat.le_trans hN ((h4 hn).1 ho).1, ((h4 hn).1 ho).2⟩, fun hh => by simp at hh⟩, h5⟩

/-- New regions, handed back by a call. -/
theorem Rel.growMany (h : Rel Γ N0 w0 ρ st a w) {w' : World} {ρ' : Nat → RI} {gs : List Reg} (hb : Below w.heap.size w w') (hρ : ∀ r, r < st.rg.length → ρ' r = ρ r)
    (hfl : ∀ g ∈ gs, g.flag = true) (hg : ∀ (r : Nat) (g : Reg), gs[r]? = some g → g.ok (st.rg.length + gs.length) ρ' w.heap.size w' (ρ' (st.rg.length + r)))
    (hd : ∀ (r r' : Nat) (g g' : Reg), gs[r]? = some g → gs[r']? = some g' → g.own (ρ' (st.rg.length + r)) → g'.own (ρ' (st.rg.length + r')) → r ≠ r' → (ρ' (st.rg.length + r)).b ≠ (ρ' (st.rg.length + r')).b) :
    Rel Γ N0 w0 ρ' (st.push gs) a w' := by
  have h' := h.later hb
  have hN : (st.push gs).rg.length = st.rg.length + gs.length := by simp [St.push]
  have hlt : ∀ (r : Nat) (g' : Reg), (st.push gs).rg[r]? = some g' → (r < st.rg.length ∧ st.rg[r]? = some g') ∨ (∃ s, r = st.rg.length + s ∧ gs[s]? = some g') := by
    intro r g' hr
    simp only [St.push] at hr
    rcases Nat.lt_or_ge r st.rg.length with hl | hl
    · rw [List.getElem?_append_left hl] at hr; exact .inl ⟨hl, hr⟩
    · rw [List.getElem?_append_right hl] at hr
      exact .inr ⟨r - st.rg.length, by omega, hr⟩
  refine ⟨?_, h.df, fun r g' hr => ?_, fun r r' g1 g2 h1 h2 o1 o2 hne => ?_, h'.bl, h'.lo, h'.gl, h'.gn⟩
  · rw [hN]
    exact h.tm.mono fun _ _ hx => hx.mono (Nat.le_add_right _ _) hρ
  · rw [hN]
    rcases hlt r g' hr with ⟨hl, hr⟩ | ⟨s, rfl, hs⟩
    · rw [hρ r hl]
      exact (h'.rg r g' hr).later (Nat.le_add_right _ _) hρ (fun _ => rfl) (Nat.le_refl _)
    · exact (hg s g' hs).lower (hfl g' (List.mem_of_getElem? hs)) h.lo
  · rcases hlt r g1 h1 with ⟨hl1, hr1⟩ | ⟨s1, rfl, hs1⟩ <;> rcases hlt r' g2 h2 with ⟨hl2, hr2⟩ | ⟨s2, rfl, hs2⟩
    · rw [hρ _ hl1] at o1 ⊢; rw [hρ _ hl2] at o2 ⊢; exact h.dj r r' g1 g2 hr1 hr2 o1 o2 hne
    · rw [hρ _ hl1] at o1 ⊢
      have := (h.rg r g1 hr1).block_lt h.lo (.inl o1)
      have := (hg s2 g2 hs2).own_ge o2
      omega
    · rw [hρ _ hl2] at o2 ⊢
      have := (h.rg r' g2 hr2).block_lt h.lo (.inl o2)
      have := (hg s1 g1 hs1).own_ge o1
      omega
    · exact hd s1 s2 g1 g2 hs1 hs2 o1 o2 (by omega)

theorem evAll_sound (h : Rel Γ N0 w0 ρ st a w) : ∀ {os : List Operand} {l : List Tm}, evAll st os = some l → okL (Tm.ok st.rg.length ρ) l (os.map a.eval)
  | [], l, he => by simp only [evAll, Option.some.injEq] at he; subst he; trivial
  | o :: os, l, he => by
    simp only [evAll] at he
    split at he
    · rename_i x l' h1 h2
      simp only [Option.some.injEq] at he
      subst he
      exact ⟨ev_sound h h1, evAll_sound h h2⟩
    · cases he

theorem evCallee_sound (h : Rel Γ N0 w0 ρ st a w) {fo : Operand} {f : FuncId} {caps : List Tm} (he : evCallee st fo = some (f, caps)) :
    ∃ vs : List Value, a.eval fo = .func (.func f) #[] vs.toArray ∧ okL (Tm.ok st.rg.length ρ) caps vs := by
  unfold evCallee at he
  split at he
  · rename_i f' l hx
    simp only [Option.some.injEq, Prod.mk.injEq] at he
    obtain ⟨rfl, rfl⟩ := he
    obtain ⟨h1, h2⟩ := ev_sound h hx
    refine ⟨_, h2, ?_⟩
    clear h2 hx
    induction l with
    | nil => trivial
    | cons r l ih => exact ⟨⟨h1 r (by simp), by simp⟩, ih fun r' hr' => h1 r' (by simp [hr'])⟩
  · cases he

/-- The run of a call of a Go function. -/
theorem run_call {f : FuncId} (hf : FnOk P f) {o : Oper} {c : Call} (ho : o.op = .call c) {fo : Operand} (hc : c.callee = .value fo) {vs : List Value} (hv : a.eval fo = .func (.func f) #[] vs.toArray) :
    (execOp a.eval o).run P w = .ok (.enter f ((c.args.toList.map a.eval) ++ vs).toArray) w := by
  obtain ⟨fn, h1, h2, h3⟩ := hf.h
  have e : (c.args.map a.eval) ++ vs.toArray = ((c.args.toList.map a.eval) ++ vs).toArray := Array.ext' (by simp)
  cases c
  simp only at hc
  subst hc
  simp only [execOp, ho, resolve, hv, Deferred.ofValue]
  simp only [Sem.run_bind, Sem.run_pure, Result.andThen_ok, Array.empty_append, invoke]
  simp only at e
  rw [e]
  simp only [callFunc, Sem.run_bind, run_program, Result.andThen_ok, h1, h2, h3, Bool.false_eq_true, if_false, Sem.run_pure]

theorem eff_put {d : Option Nat} {x : Tm} {k : St → Prop} : st.putK d x k = k (st.put d x) := St.putK_eq st d x k

/-- One operation. -/
theorem evOp_soundB (hP : ProgOk P Γ E) (h : Rel Γ N0 w0 ρ st a w) {o : Oper} {K : St → Prop} (he : evOp E st o K) {next : Act → World → Prop} {Q : Exit → Act → World → Prop}
    (hK : ∀ st' a' w' ρ', K st' → Rel Γ N0 w0 ρ' st' a' w' → (notStore o = true → Below w.heap.size w w') → next a' w') : o.wp P a w next Q := by
  unfold evOp at he
  unfold Oper.wp
  split at he
  · rename_i q x hp
    rw [oblige_iff, St.putN_eq] at he
    obtain ⟨y, hr, hy⟩ := evP_sound hP.env h hp he.1
    rw [hr]
    exact hK _ _ _ _ he.2 (h.put o.dst hy) (fun _ => Below.refl _ _)
  · split at he
    · rename_i hnp q f hm
      rw [oblige_iff] at he
      obtain ⟨hq, he⟩ := he
      unfold evM at hm
      split at hm
      · -- box
        rename_i t x hop
        split at hm
        · cases hm
        · rename_i xv hx hno
          split at hm
          · rename_i l hl
            split at hm
            · rename_i hlen
              simp only [Option.some.injEq, Prod.mk.injEq] at hm
              obtain ⟨rfl, rfl⟩ := hm
              obtain ⟨c1, _, _⟩ := tmCells_sound (ev_sound h hx) hl
              simp only [St.effK, lenK_eq, St.pushK_eq, St.putK_eq] at he
              have hrun : (execOp a.eval o).run P w = .ok (.value (.pointer (some ⟨w.heap.size, 0, none⟩))) (w.alloc (.cells (a.eval x).cells.toList.toArray t)) := by
                simp [execOp, hop, Instr.box, newVar, newRow]
              rw [hrun]
              refine hK _ _ _ _ he ((h.box c1 t).put o.dst ⟨by simp [St.push], ?_⟩) (fun _ => below_alloc _)
              rw [setρ_at]; simp [RI.at]
            · cases hm
          · cases hm
        · cases hm
      · -- alloc
        rename_i t hop
        split at hm
        · cases hm
        · rename_i z hz hno
          simp only [Option.some.injEq, Prod.mk.injEq] at hm
          obtain ⟨rfl, rfl⟩ := hm
          obtain ⟨_, i, zv, h1, h2, h3⟩ := hP.env.zero _ _ hz
          simp only [St.effK, lenK_eq, St.pushK_eq, St.putK_eq] at he
          have hrun : (execOp a.eval o).run P w = .ok (.value (.pointer (some ⟨w.heap.size, 0, none⟩))) (w.alloc (.cells zv.cells.toList.toArray t)) := by
            simp [execOp, hop, Instr.alloc, newVar, newRow, zeroValue, typeInfo, h1, h2]
          rw [hrun]
          refine hK _ _ _ _ he ((h.box (h3 _ _) t).put o.dst ⟨by simp [St.push], ?_⟩) (fun _ => below_alloc _)
          rw [setρ_at]; simp [RI.at]
        · cases hm
      · -- store
        rename_i t ad x hop
        split at hm
        · rename_i va vx ha hx
          split at hm
          · rename_i q' r g hs
            simp only [Option.some.injEq, Prod.mk.injEq] at hm
            obtain ⟨rfl, rfl⟩ := hm
            obtain ⟨w', h1, h2⟩ := evStore_sound hP.env h (ev_sound h ha) (ev_sound h hx) hs hq
            simp only [St.effK, nameR_eq, St.setRK_eq, St.putK_eq] at he
            have hrun : (execOp a.eval o).run P w = .ok .skip w' := by
              simp [execOp, hop, h1]
            rw [hrun]
            exact hK _ _ _ _ he (h2.put o.dst (x := .a .un) (y := undef) rfl) (fun hns => by simp [notStore, hop] at hns)
          · cases hm
        · cases hm
      · -- buildSlice
        rename_i t n parts hop
        split at hm
        · rename_i e m ht
          split at hm
          · rename_i tg hD
            split at hm
            · rename_i xs hxs
              split at hm
              case h_2 => cases hm
              rename_i hln
              simp only [Option.some.injEq, Prod.mk.injEq] at hm
              obtain ⟨rfl, rfl⟩ := hm
              have hln' := lenIs_length hln
              have hxs2 := evLit_elems _ _ _ [] hxs rfl
              rw [hln', List.nil_append, List.nil_append] at hxs2
              obtain ⟨h1, hxl⟩ := run_buildSlice hP.env h ht hD hxs2 hq.1 hq.2.1
              obtain ⟨hKd, _⟩ := hP.env.kd e tg hD
              simp only [St.effK, lenK_eq, St.pushK_eq, St.putK_eq] at he
              have hrun : (execOp a.eval o).run P w = .ok (.value (.slice (some ⟨w.heap.size, 0, none⟩) n n)) (w.alloc (.cells (xs.flatMap (kindOf tg).enc).toArray e)) := by
                simp only [execOp, hop, Sem.run_bind, h1, Result.andThen_ok, Sem.run_pure]
              rw [hrun]
              have hxs' : xs.length ≤ maxLen := by
                have h3 := hq.2.1
                have h4 := hKd.pos
                have h5 : n * 1 ≤ n * (kindOf tg).m := Nat.mul_le_mul_left n h4
                simp only [maxLen]; omega
              refine hK _ _ _ _ he ((h.arr hKd xs e hxs').put o.dst ⟨by simp [St.push], ?_, ?_⟩) (fun _ => below_alloc _)
              · rw [setρ_at]; simp
              · rw [setρ_at]; exact ⟨by simp [hxl], .inl (by simp [RI.at, hxl])⟩
            · cases hm
          · cases hm
        · cases hm
      · -- append
        rename_i c hop
        split at hm
        · rename_i hcal
          split at hm
          · rename_i s x t t' hargs htys
            split at hm
            · rename_i sv xv ht hs hx
              obtain rfl := Nat.eq_of_beq_eq_true ht
              obtain ⟨v, w', st', ρ', hrun, hrel, hput⟩ := evApp_sound (ty := o.type) hP.env h (ev_sound h hs) (ev_sound h hx) hm hq
              obtain ⟨y, hy, hk⟩ := hput _ _ he
              have e1 : c = { callee := .builtin .append, args := #[s, x], argTypes := #[t, t] } := by
                cases c with
                | mk callee args argTypes =>
                  simp only at hcal hargs htys
                  congr 1
                  · exact Array.ext' (by simpa using hargs)
                  · exact Array.ext' (by simpa using htys)
              subst e1
              have hrun' : (execOp a.eval o).run P w = .ok (.value v) w' := by
                simp [execOp, hop, resolve, invoke, builtin, hrun]
              rw [hrun']
              exact hK _ _ _ _ hk (hrel.put o.dst hy) (fun hns => by simp [notStore, hop] at hns)
            · cases hm
          · cases hm
        · cases hm
      · cases hm
    · split at he
      · rename_i c hop
        unfold evCall at he
        split at he
        · rename_i fo hcal
          split at he
          · rename_i f caps args hcl hargs
            obtain ⟨vs, hv, hcaps⟩ := evCallee_sound h hcl
            have hall := (evAll_sound h hargs).append hcaps
            split at he
            · rename_i F hF
              split at he
              · rename_i q t hFt
                rw [oblige_iff, St.putN_eq] at he
                have hct : Ctr.Ok P Γ f (.fn F) := hP.env.ct f _ hF
                rw [run_call (hP.fn f _ hF) hop hcal hv]
                refine (hct _ _ _ _ hFt he.1 N0 ρ w _ h.lo h.gn h.gl hall h.rg h.dj).mono ?_
                rintro e w' ⟨v, rfl, ht, hb⟩
                exact hK _ _ _ _ he.2 ((h.later hb).put o.dst ht) (fun _ => hb)
              · exact he.elim
            · rename_i C hF
              have hct : Ctr.Ok P Γ f (.rel C) := hP.env.ct f _ hF
              rw [run_call (hP.fn f _ hF) hop hcal hv]
              refine (hct _ _ _ he N0 ρ w _ h.lo h.gn h.gl hall h.rg h.dj).mono ?_
              rintro e w' ⟨v, res, ρ', rfl, hk, hb, hρ, ht, hfl, hg, hd⟩
              simp only [Res.intoK, lenK_eq, St.pushK_eq, St.putK_eq] at hk
              have hh := h.growMany hb hρ hfl hg hd
              exact hK _ _ _ _ hk (hh.put o.dst (by simpa [St.push] using ht)) (fun _ => hb)
            · exact he.elim
          · exact he.elim
        · exact he.elim
      · exact he.elim

theorem evOp_sound (hP : ProgOk P Γ E) (h : Rel Γ N0 w0 ρ st a w) {o : Oper} {K : St → Prop} (he : evOp E st o K) {next : Act → World → Prop} {Q : Exit → Act → World → Prop}
    (hK : ∀ st' a' w' ρ', K st' → Rel Γ N0 w0 ρ' st' a' w' → next a' w') : o.wp P a w next Q :=
  evOp_soundB hP h he fun st' a' w' ρ' hk hr _ => hK st' a' w' ρ' hk hr

/-- One more thing known of a slot. -/
theorem Rel.reput (h : Rel Γ N0 w0 ρ st a w) {d : Nat} {x : Tm} (hx : x.ok st.rg.length ρ (a.tmps.getD d undef)) : Rel Γ N0 w0 ρ (st.put (some d) x) a w := by
  have set_left : ∀ (xs : List Tm) (ys : List Value) (i : Nat), okL (Tm.ok st.rg.length ρ) xs ys → (∀ y, ys[i]? = some y → x.ok st.rg.length ρ y) → okL (Tm.ok st.rg.length ρ) (xs.set i x) ys := by
    intro xs
    induction xs with
    | nil => intro ys i h _; exact h
    | cons z zs ih =>
      intro ys i h hy
      cases ys with
      | nil => exact h.elim
      | cons y ys =>
        cases i with
        | zero => exact ⟨hy y rfl, h.2⟩
        | succ i => exact ⟨h.1, ih ys i h.2 fun y hy' => hy y (by simpa using hy')⟩
  refine ⟨set_left _ _ _ h.tm fun y hy => ?_, h.df, h.rg, h.dj, h.bl, h.lo, h.gl, h.gn⟩
  have : a.tmps[d]? = some y := by simpa using hy
  have e : a.tmps.getD d undef = y := by simp [Array.getD_eq_getD_getElem?, this]
  rw [e] at hx; exact hx

theorem yielded_of {ops : Array Oper} {j d : Nat} (hd : (ops[j]?).bind (·.dst) = some d) {b : Bool} (hb : a.tmps.getD d undef = .bool b) : yielded ops a.tmps j = some b := by
  unfold yielded
  rw [hd]
  cases hh : a.tmps[d]? with
  | none => simp [Array.getD_eq_getD_getElem?, hh, undef] at hb
  | some y =>
    have : y = .bool b := by simpa [Array.getD_eq_getD_getElem?, hh] using hb
    subst this
    simp [hh]
theorem yielded_un {ops : Array Oper} {j d : Nat} (hd : (ops[j]?).bind (·.dst) = some d) (hb : a.tmps.getD d undef = undef) : yielded ops a.tmps j = none := by
  unfold yielded
  rw [hd]
  cases hh : a.tmps[d]? with
  | none => simp [hh]
  | some y =>
    have : y = undef := by simpa [Array.getD_eq_getD_getElem?, hh] using hb
    subst this
    simp [hh, undef]

theorem evGuard_sound (h : Rel Γ N0 w0 ρ st a w) {ops : Array Oper} {o : Oper} {yes no : St → Prop} (he : evGuard st ops o.guard yes no) :
    (∃ st', yes st' ∧ Rel Γ N0 w0 ρ st' a w ∧ Region.wanted o (yielded ops a.tmps) = true) ∨ (∃ st', no st' ∧ Rel Γ N0 w0 ρ st' a w ∧ Region.wanted o (yielded ops a.tmps) = false) := by
  unfold evGuard at he
  unfold Region.wanted
  split at he
  · rename_i hg; exact .inl ⟨st, he, h, by simp [hg]⟩
  · rename_i j want hg
    simp only [hg]
    split at he
    · exact he.elim
    · rename_i d hd
      have hok := getD_ok h d
      split at he
      · rename_i ht
        rw [ht] at hok
        rw [yielded_un hd hok]
        exact .inr ⟨st, he, h, by simp⟩
      · rename_i ht
        rw [ht] at hok
        rw [yielded_of hd hok]
        cases want with
        | true => exact .inl ⟨st, he, h, by simp⟩
        | false => exact .inr ⟨st, he, h, by simp⟩
      · rename_i ht
        rw [ht] at hok
        rw [yielded_of hd hok]
        cases want with
        | true => exact .inr ⟨st, he, h, by simp⟩
        | false => exact .inl ⟨st, he, h, by simp⟩
      · rename_i b ht
        rw [ht] at hok
        have hok : a.tmps.getD d undef = .bool b := hok.1
        rw [yielded_of hd hok]
        have htt : b = true → Rel Γ N0 w0 ρ (st.put (some d) (.a .tt)) a w := fun hb => h.reput (by rw [hok, hb]; rfl)
        have hff : b = false → Rel Γ N0 w0 ρ (st.put (some d) (.a .ff)) a w := fun hb => h.reput (by rw [hok, hb]; rfl)
        cases want with
        | true =>
          simp only [St.putK_eq] at he
          cases b with
          | true => exact .inl ⟨_, he.1 rfl, htt rfl, by simp⟩
          | false => exact .inr ⟨_, he.2 rfl, hff rfl, by simp⟩
        | false =>
          simp only [St.putK_eq] at he
          cases b with
          | true => exact .inr ⟨_, he.1 rfl, htt rfl, by simp⟩
          | false => exact .inl ⟨_, he.2 rfl, hff rfl, by simp⟩
      · exact he.elim

theorem evOps_sound (hP : ProgOk P Γ E) {ops : Array Oper} {K : St → Prop} {Q : Exit → Act → World → Prop} (hK : ∀ st' a' w' ρ', K st' → Rel Γ N0 w0 ρ' st' a' w' → Q .normal a' w') :
    ∀ (l : List Oper) (st : St) (a : Act) (w : World) (ρ : Nat → RI), evOps E ops l st K → Rel Γ N0 w0 ρ st a w → wpList P ops Q l a w
  | [], st, a, w, ρ, he, h => hK _ _ _ _ he h
  | o :: rest, st, a, w, ρ, he, h => by
    change evGuard st ops o.guard (fun st => evOp E st o (fun st => evOps E ops rest st K)) (fun st => st.putK o.dst (.a .un) (fun st => evOps E ops rest st K)) at he
    unfold wpList
    rcases evGuard_sound h he with ⟨st', hy, h', hw⟩ | ⟨st', hn, h', hw⟩
    · rw [if_pos hw]
      exact .inl (evOp_sound hP h' hy fun st2 a2 w2 ρ2 hk hr => evOps_sound hP hK rest st2 a2 w2 ρ2 hk hr)
    · rw [if_neg (by rw [hw]; simp)]
      simp only [St.putK_eq] at hn
      exact evOps_sound hP hK rest _ _ _ _ hn (h'.put o.dst (x := .a .un) (y := undef) rfl)

/-! ### Regions that draw -/
theorem At.fun {N : Nat} {x : At} {y y' : Value} (hs : x.sure = true) (h : x.ok N ρ y) (h' : x.ok N ρ y') : y = y' := by
  cases x <;> first
    | (simp [At.sure] at hs; done)
    | exact h.trans h'.symm
    | exact h.1.trans h'.1.symm
    | exact h.2.trans h'.2.symm
    | (have h0 := Nat.eq_of_beq_eq_true hs
       exact (h.2.2.pos (.inl h0)).trans (h'.2.2.pos (.inl h0)).symm)
theorem okL_fun {α : Type} {R : α → Value → Prop} {f : α → Bool} (hf : ∀ x y y', f x = true → R x y → R x y' → y = y') : ∀ {l : List α} {ys ys' : List Value}, allL f l = true → okL R l ys → okL R l ys' → ys = ys'
  | [], [], [], _, _, _ => rfl
  | x :: l, y :: ys, y' :: ys', hs, h, h' => by
    simp only [allL] at hs
    split at hs
    · rename_i hx
      rw [hf x y y' hx h.1 h'.1, okL_fun hf hs h.2 h'.2]
    · cases hs
theorem C1.fun {N : Nat} {x : C1} {y y' : Value} (hs : x.sure = true) (h : x.ok N ρ y) (h' : x.ok N ρ y') : y = y' := by
  cases x with
  | a x => exact At.fun hs h h'
  | agg l =>
    obtain ⟨ys, rfl, h⟩ := h
    obtain ⟨ys', rfl, h'⟩ := h'
    rw [okL_fun (fun _ _ _ => At.fun) hs h h']
theorem Tm.fun {N : Nat} {x : Tm} {y y' : Value} (hs : x.sure = true) (h : x.ok N ρ y) (h' : x.ok N ρ y') : y = y' := by
  cases x with
  | a x => exact At.fun hs h h'
  | agg l =>
    obtain ⟨ys, rfl, h⟩ := h
    obtain ⟨ys', rfl, h'⟩ := h'
    rw [okL_fun (fun _ _ _ => At.fun) hs h h']
  | tup l =>
    obtain ⟨ys, rfl, h⟩ := h
    obtain ⟨ys', rfl, h'⟩ := h'
    rw [okL_fun (fun _ _ _ => C1.fun) hs h h']

/-- A quiet operation yields one value in every later world. -/
theorem evQ1_soundG (hP : ProgOk P Γ E) {w1 : World} (h : Rel Γ N0 w0 ρ st a w1) {o : Oper} {q : List Prop} {x : Tm} (he : evQ1 E st o = some (q, x)) (hq : obl q) (hs : x.sure = true) :
    ∃ v, x.ok st.rg.length ρ v ∧ ∀ w, Below w1.heap.size w1 w → o.quietAt P a (fun w' => Below w.heap.size w w') w v := by
  unfold evQ1 at he
  split at he
  · rename_i qx hp
    obtain rfl := Option.some.inj he
    obtain ⟨y, hr, hy⟩ := evP_sound hP.env h hp hq
    refine ⟨y, hy, fun w hw => ?_⟩
    obtain ⟨y', hr', hy'⟩ := evP_sound hP.env (h.later hw) hp hq
    unfold Oper.quietAt
    rw [hr']
    exact ⟨rfl, Tm.fun hs hy' hy⟩
  · split at he
    · rename_i c hop
      split at he
      · rename_i fo hcal
        split at he
        · rename_i f caps args hcl hargs
          obtain ⟨vs, hv, hcaps⟩ := evCallee_sound h hcl
          have hall := (evAll_sound h hargs).append hcaps
          split at he
          · rename_i F hF
            have hct : Ctr.Ok P Γ f (.fn F) := hP.env.ct f _ hF
            have call : ∀ w, Below w1.heap.size w1 w → Calls P f ((c.args.toList.map a.eval) ++ vs).toArray w fun e w' => ∃ v, e = .returned v ∧ x.ok st.rg.length ρ v ∧ Below w.heap.size w w' := fun w hw =>
              hct _ _ _ _ he hq N0 ρ w _ (h.later hw).lo h.gn (h.later hw).gl hall (h.later hw).rg h.dj
            obtain ⟨e, w', fr, ⟨v, _, hxv, _⟩, _⟩ := call w1 (Below.refl _ _) []
            refine ⟨v, hxv, fun w hw => ?_⟩
            unfold Oper.quietAt
            rw [run_call (hP.fn f _ hF) hop hcal hv]
            refine ⟨rfl, (call w hw).mono ?_⟩
            rintro e w' ⟨v', rfl, hv', hb⟩
            exact ⟨by rw [Tm.fun hs hv' hxv], hb⟩
          · cases he
        · cases he
      · cases he
    · cases he

theorem quietAt_mono {o : Oper} {a : Act} {C C' : World → Prop} {w : World} {v : Value} (hc : ∀ w', C w' → C' w') (h : o.quietAt P a C w v) : o.quietAt P a C' w v := by
  unfold Oper.quietAt at *
  generalize (execOp a.eval o).run P w = r at *
  cases r with
  | ok n w' =>
    cases n <;> simp only [Oper.quietUpon] at h ⊢ <;> try exact h
    exact ⟨h.1, h.2.mono fun e w'' ⟨he, hw⟩ => ⟨he, hc _ hw⟩⟩
  | halt x w' => exact h
theorem evQ1_sound (hP : ProgOk P Γ E) {w1 : World} (h : Rel Γ N0 w0 ρ st a w1) {o : Oper} {q : List Prop} {x : Tm} (he : evQ1 E st o = some (q, x)) (hq : obl q) (hs : x.sure = true) :
    ∃ v, x.ok st.rg.length ρ v ∧ ∀ w, Below w1.heap.size w1 w → o.quietAt P a (fun w' => Below w1.heap.size w1 w') w v := by
  obtain ⟨v, h1, h2⟩ := evQ1_soundG hP h he hq hs
  exact ⟨v, h1, fun w hw => quietAt_mono (fun w' hb => hw.trans (hb.mono hw.size)) (h2 w hw)⟩

theorem evQ_sound (hP : ProgOk P Γ E) {w1 : World} {ops : Array Oper} {K : St → Prop} {Qf : Act → Prop} (hK : ∀ st' a', K st' → Rel Γ N0 w0 ρ st' a' w1 → Qf a') :
    ∀ (l : List Oper) (st : St) (a : Act), evQ E ops l st K → Rel Γ N0 w0 ρ st a w1 → wpQuiet P ops (fun w' => Below w1.heap.size w1 w') Qf l a
  | [], st, a, he, h => hK _ _ he h
  | o :: rest, st, a, he, h => by
    change evGuard st ops o.guard
      (fun st => match evQ1 E st o with
        | some (q, x) => oblige q (match x.sure with | true => st.putN o x (fun st => evQ E ops rest st K) | false => False)
        | none => False)
      (fun st => st.putK o.dst (.a .un) (fun st => evQ E ops rest st K)) at he
    unfold wpQuiet
    rcases evGuard_sound h he with ⟨st', hy, h', hw⟩ | ⟨st', hn, h', hw⟩
    · rw [if_pos hw]
      split at hy
      · rename_i q x hp
        rw [oblige_iff] at hy
        obtain ⟨hq, hy⟩ := hy
        split at hy
        · rename_i hs
          rw [St.putN_eq] at hy
          obtain ⟨v, hv, hall⟩ := evQ1_sound hP h' hp hq hs
          exact ⟨v, hall, evQ_sound hP hK rest _ _ hy (h'.put o.dst hv)⟩
        · exact hy.elim
      · exact hy.elim
    · rw [if_neg (by rw [hw]; simp)]
      simp only [St.putK_eq] at hn
      exact evQ_sound hP hK rest _ _ hn (h'.put o.dst (x := .a .un) (y := undef) rfl)

end
end Go.Sx
