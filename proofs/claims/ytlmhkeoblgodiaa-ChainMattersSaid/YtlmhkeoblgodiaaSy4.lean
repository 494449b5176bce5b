/-
  Texts of the claims on chapter 2: Sy4. No condition: lemmas and contracts.
-/
import Derived.Test.YtlmhkeoblgodiaaSy3
import Derived.Scope
set_option linter.all false
section
/-
  The evaluator is sound: code, bodies walked at their calls.
-/
namespace Go.Sy
open Go Go.RowKit
universe u
section
variable {P : Program} {Γ : Glob} {E : Env} {cl : Cl} {rd : Rd} {M : Nat → Prop} {w0 : World} {ρ : Keys} {st : St} {vs : Fv} {a : Act} {w : World}

def Ex.exit' : Ex → Exit
  | .normal => .normal
  | .exit id => .exit id
  | .ret => .ret

/-- Calls of yield that are walked. -/
def RdOk (P : Program) (Γ : Glob) (rd : Rd) : Prop :=
  ∀ r args st K, rd r args st K → ∀ (ro : Option Nat) (n : Nat) (M : Nat → Prop) (w0 : World) (ρ : Keys) (vs : Fv) (a : Act) (w : World) (vals : List Value), Rel Γ M w0 ρ st vs a w → okL (Tm.ok st.rg.length ρ) args vals →
    ∃ fn tmps asg body, (Instr.yield (ρ r []).b vals.toArray).run P w = .ok (.round (ρ r []).b fn tmps asg body) w ∧
      RoundIn (FrR ro) n P (ρ r []).b fn tmps asg body w fun e w' => ∃ v st' ρ' x, e = .returned v ∧ Rel Γ M w0 ρ' st' vs a w' ∧ Tm.ok st'.rg.length ρ' x v ∧ K x st'

theorem evOp_defer {o : Oper} {K : St → Prop} (h : evOp E cl st o K) : ∀ c, o.op ≠ .defer c := by
  intro c hc
  simp only [evOp, callOf, hc, evP, evM] at h
  exact h.elim
theorem run_yieldCall {o : Oper} {c : Call} (ho : o.op = .call c) {fo : Operand} (hc : c.callee = .value fo) {l : Nat} (hv : a.eval fo = .func (.yield l) #[] #[]) {nx : Next} (hy : (Instr.yield l (c.args.toList.map a.eval).toArray).run P w = .ok nx w) :
    (execOp a.eval o).run P w = .ok nx w := by
  have e : c.args.map a.eval = (c.args.toList.map a.eval).toArray := Array.ext' (by simp)
  cases c
  simp only at hc
  subst hc
  simp only [execOp, ho, resolve, hv, Deferred.ofValue]
  simp only [Sem.run_bind, Sem.run_pure, Result.andThen_ok, Array.empty_append, invoke]
  simp only at e
  rw [e, hy]

theorem evOpsY_sound (hP : ProgOk P Γ E) (hC : ClOk P Γ E cl) (hR : RdOk P Γ rd) {ro : Option Nat} {n : Nat} {ops : Array Oper} {K : St → Prop} {Q : Exit → Act → World → Prop} (hK : ∀ st' a' w' ρ', K st' → Rel Γ M w0 ρ' st' vs a' w' → Q .normal a' w') :
    ∀ (l : List Oper) (st : St) (a : Act) (w : World) (ρ : Keys), evOpsY E cl rd ops l st K → Rel Γ M w0 ρ st vs a w → wpListIn (FrR ro) n P ops Q l a w
  | [], st, a, w, ρ, he, h => hK _ _ _ _ he h
  | o :: rest, st, a, w, ρ, he, h => by
    change evGuard E.conc st ops o.guard (fun st => match yieldOf st o with
        | some (r, args) => rd r args st (fun x st => st.putK o.dst x (fun st => evOpsY E cl rd ops rest st K))
        | none => evOp E cl st o (fun st => evOpsY E cl rd ops rest st K)) (fun st => st.putK o.dst (.a .un) (fun st => evOpsY E cl rd ops rest st K)) at he
    unfold wpListIn
    rcases evGuard_sound h he with ⟨st', hy, h', hw⟩ | ⟨st', hn, h', hw⟩
    · rw [if_pos hw]
      split at hy
      · rename_i r args hyo
        unfold yieldOf at hyo
        split at hyo
        case h_2 => cases hyo
        rename_i c hop
        split at hyo
        case h_2 => cases hyo
        rename_i fo hcal
        split at hyo
        case h_2 => cases hyo
        rename_i r' l hf hl
        simp only [Option.some.injEq, Prod.mk.injEq] at hyo
        obtain ⟨rfl, rfl⟩ := hyo
        obtain ⟨hlt, hv⟩ := ev_sound h' hf
        obtain ⟨fn, tmps, asg, body, hyield, hround⟩ := hR _ _ _ _ hy ro (n - 1) M w0 ρ vs _ w _ h' (evAll_sound h' hl)
        refine ⟨fun _ _ => trivial, ?_⟩
        rw [Oper.semAt_eq _ _ _ (by simp [hop]), run_yieldCall hop hcal hv hyield]
        refine ⟨fun hh => (by cases hh), hround.mono ?_⟩
        rintro e w' ⟨v, st2, ρ2, x, rfl, hr2, hx, hk⟩
        rw [St.putK_iff] at hk
        exact evOpsY_sound hP hC hR hK rest _ _ _ _ hk.2 (hr2.put o.dst hx)
      · exact oper_Fr (evOp_defer hy) (evOp_sound hP hC h' hy fun st2 a2 w2 ρ2 hk hr => evOpsY_sound hP hC hR hK rest st2 a2 w2 ρ2 hk hr)
    · rw [if_neg (by rw [hw]; simp)]
      simp only [St.putK_iff] at hn
      exact ⟨fun _ _ => trivial, evOpsY_sound hP hC hR hK rest _ _ _ _ hn.2 (h'.put o.dst (x := .a .un) (y := undef) rfl)⟩

theorem caps_ok {N N' : Nat} {ρ1 : Keys} (hρ : ∀ r, r < N → ρ1 r = ρ r) (hN : N ≤ N') : ∀ {caps : List Nat}, (∀ r ∈ caps, r < N) → okL (Tm.ok N' ρ1) (caps.map fun r => Tm.a (.p r [] 0 0)) (caps.map fun r => Value.pointer (some ((ρ r []).at 0)))
  | [], _ => trivial
  | c :: cs, h => ⟨⟨Nat.lt_of_lt_of_le (h c List.mem_cons_self) hN, by rw [hρ c (h c List.mem_cons_self)]; simp⟩, caps_ok hρ hN fun r hr => h r (List.mem_cons_of_mem _ hr)⟩
theorem evRange_sound (hP : ProgOk P Γ E) (hC : ClOk P Γ E cl) {rn : Option (Nat × Nat)} {n : Nat} {g : Operand} {ps : Array Tmp} {asg body : Code} {K : Ex → St → Prop} {Q : Exit → Act → World → Prop} (he : evRange E cl rn g ps asg body st K) (h : Rel Γ M w0 ρ st vs a w)
    (hK : ∀ e st' a' w' ρ' M' w0' ds', Adv M w0 M' w0' vs.ds ds' → K e st' → Rel Γ M' w0' ρ' st' ⟨vs.fs, ds'⟩ a' w' → Q e.exit' a' w') : (Code.rangeFunc g ps asg body).wpIn (FrR (rn.map (·.2))) n P Q a w := by
  unfold evRange at he
  split at he
  case h_2 => exact he.elim
  rename_i f caps hg
  split at he
  case h_2 => exact he.elim
  rename_i b hct hb
  obtain ⟨hrn, he⟩ := he
  obtain ⟨hcaps, hgv⟩ := ev_sound h hg
  refine wpIn_rangeFunc fun fn _ => ?_
  obtain ⟨l, mk, w1, M', w0', D, ρ1, hent, hadv, h1, hl1, hρ1⟩ := enter_sound h hrn fn ps asg body
  have hk := he l fn a.tmps D
  simp only [lenC_eq, St.pushK_eq] at hk
  obtain ⟨fnc, f1, f2, f3⟩ := (hP.inl f b hb).fn.h
  have hcall := hC f b hb _ _ _ hk M' w0' ρ1 _ _ w1 (.func (.yield l) #[] #[] :: caps.map fun r => Value.pointer (some ((ρ r []).at 0))) h1 ⟨⟨by simp [St.push], by rw [hl1]⟩, caps_ok hρ1 (by simp [St.push]) hcaps⟩
  have hcf : ∀ args w, (callFunc f args).run P w = .ok (.enter f args) w := fun args w => by
    simp only [callFunc, Sem.run_bind, run_program, Result.andThen_ok, f1, f2, f3, Bool.false_eq_true, if_false, Sem.run_pure]
  refine ⟨l, mk, w1, { target := .fn (.func f) (caps.map fun r => Value.pointer (some ((ρ r []).at 0))).toArray, args := #[.func (.yield l) #[] #[]] }, w1, f, (.func (.yield l) #[] #[] :: caps.map fun r => Value.pointer (some ((ρ r []).at 0))).toArray, w1, hent, ?_, fun _ _ => trivial, ?_, fun hh => (by cases hh), (calls_Fr hcall).mono ?_⟩
  · simp only [resolve, hgv]
    simp [go_sem]
  · simp only [invoke]
    rw [hcf]
    simp
  · rintro e w2 ⟨v, st2, ρ2, x, rfl, h2, _, hk2⟩
    split at hk2
    case h_2 => exact hk2.elim
    rename_i l' s' L' q j hgr
    obtain ⟨rfl, hk2⟩ := hk2
    rw [St.setRK_eq] at hk2
    have hr2 := getD_reg hgr (by simp)
    obtain ⟨_, _, _, hh, hl2⟩ := h2.rs.blk _ _ [] true (.lp l' s' L' q j) hr2 ⟨rfl, rfl, rfl⟩
    rw [hl2] at hh
    have fin : q ≠ .busy → (Instr.endLoop l').run P w2 = .ok j (w2.putObj l' (.loop { L' with state := .exhausted, pending := j })) := fun hq => run_endLoop hh hq
    have h3 := h2.dropLoop hr2 { L' with state := .exhausted, pending := j }
    have out : ∀ e, K e (st2.setR st.rg.length .dead) → Q e.exit' { a with defers := mk ++ a.defers } (w2.putObj l' (.loop { L' with state := .exhausted, pending := j })) := fun e hk => hK e _ _ _ _ _ _ _ hadv hk h3
    split at hk2
    · exact ⟨_, _, fin (by simp), out .normal hk2⟩
    · exact ⟨_, _, fin (by simp), wpIn_ret (out .ret hk2)⟩
    · exact ⟨_, _, fin (by simp), wpIn_exit (out (.exit _) hk2)⟩
    · exact hk2.elim

theorem evC_sound (hP : ProgOk P Γ E) (hC : ClOk P Γ E cl) (hR : RdOk P Γ rd) {rn : Option (Nat × Nat)} {n : Nat} : ∀ (c : Code) (M : Nat → Prop) (w0 : World) (vs : Fv) (st : St) (a : Act) (w : World) (ρ : Keys) (K : Ex → St → Prop) (Q : Exit → Act → World → Prop), evC E cl rd rn c st K → Rel Γ M w0 ρ st vs a w →
    (∀ e st' a' w' ρ' M' w0' ds', Adv M w0 M' w0' vs.ds ds' → K e st' → Rel Γ M' w0' ρ' st' ⟨vs.fs, ds'⟩ a' w' → Q e.exit' a' w') → c.wpIn (FrR (rn.map (·.2))) n P Q a w
  | .skip, M, w0, vs, st, a, w, ρ, K, Q, he, h, hK => wpIn_skip (hK .normal _ _ _ _ _ _ _ (Adv.refl _ _ _) he h)
  | .region id ops draw, M, w0, vs, st, a, w, ρ, K, Q, he, h, hK => by
    have e1 : ops = ops.toList.toArray := by simp
    cases draw with
    | true =>
      cases rn with
      | none =>
        change evDraw E cl id ops.toList st (K .normal) at he
        rw [e1]
        exact wpIn_wide.2 (evDraw_sound hP hC h he fun st' a' w' ρ' hk hr => hK .normal _ _ _ _ _ _ _ (Adv.refl _ _ _) hk hr)
      | some _ => exact he.elim
    | false =>
      change evOpsY E cl rd ops ops.toList st (K .normal) at he
      exact wpIn_region_list (evOpsY_sound hP hC hR (fun st' a' w' ρ' hk hr => hK .normal _ _ _ _ _ _ _ (Adv.refl _ _ _) hk hr) _ _ _ _ _ he h)
  | .seq x y, M, w0, vs, st, a, w, ρ, K, Q, he, h, hK => by
    change (match E.cuts x with
      | true => ∃ (X : Type) (I : X → Prop) (S : X → St), evC E cl rd rn x st (fun e st' => match e with | .normal => ∃ (x : X) (is : List Nat), I x ∧ Le is st' (S x) | e => K e st') ∧ ∀ x, I x → evC E cl rd rn y (S x) K
      | false => evC E cl rd rn x st (fun e st => match e with | .normal => evC E cl rd rn y st K | e => K e st)) at he
    split at he
    · obtain ⟨X, I, S, h1, h2⟩ := he
      refine wpIn_seq (evC_sound hP hC hR x M w0 vs st a w ρ _ _ h1 h fun e st' a' w' ρ' M' w0' ds' ha hk hr => ?_)
      cases e with
      | normal =>
        obtain ⟨z, is, hI, hle⟩ := hk
        obtain ⟨ρ2, hr2⟩ := hr.le hle
        exact evC_sound hP hC hR y M' w0' ⟨vs.fs, ds'⟩ (S z) a' w' ρ2 _ _ (h2 z hI) hr2 fun e st2 a2 w2 ρ2 M2 w02 ds2 hb hk2 hr2 => hK e _ _ _ _ _ _ _ (ha.trans hb) hk2 hr2
      | exit id => exact hK (.exit id) _ _ _ _ _ _ _ ha hk hr
      | ret => exact hK .ret _ _ _ _ _ _ _ ha hk hr
    refine wpIn_seq (evC_sound hP hC hR x M w0 vs st a w ρ _ _ he h fun e st' a' w' ρ' M' w0' ds' ha hk hr => ?_)
    cases e with
    | normal => exact evC_sound hP hC hR y M' w0' ⟨vs.fs, ds'⟩ st' a' w' ρ' _ _ hk hr fun e st2 a2 w2 ρ2 M2 w02 ds2 hb hk2 hr2 => hK e _ _ _ _ _ _ _ (ha.trans hb) hk2 hr2
    | exit id => exact hK (.exit id) _ _ _ _ _ _ _ ha hk hr
    | ret => exact hK .ret _ _ _ _ _ _ _ ha hk hr
  | .cond c x y, M, w0, vs, st, a, w, ρ, K, Q, he, h, hK => by
    change (match ev st c with
      | some (.a .tt) => evC E cl rd rn x st K
      | some (.a .ff) => evC E cl rd rn y st K
      | some (.a (.v (.bool t))) => (match E.conc with | true => (match t with | true => evC E cl rd rn x st K | false => evC E cl rd rn y st K) | false => (t = true → evC E cl rd rn x st K) ∧ (t = false → evC E cl rd rn y st K))
      | _ => False) at he
    split at he
    · rename_i hc; exact wpIn_cond_true (ev_sound h hc) (evC_sound hP hC hR x M w0 vs st a w ρ _ _ he h hK)
    · rename_i hc; exact wpIn_cond_false (ev_sound h hc) (evC_sound hP hC hR y M w0 vs st a w ρ _ _ he h hK)
    · rename_i t hc
      have hv : a.eval c = .bool t := (ev_sound h hc).1
      split at he
      · cases t with
        | true => exact wpIn_cond_true hv (evC_sound hP hC hR x M w0 vs st a w ρ _ _ he h hK)
        | false => exact wpIn_cond_false hv (evC_sound hP hC hR y M w0 vs st a w ρ _ _ he h hK)
      cases t with
      | true => exact wpIn_cond_true hv (evC_sound hP hC hR x M w0 vs st a w ρ _ _ (he.1 rfl) h hK)
      | false => exact wpIn_cond_false hv (evC_sound hP hC hR y M w0 vs st a w ρ _ _ (he.2 rfl) h hK)
    · exact he.elim
  | .block id body, M, w0, vs, st, a, w, ρ, K, Q, he, h, hK => by
    change evC E cl rd rn body st (fun e st => match e with
      | .exit id' => (match Nat.beq id id' with | true => K .normal st | false => K (.exit id') st)
      | e => K e st) at he
    refine wpIn_block (evC_sound hP hC hR body M w0 vs st a w ρ _ _ he h fun e st' a' w' ρ' M' w0' ds' ha hk hr => ?_)
    cases e with
    | normal => exact hK .normal _ _ _ _ _ _ _ ha hk hr
    | ret => exact hK .ret _ _ _ _ _ _ _ ha hk hr
    | exit id' =>
      simp only [Ex.exit', Exit.inBlock]
      simp only at hk
      split at hk
      · rename_i hid; rw [if_pos (Nat.eq_of_beq_eq_true hid).symm]; exact hK .normal _ _ _ _ _ _ _ ha hk hr
      · rename_i hid; rw [if_neg (fun e => by subst e; simp at hid)]; exact hK (.exit id') _ _ _ _ _ _ _ ha hk hr
  | .loop body, M, w0, vs, st, a, w, ρ, K, Q, he, h, hK => by
    change evLoop (fun st K => evC E cl rd rn body st K) E.un st K at he
    have inv : ∀ (st : St) (a : Act) (w : World) (ρ : Keys) (K : Ex → St → Prop) (Q : Exit → Act → World → Prop), LoopInv (fun st K => evC E cl rd rn body st K) st K → Rel Γ M w0 ρ st vs a w →
        (∀ e st' a' w' ρ' M' w0' ds', Adv M w0 M' w0' vs.ds ds' → K e st' → Rel Γ M' w0' ρ' st' ⟨vs.fs, ds'⟩ a' w' → Q e.exit' a' w') → (Code.loop body).wpIn (FrR (rn.map (·.2))) n P Q a w := by
      intro st a w ρ K Q he h hK
      obtain ⟨X, I, S, μ, x0, is0, hI0, hle, hround⟩ := he
      obtain ⟨ρ0, h0⟩ := h.le hle
      refine wpIn_loop_ghost (fun n a w => ∃ x ρ M' w0' ds', Adv M w0 M' w0' vs.ds ds' ∧ I x ∧ μ x = n ∧ Rel Γ M' w0' ρ (S x) ⟨vs.fs, ds'⟩ a w) (μ x0) ⟨x0, ρ0, M, w0, vs.ds, Adv.refl _ _ _, hI0, rfl, h0⟩ ?_
      rintro n a1 w1 ⟨x, ρ1, M1, w01, ds1, ha1, hIx, rfl, hr⟩
      refine evC_sound hP hC hR body M1 w01 ⟨vs.fs, ds1⟩ (S x) a1 w1 ρ1 _ _ (hround x hIx) hr fun e st' a' w' ρ' M' w0' ds' ha hk hr' => ?_
      cases e with
      | normal =>
        obtain ⟨x', is, hI', hle', hlt⟩ := hk
        obtain ⟨ρ2, h2⟩ := hr'.le hle'
        exact ⟨μ x', hlt, x', ρ2, M', w0', ds', ha1.trans ha, hI', rfl, h2⟩
      | exit id => exact hK (.exit id) _ _ _ _ _ _ _ (ha1.trans ha) hk hr'
      | ret => exact hK .ret _ _ _ _ _ _ _ (ha1.trans ha) hk hr'
    unfold evLoop at he
    split at he
    · exact inv st a w ρ K Q he h hK
    · rename_i m _
      refine wpIn_loop_rounds (m + 1) ?_
      generalize m + 1 = m at he
      clear inv
      induction m generalizing st a w ρ M w0 vs with
      | zero => exact he.elim
      | succ m ih =>
        change evC E cl rd rn body st (fun e st' => match e with | .normal => roundsK (fun st K => evC E cl rd rn body st K) m st' K | e => K e st') at he
        refine evC_sound hP hC hR body M w0 vs st a w ρ _ _ he h fun e st' a' w' ρ' M' w0' ds' ha hk hr => ?_
        cases e with
        | normal => exact ih M' w0' ⟨vs.fs, ds'⟩ st' a' w' ρ' hr (fun e st2 a2 w2 ρ2 M2 w02 ds2 hb hk2 hr2 => hK e _ _ _ _ _ _ _ (ha.trans hb) hk2 hr2) hk
        | exit id => exact hK (.exit id) _ _ _ _ _ _ _ ha hk hr
        | ret => exact hK .ret _ _ _ _ _ _ _ ha hk hr
  | .rangeFunc g ps asg body, M, w0, vs, st, a, w, ρ, K, Q, he, h, hK => evRange_sound hP hC he h hK
  | .exit id, M, w0, vs, st, a, w, ρ, K, Q, he, h, hK => wpIn_exit (hK (.exit id) _ _ _ _ _ _ _ (Adv.refl _ _ _) he h)
  | .ret, M, w0, vs, st, a, w, ρ, K, Q, he, h, hK => wpIn_ret (hK .ret _ _ _ _ _ _ _ (Adv.refl _ _ _) he h)
  | .scope body, M, w0, vs, st, a, w, ρ, K, Q, he, h, hK => by
    cases rn with
    | some _ => exact he.elim
    | none =>
      change evC E cl rd none body st K at he
      refine wpIn_wide.2 (wp_scope_straight ((wpIn_wide (n := n)).1 (evC_sound hP hC hR body M w0 vs st a w ρ _ (Exit.noGoto Q) he h fun e st' a' w' ρ' M' w0' ds' ha hk hr => ?_)))
      have := hK e _ _ _ _ _ _ _ ha hk hr
      cases e <;> exact this
  | .label _, M, w0, vs, st, a, w, ρ, K, Q, he, h, hK => wpIn_label (hK .normal _ _ _ _ _ _ _ (Adv.refl _ _ _) he h)
  | .goto _, _, _, _, _, _, _, _, _, _, he, _, _ => he.elim
  | .refuse _, _, _, _, _, _, _, _, _, _, he, _, _ => he.elim

/-! ### A function's results -/
def resSem (tmps : Array Value) : ResultVar → Sem Value
  | .tmp t => pure (tmps.getD t undef)
  | .cell a t => do loadVar t (← asAddr (tmps.getD a undef))

theorem evRes1_sound (hE : EnvOk P Γ E) (h : Rel Γ M w0 ρ st vs a w) {r : ResultVar} {q : List Duty} {x : Tm} (he : evRes1 E st r = some (q, x)) (hq : obl q) :
    ∃ y, (resSem a.tmps r).run P w = .ok y w ∧ x.ok st.rg.length ρ y := by
  cases r with
  | tmp t =>
    simp only [evRes1, Option.some.injEq, Prod.mk.injEq] at he
    obtain ⟨rfl, rfl⟩ := he
    exact ⟨_, rfl, getD_ok h t⟩
  | cell ad t =>
    simp only [evRes1] at he
    obtain ⟨y, h1, h2⟩ := evLoad_sound hE h (getD_ok h ad) he hq
    have h1 := h1 w (Below.refl _ _)
    refine ⟨y, ?_, h2⟩
    -- the slot holds an address
    unfold evLoad at he
    split at he
    · rename_i r π i j hx
      have hv := getD_ok h ad
      rw [hx] at hv
      obtain ⟨_, hv⟩ := hv
      simp only [resSem]
      rw [hv] at h1 ⊢
      simpa [Instr.loadAt, Instr.sureAddr, asAddr] using h1
    · cases he

theorem c1Of_sound {N : Nat} {x : Tm} {c : C1} {y : Value} (he : c1Of x = some c) (h : x.ok N ρ y) : c.ok N ρ y := by
  cases x <;> simp only [c1Of, Option.some.injEq, reduceCtorEq] at he <;> subst he <;> exact h

theorem evResL_sound (hE : EnvOk P Γ E) (h : Rel Γ M w0 ρ st vs a w) : ∀ {rs : List ResultVar} {q : List Duty} {l : List C1}, evResL E st rs = some (q, l) → obl q →
    ∃ ys : List Value, (rs.mapM (resSem a.tmps)).run P w = .ok ys w ∧ okL (C1.ok st.rg.length ρ) l ys
  | [], q, l, he, hq => by
    simp only [evResL, Option.some.injEq, Prod.mk.injEq] at he
    obtain ⟨rfl, rfl⟩ := he
    exact ⟨[], by simp, trivial⟩
  | r :: rs, q, l, he, hq => by
    simp only [evResL] at he
    split at he
    · rename_i q1 t q2 l2 h1 h2
      split at he
      · rename_i c hc
        simp only [Option.some.injEq, Prod.mk.injEq] at he
        obtain ⟨rfl, rfl⟩ := he
        rw [obl_append] at hq
        obtain ⟨y, r1, k1⟩ := evRes1_sound hE h h1 hq.1
        obtain ⟨ys, r2, k2⟩ := evResL_sound hE h h2 hq.2
        exact ⟨y :: ys, by simp only [List.mapM_cons, Sem.run_bind, r1, r2, Result.andThen_ok, Sem.run_pure], c1Of_sound hc k1, k2⟩
      · cases he
    · cases he

theorem results_eq (fn : Func) (tmps : Array Value) : results fn tmps = (do let vs ← fn.results.mapM (resSem tmps); pure (if h : vs.size = 1 then vs[0] else .tuple vs)) := by
  unfold results
  congr 1

theorem run_results {fn : Func} {rs : List ResultVar} (hr : fn.results = rs.toArray) {ys : List Value} (h : (rs.mapM (resSem a.tmps)).run P w = .ok ys w) :
    (results fn a.tmps).run P w = .ok (match ys with | [y] => y | ys => .tuple ys.toArray) w := by
  rw [results_eq, hr]
  simp only [List.mapM_toArray, Sem.run_bind, Sem.run_map, h, Result.andThen_ok, Sem.run_pure]
  congr 1
  match ys with
  | [] => simp
  | [y] => simp
  | y :: z :: zs => simp

theorem evRes_sound (hE : EnvOk P Γ E) (h : Rel Γ M w0 ρ st vs a w) {fn : Func} {rs : List ResultVar} (hr : fn.results = rs.toArray) {q : List Duty} {x : Tm} (he : evRes E st rs = some (q, x)) (hq : obl q) :
    ∃ y, (results fn a.tmps).run P w = .ok y w ∧ x.ok st.rg.length ρ y := by
  unfold evRes at he
  split at he
  · obtain ⟨y, h1, h2⟩ := evRes1_sound hE h he hq
    exact ⟨y, run_results hr (ys := [y]) (by simp [h1]), h2⟩
  · rename_i hne
    split at he
    · rename_i q' l hl
      simp only [Option.some.injEq, Prod.mk.injEq] at he
      obtain ⟨rfl, rfl⟩ := he
      obtain ⟨ys, h1, h2⟩ := evResL_sound hE h hl hq
      refine ⟨_, run_results hr h1, ?_⟩
      have hlen : ys.length ≠ 1 := by
        intro hh
        have e1 : l.length = 1 := by rw [h2.length, hh]
        match l, e1 with
        | [c], _ =>
          have : rs.length = 1 := by
            clear h1 hr
            have gen : ∀ (rs : List ResultVar) (q : List Duty) (l : List C1), evResL E st rs = some (q, l) → rs.length = l.length := by
              intro rs
              induction rs with
              | nil => intro q l hl; simp only [evResL, Option.some.injEq, Prod.mk.injEq] at hl; obtain ⟨_, rfl⟩ := hl; rfl
              | cons r rs ih =>
                intro q l hl
                simp only [evResL] at hl
                split at hl
                · rename_i h1 h2
                  split at hl
                  · simp only [Option.some.injEq, Prod.mk.injEq] at hl
                    obtain ⟨_, rfl⟩ := hl
                    simp [ih _ _ h2]
                  · cases hl
                · cases hl
            exact gen rs _ _ hl
          match rs, this with
          | [r], _ => exact hne r rfl
      match ys, hlen with
      | [], _ => exact ⟨[], rfl, h2⟩
      | [y], hlen => exact absurd rfl hlen
      | y :: z :: zs, _ => exact ⟨_, rfl, h2⟩
    · cases he

/-! ### Frames -/
theorem fullK_eq : ∀ (d : Nat) (k : Tr → Prop), fullK d k = k (Tr.full d)
  | 0, _ => rfl
  | d + 1, k => by
    show fullK d (fun t => k (.node (.a .un) t t)) = _
    rw [fullK_eq d]; rfl
def putsT : List Tm → Nat → Tr → Tr
  | [], _, t => t
  | x :: l, i, t => putsT l (i + 1) (t.put i x)
theorem putsK_eq : ∀ (l : List Tm) (i : Nat) (t : Tr) (k : Tr → Prop), putsK l i t k = k (putsT l i t)
  | [], _, _, _ => rfl
  | x :: l, i, t, k => by
    show forceT x (fun x => t.putK i x (fun t => putsK l (i + 1) t k)) = _
    rw [forceT_eq, Tr.putK_eq, putsK_eq l]; rfl
theorem full_get : ∀ (d i : Nat), (Tr.full d).get i = .a .un ∨ (Tr.full d).get i = .a .any
  | 0, _ => .inr rfl
  | d + 1, i => by
    rw [show Tr.full (d + 1) = .node (.a .un) (Tr.full d) (Tr.full d) from rfl]
    simp only [Tr.get]
    split
    · exact .inl rfl
    · split
      · exact full_get d _
      · exact full_get d _
theorem puts_get {N : Nat} : ∀ (l : List Tm) (k : Nat) (t : Tr) (us : List Value), okL (Tm.ok N ρ) l us → (∀ i, k ≤ i → (t.get i).ok N ρ undef) →
    (∀ i, i < k → ((putsT l k t).get i = t.get i)) ∧ (∀ i, ((putsT l k t).get (k + i)).ok N ρ (us.getD i undef))
  | [], k, t, [], _, ht => ⟨fun i _ => rfl, fun i => by simpa [putsT] using ht (k + i) (Nat.le_add_right _ _)⟩
  | x :: l, k, t, u :: us, h, ht => by
    obtain ⟨h1, h2⟩ := puts_get l (k + 1) (t.put k x) us h.2 (fun i hi => by rw [Tr.get_put_ne _ _ _ _ (by omega)]; exact ht i (by omega))
    refine ⟨fun i hi => ?_, fun i => ?_⟩
    · show (putsT l (k + 1) (t.put k x)).get i = _
      rw [h1 i (by omega), Tr.get_put_ne _ _ _ _ (by omega)]
    · show ((putsT l (k + 1) (t.put k x)).get (k + i)).ok N ρ _
      cases i with
      | zero =>
        show ((putsT l (k + 1) (t.put k x)).get k).ok N ρ u
        rw [h1 k (by omega)]
        rcases Tr.get_put_eq t k x with hg | hg
        · rw [hg]; exact h.1
        · rw [hg]; exact trivial
      | succ i => rw [show k + (i + 1) = k + 1 + i by omega]; exact h2 i
theorem frameK_iff {n : Nat} {args : List Tm} {k : Sl → Prop} (h : frameK n args k) : args.length ≤ n ∧ k ⟨n, putsT args 0 (Tr.full (depthOf n))⟩ := by
  unfold frameK at h
  rw [lenK_eq] at h
  split at h
  · rename_i hb
    rw [fullK_eq, putsK_eq] at h
    exact ⟨Nat.le_of_ble_eq_true hb, h⟩
  · exact h.elim
theorem frame_ok {N n : Nat} {args : List Tm} {us : List Value} (h : okL (Tm.ok N ρ) args us) (hn : args.length ≤ n) : Sl.ok N ρ ⟨n, putsT args 0 (Tr.full (depthOf n))⟩ (us.toArray ++ Array.replicate (n - us.length) undef) := by
  refine ⟨?_, fun i => ?_⟩
  · rw [h.length] at hn; simp; omega
  · have := (puts_get args 0 (Tr.full (depthOf n)) us h (fun i _ => by
      rcases full_get (depthOf n) i with hg | hg
      · rw [hg]; exact rfl
      · rw [hg]; exact trivial)).2 i
    rw [Nat.zero_add] at this
    have e : (us.toArray ++ Array.replicate (n - us.length) undef).getD i undef = us.getD i undef := by
      simp only [Array.getD_eq_getD_getElem?, Array.getElem?_append, List.size_toArray, List.getElem?_toArray, List.getD_eq_getElem?_getD]
      split
      · rfl
      · rename_i hlt
        rw [List.getElem?_eq_none (by omega)]
        simp only [Array.getElem?_replicate]
        split <;> rfl
    rw [e]; exact this

/-- What is shown of walks. -/
def GoOk (P : Program) (Γ : Glob) (go : Option (Nat × Nat) → Code → St → (Ex → St → Prop) → Prop) : Prop :=
  ∀ (rn : Option (Nat × Nat)) (n : Nat) (M : Nat → Prop) (w0 : World) (vs : Fv) (c : Code) (st : St) (a : Act) (w : World) (ρ : Keys) (K : Ex → St → Prop) (Q : Exit → Act → World → Prop), go rn c st K → Rel Γ M w0 ρ st vs a w →
    (∀ e st' a' w' ρ' M' w0' ds', Adv M w0 M' w0' vs.ds ds' → K e st' → Rel Γ M' w0' ρ' st' ⟨vs.fs, ds'⟩ a' w' → Q e.exit' a' w') → c.wpIn (FrR (rn.map (·.2))) n P Q a w

/-- A function's body, walked in the frames of its callers. -/
theorem body_sound (hP : ProgOk P Γ E) {go : Option (Nat × Nat) → Code → St → (Ex → St → Prop) → Prop} (hgo : GoOk P Γ go) : ClOk P Γ E (evBody E (go none)) := by
  intro f b hb st args K hc M w0 ρ vs a w vals h hargs
  obtain ⟨fn, h1, h2, h3, h4, h5⟩ := (hP.inl f b hb).h
  obtain ⟨tm, fr, rg⟩ := st
  change frameK b.n args (fun s => go none b.code ⟨s, tm :: fr, rg⟩ (fun e st' => match e with
    | .exit _ => False
    | _ => (match evRes E st' b.rs with
      | some (q, x) => oblige E.conc q (match st' with | ⟨_, tm' :: fr', rg'⟩ => K x ⟨tm', fr', rg'⟩ | _ => False)
      | none => False))) at hc
  obtain ⟨hn, hc⟩ := frameK_iff hc
  have hrel : Rel Γ M w0 ρ ⟨⟨b.n, putsT args 0 (Tr.full (depthOf b.n))⟩, tm :: fr, rg⟩ ⟨a.tmps :: vs.fs, []⟩ { tmps := vals.toArray ++ Array.replicate (b.n - vals.length) undef, defers := [] } w :=
    ⟨frame_ok hargs hn, ⟨h.tm, h.fr⟩, rfl, h.rs, h.bl, h.gl, h.gn⟩
  refine callsIn_wide.1 (callsIn_of_wp_marks (n := 0) h1 h3 trivial ?_ rfl)
  rw [h4]
  rw [show vals.toArray.size = vals.length by simp]
  refine hgo none 0 M w0 ⟨a.tmps :: vs.fs, []⟩ b.code _ _ _ _ _ _ hc hrel fun e st' a' w' ρ' M' w0' ds' ha hk hr' => ?_
  obtain ⟨hext, Ds, hds, hnd, hDs⟩ := ha
  have hr0 := hr'.unbase hext h.gn
  have hdf : a'.defers = Ds.map mark := by have := hr'.df; simp only at this; rw [this, hds]; simp
  have fin : (match evRes E st' b.rs with
      | some (q, x) => oblige E.conc q (match (generalizing := false) st' with | ⟨_, tm' :: fr', rg'⟩ => K x ⟨tm', fr', rg'⟩ | _ => False)
      | none => False) → LeavesInM Fence.wide 0 P fn a'.tmps (fun e w' => ∃ v st' ρ' x, e = .returned v ∧ Rel Γ M w0 ρ' st' vs a w' ∧ Tm.ok st'.rg.length ρ' x v ∧ K x st') a'.defers .returning w' := by
    intro hk
    rw [hdf]
    refine leave_marks (Γ := Γ) (M := M) (w0 := w0) (ρ := ρ') (st := st') (vs := ⟨a.tmps :: vs.fs, ds'⟩) (a := a') (fun w2 hr2 => ?_) Ds w' hr0 hnd (fun D hD => ⟨(hDs D hD).1.now hr'.bl, (hDs D hD).2⟩)
    split at hk
    · rename_i q x hx
      rw [oblige_iff] at hk
      obtain ⟨y, k1, k2⟩ := evRes_sound hP.env hr2 h5 hx hk.1
      obtain ⟨_, hk⟩ := hk
      obtain ⟨tm1, fr1, rg1⟩ := st'
      cases fr1 with
      | nil => exact hk.elim
      | cons tm2 fr2 => exact ⟨y, k1, y, ⟨tm2, fr2, rg1⟩, ρ', x, rfl, ⟨hr2.fr.1, hr2.fr.2, h.df, hr2.rs, hr2.bl, hr2.gl, hr2.gn⟩, k2, hk⟩
    · exact hk.elim
  cases e with
  | exit id => exact hk.elim
  | normal => exact fin hk
  | ret => exact fin hk

theorem foldl_sets (ps : List Nat) : ∀ (vals : List Value) (t : Array Value), ((ps.zip vals).foldl (fun (t : Array Value) (p : Nat × Value) => t.setIfInBounds p.1 p.2) t).size = t.size := by
  induction ps with
  | nil => intro vals t; rfl
  | cons p ps ih =>
    intro vals t
    cases vals with
    | nil => rfl
    | cons v vals => simp only [List.zip_cons_cons, List.foldl_cons]; rw [ih]; simp
theorem parsK_sound {N : Nat} : ∀ (ps : List Nat) (args : List Tm) (s : Sl) (k : Sl → Prop) (vals : List Value) (t : Array Value), parsK ps args s k → okL (Tm.ok N ρ) args vals → s.ok N ρ t →
    vals.length = ps.length ∧ ∃ s', k s' ∧ s'.ok N ρ ((ps.zip vals).foldl (fun (t : Array Value) (p : Nat × Value) => t.setIfInBounds p.1 p.2) t)
  | [], [], s, k, [], t, h, _, hs => ⟨rfl, s, h, hs⟩
  | [], _ :: _, s, k, _, t, h, _, hs => h.elim
  | p :: ps, [], s, k, _, t, h, _, hs => by cases s; exact h.elim
  | p :: ps, x :: args, ⟨n, tr⟩, k, v :: vals, t, h, ha, hs => by
    change (match Nat.blt p n with | true => forceT x (fun x => tr.putK p x (fun tr => parsK ps args ⟨n, tr⟩ k)) | false => False) at h
    split at h
    · rename_i hb
      rw [forceT_eq, Tr.putK_eq] at h
      have hs' : Sl.ok N ρ ⟨n, tr.put p x⟩ (t.setIfInBounds p v) := by
        have := hs.put p ha.1
        simp only [Sl.put, hb] at this
        exact this
      obtain ⟨h1, s', h2, h3⟩ := parsK_sound ps args _ k vals _ h ha.2 hs'
      exact ⟨by simp [h1], s', h2, h3⟩
    · exact h.elim

/-- A round of a loop, walked where yield is called. -/
theorem round_sound {go : Option (Nat × Nat) → Code → St → (Ex → St → Prop) → Prop} (hgo : GoOk P Γ go) : RdOk P Γ (evRound go) := by
  intro r args st K hk ro n M w0 ρ vs a w vals h hargs
  obtain ⟨tm, fr, rg⟩ := st
  unfold evRound at hk
  simp only at hk
  split at hk
  case h_2 => exact hk.elim
  rename_i l s L j hg
  obtain ⟨_, _, hs, hh, hl⟩ := h.rs.blk r _ [] true (.lp l s L .ready j) (getD_reg hg (by simp)) ⟨rfl, rfl, rfl⟩
  rw [hl] at hh ⊢
  obtain ⟨hlen, s', hk, hs'⟩ := parsK_sound _ _ _ _ _ _ hk hargs hs
  have hy := run_yield (P := P) (args := vals.toArray) hh (by simp [hlen])
  refine ⟨_, _, _, _, hy, roundIn_of_wpIn trivial ?_⟩
  have hf : ((L.params.zip vals.toArray).foldl (fun (t : Array Value) (p : Nat × Value) => t.setIfInBounds p.1 p.2) L.tmps) = (L.params.toList.zip vals).foldl (fun (t : Array Value) (p : Nat × Value) => t.setIfInBounds p.1 p.2) L.tmps := by
    rw [← Array.foldl_toList, Array.toList_zip]
  have hrel : Rel Γ M w0 ρ ⟨s', tm :: fr, rg⟩ ⟨a.tmps :: vs.fs, []⟩ { tmps := (L.params.toList.zip vals).foldl (fun (t : Array Value) (p : Nat × Value) => t.setIfInBounds p.1 p.2) L.tmps, defers := [] } w :=
    ⟨hs', ⟨h.tm, h.fr⟩, rfl, h.rs, h.bl, h.gl, h.gn⟩
  rw [← hf] at hrel
  refine hgo (some (r, l)) n M w0 ⟨a.tmps :: vs.fs, []⟩ L.assign _ _ _ _ _ _ hk hrel fun e st1 a1 w1 ρ1 M1 w01 ds1 ha1 hk hr1 => ?_
  cases e with
  | exit id => exact hk.elim
  | ret => exact hk.elim
  | normal =>
    simp only at hk
    split at hk
    case h_2 => exact hk.elim
    rename_i l1 s1 L1 j1 hg1
    obtain ⟨rfl, hk⟩ := hk
    have hg1 := getD_reg hg1 (by simp)
    obtain ⟨_, _, _, hh1, hl1⟩ := hr1.rs.blk r _ [] true (.lp l1 s1 L1 .ready j1) hg1 ⟨rfl, rfl, rfl⟩
    rw [hl1] at hh1
    rw [St.setRK_eq] at hk
    refine ⟨_, run_beginRound hh1 rfl, ?_⟩
    have hr2 := hr1.turnLoop (q' := .busy) (j' := j1) hg1
    refine hgo (some (r, l1)) n M1 w01 ⟨a.tmps :: vs.fs, ds1⟩ L.body _ _ _ _ _ _ hk hr2 fun e st3 a3 w3 ρ3 M3 w03 ds3 ha3 hk hr3 => ?_
    obtain ⟨tm3, fr3, rg3⟩ := st3
    cases fr3 with
    | nil => exact hk.elim
    | cons tm4 fr4 =>
      simp only at hk
      split at hk
      case h_2 => exact hk.elim
      rename_i l3 s3 L3 j3 hg3
      obtain ⟨rfl, hk⟩ := hk
      have hg3 := getD_reg (st := ⟨tm3, tm4 :: fr4, rg3⟩) hg3 (by simp)
      obtain ⟨_, _, _, hh3, hl3⟩ := hr3.rs.blk r _ [] true (.lp l3 s3 L3 .busy j3) hg3 ⟨rfl, rfl, rfl⟩
      rw [hl3] at hh3
      have hext := (ha1.trans ha3).ext
      have back : ∀ (q : LoopState) (j : Option Code), Rel Γ M w0 ρ3 ((⟨tm4, fr4, rg3⟩ : St).setR r (.lp l3 s3 L3 q j)) vs a (w3.putObj l3 (.loop { L3 with state := q, pending := j })) := fun q j => by
        have h4 := (hr3.turnLoop (q' := q) (j' := j) hg3).unbase hext h.gn
        exact ⟨h4.fr.1, h4.fr.2, h.df, h4.rs, h4.bl, h4.gl, h4.gn⟩
      cases e with
      | normal =>
        simp only [roundEndK, St.setRK_eq] at hk
        exact ⟨_, _, run_endRound none hh3, _, _, ρ3, .a .tt, rfl, back .ready none, rfl, hk⟩
      | ret =>
        simp only [roundEndK, St.setRK_eq] at hk
        exact ⟨_, _, run_endRound (some .ret) hh3, _, _, ρ3, .a .ff, rfl, back .done (some .ret), rfl, hk⟩
      | exit id =>
        simp only [roundEndK, St.setRK_eq] at hk
        exact ⟨_, _, run_endRound (some (.exit id)) hh3, _, _, ρ3, .a .ff, rfl, back .done (some (.exit id)), rfl, hk⟩

/-- **The evaluator is sound.** -/
theorem evN_sound (hP : ProgOk P Γ E) : ∀ (d : Nat), GoOk P Γ (evN E d)
  | 0 => fun rn n M w0 vs c st a w ρ K Q he h hK => evC_sound hP (cl := fun _ _ _ _ => False) (rd := fun _ _ _ _ => False) (fun _ _ _ _ _ _ hc => hc.elim) (fun _ _ _ _ hc => hc.elim) c M w0 vs st a w ρ K Q he h hK
  | d + 1 => fun rn n M w0 vs c st a w ρ K Q he h hK => evC_sound hP (body_sound hP (evN_sound hP d)) (round_sound (evN_sound hP d)) c M w0 vs st a w ρ K Q he h hK
end
end Go.Sy
end

section
/-
  Functions and their contracts: what is passed is seen by the callee as its own regions, none of which it may write.
-/
namespace Go.Sy
open Go Go.RowKit
universe u

/-- How a callee numbers what its arguments speak of: by a region of the caller's and a way; or nowhere (an array of no element). -/
abbrev Pas := List (Option (Nat × Path))
def paF (is : Pas) (n : Nat) : List Nat → List Nat → Prop
  | [], [] => True
  | r :: l, r' :: l' => (r' < n ∧ is[r']? = some (some (r, []))) ∧ paF is n l l'
  | _, _ => False
def paA (is : Pas) (n : Nat) (x x' : At) : Prop :=
  match x' with
  | .any => True
  | .p r' π' i' j' => (∃ r π0, x = .p r (π' ++ π0) i' j' ∧ r' < n ∧ is[r']? = some (some (r, π0)))
  | .sl r' π' lo k => ((x = .v (.slice none 0 0) ∨ x = .z) ∧ lo = 0 ∧ k = 0 ∧ r' < n ∧ is[r']? = some none) ∨ (∃ r π0, x = .sl r (π' ++ π0) lo k ∧ r' < n ∧ is[r']? = some (some (r, π0)))
  | .fn f l' => ∃ l, x = .fn f l ∧ paF is n l l'
  | .mp r' => ∃ r, x = .mp r ∧ r' < n ∧ is[r']? = some (some (r, []))
  | .it _ => False
  | .yl _ => False
  | x' => x = x'
def paAs (is : Pas) (n : Nat) : List At → List At → Prop
  | [], [] => True
  | x :: l, x' :: l' => paA is n x x' ∧ paAs is n l l'
  | _, _ => False
def paC (is : Pas) (n : Nat) : C1 → C1 → Prop
  | .a x, .a y => paA is n x y
  | .agg l, .agg l' => paAs is n l l'
  | _, _ => False
def paCs (is : Pas) (n : Nat) : List C1 → List C1 → Prop
  | [], [] => True
  | x :: l, x' :: l' => paC is n x x' ∧ paCs is n l l'
  | _, _ => False
def paT (is : Pas) (n : Nat) : Tm → Tm → Prop
  | .a x, .a y => paA is n x y
  | .agg l, .agg l' => paAs is n l l'
  | .tup l, .tup l' => paCs is n l l'
  | _, _ => False
def paTs (is : Pas) (n : Nat) : List Tm → List Tm → Prop
  | [], [] => True
  | x :: l, x' :: l' => paT is n x x' ∧ paTs is n l l'
  | _, _ => False
def paR (rg : List Reg) (is : Pas) (n : Nat) (r' : Nat) : Reg → Prop
  | .dead => True
  | .box o l' => o = false ∧ ∃ r o0 l, is[r']? = some (some (r, [])) ∧ rg[r]? = some (.box o0 l) ∧ paAs is n l l'
  | .arr te tg xs o i => o = false ∧ i = false ∧ ((is[r']? = some none ∧ xs = [] ∧ tg ≠ []) ∨ ∃ r π0 q, is[r']? = some (some (r, π0)) ∧ (rg.getD r .dead).dn π0 = some (q, ⟨te, tg, xs⟩) ∧ obl q)
  | .map t k c es o => o = false ∧ ∃ r o0, is[r']? = some (some (r, [])) ∧ rg[r]? = some (.map t k c es o0)
  | _ => False
structure Passed (args : List Tm) (rg : List Reg) (is : Pas) (args' : List Tm) (rg' : List Reg) : Prop where
  args : paTs is rg'.length args args'
  rgs : ∀ (r : Nat) (g : Reg), rg'[r]? = some g → paR rg is rg'.length r g

section
variable {P : Program} {Γ : Glob} {E : Env} {M : Nat → Prop} {w0 : World} {ρ : Keys} {st : St} {vs : Fv} {a : Act} {w : World}
def paρ (ρ : Keys) (is : Pas) (rg' : List Reg) : Keys := fun r τ =>
  match is[r]? with
  | some (some (r0, π0)) => ρ r0 (τ ++ π0)
  | _ => { noRI with m := (match rg'.getD r .dead with | .arr _ tg _ _ _ => tg.length | _ => 0) }
theorem paρ_some {is : Pas} {rg' : List Reg} {r r0 : Nat} {π0 τ : Path} (h : is[r]? = some (some (r0, π0))) : paρ ρ is rg' r τ = ρ r0 (τ ++ π0) := by simp only [paρ, h]
theorem paρ_none {is : Pas} {rg' : List Reg} {r : Nat} {τ : Path} (h : is[r]? = some none) : (paρ ρ is rg' r τ).void = true := by simp only [paρ, h]; rfl
theorem paF_sound {N n : Nat} {is : Pas} {rg' : List Reg} : ∀ {l l' : List Nat}, paF is n l l' → (∀ r ∈ l, r < N) → (∀ r ∈ l', r < n) ∧ l.map (fun r => Value.pointer (some ((ρ r []).at 0))) = l'.map (fun r => Value.pointer (some ((paρ ρ is rg' r []).at 0)))
  | [], [], _, _ => ⟨by simp, rfl⟩
  | r :: l, r' :: l', h, hN => by
    obtain ⟨⟨h1, h2⟩, h3⟩ := h
    obtain ⟨h4, h5⟩ := paF_sound (rg' := rg') h3 fun x hx => hN x (List.mem_cons_of_mem _ hx)
    refine ⟨fun x hx => ?_, ?_⟩
    · rcases List.mem_cons.1 hx with rfl | hx
      · exact h1
      · exact h4 x hx
    · simp only [List.map_cons, h5, paρ_some h2, List.append_nil]
theorem paA_sound {N n : Nat} {is : Pas} {rg' : List Reg} {x x' : At} {y : Value} (hl : paA is n x x') (h : x.ok N ρ y) : x'.ok n (paρ ρ is rg') y := by
  cases x' <;> simp only [paA] at hl
  case any => trivial
  case un => subst hl; exact h
  case v => subst hl; exact h
  case tt => subst hl; exact h
  case ff => subst hl; exact h
  case z => subst hl; exact h
  case err => subst hl; exact h
  case p r' π' i' j' =>
    obtain ⟨r, π0, rfl, h1, h2⟩ := hl
    exact ⟨h1, by rw [paρ_some h2]; exact h.2⟩
  case sl r' π' lo k =>
    rcases hl with ⟨hx, rfl, rfl, h1, h2⟩ | ⟨r, π0, rfl, h1, h2⟩
    · refine ⟨h1, ?_⟩
      rcases hx with rfl | rfl
      · obtain ⟨rfl, _⟩ := h; exact void_head (paρ_none h2)
      · obtain ⟨a0, rfl⟩ := h; exact void_head (paρ_none h2)
    · exact ⟨h1, by rw [paρ_some h2]; exact h.2⟩
  case mp r' =>
    obtain ⟨r, rfl, h1, h2⟩ := hl
    exact ⟨h1, by rw [paρ_some h2]; exact h.2⟩
  case fn f l' =>
    obtain ⟨l, rfl, h1⟩ := hl
    obtain ⟨h2, h3⟩ := paF_sound (ρ := ρ) (rg' := rg') h1 h.1
    exact ⟨h2, by rw [h.2, h3]⟩
theorem paAs_sound {N n : Nat} {is : Pas} {rg' : List Reg} : ∀ {l l' : List At} {ys : List Value}, paAs is n l l' → okL (At.ok N ρ) l ys → okL (At.ok n (paρ ρ is rg')) l' ys
  | [], [], [], _, _ => trivial
  | _ :: _, _ :: _, _ :: _, hl, h => ⟨paA_sound hl.1 h.1, paAs_sound hl.2 h.2⟩
theorem paC_sound {N n : Nat} {is : Pas} {rg' : List Reg} {x x' : C1} {y : Value} (hl : paC is n x x') (h : x.ok N ρ y) : x'.ok n (paρ ρ is rg') y := by
  cases x <;> cases x' <;> first | exact hl.elim | skip
  · exact paA_sound hl h
  · obtain ⟨ys, h1, h2⟩ := h; exact ⟨ys, h1, paAs_sound hl h2⟩
theorem paCs_sound {N n : Nat} {is : Pas} {rg' : List Reg} : ∀ {l l' : List C1} {ys : List Value}, paCs is n l l' → okL (C1.ok N ρ) l ys → okL (C1.ok n (paρ ρ is rg')) l' ys
  | [], [], [], _, _ => trivial
  | _ :: _, _ :: _, _ :: _, hl, h => ⟨paC_sound hl.1 h.1, paCs_sound hl.2 h.2⟩
theorem paT_sound {N n : Nat} {is : Pas} {rg' : List Reg} {x x' : Tm} {y : Value} (hl : paT is n x x') (h : x.ok N ρ y) : x'.ok n (paρ ρ is rg') y := by
  cases x <;> cases x' <;> first | exact hl.elim | skip
  · exact paA_sound hl h
  · obtain ⟨ys, h1, h2⟩ := h; exact ⟨ys, h1, paAs_sound hl h2⟩
  · obtain ⟨ys, h1, h2⟩ := h; exact ⟨ys, h1, paCs_sound hl h2⟩
theorem paTs_sound {N n : Nat} {is : Pas} {rg' : List Reg} : ∀ {l l' : List Tm} {ys : List Value}, paTs is n l l' → okL (Tm.ok N ρ) l ys → okL (Tm.ok n (paρ ρ is rg')) l' ys
  | [], [], [], _, _ => trivial
  | _ :: _, _ :: _, _ :: _, hl, h => ⟨paT_sound hl.1 h.1, paTs_sound hl.2 h.2⟩
theorem paAs_get {is : Pas} {n : Nat} : ∀ {l l' : List At}, paAs is n l l' → ∀ (j : Nat) (x' : At), l'[j]? = some x' → ∃ x, l[j]? = some x ∧ paA is n x x'
  | [], [], _, j, x', h => by simp at h
  | x :: _, _ :: _, hl, 0, x', h => by simp at h; subst h; exact ⟨x, rfl, hl.1⟩
  | _ :: _, _ :: _, hl, j + 1, x', h => by
    obtain ⟨x, h1, h2⟩ := paAs_get hl.2 j x' (by simpa using h)
    exact ⟨x, by simpa using h1, h2⟩

theorem CK.lies.along {η η' : Path → RI} {π0 π : Path} {i j : Nat} (he : ∀ τ, η' τ = η (τ ++ π0)) : ∀ {c : CK} {x : c.ty} {y : Value}, c.lies η (π ++ π0) i j x y → c.lies η' π i j x y
  | .int _, _, _, h => h
  | .bool, _, _, h => h
  | .str, _, _, h => h
  | .sl _ _, _, _, h => by
    show RI.head (η' ((i, j) :: π)) 0 _ _
    rw [he]; exact h
theorem Tup.lies.along {η η' : Path → RI} {π0 π : Path} {i : Nat} (he : ∀ τ, η' τ = η (τ ++ π0)) : ∀ {tg : List CK} {j : Nat} {x : Tup tg} {ys : List Value}, Tup.lies η (π ++ π0) i j tg x ys → Tup.lies η' π i j tg x ys
  | [], _, _, _, h => h
  | [c], _, _, _, h => by obtain ⟨y, h1, h2⟩ := h; exact ⟨y, h1, h2.along he⟩
  | c :: c' :: cs, _, _, _, h => by obtain ⟨y, ys', h1, h2, h3⟩ := h; exact ⟨y, ys', h1, h2.along he, h3.along (tg := c' :: cs) he⟩
theorem Ar.lies.along {η η' : Path → RI} {π0 π : Path} {A : Ar} (he : ∀ τ, η' τ = η (τ ++ π0)) (h : A.lies w η (π ++ π0)) : A.lies w η' π where
  tg := h.tg
  m := by rw [he]; exact h.m
  void := by rw [he]; exact h.void
  len := by rw [he]; exact h.len
  cell := fun i hi => by
    obtain ⟨ys, h1, h2⟩ := h.cell i hi
    exact ⟨ys, h1.along he, fun s y hy => by rw [he]; exact h2 s y hy⟩

/-- The regions as the callee sees them. -/
theorem Regs.passed {rg rg' : List Reg} {is : Pas} {args args' : List Tm} (h : Regs M w0 rg.length ρ rg w) (hp : Passed args rg is args' rg') : Regs (fun _ => False) w rg'.length (paρ ρ is rg') rg' w := by
  have arr : ∀ (r' : Nat) te tg xs o i, rg'[r']? = some (.arr te tg xs o i) → ∀ π f A, (Reg.arr te tg xs o i).has π f (.arr A) →
      f = false ∧ ((is[r']? = some none ∧ π = [] ∧ A = ⟨te, tg, []⟩ ∧ tg ≠ []) ∨ ∃ r π0 g f0, is[r']? = some (some (r, π0)) ∧ rg[r]? = some g ∧ g.has (π ++ π0) f0 (.arr A)) := by
    intro r' te tg xs o i hr π f A hh
    obtain ⟨rfl, rfl, hc⟩ := hp.rgs r' _ hr
    have hf : f = false := by obtain ⟨rfl, _⟩ := hh; cases π <;> rfl
    refine ⟨hf, ?_⟩
    rcases hc with ⟨h1, rfl, h2⟩ | ⟨r, π0, q, h1, h2, h3⟩
    · obtain ⟨te1, tg1, inn, p1, p2, p3, p4⟩ := nil_has (g := .arr te tg [] false false) ⟨rfl, h2⟩ hh
      injection p3 with q1 q2 q3 q4 q5
      subst q1 q2
      injection p4 with p4
      exact .inl ⟨h1, p1, p4, h2⟩
    · obtain ⟨te0, tg0, xs0, o0, i0, hg, k1, _⟩ := Reg.dn_has h2 h3
      obtain ⟨_, A', hA, hA'⟩ := hh
      injection hA' with hA'
      subst hA'
      refine .inr ⟨r, π0, _, _, h1, getD_reg (st := ⟨⟨0, .nil⟩, [], rg⟩) hg (by simp), rfl, A, has_append.2 ⟨_, k1, hA⟩, rfl⟩
  have box : ∀ (r' : Nat) o l', rg'[r']? = some (.box o l') → o = false ∧ ∃ r o0 l, is[r']? = some (some (r, [])) ∧ rg[r]? = some (.box o0 l) ∧ paAs is rg'.length l l' := fun r' o l' hr => hp.rgs r' _ hr
  have notOwn : ∀ (r' : Nat) (g' : Reg) π B, rg'[r']? = some g' → g'.has π true B → False := by
    intro r' g' π B hr hh
    cases g' with
    | dead => exact hh
    | box o l' => obtain ⟨_, h2, _⟩ := hh; rw [(box r' o l' hr).1] at h2; cases h2
    | arr te tg xs o i =>
      obtain ⟨A, rfl, _, _⟩ := Ar.has_flag hh
      have := (arr r' te tg xs o i hr π true A hh).1
      cases this
    | map t k c es o => obtain ⟨_, h2, _⟩ := hh; rw [(hp.rgs r' _ hr).1] at h2; cases h2
    | iter => exact (hp.rgs r' _ hr).elim
    | lp => exact (hp.rgs r' _ hr).elim
  refine ⟨fun r' g' π o B hr hh => ?_, fun r' g' π o B hr hh hv => ?_, fun r' g' π B hr hh _ => (notOwn r' g' π B hr hh).elim, fun r1 r2 g1 g2 π π' o' B B' e1 _ k1 _ _ _ _ => (notOwn r1 g1 π B e1 k1).elim⟩
  · cases g' with
    | dead => exact hh.elim
    | map t k c es o' =>
      obtain ⟨rfl, rfl, rfl⟩ := hh
      obtain ⟨_, r, o0, h1, h2⟩ := hp.rgs r' _ hr
      obtain ⟨_, b2, b3⟩ := h.blk r _ [] o0 (.map k c es) h2 ⟨rfl, rfl, rfl⟩
      exact ⟨rfl, by rw [paρ_some h1]; exact b2, by rw [paρ_some h1]; exact b3⟩
    | iter => exact (hp.rgs r' _ hr).elim
    | lp => exact (hp.rgs r' _ hr).elim
    | box o' l' =>
      obtain ⟨rfl, rfl, rfl⟩ := hh
      obtain ⟨_, r, o0, l, h1, h2, h3⟩ := box r' _ l' hr
      obtain ⟨_, b2, b3, b4⟩ := h.blk r _ [] o0 (.box l) h2 ⟨rfl, rfl, rfl⟩
      refine ⟨rfl, by rw [paρ_some h1]; exact b2, by rw [paρ_some h1]; exact b3, fun j x' hx => ?_⟩
      obtain ⟨x, hx, hle⟩ := paAs_get h3 j x' hx
      obtain ⟨y, hy, hc⟩ := b4 j x hx
      exact ⟨y, paA_sound hle hy, by rw [paρ_some h1]; exact hc⟩
    | arr te tg xs o' i' =>
      obtain ⟨A, rfl, _, _⟩ := Ar.has_flag hh
      rcases (arr r' te tg xs o' i' hr π o A hh).2 with ⟨h1, rfl, rfl, h2⟩ | ⟨r, π0, g, f0, h1, h2, h3⟩
      · refine ⟨h2, ?_, fun _ => rfl, fun hf => ?_, fun i hi => by simp at hi⟩
        · simp only [paρ, h1]; simp [List.getD, hr]
        · rw [paρ_none h1] at hf; cases hf
      · exact Ar.lies.along (fun τ => paρ_some h1) (h.blk r g (π ++ π0) f0 (.arr A) h2 h3)
  · cases g' with
    | dead => exact hh.elim
    | map t k c es o' =>
      obtain ⟨rfl, rfl, rfl⟩ := hh
      obtain ⟨_, r, o0, h1, h2⟩ := hp.rgs r' _ hr
      rw [paρ_some h1] at hv ⊢
      exact h.lt r _ [] o0 (.map k c es) h2 ⟨rfl, rfl, rfl⟩ hv
    | iter => exact (hp.rgs r' _ hr).elim
    | lp => exact (hp.rgs r' _ hr).elim
    | box o' l' =>
      obtain ⟨rfl, rfl, rfl⟩ := hh
      obtain ⟨_, r, o0, l, h1, h2, h3⟩ := box r' _ l' hr
      rw [paρ_some h1] at hv ⊢
      exact h.lt r _ [] o0 (.box l) h2 ⟨rfl, rfl, rfl⟩ hv
    | arr te tg xs o' i' =>
      obtain ⟨A, rfl, _, _⟩ := Ar.has_flag hh
      rcases (arr r' te tg xs o' i' hr π o A hh).2 with ⟨h1, rfl, rfl, h2⟩ | ⟨r, π0, g, f0, h1, h2, h3⟩
      · rw [paρ_none h1] at hv; cases hv
      · rw [paρ_some h1] at hv ⊢
        exact h.lt r g (π ++ π0) f0 (.arr A) h2 h3 hv
end
end Go.Sy
end

section
/-
  Functions and their contracts: functional ones, and those that hand back new memory.
-/
namespace Go.Sy
open Go Go.RowKit
universe u

/-! ### Values that speak of no region; of regions below n -/
def At.lt (n : Nat) : At → Bool
  | .p r _ _ _ => Nat.blt r n
  | .sl r _ _ _ => Nat.blt r n
  | .fn _ l => allL (fun r => Nat.blt r n) l
  | .mp r => Nat.blt r n
  | .it r => Nat.blt r n
  | .yl r => Nat.blt r n
  | _ => true
def C1.lt (n : Nat) : C1 → Bool
  | .a x => x.lt n
  | .agg l => allL (At.lt n) l
def Tm.lt (n : Nat) : Tm → Bool
  | .a x => x.lt n
  | .agg l => allL (At.lt n) l
  | .tup l => allL (C1.lt n) l
section
variable {P : Program} {Γ : Glob} {E : Env} {M : Nat → Prop} {w0 : World} {ρ ρ' : Keys} {st : St} {vs : Fv} {a : Act} {w : World}
theorem At.ren_ok {N N' : Nat} (n : Nat) {f g : Nat → Nat} (hN : ∀ r, r < n → g r < N') (hρ : ∀ r, r < n → ρ' (g r) = ρ (f r)) {x : At} {y : Value} (hl : x.lt n = true) (h : (x.ren f).ok N ρ y) : (x.ren g).ok N' ρ' y := by
  cases x <;> try exact h
  case p r π i j =>
    have hr : r < n := Nat.le_of_ble_eq_true hl
    exact ⟨hN r hr, by rw [hρ r hr]; exact h.2⟩
  case sl r π lo k =>
    have hr : r < n := Nat.le_of_ble_eq_true hl
    exact ⟨hN r hr, by rw [hρ r hr]; exact h.2⟩
  case fn k l =>
    have hr : ∀ r ∈ l, r < n := fun r hr => Nat.le_of_ble_eq_true (allL_forall hl r hr)
    refine ⟨fun r' hr' => ?_, ?_⟩
    · obtain ⟨r, h1, rfl⟩ := List.mem_map.1 hr'
      exact hN r (hr r h1)
    · show y = _
      rw [h.2]
      simp only [List.map_map]
      congr 2
      exact List.map_congr_left fun r h1 => by simp only [Function.comp]; rw [hρ r (hr r h1)]
  case mp r =>
    have hr : r < n := Nat.le_of_ble_eq_true hl
    exact ⟨hN r hr, by rw [hρ r hr]; exact h.2⟩
  case it r =>
    have hr : r < n := Nat.le_of_ble_eq_true hl
    exact ⟨hN r hr, by rw [hρ r hr]; exact h.2⟩
  case yl r =>
    have hr : r < n := Nat.le_of_ble_eq_true hl
    exact ⟨hN r hr, by rw [hρ r hr]; exact h.2⟩
theorem okL_mapL {α : Type} {R R' : α → Value → Prop} {F G : α → α} {p : α → Bool} (hf : ∀ x y, p x = true → R (F x) y → R' (G x) y) : ∀ {l : List α} {ys : List Value}, allL p l = true → okL R (l.map F) ys → okL R' (l.map G) ys
  | [], [], _, _ => trivial
  | x :: l, y :: ys, hs, h => by
    simp only [allL] at hs
    split at hs
    · rename_i hx; exact ⟨hf x y hx h.1, okL_mapL hf hs h.2⟩
    · cases hs
theorem C1.ren_ok {N N' : Nat} (n : Nat) {f g : Nat → Nat} (hN : ∀ r, r < n → g r < N') (hρ : ∀ r, r < n → ρ' (g r) = ρ (f r)) {x : C1} {y : Value} (hl : x.lt n = true) (h : (x.mapA (At.ren f)).ok N ρ y) : (x.mapA (At.ren g)).ok N' ρ' y := by
  cases x with
  | a x => exact At.ren_ok n hN hρ hl h
  | agg l => obtain ⟨ys, h1, h2⟩ := h; exact ⟨ys, h1, okL_mapL (fun _ _ hp hh => At.ren_ok n hN hρ hp hh) hl h2⟩
theorem Tm.ren_ok {N N' : Nat} (n : Nat) {f g : Nat → Nat} (hN : ∀ r, r < n → g r < N') (hρ : ∀ r, r < n → ρ' (g r) = ρ (f r)) {x : Tm} {y : Value} (hl : x.lt n = true) (h : (x.ren f).ok N ρ y) : (x.ren g).ok N' ρ' y := by
  cases x with
  | a x => exact At.ren_ok n hN hρ hl h
  | agg l => obtain ⟨ys, h1, h2⟩ := h; exact ⟨ys, h1, okL_mapL (fun _ _ hp hh => At.ren_ok n hN hρ hp hh) hl h2⟩
  | tup l => obtain ⟨ys, h1, h2⟩ := h; exact ⟨ys, h1, okL_mapL (fun _ _ hp hh => C1.ren_ok n hN hρ hp hh) hl h2⟩
def C1.plain : C1 → Bool
  | .a x => x.plain
  | .agg l => allL At.plain l
def Tm.plain : Tm → Bool
  | .a x => x.plain
  | .agg l => allL At.plain l
  | .tup l => allL C1.plain l
theorem At.plain_ok {N N' : Nat} {x : At} {y : Value} (hp : x.plain = true) (h : x.ok N ρ y) : x.ok N' ρ' y := by
  cases x <;> first | exact h | simp [At.plain] at hp
theorem okL_all {α : Type} {R R' : α → Value → Prop} {f : α → Bool} (hf : ∀ x y, f x = true → R x y → R' x y) : ∀ {l : List α} {ys : List Value}, allL f l = true → okL R l ys → okL R' l ys
  | [], [], _, _ => trivial
  | x :: l, y :: ys, hs, h => by
    simp only [allL] at hs
    split at hs
    · rename_i hx; exact ⟨hf x y hx h.1, okL_all hf hs h.2⟩
    · cases hs
theorem C1.plain_ok {N N' : Nat} {x : C1} {y : Value} (hp : x.plain = true) (h : x.ok N ρ y) : x.ok N' ρ' y := by
  cases x with
  | a x => exact At.plain_ok hp h
  | agg l => obtain ⟨ys, h1, h2⟩ := h; exact ⟨ys, h1, okL_all (fun _ _ => At.plain_ok) hp h2⟩
theorem Tm.plain_ok {N N' : Nat} {x : Tm} {y : Value} (hp : x.plain = true) (h : x.ok N ρ y) : x.ok N' ρ' y := by
  cases x with
  | a x => exact At.plain_ok hp h
  | agg l => obtain ⟨ys, h1, h2⟩ := h; exact ⟨ys, h1, okL_all (fun _ _ => At.plain_ok) hp h2⟩
  | tup l => obtain ⟨ys, h1, h2⟩ := h; exact ⟨ys, h1, okL_all (fun _ _ => C1.plain_ok) hp h2⟩

theorem eqA_sound {N : Nat} {x y : At} {v : Value} (he : eqA x y) (h : x.ok N ρ v) : y.ok N ρ v := by
  unfold eqA at he
  split at he
  · exact h
  · exact h
  · subst he; obtain rfl : v = .bool true := h; exact ⟨rfl, rfl⟩
  · subst he; obtain rfl : v = .bool false := h; exact ⟨rfl, rfl⟩
  · subst he; exact h.1
  · subst he; exact h.1
  · trivial
  · obtain ⟨rfl, rfl, rfl, rfl⟩ := he; exact h
  · obtain ⟨rfl, rfl, rfl, rfl⟩ := he; exact h
  · obtain ⟨rfl, rfl⟩ := he; exact h
  · subst he; exact h
  · subst he; exact h
  · subst he; exact h
  · exact h
  · exact h
  · exact h
  · exact ⟨_, h.1⟩
  · obtain ⟨rfl, rfl⟩ := he; exact h
  · subst he; exact h
  · subst he; exact h
  · exact he.elim
theorem eqAs_sound {N : Nat} : ∀ {l l' : List At} {ys : List Value}, eqAs l l' → okL (At.ok N ρ) l ys → okL (At.ok N ρ) l' ys
  | [], [], [], _, _ => trivial
  | _ :: _, _ :: _, _ :: _, he, h => ⟨eqA_sound he.1 h.1, eqAs_sound he.2 h.2⟩
theorem eqC_sound {N : Nat} {x y : C1} {v : Value} (he : eqC x y) (h : x.ok N ρ v) : y.ok N ρ v := by
  cases x <;> cases y <;> first | exact he.elim | skip
  · exact eqA_sound he h
  · obtain ⟨ys, h1, h2⟩ := h; exact ⟨ys, h1, eqAs_sound he h2⟩
theorem eqCs_sound {N : Nat} : ∀ {l l' : List C1} {ys : List Value}, eqCs l l' → okL (C1.ok N ρ) l ys → okL (C1.ok N ρ) l' ys
  | [], [], [], _, _ => trivial
  | _ :: _, _ :: _, _ :: _, he, h => ⟨eqC_sound he.1 h.1, eqCs_sound he.2 h.2⟩
theorem eqT_sound {N : Nat} {x y : Tm} {v : Value} (he : eqT x y) (h : x.ok N ρ v) : y.ok N ρ v := by
  cases x <;> cases y <;> first | exact he.elim | skip
  · exact eqA_sound he h
  · obtain ⟨ys, h1, h2⟩ := h; exact ⟨ys, h1, eqAs_sound he h2⟩
  · obtain ⟨ys, h1, h2⟩ := h; exact ⟨ys, h1, eqCs_sound he h2⟩

/-! ### A function's walk -/
def evTop (E : Env) (d : Nat) (b : Body) (args : List Tm) (rg : List Reg) (K : Tm → St → Prop) : Prop :=
  frameK b.n args (fun s => eachK forceR rg (fun rg => evN E d none b.code ⟨s, [], rg⟩ (fun e st' => match e with
    | .exit _ => False
    | _ => (match evRes E st' b.rs with
      | some (q, x) => oblige E.conc q (K x st')
      | none => False))))
/-- A function's body walked at the outermost: how it ends. -/
theorem top_leaves {M : Nat → Prop} {w0 : World} (hP : ProgOk P Γ E) {fn : Func} {c : Code} {rs : List ResultVar} (h5 : fn.results = rs.toArray) {d : Nat} {fs : List (Array Value)} {st : St} {a : Act} {ρ : Keys} {K : Tm → St → Prop}
    (hc : evN E d none c st (fun e st' => match e with
      | .exit _ => False
      | _ => (match evRes E st' rs with
        | some (q, x) => oblige E.conc q (K x st')
        | none => False))) (hrel : Rel Γ M w0 ρ st ⟨fs, []⟩ a w) {R : Ending → World → Prop}
    (hR : ∀ v st' ρ' x a' w' ds, Rel Γ M w0 ρ' st' ⟨fs, ds⟩ a' w' → Tm.ok st'.rg.length ρ' x v → K x st' → R (.returned v) w') : c.wpIn Fence.wide 0 P (bodyPostM Fence.wide 0 P fn R) a w := by
  refine evN_sound hP d none 0 M w0 ⟨fs, []⟩ c _ _ _ _ _ _ hc hrel fun e st' a' w' ρ' M' w0' ds' ha hk hr' => ?_
  obtain ⟨hext, Ds, hds, hnd, hDs⟩ := ha
  have hr0 := hr'.unbase hext hrel.gn
  have hdf : a'.defers = Ds.map mark := by have := hr'.df; simp only at this; rw [this, hds]; simp
  have fin : (match evRes E st' rs with
      | some (q, x) => oblige E.conc q (K x st')
      | none => False) → LeavesInM Fence.wide 0 P fn a'.tmps R a'.defers .returning w' := by
    intro hk
    rw [hdf]
    refine leave_marks (Γ := Γ) (M := M) (w0 := w0) (ρ := ρ') (st := st') (vs := ⟨fs, ds'⟩) (a := a') (fun w2 hr2 => ?_) Ds w' hr0 hnd (fun D hD => ⟨(hDs D hD).1.now hr'.bl, (hDs D hD).2⟩)
    split at hk
    · rename_i q x hx
      rw [oblige_iff] at hk
      obtain ⟨y, k1, k2⟩ := evRes_sound hP.env hr2 h5 hx hk.1
      exact ⟨y, k1, hR y st' ρ' x a' w2 ds' hr2 k2 hk.2⟩
    · exact hk.elim
  cases e with
  | exit id => exact hk.elim
  | normal => exact fin hk
  | ret => exact fin hk
/-- A function walked from what is passed. -/
theorem top_sound (hP : ProgOk P Γ E) {f : FuncId} {b : Body} (hf : BodyOk P f b) {d : Nat} {args : List Tm} {rg : List Reg} {K : Tm → St → Prop} (he : evTop E d b args rg K) (hgn : ∀ b, b < Γ.n → b < w.heap.size) (hgl : Γ.G w)
    {us : List Value} (hargs : okL (Tm.ok rg.length ρ) args us) (hrs : Regs (fun _ => False) w rg.length ρ rg w) :
    Calls P f us.toArray w fun e w' => ∃ v st' ρ' x a' ds, e = .returned v ∧ Rel Γ (fun _ => False) w ρ' st' ⟨[], ds⟩ a' w' ∧ Tm.ok st'.rg.length ρ' x v ∧ K x st' ∧ Below w.heap.size w w' := by
  obtain ⟨fn, h1, h2, h3, h4, h5⟩ := hf.h
  unfold evTop at he
  obtain ⟨hn, hc⟩ := frameK_iff he
  rw [eachK_id forceR_eq] at hc
  have hrel : Rel Γ (fun _ => False) w ρ ⟨⟨b.n, putsT args 0 (Tr.full (depthOf b.n))⟩, [], rg⟩ ⟨[], []⟩ { tmps := us.toArray ++ Array.replicate (b.n - us.length) undef, defers := [] } w :=
    ⟨frame_ok hargs hn, trivial, rfl, hrs, Frame.refl _ _, hgl, fun b hb => ⟨id, hgn b hb⟩⟩
  refine callsIn_wide.1 (callsIn_of_wp_marks (n := 0) h1 h3 trivial ?_ rfl)
  rw [h4]
  rw [show us.toArray.size = us.length by simp]
  exact top_leaves hP h5 hc hrel fun v st' ρ' x a' w' ds hr hx hk => ⟨v, st', ρ', x, a', ds, rfl, hr, hx, hk, ⟨hr.bl.os, hr.bl.tape, hr.bl.output, hr.bl.size, fun k hk => hr.bl.block k hk id⟩⟩

/-- **A function and its functional contract.** -/
theorem Ctr.fn_ok (hP : ProgOk P Γ E) {f : FuncId} {b : Body} (hf : BodyOk P f b) {d : Nat} {F : List Tm → List Reg → Option (List Duty × Tm)}
    (H : ∀ args rg q t, F args rg = some (q, t) → obl q → t.plain = true ∧ ∃ is args' rg', Passed args rg is args' rg' ∧ evTop E d b args' rg' (fun x _ => eqT x t)) : Ctr.Ok P Γ f (.fn F) := by
  intro args rg q t hF hq M w0 ρ w us hl hgn hgl hargs hrg
  obtain ⟨hpl, is, args', rg', hp, hev⟩ := H args rg q t hF hq
  refine (top_sound hP hf hev hgn hgl (paTs_sound hp.args hargs) (hrg.passed hp)).mono ?_
  rintro e w' ⟨v, st', ρ', x, a', _, rfl, _, hx, heq, hb⟩
  exact ⟨v, rfl, Tm.plain_ok hpl (eqT_sound heq hx), hb⟩

/-! ### New memory handed back -/
def Reg.out : Reg → Bool
  | .box true l => allL At.plain l
  | .arr _ tg _ true i => (match i with | true => true | false => flatK tg)
  | .map _ _ _ _ o => o
  | _ => false
theorem out_has {g : Reg} (h : g.out = true) {π : Path} {o : Bool} {B : Blk} (hh : g.has π o B) : o = true := by
  cases g with
  | dead => cases h
  | map => exact hh.2.1.trans h
  | iter => cases h
  | lp => cases h
  | box o1 l => cases o1 with
    | false => cases h
    | true => exact hh.2.1
  | arr te tg xs o1 i1 =>
    cases o1 with
    | false => cases h
    | true =>
      obtain ⟨rfl, A, hA, _⟩ := hh
      cases π with
      | nil => rfl
      | cons p π =>
        cases i1 with
        | true => rfl
        | false => obtain ⟨hp, _⟩ := has_flat (te := te) (tg := tg) (xs := xs) h hA; cases hp
def resRegs (st : St) : List Nat → List Reg → Prop
  | [], [] => True
  | i :: is, g :: gs => st.rg.getD i .dead = g ∧ g.out = true ∧ (∀ j ∈ is, i ≠ j) ∧ resRegs st is gs
  | _, _ => False
theorem resRegs_get {st : St} : ∀ {is : List Nat} {gs : List Reg}, resRegs st is gs → ∀ (r : Nat) (g : Reg), gs[r]? = some g → ∃ i, is[r]? = some i ∧ st.rg[i]? = some g ∧ g.out = true
  | [], [], _, r, g, h => by simp at h
  | i :: is, g :: gs, h, r, g', hr => by
    obtain ⟨h1, h2, _, h6⟩ := h
    cases r with
    | zero =>
      simp at hr; subst hr
      exact ⟨i, rfl, getD_reg h1 (by intro e; subst e; cases h2), h2⟩
    | succ r =>
      obtain ⟨j, a, b⟩ := resRegs_get h6 r g' (by simpa using hr)
      exact ⟨j, by simpa using a, b⟩
theorem resRegs_inj {st : St} : ∀ {is : List Nat} {gs : List Reg}, resRegs st is gs → ∀ (r r' i : Nat), is[r]? = some i → is[r']? = some i → r = r'
  | [], [], _, r, r', i, h, _ => by simp at h
  | i0 :: is, g :: gs, h, r, r', i, h1, h2 => by
    obtain ⟨_, _, h5, h6⟩ := h
    cases r with
    | zero =>
      simp at h1; subst h1
      cases r' with
      | zero => rfl
      | succ r' => exact absurd rfl (h5 i0 (List.mem_of_getElem? (by simpa using h2)))
    | succ r =>
      cases r' with
      | zero => simp at h2; subst h2; exact absurd rfl (h5 i0 (List.mem_of_getElem? (by simpa using h1)))
      | succ r' => rw [resRegs_inj h6 r r' i (by simpa using h1) (by simpa using h2)]
/-- What a walk owes to the continuation of a contract with new memory. -/
def resK (K : Res → Prop) (x : Tm) (st : St) : Prop := ∃ (res : Res) (js : List Nat), K res ∧ resRegs st js res.rg ∧ res.tm.lt res.rg.length = true ∧ eqT x (res.tm.ren (fun r => js.getD r 0))

/-- **A function that hands back new memory.** -/
theorem Ctr.new_ok (hP : ProgOk P Γ E) {f : FuncId} {b : Body} (hf : BodyOk P f b) {d : Nat} {C : List Tm → List Reg → (Res → Prop) → Prop}
    (H : ∀ args rg K, C args rg K → ∃ is args' rg', Passed args rg is args' rg' ∧ evTop E d b args' rg' (resK K)) : Ctr.Ok P Γ f (.new C) := by
  intro args rg K hC M w0 ρ w us hl hgn hgl hargs hrg
  obtain ⟨is, args', rg', hp, hev⟩ := H args rg K hC
  refine (top_sound hP hf hev (fun b hb => Nat.lt_of_lt_of_le (hgn b hb).2 hl) hgl (paTs_sound hp.args hargs) (hrg.passed hp)).mono ?_
  rintro e w' ⟨v, st', ρ', x, a', _, rfl, hr', hx, ⟨res, js, hK, hreg, hlt, heq⟩, hb⟩
  have hget := resRegs_get hreg
  let ρ1 : Keys := fun r => if r < rg.length then ρ r else ρ' (js.getD (r - rg.length) 0)
  have e1 : ∀ r, r < rg.length → ρ1 r = ρ r := fun r hr => by simp [ρ1, hr]
  have e2 : ∀ r, ρ1 (rg.length + r) = ρ' (js.getD r 0) := fun r => by
    show (if rg.length + r < rg.length then _ else _) = _
    rw [if_neg (by omega), Nat.add_sub_cancel_left]
  have hv : (res.tm.ren (fun r => rg.length + r)).ok (rg.length + res.rg.length) ρ1 v :=
    Tm.ren_ok res.rg.length (f := fun r => js.getD r 0) (ρ := ρ') (N := st'.rg.length) (fun r hr => by omega) (fun r _ => e2 r) hlt (eqT_sound heq hx)
  refine ⟨v, res, ρ1, rfl, hK, hb, fun r hr π => by rw [e1 r hr], hv, ?_⟩
  have hold := hrg.later hb.size hb.block
  have key : ∀ (r : Nat) (g : Reg), (rg ++ res.rg)[r]? = some g → (r < rg.length ∧ rg[r]? = some g ∧ ρ1 r = ρ r) ∨ (∃ s i, r = rg.length + s ∧ res.rg[s]? = some g ∧ js[s]? = some i ∧ st'.rg[i]? = some g ∧ g.out = true ∧ ρ1 r = ρ' i) := by
    intro r g hr
    rcases Nat.lt_or_ge r rg.length with hl | hl
    · rw [List.getElem?_append_left hl] at hr; exact .inl ⟨hl, hr, e1 r hl⟩
    · rw [List.getElem?_append_right hl] at hr
      obtain ⟨i, h1, h2, h3⟩ := hget _ g hr
      refine .inr ⟨r - rg.length, i, by omega, hr, h1, h2, h3, ?_⟩
      rw [show r = rg.length + (r - rg.length) by omega, e2]
      simp [List.getD, h1]
  have fresh : ∀ (i : Nat) (g : Reg), st'.rg[i]? = some g → g.out = true → ∀ π o B, g.has π o B → (ρ' i π).void = false → w.heap.size ≤ (ρ' i π).b := by
    intro i g hi ho π o B hh hvd
    obtain rfl := out_has ho hh
    have := hr'.rs.own i g π B hi hh hvd
    have : False ∨ w.heap.size ≤ (ρ' i π).b := by cases B with | box => exact this.own | map => exact this.own | it => exact this.own | lp => exact this.own | arr => exact this.1.own
    exact this.elim False.elim id
  refine ⟨fun r g π o B hr hh => ?_, fun r g π o B hr hh hvd => ?_, fun r g π B hr hh hvd => ?_, fun r r' g g' π π' o' B B' h1 h2 k1 k2 v1 v2 hne => ?_⟩
  · rcases key r g hr with ⟨hl, hg, he⟩ | ⟨s, i, rfl, _, _, hg, ho, he⟩
    · exact (hold.blk r g π o B hg hh).later (fun π => by rw [he]) (Nat.le_add_right _ _) (fun r hr π => by rw [e1 r hr]) (fun _ => rfl)
    · have hb := hr'.rs.blk i g π o B hg hh
      cases B with
      | arr A => show Ar.lies w' (ρ1 (rg.length + s)) π A; rw [he]; exact hb
      | map k c es =>
        obtain ⟨b1, b2, b3⟩ := hb
        exact ⟨b1, by rw [he]; exact b2, by rw [he]; exact b3⟩
      | it =>
        cases g with
        | dead => cases ho
        | iter => cases ho
        | lp => cases ho
        | map => obtain ⟨_, _, hB⟩ := hh; cases hB
        | box => obtain ⟨_, _, hB⟩ := hh; cases hB
        | arr => obtain ⟨_, A, _, hA⟩ := hh; cases hA
      | lp =>
        cases g with
        | dead => cases ho
        | iter => cases ho
        | lp => cases ho
        | map => obtain ⟨_, _, hB⟩ := hh; cases hB
        | box => obtain ⟨_, _, hB⟩ := hh; cases hB
        | arr => obtain ⟨_, A, _, hA⟩ := hh; cases hA
      | box l =>
        obtain ⟨b1, b2, b3, b4⟩ := hb
        refine ⟨b1, by rw [he]; exact b2, by rw [he]; exact b3, fun j x hxj => ?_⟩
        obtain ⟨y, hy, hc⟩ := b4 j x hxj
        have hpl : allL At.plain l = true := by
          cases g with
          | dead => cases ho
          | map => obtain ⟨_, _, hB⟩ := hh; cases hB
          | iter => cases ho
          | lp => cases ho
          | arr => obtain ⟨_, A, _, hA⟩ := hh; cases hA
          | box o1 l1 =>
            obtain ⟨_, _, hB⟩ := hh
            injection hB with hB
            subst hB
            cases o1 with
            | false => cases ho
            | true => exact ho
        exact ⟨y, At.plain_ok (allL_forall hpl x (List.mem_of_getElem? hxj)) hy, by rw [he]; exact hc⟩
  · rcases key r g hr with ⟨hl, hg, he⟩ | ⟨s, i, rfl, _, _, hg, ho, he⟩
    · rw [he] at hvd ⊢; exact hold.lt r g π o B hg hh hvd
    · rw [he] at hvd ⊢; exact hr'.rs.lt i g π o B hg hh hvd
  · rcases key r g hr with ⟨hl, hg, he⟩ | ⟨s, i, rfl, _, _, hg, ho, he⟩
    · rw [he] at hvd ⊢; exact hold.own r g π B hg hh hvd
    · rw [he] at hvd ⊢
      have hm := hr'.rs.own i g π B hg hh hvd
      have hfr := fresh i g hg ho π true B hh hvd
      cases B with
      | box l => exact ⟨.inr (Nat.le_trans hl hfr), hm.fz⟩
      | map => exact ⟨.inr (Nat.le_trans hl hfr), hm.fz⟩
      | it => exact ⟨.inr (Nat.le_trans hl hfr), hm.fz⟩
      | lp => exact ⟨.inr (Nat.le_trans hl hfr), hm.fz⟩
      | arr A => exact ⟨⟨.inr (Nat.le_trans hl hfr), hm.1.fz⟩, hm.2⟩
  · rcases key r g h1 with ⟨_, hg, he⟩ | ⟨s, i, q1, _, q2, hg, ho, he⟩ <;> rcases key r' g' h2 with ⟨_, hg', he'⟩ | ⟨s', i', q1', _, q2', hg', ho', he'⟩
    · rw [he] at v1 ⊢; rw [he'] at v2 ⊢; exact hrg.dj r r' g g' π π' o' B B' hg hg' k1 k2 v1 v2 hne
    · rw [he] at v1 ⊢; rw [he'] at v2 ⊢
      have := hrg.lt r g π true B hg k1 v1
      have := fresh i' g' hg' ho' π' o' B' k2 v2
      omega
    · rw [he] at v1 ⊢; rw [he'] at v2 ⊢
      have := hrg.lt r' g' π' o' B' hg' k2 v2
      have := fresh i g hg ho π true B k1 v1
      omega
    · rw [he] at v1 ⊢; rw [he'] at v2 ⊢
      refine hr'.rs.dj i i' g g' π π' o' B B' hg hg' k1 k2 v1 v2 fun hii => hne ⟨?_, hii.2⟩
      rw [← hii.1] at q2'
      rw [q1, q1', resRegs_inj hreg s s' i q2 q2']
end
end Go.Sy
end

section
/-
  Engine two: for the closed facts of a program's tables.
-/
namespace Go.Sy
open Go Go.RowKit

def structAs (P : Program) (t : TypeId) : Option (List (Nat × Nat)) :=
  match P.underlying t with
  | some (.struct fields) => fields.toList.mapM (fun f => (P.info? f.type).map fun i => (f.offset, i.size))
  | _ => none
theorem structAs_spec {P : Program} {t : TypeId} {fs : List (Nat × Nat)} (h : structAs P t = some fs) :
    ∃ fields, P.underlying t = some (.struct fields) ∧ fields.toList.mapM (fun f => (P.info? f.type).map fun i => (f.offset, i.size)) = some fs := by
  unfold structAs at h
  split at h
  · rename_i fields hu; exact ⟨fields, hu, h⟩
  · cases h
theorem wordAs_spec {P : Program} {t : TypeId} (h : (P.underlying t).map plainD = some true) : ∃ d, P.underlying t = some d ∧ plainD d = true := by
  simpa using h

/-! ### Tables of contracts -/

/-- Bodies by the functions' numbers. -/
structure BsOk (P : Program) (bs : List (Nat × Body)) : Prop where
  h : ∀ f b, look bs f = some b → BodyOk P f b
theorem BsOk.nil {P : Program} : BsOk P [] := ⟨fun f b h => by cases h⟩
theorem BsOk.cons {P : Program} {bs : List (Nat × Body)} (hb : BsOk P bs) {f : Nat} {b : Body} (h : BodyOk P f b) : BsOk P ((f, b) :: bs) := ⟨fun g c hg => by
  unfold look at hg
  split at hg
  · rename_i he
    obtain rfl := Nat.eq_of_beq_eq_true he
    obtain rfl := Option.some.inj hg
    exact h
  · exact hb.h g c hg⟩
/-- Contracts by the functions' numbers. -/
structure CsOk (P : Program) (Γ : Glob) (l : List (Nat × Ctr)) : Prop where
  h : ∀ f c, look l f = some c → FnOk P f ∧ Ctr.Ok P Γ f c
theorem CsOk.nil {P : Program} {Γ : Glob} : CsOk P Γ [] := ⟨fun f b h => by cases h⟩
theorem CsOk.cons {P : Program} {Γ : Glob} {l : List (Nat × Ctr)} (hl : CsOk P Γ l) {f : Nat} {c : Ctr} (hf : FnOk P f) (hc : Ctr.Ok P Γ f c) : CsOk P Γ ((f, c) :: l) := ⟨fun g c' hg => by
  unfold look at hg
  split at hg
  · rename_i he
    obtain rfl := Nat.eq_of_beq_eq_true he
    obtain rfl := Option.some.inj hg
    exact ⟨hf, hc⟩
  · exact hl.h g c' hg⟩
end Go.Sy
end

section
/-
  Engine two: a program's tables as trees, all their closed facts by one test.
-/
namespace Go.Sy
open Go Go.RowKit
universe u

/-- A table: 0 at the root, the odd numbers to the left. -/
inductive Tb (α : Type) where
  | nil
  | node (x : Option α) (l r : Tb α)
def Tb.get {α : Type} : Tb α → Nat → Option α
  | .nil, _ => none
  | .node x l r, i => match Nat.beq i 0 with
    | true => x
    | false => (match Nat.beq (i % 2) 1 with | true => l.get (i / 2) | false => r.get (i / 2 - 1))
/-- A test of all that a table has. -/
def Tb.all {α : Type} (f : Nat → α → Bool) : Tb α → (Nat → Nat) → Bool
  | .nil, _ => true
  | .node x l r, g =>
    (match x with | some a => f (g 0) a | none => true) && (l.all f (fun i => g (2 * i + 1)) && r.all f (fun i => g (2 * i + 2)))
theorem Tb.all_get {α : Type} {f : Nat → α → Bool} : ∀ {t : Tb α} {g : Nat → Nat}, t.all f g = true → ∀ i a, t.get i = some a → f (g i) a = true
  | .nil, _, _, _, _, h => by cases h
  | .node x l r, g, hall, i, a, h => by
    simp only [Tb.all, Bool.and_eq_true] at hall
    unfold Tb.get at h
    split at h
    · rename_i h0
      obtain rfl := Nat.eq_of_beq_eq_true h0
      have := hall.1
      rw [h] at this; exact this
    · rename_i h0
      have hi : i ≠ 0 := fun e => by subst e; simp at h0
      split at h
      · rename_i ho
        have ho := Nat.eq_of_beq_eq_true ho
        have := Tb.all_get hall.2.1 _ _ h
        rwa [show 2 * (i / 2) + 1 = i by omega] at this
      · rename_i ho
        have ho : i % 2 ≠ 1 := fun e => by rw [e] at ho; simp at ho
        have := Tb.all_get hall.2.2 _ _ h
        rwa [show 2 * (i / 2 - 1) + 2 = i by omega] at this

/-! ### Types -/
def sizeB (P : Program) (t n : Nat) : Bool := match P.info? t with | some i => Nat.beq i.size n | none => false
theorem sizeB_spec {P : Program} {t n : Nat} (h : sizeB P t n = true) : (P.info? t).map (·.size) = some n := by
  unfold sizeB at h
  split at h
  · rename_i i hi; rw [hi]; exact congrArg some (Nat.eq_of_beq_eq_true h)
  · cases h
def pairsB : List (Nat × Nat) → List (Nat × Nat) → Bool
  | [], [] => true
  | (a, b) :: l, (c, d) :: m => Nat.beq a c && Nat.beq b d && pairsB l m
  | _, _ => false
theorem pairsB_spec : ∀ {l m : List (Nat × Nat)}, pairsB l m = true → l = m
  | [], [], _ => rfl
  | [], _ :: _, h => by cases h
  | _ :: _, [], h => by cases h
  | (a, b) :: l, (c, d) :: m, h => by
    simp only [pairsB, Bool.and_eq_true] at h
    rw [Nat.eq_of_beq_eq_true h.1.1, Nat.eq_of_beq_eq_true h.1.2, pairsB_spec h.2]
def tyB (P : Program) (t : Nat) : Ty → Bool
  | .int k => (match P.underlying t with | some (.int k') => sameKind k' k | _ => false) && sizeB P t 1
  | .bool => (match P.underlying t with | some .bool => true | _ => false) && sizeB P t 1
  | .str => (match P.underlying t with | some .string => true | _ => false) && sizeB P t 1
  | .st fs n => (match structAs P t with | some l => pairsB l fs | _ => false) && sizeB P t n
  | .sl e m => (match P.underlying t with | some (.slice e') => Nat.beq e' e | _ => false) && (sizeB P e m && sizeB P t 1)
  | .ar e m n => (match P.underlying t with | some (.array n' e') => Nat.beq n' n && Nat.beq e' e | _ => false) && (sizeB P e m && sizeB P t (n * m))
  | .map k e => (match P.underlying t with | some (.map k' e') => Nat.beq k' k && Nat.beq e' e | _ => false) && sizeB P t 1
  | .word => (match P.underlying t with | some d => plainD d | _ => false) && sizeB P t 1
  | .other => true
theorem tyB_spec {P : Program} {t : Nat} {y : Ty} (h : tyB P t y = true) : TyOk P t y := by
  cases y with
  | other => trivial
  | int k =>
    simp only [tyB, Bool.and_eq_true] at h
    refine ⟨?_, sizeB_spec h.2⟩
    have := h.1
    split at this
    · rename_i hu; rw [hu, sameKind_eq this]
    · cases this
  | bool =>
    simp only [tyB, Bool.and_eq_true] at h
    refine ⟨?_, sizeB_spec h.2⟩
    have := h.1
    split at this
    · rename_i hu; exact hu
    · cases this
  | str =>
    simp only [tyB, Bool.and_eq_true] at h
    refine ⟨?_, sizeB_spec h.2⟩
    have := h.1
    split at this
    · rename_i hu; exact hu
    · cases this
  | st fs n =>
    simp only [tyB, Bool.and_eq_true] at h
    refine ⟨structAs_spec ?_, sizeB_spec h.2⟩
    have := h.1
    split at this
    · rename_i hu; rw [hu, pairsB_spec this]
    · cases this
  | sl e m =>
    simp only [tyB, Bool.and_eq_true] at h
    refine ⟨?_, sizeB_spec h.2.1, sizeB_spec h.2.2⟩
    have := h.1
    split at this
    · rename_i hu; rw [hu, Nat.eq_of_beq_eq_true this]
    · cases this
  | ar e m n =>
    simp only [tyB, Bool.and_eq_true] at h
    refine ⟨?_, sizeB_spec h.2.1, sizeB_spec h.2.2⟩
    have := h.1
    split at this
    · rename_i hu
      simp only [Bool.and_eq_true] at this
      rw [hu, Nat.eq_of_beq_eq_true this.1, Nat.eq_of_beq_eq_true this.2]
    · cases this
  | map k e =>
    simp only [tyB, Bool.and_eq_true] at h
    refine ⟨?_, sizeB_spec h.2⟩
    have := h.1
    split at this
    · rename_i hu
      simp only [Bool.and_eq_true] at this
      rw [hu, Nat.eq_of_beq_eq_true this.1, Nat.eq_of_beq_eq_true this.2]
    · cases this
  | word =>
    simp only [tyB, Bool.and_eq_true] at h
    refine ⟨?_, sizeB_spec h.2⟩
    have := h.1
    split at this
    · rename_i d hu; exact ⟨d, hu, this⟩
    · cases this

/-! ### Zero values -/
/-- A zero value's cell as an abstract value. -/
def zAt : Value → Option At
  | .int k n => (match n with | .ofNat 0 => some (.v (.int k 0)) | _ => none)
  | .bool false => some .ff
  | .string s => (match s.data.toList with | [] => some (.v (.string ByteArray.empty)) | _ => none)
  | .slice none 0 0 => some (.v (.slice none 0 0))
  | .map none => some (.v (.map none))
  | .nilIface => some (.v .nilIface)
  | .pointer none => some (.v (.pointer none))
  | .nilFunc => some (.v .nilFunc)
  | _ => none
def zB : At → Value → Bool
  | .v (.int k n), .int k' n' => sameKind k k' && n == n'
  | .ff, .bool b => !b
  | .v (.string s), .string s' => s.data.toList == s'.data.toList
  | .v (.slice none 0 0), .slice none 0 0 => true
  | .v (.map none), .map none => true
  | .v .nilIface, .nilIface => true
  | .v (.pointer none), .pointer none => true
  | .v .nilFunc, .nilFunc => true
  | _, _ => false
theorem zB_spec {x : At} {v : Value} (h : zB x v = true) : x.one = true ∧ ∀ N ρ, x.ok N ρ v := by
  unfold zB at h
  split at h <;> first | (cases h; done) | skip
  · simp only [Bool.and_eq_true, beq_iff_eq] at h
    obtain ⟨h1, rfl⟩ := h
    obtain rfl := sameKind_eq h1
    exact ⟨rfl, fun _ _ => ⟨rfl, rfl⟩⟩
  · rename_i b
    cases b with
    | true => cases h
    | false => exact ⟨rfl, fun _ _ => rfl⟩
  · rename_i s s'
    have e : s = s' := by
      have h := beq_iff_eq.1 h
      cases s; cases s'
      congr 1
      exact Array.ext' h
    subst e
    exact ⟨rfl, fun _ _ => ⟨rfl, rfl⟩⟩
  all_goals exact ⟨rfl, fun _ _ => ⟨rfl, rfl⟩⟩
def zsB : List At → List Value → Bool
  | [], [] => true
  | x :: l, v :: m => zB x v && zsB l m
  | _, _ => false
theorem zsB_spec : ∀ {l : List At} {m : List Value}, zsB l m = true → allL At.one l = true ∧ ∀ N ρ, okL (At.ok N ρ) l m
  | [], [], _ => ⟨rfl, fun _ _ => trivial⟩
  | [], _ :: _, h => by cases h
  | _ :: _, [], h => by cases h
  | x :: l, v :: m, h => by
    simp only [zsB, Bool.and_eq_true] at h
    obtain ⟨h1, h2⟩ := zB_spec h.1
    obtain ⟨h3, h4⟩ := zsB_spec h.2
    refine ⟨?_, fun N ρ => ⟨h2 N ρ, h4 N ρ⟩⟩
    simp only [allL, h1]; exact h3
def zeroB (P : Program) (t : Nat) (l : List At) : Bool := match P.info? t with | some i => (match i.zero with | some z => zsB l z.cells.toList | none => false) | none => false

/-! ### Arrays' elements, map's values -/
def vB : Value → Value → Bool
  | .int k n, .int k' n' => sameKind k k' && n == n'
  | .bool a, .bool b => a == b
  | .string s, .string s' => s.data.toList == s'.data.toList
  | .slice none 0 0, .slice none 0 0 => true
  | _, _ => false
theorem vB_spec {x v : Value} (h : vB x v = true) : x = v := by
  unfold vB at h
  split at h <;> first | (cases h; done) | skip
  · simp only [Bool.and_eq_true, beq_iff_eq] at h
    obtain ⟨h1, rfl⟩ := h
    rw [sameKind_eq h1]
  · rw [beq_iff_eq.1 h]
  · rename_i s s'
    have h := beq_iff_eq.1 h
    cases s; cases s'
    congr 2
    exact Array.ext' h
  · rfl
def vsB : List Value → List Value → Bool
  | [], [] => true
  | x :: l, v :: m => vB x v && vsB l m
  | _, _ => false
theorem vsB_spec : ∀ {l m : List Value}, vsB l m = true → l = m
  | [], [], _ => rfl
  | [], _ :: _, h => by cases h
  | _ :: _, [], h => by cases h
  | x :: l, v :: m, h => by
    simp only [vsB, Bool.and_eq_true] at h
    rw [vB_spec h.1, vsB_spec h.2]
def kdB (P : Program) (t : Nat) (tg : List CK) : Bool :=
  (match tg with | [] => false | _ => true) && (allL CK.ne tg && (match P.info? t with
    | some i => Nat.beq i.size tg.length && (Nat.ble i.bytes (32 * tg.length) && (match i.zero with | some z => vsB z.cells.toList (Tup.zero tg) | none => false))
    | none => false))
def scB (P : Program) (t : Nat) (c : CK) : Bool := match P.info? t with | some i => (match i.zero with | some z => vB z (c.val c.d) | none => false) | none => false
def natsB : List Nat → List Nat → Bool
  | [], [] => true
  | a :: l, b :: m => Nat.beq a b && natsB l m
  | _, _ => false
theorem natsB_spec : ∀ {l m : List Nat}, natsB l m = true → l = m
  | [], [], _ => rfl
  | [], _ :: _, h => by cases h
  | _ :: _, [], h => by cases h
  | a :: l, b :: m, h => by
    simp only [natsB, Bool.and_eq_true] at h
    rw [Nat.eq_of_beq_eq_true h.1, natsB_spec h.2]
def eqsB (P : Program) (t : Nat) (ks : List Nat) : Bool :=
  (match eqKinds P 8 t with | some l => natsB l ks | none => false) && ((match leafKind P t with | none => true | some _ => false) && !(P.eqGuardType P.depth t))

/-- A program's tables. -/
structure Tabs where
  ty : Tb Ty
  zero : Tb (List At)
  kd : Tb (List CK)
  sc : Tb CK
  eqs : Tb (List Nat)
structure TabsOk (P : Program) (T : Tabs) : Prop where
  ty : T.ty.all (tyB P) id = true
  zero : T.zero.all (zeroB P) id = true
  kd : T.kd.all (kdB P) id = true
  sc : T.sc.all (scB P) id = true
  eqs : T.eqs.all (eqsB P) id = true
def Tabs.env (T : Tabs) (l : List (Nat × Ctr)) (bs : List (Nat × Body)) (conc : Bool) (un : Nat) : Env :=
  { ty := fun t => match T.ty.get t with | some y => y | none => .other, zero := T.zero.get, eqs := T.eqs.get, sc := T.sc.get, kd := T.kd.get, ct := look l, inl := look bs, exact := !conc, conc, un }
theorem Tabs.envOk {P : Program} {Γ : Glob} {T : Tabs} (hT : TabsOk P T) {l : List (Nat × Ctr)} (hl : CsOk P Γ l) (bs : List (Nat × Body)) (conc : Bool) (un : Nat) : EnvOk P Γ (T.env l bs conc un) where
  ty := fun t => by
    show TyOk P t (match T.ty.get t with | some y => y | none => .other)
    split
    · rename_i y hy; exact tyB_spec (Tb.all_get hT.ty t y hy)
    · trivial
  zero := fun t l h => by
    have := Tb.all_get hT.zero t l h
    unfold zeroB at this
    split at this
    · rename_i i hi
      split at this
      · rename_i z hz
        obtain ⟨h1, h2⟩ := zsB_spec this
        exact ⟨h1, i, z, hi, hz, h2⟩
      · cases this
    · cases this
  eqs := fun t ks h => by
    have := Tb.all_get hT.eqs t ks h
    simp only [eqsB, Bool.and_eq_true] at this
    obtain ⟨h1, h2, h3⟩ := this
    refine ⟨?_, ?_, by simpa using h3⟩
    · split at h1
      · rename_i hl; rw [show eqKinds P 8 t = _ from hl, natsB_spec h1]
      · cases h1
    · split at h2
      · assumption
      · cases h2
  kd := fun t tg h => by
    have := Tb.all_get hT.kd t tg h
    simp only [kdB, Bool.and_eq_true] at this
    obtain ⟨h1, h2, h3⟩ := this
    refine ⟨(fun e => by subst e; cases h1), ?_⟩
    split at h3
    · rename_i i hi
      simp only [Bool.and_eq_true] at h3
      obtain ⟨h4, h5, h6⟩ := h3
      split at h6
      · rename_i z hz
        exact ⟨i, z, hi, Nat.eq_of_beq_eq_true h4, hz, vsB_spec h6, Nat.le_of_ble_eq_true h5⟩
      · cases h6
    · cases h3
  kn := fun t tg h => by
    have := Tb.all_get hT.kd t tg h
    simp only [kdB, Bool.and_eq_true] at this
    exact this.2.1
  sc := fun t c h => by
    have := Tb.all_get hT.sc t c h
    unfold scB at this
    split at this
    · rename_i i hi
      split at this
      · rename_i z hz; exact ⟨i, hi, by rw [hz, vB_spec this]⟩
      · cases this
    · cases this
  ct := fun f c h => (hl.h f c h).2
end Go.Sy
end

section
/-
  Functions that write an array that they are passed.
-/
namespace Go.Sy
open Go Go.RowKit
universe u
section
variable {P : Program} {Γ : Glob} {E : Env} {M : Nat → Prop} {w0 : World} {ρ : Keys} {w : World}

theorem Passed.notOwn {rg rg' : List Reg} {is : Pas} {args args' : List Tm} (hp : Passed args rg is args' rg') {r' : Nat} {g' : Reg} {π : Path} {B : Blk} (hr : rg'[r']? = some g') (hh : g'.has π true B) : False := by
  have h := hp.rgs r' _ hr
  cases g' with
  | dead => exact hh
  | box o l' => obtain ⟨_, h2, _⟩ := hh; rw [h.1] at h2; cases h2
  | arr te tg xs o i =>
    obtain ⟨h2, _⟩ := hh
    rw [h.1, h.2.1] at h2
    cases π <;> cases h2
  | map t k c es o => obtain ⟨_, h2, _⟩ := hh; rw [h.1] at h2; cases h2
  | iter => exact h.elim
  | lp => exact h.elim
/-- What a passed region has, back in the caller's regions. -/
theorem Passed.back {rg rg' : List Reg} {is : Pas} {args args' : List Tm} (hp : Passed args rg is args' rg') {r' : Nat} {g' : Reg} {π : Path} {o : Bool} {B : Blk} (hr : rg'[r']? = some g') (hh : g'.has π o B)
    (hv : (paρ ρ is rg' r' π).void = false) : ∃ r π0 g o0 B0, is[r']? = some (some (r, π0)) ∧ rg[r]? = some g ∧ g.has (π ++ π0) o0 B0 ∧ paρ ρ is rg' r' π = ρ r (π ++ π0) := by
  have h := hp.rgs r' _ hr
  cases g' with
  | dead => exact hh.elim
  | iter => exact h.elim
  | lp => exact h.elim
  | box o l' =>
    obtain ⟨rfl, _, _⟩ := hh
    obtain ⟨_, r, o0, l, h1, h2, _⟩ := h
    exact ⟨r, [], _, o0, .box l, h1, h2, ⟨rfl, rfl, rfl⟩, paρ_some h1⟩
  | map t k c es o =>
    obtain ⟨rfl, _, _⟩ := hh
    obtain ⟨_, r, o0, h1, h2⟩ := h
    exact ⟨r, [], _, o0, .map k c es, h1, h2, ⟨rfl, rfl, rfl⟩, paρ_some h1⟩
  | arr te tg xs o i =>
    obtain ⟨A, rfl, hA, _⟩ := Ar.has_flag hh
    obtain ⟨_, _, hc⟩ := h
    rcases hc with ⟨h1, _, _⟩ | ⟨r, π0, q, h1, h2, h3⟩
    · rw [paρ_none h1] at hv; cases hv
    · obtain ⟨te0, tg0, xs0, o0, i0, hg, k1, _⟩ := Reg.dn_has h2 h3
      exact ⟨r, π0, _, _, .arr A, h1, getD_reg (st := ⟨⟨0, .nil⟩, [], rg⟩) hg (by simp), ⟨rfl, A, has_append.2 ⟨_, k1, hA⟩, rfl⟩, paρ_some h1⟩
theorem flat_has {te : TypeId} {tg : List CK} {xs : List (Tup tg)} {o i : Bool} {π : Path} {f : Bool} {B : Blk} (hf : flatK tg = true) (hh : (Reg.arr te tg xs o i).has π f B) : π = [] ∧ f = o ∧ B = .arr ⟨te, tg, xs⟩ := by
  obtain ⟨A, rfl, hA, e⟩ := Ar.has_flag hh
  obtain ⟨rfl, rfl⟩ := has_flat hf hA
  exact ⟨rfl, e, rfl⟩
theorem flat_mk {te : TypeId} {tg : List CK} {xs : List (Tup tg)} {o i : Bool} : (Reg.arr te tg xs o i).has [] o (.arr ⟨te, tg, xs⟩) := ⟨rfl, _, rfl, rfl⟩

theorem At.plain_ren {f : Nat → Nat} {x : At} (h : x.plain = true) : x.ren f = x := by cases x <;> first | rfl | cases h
theorem allL_plain_ren {f : Nat → Nat} : ∀ {l : List At}, allL At.plain l = true → l.map (At.ren f) = l
  | [], _ => rfl
  | x :: l, h => by
    simp only [allL] at h
    split at h
    · rename_i hx; rw [List.map_cons, At.plain_ren hx, allL_plain_ren h]
    · cases h
theorem C1.plain_ren {f : Nat → Nat} {x : C1} (h : x.plain = true) : x.mapA (At.ren f) = x := by
  cases x with
  | a x => exact congrArg C1.a (At.plain_ren h)
  | agg l => exact congrArg C1.agg (allL_plain_ren h)
theorem allC_plain_ren {f : Nat → Nat} : ∀ {l : List C1}, allL C1.plain l = true → l.map (C1.mapA (At.ren f)) = l
  | [], _ => rfl
  | x :: l, h => by
    simp only [allL] at h
    split at h
    · rename_i hx; rw [List.map_cons, C1.plain_ren hx, allC_plain_ren h]
    · cases h
theorem Tm.plain_ren {f : Nat → Nat} {x : Tm} (h : x.plain = true) : x.ren f = x := by
  cases x with
  | a x => exact congrArg Tm.a (At.plain_ren h)
  | agg l => exact congrArg Tm.agg (allL_plain_ren h)
  | tup l => exact congrArg Tm.tup (allC_plain_ren h)
/-- The walk of a function that writes one array: the frame below keeps the way to it. -/
def evTopW (E : Env) (d : Nat) (b : Body) (args : List Tm) (rg : List Reg) (r n : Nat) (K : Tm → St → Prop) : Prop :=
  frameK b.n args (fun s => eachK forceR rg (fun rg => evN E d none b.code ⟨s, [⟨1, .node (.a (.sl r [] 0 n)) .nil .nil⟩], rg⟩ (fun e st' => match e with
    | .exit _ => False
    | _ => (match evRes E st' b.rs with
      | some (q, x) => oblige E.conc q (K x st')
      | none => False))))
/-- The array as it is left. -/
def backW (st : St) (te : TypeId) (tg : List CK) (xs : List (Tup tg)) (n : Nat) : Prop :=
  match st.fr with
  | [⟨_, .node (.a (.sl j [] 0 m)) _ _⟩] => m = n ∧ ∃ i, st.rg.getD j .dead = .arr te tg xs true i
  | _ => False
theorem backW_sound {st : St} {te : TypeId} {tg : List CK} {xs : List (Tup tg)} {n : Nat} (h : backW st te tg xs n) : ∃ k l r j i, st.fr = [⟨k, .node (.a (.sl j [] 0 n)) l r⟩] ∧ st.rg[j]? = some (.arr te tg xs true i) := by
  unfold backW at h
  split at h
  · rename_i k j m l r hf
    obtain ⟨rfl, i, hj⟩ := h
    exact ⟨k, l, r, j, i, hf, getD_reg hj (by simp)⟩
  · exact h.elim

theorem Ctr.rel1_ok (hP : ProgOk P Γ E) {f : FuncId} {b : Body} (hf : BodyOk P f b) {d : Nat} {C : List Tm → List Reg → (List (Nat × Reg) → Res → Prop) → Prop}
    (H : ∀ args rg K, C args rg K → ∃ (is : Pas) (args' : List Tm) (rg0 : List Reg) (r r' k n : Nat) (te : TypeId) (tg : List CK) (xs xs' : List (Tup tg)) (t : Tm) (i : Bool), Passed args rg is args' rg0 ∧ rg0[r']? = some (.arr te tg xs false false) ∧ is[r']? = some (some (r, [])) ∧
      rg[r]? = some (.arr te tg xs true i) ∧ flatK tg = true ∧ 0 < n ∧ args'[k]? = some (.a (.sl r' [] 0 n)) ∧ (∀ r2 r3 π, is[r2]? = some (some (r3, π)) → r3 = r → r2 = r') ∧
      K [(r, .arr te tg xs' true i)] ⟨[], t⟩ ∧ t.plain = true ∧ evTopW E d b args' (rg0.set r' (.arr te tg xs true true)) r' n (fun x st' => eqT x t ∧ backW st' te tg xs' n)) : Ctr.Ok P Γ f (.rel C) := by
  intro args rg K hC M w0 ρ w us hl hgn hgl hargs hrg
  obtain ⟨is, args', rg0, r, r', k, n, te, tg, xs, xs', t, i, hp, hr', his, hr, hflat, hn0, hk, hun, hK, hpl, hev⟩ := H args rg K hC
  have hargs' := paTs_sound (rg' := rg0) hp.args hargs
  have h0 := hrg.passed hp
  have eρ : ∀ τ, paρ ρ is rg0 r' τ = ρ r τ := fun τ => by rw [paρ_some his, List.append_nil]
  obtain ⟨y, hy, hyo⟩ := hargs'.get k _ hk
  have hyo : r' < rg0.length ∧ (paρ ρ is rg0 r' []).head 0 n y := hyo
  have hyr : (ρ r []).head 0 n y := by rw [← eρ]; exact hyo.2
  have hv : (ρ r []).void = false := by
    cases hh : (ρ r []).void with
    | false => rfl
    | true => have := (hyr.1 hh).1; omega
  have hasr : (Reg.arr te tg xs true i).has [] true (.arr ⟨te, tg, xs⟩) := flat_mk
  have hmine : Mine M w0 w (ρ r []) ∧ Whole w (ρ r []) te := hrg.own r _ [] _ hr hasr hv
  have hlies : Ar.lies w (ρ r) [] ⟨te, tg, xs⟩ := hrg.blk r _ [] true _ hr hasr
  have hlt := hrg.lt r _ [] true _ hr hasr hv
  -- the callee's regions, one of them its own
  have hreg : Regs (fun b => b = (ρ r []).b) w (rg0.set r' (.arr te tg xs true true)).length (paρ ρ is rg0) (rg0.set r' (.arr te tg xs true true)) w := by
    have old : ∀ (r1 : Nat) (g1 : Reg) π o B, (rg0.set r' (.arr te tg xs true true))[r1]? = some g1 → g1.has π o B → ∃ g2 o2, rg0[r1]? = some g2 ∧ g2.has π o2 B ∧ (o = true → r1 = r' ∧ π = [] ∧ B = .arr ⟨te, tg, xs⟩) := by
      intro r1 g1 π o B e1 k1
      rcases set_get e1 with ⟨rfl, rfl, _⟩ | ⟨hne, e1⟩
      · obtain ⟨rfl, rfl, rfl⟩ := flat_has hflat k1
        exact ⟨_, _, hr', flat_mk, fun _ => ⟨rfl, rfl, rfl⟩⟩
      · exact ⟨g1, o, e1, k1, fun ho => by subst ho; exact (hp.notOwn e1 k1).elim⟩
    rw [List.length_set]
    refine ⟨fun r1 g1 π o B e1 k1 => ?_, fun r1 g1 π o B e1 k1 v1 => ?_, fun r1 g1 π B e1 k1 v1 => ?_, fun r1 r2 g1 g2 π π' o' B B' e1 e2 k1 k2 v1 v2 hne => ?_⟩
    · obtain ⟨g2, o2, a1, a2, _⟩ := old r1 g1 π o B e1 k1
      exact h0.blk r1 g2 π o2 B a1 a2
    · obtain ⟨g2, o2, a1, a2, _⟩ := old r1 g1 π o B e1 k1
      exact h0.lt r1 g2 π o2 B a1 a2 v1
    · obtain ⟨g2, o2, a1, a2, a3⟩ := old r1 g1 π true B e1 k1
      obtain ⟨rfl, rfl, rfl⟩ := a3 rfl
      rw [eρ]
      exact ⟨⟨.inl rfl, hmine.1.fz⟩, hmine.2⟩
    · obtain ⟨g3, o3, a1, a2, a3⟩ := old r1 g1 π true B e1 k1
      obtain ⟨rfl, rfl, rfl⟩ := a3 rfl
      obtain ⟨g4, o4, b1, b2, _⟩ := old r2 g2 π' o' B' e2 k2
      obtain ⟨r3, π0, g5, o5, B5, c1, c2, c3, c4⟩ := hp.back b1 b2 v2
      rw [c4, eρ]
      refine hrg.dj r r3 _ g5 [] (π' ++ π0) o5 _ B5 hr c2 hasr c3 hv (by rw [← c4]; exact v2) fun ⟨e, e'⟩ => ?_
      have := hun r2 r3 π0 c1 e.symm
      subst this
      obtain ⟨h1, _⟩ := List.append_eq_nil_iff.1 e'.symm
      exact hne ⟨rfl, h1.symm⟩
  -- the walk
  obtain ⟨fn, h1, h2, h3, h4, h5⟩ := hf.h
  unfold evTopW at hev
  obtain ⟨hn, hc⟩ := frameK_iff hev
  rw [eachK_id forceR_eq] at hc
  have hN : (rg0.set r' (Reg.arr te tg xs true true)).length = rg0.length := by simp
  have hbot : okL (Sl.ok (rg0.set r' (Reg.arr te tg xs true true)).length (paρ ρ is rg0)) [⟨1, .node (.a (.sl r' [] 0 n)) .nil .nil⟩] [#[y]] := by
    refine ⟨⟨rfl, fun j => ?_⟩, trivial⟩
    cases j with
    | zero => exact ⟨by rw [hN]; exact hyo.1, hyo.2⟩
    | succ j =>
      have : (Tr.node (.a (.sl r' [] 0 n)) .nil .nil).get (j + 1) = .a .any := by
        simp only [Tr.get]
        split
        · rename_i e; cases (Nat.eq_of_beq_eq_true e)
        · split <;> rfl
      show ((Tr.node (.a (.sl r' [] 0 n)) .nil .nil).get (j + 1)).ok _ _ _
      rw [this]; trivial
  have hrel : Rel Γ (fun b => b = (ρ r []).b) w (paρ ρ is rg0) ⟨⟨b.n, putsT args' 0 (Tr.full (depthOf b.n))⟩, [⟨1, .node (.a (.sl r' [] 0 n)) .nil .nil⟩], rg0.set r' (.arr te tg xs true true)⟩ ⟨[#[y]], []⟩ { tmps := us.toArray ++ Array.replicate (b.n - us.length) undef, defers := [] } w := by
    refine ⟨?_, hbot, rfl, hreg, Frame.refl _ _, hgl, fun b hb => ⟨fun e => ?_, Nat.lt_of_lt_of_le (hgn b hb).2 hl⟩⟩
    · show Sl.ok (rg0.set r' _).length _ _ _
      rw [hN]; exact frame_ok hargs' hn
    · subst e
      rcases hmine.1.own with h | h
      · exact (hgn _ hb).1 h
      · have := (hgn _ hb).2; omega
  refine callsIn_wide.1 (callsIn_of_wp_marks (n := 0) h1 h3 trivial ?_ rfl)
  rw [h4]
  rw [show us.toArray.size = us.length by simp]
  refine top_leaves hP h5 hc hrel fun v st' ρ' x a' w' ds hr2 k2 hk' => ?_
  obtain ⟨heq, hback⟩ := hk'
  suffices H : ∃ (u : Value) (ch : List (Nat × Reg)) (res : Res) (ρ2 : Keys), Ending.returned v = .returned u ∧ K ch res ∧
        Frame (fun b => ∃ (r : Nat) (g : Reg) (π : Path) (B : Blk), rg[r]? = some g ∧ g.has π true B ∧ (ρ r π).void = false ∧ (ρ r π).b = b) w w' ∧
        (∀ r, r < rg.length → ∀ π, ρ2 r π = ρ r π) ∧ (∀ c ∈ ch, c.1 < rg.length) ∧ (res.tm.ren (fun r => rg.length + r)).ok (rg.length + res.rg.length) ρ2 u ∧
        Regs M w0 (rg.length + res.rg.length) ρ2 (ch.foldl (fun rg c => rg.set c.1 c.2) rg ++ res.rg) w' from H
  obtain ⟨kk, tl, tr, j, i', hfr, hrj⟩ := backW_sound hback
  have hasj : (Reg.arr te tg xs' true i').has [] true (.arr ⟨te, tg, xs'⟩) := flat_mk
  have hsl : (ρ' j []).head 0 n y := by
    have h6 := hr2.fr
    rw [hfr] at h6
    have h7 := h6.1.h 0
    exact h7.2
  have hvj : (ρ' j []).void = false := by
    cases hh : (ρ' j []).void with
    | false => rfl
    | true => have := (hsl.1 hh).1; omega
  have hliesj : Ar.lies w' (ρ' j) [] ⟨te, tg, xs'⟩ := hr2.rs.blk j _ [] true _ hrj hasj
  have hminej : Mine (fun b => b = (ρ r []).b) w w' (ρ' j []) ∧ Whole w' (ρ' j []) te := hr2.rs.own j _ [] _ hrj hasj hvj
  have eI : ρ' j [] = ρ r [] := by
    obtain ⟨c1, a1, d1, d2⟩ := hsl.2 hvj
    obtain ⟨c2, a2, d3, d4⟩ := hyr.2 hv
    have m1 := hliesj.m
    have m2 := hlies.m
    rw [d1] at d3
    simp only [Value.slice.injEq] at d3
    obtain ⟨e1, _, e3⟩ := d3
    have e4 := d2 (by omega)
    have e5 := d4 (by omega)
    rw [e1] at e4
    rw [e4] at e5
    simp only [RI.at, Option.some.injEq, Addr.mk.injEq, Nat.zero_mul, Nat.add_zero, and_true] at e5
    generalize ρ' j [] = J at *
    generalize ρ r [] = I at *
    cases J; cases I
    simp only [RI.mk.injEq]
    simp only at *
    refine ⟨e5.1, e5.2, m1.trans m2.symm, by omega, hvj.trans hv.symm⟩
  have hother : ∀ (r1 : Nat) (g1 : Reg) π o B, rg[r1]? = some g1 → g1.has π o B → r1 ≠ r → (ρ r1 π).void = false → w'.heap[(ρ r1 π).b]? = w.heap[(ρ r1 π).b]? := fun r1 g1 π o B e1 k1 hne v1 =>
    hr2.bl.block _ (hrg.lt r1 g1 π o B e1 k1 v1) fun e => hrg.dj r r1 _ g1 [] π o _ B hr e1 hasr k1 hv v1 (fun hh => hne hh.1.symm) e.symm
  refine ⟨v, [(r, .arr te tg xs' true i)], ⟨[], t⟩, ρ, rfl, hK, ⟨hr2.bl.os, hr2.bl.tape, hr2.bl.output, hr2.bl.size, fun b hb hm => hr2.bl.block b hb fun e => hm ⟨r, _, [], _, hr, hasr, hv, e.symm⟩⟩, fun _ _ _ => rfl, fun c hc => ?_, ?_, ?_⟩
  · rw [List.mem_singleton.1 hc]; exact (List.getElem?_eq_some_iff.1 hr).1
  · have : (t.ren (fun r => rg.length + r)).ok (rg.length + 0) ρ v := by
      have h8 : t.ok st'.rg.length ρ' v := eqT_sound heq k2
      have h9 : t.ren (fun r => rg.length + r) = t := Tm.plain_ren hpl
      rw [h9]
      exact Tm.plain_ok hpl h8
    exact this
  · simp only [List.foldl_cons, List.foldl_nil, List.append_nil, List.length_nil, Nat.add_zero]
    have newHas : ∀ {r1 : Nat} {g1 : Reg} {π o B}, (rg.set r (.arr te tg xs' true i))[r1]? = some g1 → g1.has π o B → (r1 = r ∧ π = [] ∧ B = .arr ⟨te, tg, xs'⟩ ∧ o = true) ∨ (r1 ≠ r ∧ rg[r1]? = some g1) := by
      intro r1 g1 π o B e1 k1
      rcases set_get e1 with ⟨rfl, rfl, _⟩ | ⟨hne, e1⟩
      · obtain ⟨rfl, rfl, rfl⟩ := flat_has hflat k1
        exact .inl ⟨rfl, rfl, rfl, rfl⟩
      · exact .inr ⟨hne, e1⟩
    have oldHas : ∀ {r1 : Nat} {g1 : Reg} {π o B}, (rg.set r (.arr te tg xs' true i))[r1]? = some g1 → g1.has π o B → ∃ g2 B2, rg[r1]? = some g2 ∧ g2.has π o B2 := by
      intro r1 g1 π o B e1 k1
      rcases newHas e1 k1 with ⟨rfl, rfl, rfl, rfl⟩ | ⟨_, e1⟩
      · exact ⟨_, _, hr, hasr⟩
      · exact ⟨_, _, e1, k1⟩
    refine ⟨fun r1 g1 π o B e1 k1 => ?_, fun r1 g1 π o B e1 k1 v1 => ?_, fun r1 g1 π B e1 k1 v1 => ?_, fun r1 r2 g1 g2 π π' o' B B' e1 e2 k1 k2 v1 v2 hne => ?_⟩
    · rcases newHas e1 k1 with ⟨rfl, rfl, rfl, rfl⟩ | ⟨hne, e1⟩
      · show Ar.lies w' (ρ r1) [] ⟨te, tg, xs'⟩
        refine ⟨hliesj.tg, by rw [← eI]; exact hliesj.m, (fun hh => by rw [hv] at hh; cases hh), fun _ => by rw [← eI]; exact hliesj.len hvj, fun s hs => ?_⟩
        obtain ⟨ys, p1, p2⟩ := hliesj.cell s hs
        exact ⟨ys, lies_flat hflat p1, fun s2 y2 hy2 => by rw [← eI]; exact p2 s2 y2 hy2⟩
      · exact (hrg.blk r1 g1 π o B e1 k1).later (fun _ => rfl) (Nat.le_refl _) (fun _ _ _ => rfl) (fun v1 => hother r1 g1 π o B e1 k1 hne v1)
    · obtain ⟨g2, B2, a1, a2⟩ := oldHas e1 k1
      exact Nat.lt_of_lt_of_le (hrg.lt r1 g2 π o B2 a1 a2 v1) hr2.bl.size
    · rcases newHas e1 k1 with ⟨rfl, rfl, rfl, _⟩ | ⟨hne, e1⟩
      · refine ⟨⟨hmine.1.own, fun s => ?_⟩, ?_⟩
        · rw [← eI]; exact hminej.1.fz s
        · rw [← eI]; exact hminej.2
      · exact (hrg.own r1 g1 π B e1 k1 v1).later (hother r1 g1 π true B e1 k1 hne v1)
    · obtain ⟨g3, B3, a1, a2⟩ := oldHas e1 k1
      obtain ⟨g4, B4, a3, a4⟩ := oldHas e2 k2
      exact hrg.dj r1 r2 g3 g4 π π' o' B3 B4 a1 a3 a2 a4 v1 v2 hne
end
end Go.Sy
end

section
/-
  Contracts by runs at fixed numbers: how a run ends is looked at.
-/
namespace Go.Sy
open Go Go.RowKit
universe u
section
variable {P : Program} {Γ : Glob} {E : Env} {M : Nat → Prop} {w0 : World} {ρ ρ' : Keys} {st : St} {vs : Fv} {a : Act} {w : World}
theorem Ctr.fn_okX (hP : ProgOk P Γ E) {f : FuncId} {b : Body} (hf : BodyOk P f b) {d : Nat} {F : List Tm → List Reg → Option (List Duty × Tm)}
    (H : ∀ args rg q t, F args rg = some (q, t) → obl q → t.plain = true ∧ ∃ is args' rg', Passed args rg is args' rg' ∧ ∃ Kx, evTop E d b args' rg' Kx ∧ ∀ x st, Kx x st → eqT x t) : Ctr.Ok P Γ f (.fn F) := by
  intro args rg q t hF hq M w0 ρ w us hl hgn hgl hargs hrg
  obtain ⟨hpl, is, args', rg', hp, Kx, hev, hKx⟩ := H args rg q t hF hq
  refine (top_sound hP hf hev hgn hgl (paTs_sound hp.args hargs) (hrg.passed hp)).mono ?_
  rintro e w' ⟨v, st', ρ', x, a', _, rfl, _, hx, hkx, hb⟩
  have heq := hKx _ _ hkx
  exact ⟨v, rfl, Tm.plain_ok hpl (eqT_sound heq hx), hb⟩

/-- A nil slice, or an empty one, seen as an array of no element. -/
def At.vd (r : Nat) : At → At
  | .v (.slice none 0 0) => .sl r [] 0 0
  | .z => .sl r [] 0 0
  | x => x
/-- How a run may end: with the empty slices seen as arrays of no element. -/
inductive resW (K : Res → Prop) : Tm → St → Prop
  | base {x st} (h : resK K x st) : resW K x st
  | void {x st} (e : TypeId) (tg : List CK) (htg : tg ≠ []) (h : resW K (x.mapA (At.vd st.rg.length)) (st.push [.arr e tg [] true true])) : resW K x st
theorem At.vd_ok {N r : Nat} {x : At} {y : Value} (hr : r < N) (hv : (ρ r []).void = true) (h : x.ok N ρ y) : (x.vd r).ok N ρ y := by
  unfold At.vd
  split
  · obtain ⟨rfl, _⟩ := h
    exact ⟨hr, fun _ => ⟨rfl, _, rfl⟩, fun h => by rw [hv] at h; cases h⟩
  · obtain ⟨a, rfl⟩ := h
    exact ⟨hr, fun _ => ⟨rfl, _, rfl⟩, fun h => by rw [hv] at h; cases h⟩
  · exact h
theorem okL_vd {N r : Nat} (hr : r < N) (hv : (ρ r []).void = true) : ∀ {l : List At} {ys : List Value}, okL (At.ok N ρ) l ys → okL (At.ok N ρ) (l.map (At.vd r)) ys
  | [], [], _ => trivial
  | [], _ :: _, h => h.elim
  | _ :: _, [], h => h.elim
  | _ :: _, _ :: _, h => ⟨At.vd_ok hr hv h.1, okL_vd hr hv h.2⟩
theorem c1_vd {N r : Nat} {x : C1} {y : Value} (hr : r < N) (hv : (ρ r []).void = true) (h : x.ok N ρ y) : (x.mapA (At.vd r)).ok N ρ y := by
  cases x with
  | a x => exact At.vd_ok hr hv h
  | agg l => obtain ⟨ys, rfl, h⟩ := h; exact ⟨ys, rfl, okL_vd hr hv h⟩
theorem okC_vd {N r : Nat} (hr : r < N) (hv : (ρ r []).void = true) : ∀ {l : List C1} {ys : List Value}, okL (C1.ok N ρ) l ys → okL (C1.ok N ρ) (l.map (C1.mapA (At.vd r))) ys
  | [], [], _ => trivial
  | [], _ :: _, h => h.elim
  | _ :: _, [], h => h.elim
  | _ :: _, _ :: _, h => ⟨c1_vd hr hv h.1, okC_vd hr hv h.2⟩
theorem tm_vd {N r : Nat} {x : Tm} {y : Value} (hr : r < N) (hv : (ρ r []).void = true) (h : x.ok N ρ y) : (x.mapA (At.vd r)).ok N ρ y := by
  cases x with
  | a x => exact At.vd_ok hr hv h
  | agg l => obtain ⟨ys, rfl, h⟩ := h; exact ⟨ys, rfl, okL_vd hr hv h⟩
  | tup l => obtain ⟨ys, rfl, h⟩ := h; exact ⟨ys, rfl, okC_vd hr hv h⟩
theorem resW_go {K : Res → Prop} {x : Tm} {st : St} (hk : resW K x st) : ∀ {ρ : Keys} {y : Value}, Rel Γ M w0 ρ st vs a w → x.ok st.rg.length ρ y → ∃ x' st' ρ', Rel Γ M w0 ρ' st' vs a w ∧ x'.ok st'.rg.length ρ' y ∧ resK K x' st' := by
  induction hk with
  | base h => exact fun hr hx => ⟨_, _, _, hr, hx, h⟩
  | @void x st e tg htg h ih =>
    intro ρ y hr hx
    have hv := hr.voidArr e htg
    refine ih hv ?_
    have hx' := hx.mono (N' := (st.push [.arr e tg [] true true]).rg.length) (ρ' := setρ ρ st.rg.length fun _ => { noRI with m := tg.length }) (by simp [St.push]) (fun r hr π => by rw [setρ_lt hr])
    exact tm_vd (by simp [St.push]) (by rw [setρ_at]; rfl) hx'
theorem Ctr.new_okW (hP : ProgOk P Γ E) {f : FuncId} {b : Body} (hf : BodyOk P f b) {d : Nat} {C : List Tm → List Reg → (Res → Prop) → Prop}
    (H : ∀ args rg K, C args rg K → ∃ is args' rg', Passed args rg is args' rg' ∧ ∃ Kx, evTop E d b args' rg' Kx ∧ ∀ x st, Kx x st → resW K x st) : Ctr.Ok P Γ f (.new C) := by
  intro args rg K hC M w0 ρ w us hl hgn hgl hargs hrg
  obtain ⟨is, args', rg', hp, Kx, hev, hKx⟩ := H args rg K hC
  refine (top_sound hP hf hev (fun b hb => Nat.lt_of_lt_of_le (hgn b hb).2 hl) hgl (paTs_sound hp.args hargs) (hrg.passed hp)).mono ?_
  rintro e w' ⟨v, st', ρ', x, a', _, rfl, hr', hx, hkx, hb⟩
  obtain ⟨x, st', ρ', hr', hx, ⟨res, js, hK, hreg, hlt, heq⟩⟩ := resW_go (hKx _ _ hkx) hr' hx
  have hget := resRegs_get hreg
  let ρ1 : Keys := fun r => if r < rg.length then ρ r else ρ' (js.getD (r - rg.length) 0)
  have e1 : ∀ r, r < rg.length → ρ1 r = ρ r := fun r hr => by simp [ρ1, hr]
  have e2 : ∀ r, ρ1 (rg.length + r) = ρ' (js.getD r 0) := fun r => by
    show (if rg.length + r < rg.length then _ else _) = _
    rw [if_neg (by omega), Nat.add_sub_cancel_left]
  have hv : (res.tm.ren (fun r => rg.length + r)).ok (rg.length + res.rg.length) ρ1 v :=
    Tm.ren_ok res.rg.length (f := fun r => js.getD r 0) (ρ := ρ') (N := st'.rg.length) (fun r hr => by omega) (fun r _ => e2 r) hlt (eqT_sound heq hx)
  refine ⟨v, res, ρ1, rfl, hK, hb, fun r hr π => by rw [e1 r hr], hv, ?_⟩
  have hold := hrg.later hb.size hb.block
  have key : ∀ (r : Nat) (g : Reg), (rg ++ res.rg)[r]? = some g → (r < rg.length ∧ rg[r]? = some g ∧ ρ1 r = ρ r) ∨ (∃ s i, r = rg.length + s ∧ res.rg[s]? = some g ∧ js[s]? = some i ∧ st'.rg[i]? = some g ∧ g.out = true ∧ ρ1 r = ρ' i) := by
    intro r g hr
    rcases Nat.lt_or_ge r rg.length with hl | hl
    · rw [List.getElem?_append_left hl] at hr; exact .inl ⟨hl, hr, e1 r hl⟩
    · rw [List.getElem?_append_right hl] at hr
      obtain ⟨i, h1, h2, h3⟩ := hget _ g hr
      refine .inr ⟨r - rg.length, i, by omega, hr, h1, h2, h3, ?_⟩
      rw [show r = rg.length + (r - rg.length) by omega, e2]
      simp [List.getD, h1]
  have fresh : ∀ (i : Nat) (g : Reg), st'.rg[i]? = some g → g.out = true → ∀ π o B, g.has π o B → (ρ' i π).void = false → w.heap.size ≤ (ρ' i π).b := by
    intro i g hi ho π o B hh hvd
    obtain rfl := out_has ho hh
    have := hr'.rs.own i g π B hi hh hvd
    have : False ∨ w.heap.size ≤ (ρ' i π).b := by cases B with | box => exact this.own | map => exact this.own | it => exact this.own | lp => exact this.own | arr => exact this.1.own
    exact this.elim False.elim id
  refine ⟨fun r g π o B hr hh => ?_, fun r g π o B hr hh hvd => ?_, fun r g π B hr hh hvd => ?_, fun r r' g g' π π' o' B B' h1 h2 k1 k2 v1 v2 hne => ?_⟩
  · rcases key r g hr with ⟨hl, hg, he⟩ | ⟨s, i, rfl, _, _, hg, ho, he⟩
    · exact (hold.blk r g π o B hg hh).later (fun π => by rw [he]) (Nat.le_add_right _ _) (fun r hr π => by rw [e1 r hr]) (fun _ => rfl)
    · have hb := hr'.rs.blk i g π o B hg hh
      cases B with
      | arr A => show Ar.lies w' (ρ1 (rg.length + s)) π A; rw [he]; exact hb
      | map k c es =>
        obtain ⟨b1, b2, b3⟩ := hb
        exact ⟨b1, by rw [he]; exact b2, by rw [he]; exact b3⟩
      | it =>
        cases g with
        | dead => cases ho
        | iter => cases ho
        | lp => cases ho
        | map => obtain ⟨_, _, hB⟩ := hh; cases hB
        | box => obtain ⟨_, _, hB⟩ := hh; cases hB
        | arr => obtain ⟨_, A, _, hA⟩ := hh; cases hA
      | lp =>
        cases g with
        | dead => cases ho
        | iter => cases ho
        | lp => cases ho
        | map => obtain ⟨_, _, hB⟩ := hh; cases hB
        | box => obtain ⟨_, _, hB⟩ := hh; cases hB
        | arr => obtain ⟨_, A, _, hA⟩ := hh; cases hA
      | box l =>
        obtain ⟨b1, b2, b3, b4⟩ := hb
        refine ⟨b1, by rw [he]; exact b2, by rw [he]; exact b3, fun j x hxj => ?_⟩
        obtain ⟨y, hy, hc⟩ := b4 j x hxj
        have hpl : allL At.plain l = true := by
          cases g with
          | dead => cases ho
          | map => obtain ⟨_, _, hB⟩ := hh; cases hB
          | iter => cases ho
          | lp => cases ho
          | arr => obtain ⟨_, A, _, hA⟩ := hh; cases hA
          | box o1 l1 =>
            obtain ⟨_, _, hB⟩ := hh
            injection hB with hB
            subst hB
            cases o1 with
            | false => cases ho
            | true => exact ho
        exact ⟨y, At.plain_ok (allL_forall hpl x (List.mem_of_getElem? hxj)) hy, by rw [he]; exact hc⟩
  · rcases key r g hr with ⟨hl, hg, he⟩ | ⟨s, i, rfl, _, _, hg, ho, he⟩
    · rw [he] at hvd ⊢; exact hold.lt r g π o B hg hh hvd
    · rw [he] at hvd ⊢; exact hr'.rs.lt i g π o B hg hh hvd
  · rcases key r g hr with ⟨hl, hg, he⟩ | ⟨s, i, rfl, _, _, hg, ho, he⟩
    · rw [he] at hvd ⊢; exact hold.own r g π B hg hh hvd
    · rw [he] at hvd ⊢
      have hm := hr'.rs.own i g π B hg hh hvd
      have hfr := fresh i g hg ho π true B hh hvd
      cases B with
      | box l => exact ⟨.inr (Nat.le_trans hl hfr), hm.fz⟩
      | map => exact ⟨.inr (Nat.le_trans hl hfr), hm.fz⟩
      | it => exact ⟨.inr (Nat.le_trans hl hfr), hm.fz⟩
      | lp => exact ⟨.inr (Nat.le_trans hl hfr), hm.fz⟩
      | arr A => exact ⟨⟨.inr (Nat.le_trans hl hfr), hm.1.fz⟩, hm.2⟩
  · rcases key r g h1 with ⟨_, hg, he⟩ | ⟨s, i, q1, _, q2, hg, ho, he⟩ <;> rcases key r' g' h2 with ⟨_, hg', he'⟩ | ⟨s', i', q1', _, q2', hg', ho', he'⟩
    · rw [he] at v1 ⊢; rw [he'] at v2 ⊢; exact hrg.dj r r' g g' π π' o' B B' hg hg' k1 k2 v1 v2 hne
    · rw [he] at v1 ⊢; rw [he'] at v2 ⊢
      have := hrg.lt r g π true B hg k1 v1
      have := fresh i' g' hg' ho' π' o' B' k2 v2
      omega
    · rw [he] at v1 ⊢; rw [he'] at v2 ⊢
      have := hrg.lt r' g' π' o' B' hg' k2 v2
      have := fresh i g hg ho π true B k1 v1
      omega
    · rw [he] at v1 ⊢; rw [he'] at v2 ⊢
      refine hr'.rs.dj i i' g g' π π' o' B B' hg hg' k1 k2 v1 v2 fun hii => hne ⟨?_, hii.2⟩
      rw [← hii.1] at q2'
      rw [q1, q1', resRegs_inj hreg s s' i q2 q2']

theorem Ctr.new_okX (hP : ProgOk P Γ E) {f : FuncId} {b : Body} (hf : BodyOk P f b) {d : Nat} {C : List Tm → List Reg → (Res → Prop) → Prop}
    (H : ∀ args rg K, C args rg K → ∃ is args' rg', Passed args rg is args' rg' ∧ ∃ Kx, evTop E d b args' rg' Kx ∧ ∀ x st, Kx x st → resK K x st) : Ctr.Ok P Γ f (.new C) :=
  Ctr.new_okW hP hf fun args rg K hC => by
    obtain ⟨is, args', rg', hp, Kx, hev, hKx⟩ := H args rg K hC
    exact ⟨is, args', rg', hp, Kx, hev, fun x st h => .base (hKx x st h)⟩

/-- A test as a proposition. -/
def isT (b : Bool) : Prop := match b with | true => True | false => False
theorem isT_iff {b : Bool} : isT b ↔ b = true := by cases b <;> simp [isT]
/-- Plain results compared. -/
def atB : At → At → Bool
  | .tt, .tt => true
  | .ff, .ff => true
  | .tt, .v (.bool b) => b
  | .ff, .v (.bool b) => !b
  | .v (.bool b), .v (.bool c) => b == c
  | .v (.int k a), .v (.int k' b) => sameKind k k' && (a == b)
  | .v (.slice none 0 0), .v (.slice none 0 0) => true
  | _, _ => false
theorem atB_sound {x y : At} (h : atB x y = true) : eqA x y := by
  unfold atB at h
  split at h
  · trivial
  · trivial
  · exact h
  · rename_i b; cases b; rfl; cases h
  · exact eq_of_beq h
  · simp only [Bool.and_eq_true, beq_iff_eq] at h; exact ⟨sameKind_eq h.1, h.2⟩
  · rfl
  · cases h
def c1B : C1 → C1 → Bool
  | .a x, .a y => atB x y
  | _, _ => false
def c1sB : List C1 → List C1 → Bool
  | [], [] => true
  | x :: xs, y :: ys => c1B x y && c1sB xs ys
  | _, _ => false
theorem c1B_sound {x y : C1} (h : c1B x y = true) : eqC x y := by
  cases x <;> cases y <;> first | exact atB_sound h | cases h
theorem c1sB_sound : ∀ {l l' : List C1}, c1sB l l' = true → eqCs l l'
  | [], [], _ => trivial
  | _ :: _, _ :: _, h => by simp only [c1sB, Bool.and_eq_true] at h; exact ⟨c1B_sound h.1, c1sB_sound h.2⟩
def tmB : Tm → Tm → Bool
  | .a x, .a y => atB x y
  | .tup l, .tup l' => c1sB l l'
  | _, _ => false
theorem tmB_sound {x y : Tm} (h : tmB x y = true) : eqT x y := by
  cases x <;> cases y <;> first | exact atB_sound h | exact c1sB_sound h | cases h
/-- An array of plain cells that is handed back. -/
def tupsB (tg : List CK) : List (Tup tg) → List (Tup tg) → Bool
  | [], [] => true
  | x :: xs, y :: ys => Tup.beq tg x y && tupsB tg xs ys
  | _, _ => false
def noStr : List CK → Bool
  | [] => true
  | .int _ :: l => noStr l
  | .bool :: l => noStr l
  | _ => false
theorem tup_beq : ∀ {tg : List CK} {x y : Tup tg}, noStr tg = true → Tup.beq tg x y = true → x = y := by
  have one : ∀ {c : CK} {x y : c.ty}, noStr [c] = true → c.beq x y = true → x = y := by
    intro c x y hn h
    cases c with
    | int k => exact eq_of_beq (α := Int) h
    | bool => exact eq_of_beq (α := Bool) h
    | str => cases hn
    | sl => cases hn
  intro tg
  induction tg with
  | nil => intro x y _ _; rfl
  | cons c cs ih =>
    intro x y hn h
    have h1 : noStr [c] = true := by cases c <;> first | rfl | cases hn
    have h2 : noStr cs = true := by cases c <;> first | exact hn | cases hn
    cases cs with
    | nil => exact one h1 h
    | cons c' cs =>
      simp only [Tup.beq, Bool.and_eq_true] at h
      exact Prod.ext (one h1 h.1) (ih h2 h.2)
theorem tupsB_eq {tg : List CK} (hn : noStr tg = true) : ∀ {xs ys : List (Tup tg)}, tupsB tg xs ys = true → xs = ys
  | [], [], _ => rfl
  | x :: xs, y :: ys, h => by
    simp only [tupsB, Bool.and_eq_true] at h
    rw [tup_beq hn h.1, tupsB_eq hn h.2]
def regB (te : TypeId) (tg : List CK) (xs : List (Tup tg)) (g : Reg) : Bool :=
  match g with
  | .arr te' tg' ys true true => (match natEq te' te, tagEq tg' tg with | some _, some h => tupsB tg (castL h.down ys) xs | _, _ => false)
  | _ => false
theorem regB_sound {te : TypeId} {tg : List CK} {xs : List (Tup tg)} {g : Reg} (hn : noStr tg = true) (h : regB te tg xs g = true) : g = .arr te tg xs true true := by
  unfold regB at h
  split at h
  · split at h
    · rename_i h1 h2 _ _
      obtain rfl := h1.down
      obtain rfl := h2.down
      have h := tupsB_eq hn h
      rw [← h]; rfl
    · cases h
  · cases h
/-- A slice, and further values. -/
def slB (te : TypeId) (tg : List CK) (xs : List (Tup tg)) (r : List C1) (x : Tm) (st : St) : Bool :=
  match x with
  | .tup (.a (.sl i [] 0 n) :: l) => Nat.beq n xs.length && regB te tg xs (st.rg.getD i .dead) && c1sB l r
  | _ => false
def C1.pl : C1 → Bool
  | .a (.v _) => true
  | .a .tt => true
  | .a .ff => true
  | _ => false
theorem pl_lt {n : Nat} : ∀ {r : List C1}, allL C1.pl r = true → allL (C1.lt n) r = true
  | [], _ => rfl
  | x :: r, h => by
    simp only [allL] at h ⊢
    split at h
    · rename_i hx
      have : x.lt n = true := by
        unfold C1.pl at hx
        split at hx <;> first | rfl | cases hx
      rw [this]; exact pl_lt h
    · cases h
theorem pl_ren {f : Nat → Nat} : ∀ {r : List C1}, allL C1.pl r = true → r.map (C1.mapA (At.ren f)) = r
  | [], _ => rfl
  | x :: r, h => by
    simp only [allL] at h
    split at h
    · rename_i hx
      have : x.mapA (At.ren f) = x := by
        unfold C1.pl at hx
        split at hx <;> first | rfl | cases hx
      rw [List.map_cons, this, pl_ren h]
    · cases h
theorem slB_sound {te : TypeId} {tg : List CK} {xs : List (Tup tg)} {r : List C1} {x : Tm} {st : St} {K : Res → Prop} (hn : noStr tg = true) (hr : allL C1.pl r = true) (hK : K ⟨[.arr te tg xs true true], .tup (.a (.sl 0 [] 0 xs.length) :: r)⟩) (h : slB te tg xs r x st = true) : resK K x st := by
  unfold slB at h
  split at h
  · rename_i i n l
    simp only [Bool.and_eq_true] at h
    obtain ⟨⟨h1, h2⟩, h3⟩ := h
    obtain rfl := Nat.eq_of_beq_eq_true h1
    refine ⟨_, [i], hK, ⟨regB_sound hn h2, rfl, (by simp), trivial⟩, ?_, ?_⟩
    · exact (pl_lt hr : allL (C1.lt 1) r = true)
    · show eqCs _ (_ :: r.map _)
      exact ⟨⟨rfl, rfl, rfl, rfl⟩, by rw [pl_ren hr]; exact c1sB_sound h3⟩
  · cases h
end
end Go.Sy
end
