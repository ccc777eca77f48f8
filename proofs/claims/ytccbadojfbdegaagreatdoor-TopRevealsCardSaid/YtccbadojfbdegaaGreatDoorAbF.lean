/- Calls, deferred calls, rounds; regions whose order is drawn, the beginning. -/
import Derived.Test.YtccbadojfbdegaaGreatDoorAbE
/- What the evaluator's answers say of the model's runs: results, the way out of a function. -/
namespace Go.Ab

variable {E : Env} {G : Ground}

theorem orUndef_tmp {μ : Map} {τ : Tr AVal} {t : Array Value} (ht : TRel G.I μ τ t) (k : Nat) : VRel G.I μ (orUndef (τ.get k)) (t.getD k undef) := orUndef_rel fun v e => ht k v e

/-- one result -/
def result1 (tmps : Array Value) : ResultVar → Sem Value
  | .tmp t => pure (tmps.getD t undef)
  | .cell a t => do loadVar t (← asAddr (tmps.getD a undef))

theorem resultA_run {μ : Map} {H : AHeap} {w : World} {τ : Tr AVal} {t : Array Value} (hw : WRel G μ H w) (ht : TRel G.I μ τ t) {r : ResultVar} {v : AVal} (h : resultA E τ H r = some v) :
    ∃ v', (result1 t r).run E.P w = .ok v' w ∧ VRel G.I μ v v' := by
  unfold resultA at h
  cases r with
  | tmp k => cases h; exact ⟨_, rfl, orUndef_tmp ht k⟩
  | cell a ty =>
    simp only at h
    unfold resultAt at h
    split at h
    · rename_i b o e
      have hv := orUndef_tmp ht a
      rw [e] at hv
      generalize hx : t.getD a undef = x at hv
      cases hv with
      | ptr _ _ c n hm =>
      obtain ⟨v', hr, hv'⟩ := loadA_run (E := E) hw h hm
      refine ⟨v', ?_, hv'⟩
      simp only [result1, Sem.run_bind, hx, asAddr, Sem.run_pure, Result.andThen_ok]
      exact hr
    · cases h

theorem resultsA_run {μ : Map} {H : AHeap} {w : World} {τ : Tr AVal} {t : Array Value} (hw : WRel G μ H w) (ht : TRel G.I μ τ t) : ∀ {l : List ResultVar} {vs : List AVal}, resultsA E τ H l = some vs →
    ∃ vs', (l.mapM (result1 t)).run E.P w = .ok vs' w ∧ VsRel G.I μ vs vs' := by
  intro l
  induction l with
  | nil => intro vs h; cases h; exact ⟨[], by simp, .nil⟩
  | cons r l ih =>
    intro vs h
    simp only [resultsA] at h
    split at h
    · rename_i v hv
      split at h
      · rename_i vs1 hvs
        cases h
        obtain ⟨v', hr, hrel⟩ := resultA_run (E := E) hw ht hv
        obtain ⟨vs', hr', hrel'⟩ := ih hvs
        refine ⟨v' :: vs', ?_, .cons hrel hrel'⟩
        simp only [List.mapM_cons, Sem.run_bind, hr, Result.andThen_ok, hr', Sem.run_pure]
      · cases h
    · cases h

theorem resultOf_run {μ : Map} {H : AHeap} {w : World} {τ : Tr AVal} {t : Array Value} (hw : WRel G μ H w) (ht : TRel G.I μ τ t) {fn : Func} {v : AVal} (h : resultOf E fn τ H = some v) :
    ∃ v', (results fn t).run E.P w = .ok v' w ∧ VRel G.I μ v v' := by
  have key : ∀ vs, resultsA E τ H fn.results.toList = some vs → ∃ vs' : Array Value, (results fn t).run E.P w = .ok (if h : vs'.size = 1 then vs'[0] else .tuple vs') w ∧ VsRel G.I μ vs vs'.toList := by
    intro vs hvs
    obtain ⟨vs', hr, hrel⟩ := resultsA_run (E := E) hw ht hvs
    have hm := toList_mapM_run (E := E) (result1 t) fn.results vs' w hr
    refine ⟨vs'.toArray, ?_, by simpa using hrel⟩
    have hdef : results fn t = (fn.results.mapM (result1 t) >>= fun vs => pure (if h : vs.size = 1 then vs[0] else .tuple vs)) := by
      unfold results
      congr 1
    rw [hdef]
    simp only [Sem.run_bind, hm, Result.andThen_ok, Sem.run_pure]
  unfold resultOf at h
  split at h
  · rename_i x hx
    cases h
    obtain ⟨vs', hr, hrel⟩ := key _ hx
    obtain ⟨y, hy, hv⟩ := vsrel_one' hrel
    have : vs' = #[y] := Array.ext' hy
    subst this
    exact ⟨y, hr, hv⟩
  · rename_i vs hne hx
    cases h
    obtain ⟨vs', hr, hrel⟩ := key _ hx
    have hl := hrel.length
    have h1 : ¬ vs'.size = 1 := by
      intro e
      have : vs.length = 1 := by rw [hl]; simpa using e
      obtain ⟨x, rfl⟩ : ∃ x, vs = [x] := by
        cases vs with
        | nil => simp at this
        | cons x l => cases l with
          | nil => exact ⟨x, rfl⟩
          | cons y l => simp at this
      exact hne x rfl
    simp only [h1, dif_neg, not_false_eq_true] at hr
    exact ⟨_, hr, .tuple _ _ hrel⟩
  · cases h

theorem settleA_rel {μ : Map} {m : Option Chain} {u : FrameMode} (h : MRel G.I μ m u) : MRel G.I μ (settleA m) (settle u) := by
  have dropAll : ∀ {ch : Chain} {es : List PanicEntry}, CRel G.I μ ch es → es.dropWhile (!·.goexit) = [] := by
    intro ch es h
    induction h with
    | nil => rfl
    | cons hv hr hg _ ih => simp [List.dropWhile, hg, ih]
  cases h with
  | ret => exact .ret
  | pan h =>
    rename_i ch es
    cases h with
    | nil => exact .pan .nil
    | cons hv hr hg h =>
      rename_i v r e ch es
      cases r with
      | true =>
        obtain ⟨ev, er, eg⟩ := e
        simp only at hr
        subst hr
        simp only [settleA, settle, dropAll h]
        exact .ret
      | false =>
        obtain ⟨ev, er, eg⟩ := e
        simp only at hr
        subst hr
        simp only [settleA, settle]
        exact .pan (.cons hv rfl hg h)

theorem CRel.append {μ : Map} {a b : Chain} {x y : List PanicEntry} (h : CRel G.I μ a x) (h' : CRel G.I μ b y) : CRel G.I μ (a ++ b) (x ++ y) := by
  induction h with
  | nil => exact h'
  | cons hv hr hg _ ih => exact .cons hv hr hg ih

theorem raisedA_rel {μ : Map} {m : Option Chain} {u : FrameMode} {ch : Chain} {es : List PanicEntry} (h : MRel G.I μ m u) (hc : CRel G.I μ ch es) : MRel G.I μ (raisedA m ch) (raised u es) := by
  cases h with
  | ret => exact .pan hc
  | pan h => exact .pan (hc.append h)

theorem MRel.mono {I : Interp} {μ μ' : Map} (h : μ.le μ') {m : Option Chain} {u : FrameMode} (r : MRel I μ m u) : MRel I μ' m u := by
  cases r with
  | ret => exact .ret
  | pan hc => exact .pan (hc.mono h)

section
variable {P : Program}
theorem leavesInM_mono {F : Fence} {fn : Func} {tmps : Array Value} {R R' : Ending → World → Prop} (hr : ∀ e w, R e w → R' e w) : ∀ {ds : List Deferred} {u : FrameMode} {w : World}, LeavesInM F 0 P fn tmps R ds u w → LeavesInM F 0 P fn tmps R' ds u w := by
  intro ds
  induction ds with
  | nil =>
    intro u w h
    simp only [LeavesInM] at h ⊢
    cases u with
    | run => exact h
    | returning => obtain ⟨v, h1, h2⟩ := h; exact ⟨v, h1, hr _ _ h2⟩
    | panicking c => exact hr _ _ h
  | cons d ds ih =>
    intro u w h
    obtain ⟨h0, h1⟩ := h
    refine ⟨h0, ?_⟩
    rcases h1 with ⟨r, w', g1, g2, g3⟩ | ⟨g0, fv, cap, f, args, g1, g2, g3, g4⟩
    · exact .inl ⟨r, w', g1, g2, ih g3⟩
    · refine .inr ⟨g0, fv, cap, f, args, g1, g2, g3, g4.1, fun c cs hc hroom => ?_⟩
      obtain ⟨e, u', w', fr, hR, hrest⟩ := g4.2 c cs hc hroom
      refine ⟨e, u', w', fr, ?_, hrest⟩
      cases e with
      | returned v => exact ih hR
      | panicked es => exact ih hR
      | outgrown => exact hr _ _ hR
end

theorem takeDeferred_run {P : Program} {c : Nat} {w : World} (h : w.heap[c]? = some (.deferred (some []))) : (Instr.takeDeferred c).run P w = .ok [] { w with heap := w.heap.setIfInBounds c (.deferred none) } := by
  have h1 : (getObj c).run P w = .ok (.deferred (some [])) w := by simp only [getObj, Sem.run, h]
  have h2 : (setObj c (.deferred none)).run P w = .ok () { w with heap := w.heap.setIfInBounds c (.deferred none) } := by simp only [setObj, Sem.run, h]
  unfold Instr.takeDeferred
  simp only [Sem.run_bind, h1, h2, Result.andThen_ok, Sem.run_pure]

section
variable {rec : Task → Option Out}

theorem leaveStep_sound (hLeave : ∀ fn τ ds m H o, rec (.leave fn τ ds m H) = some o → LeaveSound E G fn τ ds m H o) (hCallD : ∀ f args m H o, rec (.callD f args m H) = some o → CallDSound E G f args m H o)
    {fn : Func} {τ : Tr AVal} {ds : List ADef} {m : Option Chain} {H : AHeap} {out : Out} (h : leaveStep E rec fn τ ds m H = some out) : LeaveSound E G fn τ ds m H out := by
  intro μ w tmps ds' u hw ht hd hm
  unfold leaveStep at h
  split at h
  · cases hd
    split at h
    · cases hm
      unfold resultStep at h
      split at h
      · rename_i v hv
        cases h
        obtain ⟨v', hr, hrel⟩ := resultOf_run (E := E) hw ht hv
        exact ⟨v', hr, μ, Nxt.refl hw, hrel⟩
      · cases h
    · cases h
      cases hm with
      | pan hc => exact ⟨μ, Nxt.refl hw, hc⟩
  · rename_i d ds1
    cases hd with
    | cons h1 hs =>
    cases h1 with
    | collected _ c n hmap =>
    refine ⟨by cases hm <;> simp, .inl ?_⟩
    unfold leaveC at h
    split at h
    · rename_i hg
      obtain ⟨_, c', n', o', hm', hc, ho, _⟩ := hw.live _ _ hg
      rw [hmap] at hm'
      cases hm'
      cases ho
      have hn : Nxt G μ H w μ (H.put d (.deferred true)) { w with heap := w.heap.setIfInBounds c (.deferred none) } := Nxt.put hw hg rfl hmap (.deferred true n) rfl rfl rfl
      exact ⟨c, _, rfl, takeDeferred_run hc, leavesInM_mono (fun _ _ hh => hh.step hn) (hLeave _ _ _ _ _ _ h μ _ tmps _ u hn.rel ht hs hm)⟩
    · cases h
  · rename_i f captured args ds1
    cases hd with
    | cons h1 hs =>
    cases h1 with
    | fn _ _ _ a' b' ha hb =>
    refine ⟨by cases hm <;> simp, .inr ⟨fun e => (by cases e), ?_⟩⟩
    unfold leaveD at h
    have hargs : VsRel G.I μ (appL args captured) (b' ++ a').toList := by rw [appL_eq, Array.toList_append]; exact hb.append ha
    split at h
    · rename_i m' H' hc
      obtain ⟨hrun, hcd⟩ := hCallD _ _ _ _ _ hc μ w _ u hw hargs hm
      refine ⟨.func f, a', f, b' ++ a', rfl, hrun, fun _ _ => trivial, hcd.1, fun c cs hcu hroom => ?_⟩
      obtain ⟨e, u', w', fr, hR, hrest⟩ := hcd.2 c cs hcu hroom
      refine ⟨e, u', w', fr, ?_, hrest⟩
      cases e with
      | returned v =>
        obtain ⟨μ', hn, hm'⟩ := hR
        exact leavesInM_mono (fun _ _ hh => hh.step hn) (hLeave _ _ _ _ _ _ h μ' w' tmps _ _ hn.rel (ht.mono hn.le) (hs.mono hn.le) (settleA_rel hm'))
      | panicked es => exact hR.elim
      | outgrown => exact hR.elim
    · rename_i ch m' H' hc
      obtain ⟨hrun, hcd⟩ := hCallD _ _ _ _ _ hc μ w _ u hw hargs hm
      refine ⟨.func f, a', f, b' ++ a', rfl, hrun, fun _ _ => trivial, hcd.1, fun c cs hcu hroom => ?_⟩
      obtain ⟨e, u', w', fr, hR, hrest⟩ := hcd.2 c cs hcu hroom
      refine ⟨e, u', w', fr, ?_, hrest⟩
      cases e with
      | returned v => exact hR.elim
      | panicked es =>
        obtain ⟨μ', hn, hm', hch⟩ := hR
        exact leavesInM_mono (fun _ _ hh => hh.step hn) (hLeave _ _ _ _ _ _ h μ' w' tmps _ _ hn.rel (ht.mono hn.le) (hs.mono hn.le) (raisedA_rel hm' hch))
      | outgrown => exact hR.elim
    · cases h
end

end Go.Ab
/- What the evaluator's answers say of the model's runs: calls, deferred calls. -/
namespace Go.Ab

variable {E : Env} {G : Ground}

/-- the temporaries of a new activation -/
def entered (fn : Func) (args : Array Value) : Act := { tmps := args ++ Array.replicate (fn.ntmps - args.size) undef, defers := [] }

theorem entered_size (fn : Func) (args : Array Value) : fn.ntmps ≤ (entered fn args).tmps.size := by
  simp only [entered, Array.size_append, Array.size_replicate]
  omega

theorem enterTr_get : ∀ {l : List AVal} {i : Nat} {τ : Tr AVal} (k : Nat), (enterTr l i τ).get k = if i ≤ k ∧ k < i + l.length then l[k - i]? else τ.get k := by
  intro l
  induction l with
  | nil => intro i τ k; simp only [enterTr, List.length_nil]; rw [if_neg (by omega)]
  | cons x l ih =>
    intro i τ k
    simp only [enterTr, List.length_cons]
    rw [ih]
    by_cases h1 : Nat.succ i ≤ k ∧ k < Nat.succ i + l.length
    · rw [if_pos h1, if_pos (by omega)]
      obtain ⟨j, rfl⟩ : ∃ j, k = i + (j + 1) := ⟨k - i - 1, by omega⟩
      rw [show i + (j + 1) - i = j + 1 from by omega, show i + (j + 1) - Nat.succ i = j from by omega]
      rfl
    · rw [if_neg h1, Tr.get_set]
      by_cases h2 : k = i
      · subst h2
        rw [if_pos rfl, if_pos (by omega), Nat.sub_self]
        rfl
      · rw [if_neg h2, if_neg (by omega)]

theorem entered_rel {μ : Map} {fn : Func} {args : List AVal} {args' : Array Value} (h : VsRel G.I μ args args'.toList) : TRel G.I μ (enterTr args 0 .nil) (entered fn args').tmps := by
  intro k v hk
  rw [enterTr_get] at hk
  split at hk
  · rename_i hb
    simp only [Nat.sub_zero] at hk
    obtain ⟨y, hy, hv⟩ := h.get hk
    simp only [entered]
    rw [Array.getD_eq_getD_getElem?, Array.getElem?_append]
    rw [Array.getElem?_toList] at hy
    have hlt := (Array.getElem?_eq_some_iff.1 hy).1
    rw [if_pos hlt, hy]
    exact hv
  · rw [Tr.get_nil] at hk
    cases hk

theorem run_callFunc_body {P : Program} {f : Nat} {fn : Func} {c : Code} (hf : P.funcs[f]? = some fn) (hb : fn.body = some c) (hn : (fn.name == "runtime.NumGoroutine") = false) (args : Array Value) (w : World) :
    (callFunc f args).run P w = .ok (.enter f args) w := by
  have hp : (program).run P w = .ok P w := rfl
  unfold callFunc
  simp only [Sem.run_bind, hp, Result.andThen_ok, hf, hn, hb, Option.isNone, Bool.false_eq_true, if_false, Sem.run_pure]

theorem callsDIn_mono {F : Fence} {P : Program} {f : FuncId} {args : Array Value} {u : FrameMode} {w : World} {R R' : Ending → FrameMode → World → Prop} (h : CallsDIn F 0 P f args u w R) (hr : ∀ e u w, R e u w → R' e u w) : CallsDIn F 0 P f args u w R' :=
  ⟨h.1, fun c cs hc hroom => let ⟨e, u', w', fr, hR, hrest⟩ := h.2 c cs hc hroom; ⟨e, u', w', fr, hr _ _ _ hR, hrest⟩⟩

section
variable {rec : Task → Option Out} {n : Nat}

theorem callBody_sound (hT : Told E G) (hCode : ∀ ro c τ ds H o, rec (.code ro c τ ds H) = some o → CodeSound E G n ro c τ ds H o)
    (hLeave : ∀ fn τ ds m H o, rec (.leave fn τ ds m H) = some o → LeaveSound E G fn τ ds m H o) {f : Nat} {args : List AVal} {H : AHeap} {out : Out} (h : callBody E rec f args H = some out) : CallSound E G f args H out := by
  intro μ w args' hw hargs
  unfold callBody at h
  split at h
  · rename_i fn hf
    split at h
    · rename_i c hb
      cases hn : (fn.name == "runtime.NumGoroutine") with
      | true => rw [hn] at h; cases h
      | false =>
        rw [hn] at h
        simp only [cond_false] at h
        refine .inr ⟨run_callFunc_body hf hb hn args' w, ?_⟩
        cases hr : rec (.code none c (enterTr args 0 .nil) [] H) with
        | none => rw [hr] at h; cases h
        | some o₁ =>
          rw [hr] at h
          have hcode := (hCode _ _ _ _ _ _ hr μ w (entered fn args') none hw .none (entered_rel hargs) .nil (codeIn_mono (entered_size fn args') (hT.funcs f fn c hf hb))).wp
          refine callsIn_of_wp_marks hf hb trivial (wpIn_mono hcode fun e a' w' hp => ?_)
          obtain ⟨x, τ, ds, H', μ', rfl, hnx, hx, ht, hd, hs⟩ := stPost_st hp
          cases hx with
          | normal => exact leavesInM_mono (fun _ _ hh => hh.step hnx) (hLeave _ _ _ _ _ _ h μ' w' a'.tmps a'.defers _ hnx.rel ht hd .ret)
          | ret => exact leavesInM_mono (fun _ _ hh => hh.step hnx) (hLeave _ _ _ _ _ _ h μ' w' a'.tmps a'.defers _ hnx.rel ht hd .ret)
          | exit id => cases h
          | pan hc => exact leavesInM_mono (fun _ _ hh => hh.step hnx) (hLeave _ _ _ _ _ _ h μ' w' a'.tmps a'.defers _ hnx.rel ht hd (.pan hc))
    · cases h
  · cases h

theorem callStep_sound (hT : Told E G) (hCode : ∀ ro c τ ds H o, rec (.code ro c τ ds H) = some o → CodeSound E G n ro c τ ds H o)
    (hLeave : ∀ fn τ ds m H o, rec (.leave fn τ ds m H) = some o → LeaveSound E G fn τ ds m H o) {f : Nat} {args : List AVal} {H : AHeap} {out : Out} (h : callStep E rec f args H = some out) : CallSound E G f args H out := by
  unfold callStep at h
  split at h
  · rename_i v H' ho
    cases h
    exact fun μ w args' hw hargs => hT.orc f args H v H' ho μ w args' hw hargs
  · cases h
  · exact callBody_sound hT hCode hLeave h

/-- the end of a deferred call -/
theorem dEnd_sound {fn : Func} {x : AExit} {τ : Tr AVal} {H' : AHeap} {m' : Option Chain} {out : Out} (h : dEnd E fn x τ H' m' = some out) {μ μ' : Map} {H : AHeap} {w w' : World} {c₀ : Frame} {cs cs' : List Frame} {u : FrameMode} {a' : Act} {e : Exit}
    (hcs : cs' = { c₀ with mode := u } :: cs) (hn : Nxt G μ H w μ' H' w') (hx : XRel G.I μ' x e) (ht : TRel G.I μ' τ a'.tmps) (hd : a'.defers = []) (hm : MRel G.I μ' m' u) :
    bodyPostS E.P fn c₀ cs (DPost G μ H w out) e a' cs' w' := by
  unfold dEnd at h
  cases hx with
  | pan hc => cases h; exact ⟨hd, u, hcs, μ', hn, hm, hc⟩
  | exit id => cases h
  | normal =>
    simp only at h
    split at h
    · rename_i v hv
      cases h
      obtain ⟨v', hr, _⟩ := resultOf_run (E := E) hn.rel ht hv
      exact ⟨hd, u, hcs, v', hr, μ', hn, hm⟩
    · cases h
  | ret =>
    simp only at h
    split at h
    · rename_i v hv
      cases h
      obtain ⟨v', hr, _⟩ := resultOf_run (E := E) hn.rel ht hv
      exact ⟨hd, u, hcs, v', hr, μ', hn, hm⟩
    · cases h

theorem wpSIn_mono {F : Fence} {P : Program} {c : Code} {Q Q' : Exit → Act → List Frame → World → Prop} {a : Act} {cs : List Frame} {w : World} (h : c.wpSIn F 0 P Q a cs w) (hq : ∀ e a cs w, Q e a cs w → Q' e a cs w) : c.wpSIn F 0 P Q' a cs w :=
  fun b k hb hr hF hroom => let ⟨e, a', cs', w', hl, q, r⟩ := h b k hb hr hF hroom; ⟨e, a', cs', w', hl, hq _ _ _ _ q, r⟩

theorem callDStep_sound (hT : Told E G) (hCodeS : ∀ c τ ds H m o, rec (.codeS c τ ds H m) = some o → CodeSSound E G c τ ds H m o)
    {f : Nat} {args : List AVal} {m : Option Chain} {H : AHeap} {out : Out} (h : callDStep E rec f args m H = some out) : CallDSound E G f args m H out := by
  intro μ w args' u hw hargs hm
  unfold callDStep at h
  split at h
  · rename_i fn hf
    split at h
    · rename_i c hb
      cases hn : (fn.name == "runtime.NumGoroutine") with
      | true => rw [hn] at h; cases h
      | false =>
        rw [hn] at h
        simp only [cond_false] at h
        refine ⟨run_callFunc_body hf hb hn args' w, ?_⟩
        unfold callDEnd at h
        split at h
        · rename_i x τ H' m' hr
          refine callsDIn_of_wpSIn hf hb trivial fun c₀ cs hc₀ => ?_
          have := hCodeS _ _ _ _ _ _ hr μ w (entered fn args') c₀ cs hw (entered_rel hargs) .nil (codeIn_mono (entered_size fn args') (hT.funcs f fn c hf hb)) (hc₀ ▸ hm)
          refine wpSIn_mono this fun e a' cs' w' hp => ?_
          obtain ⟨μ', u', hcs, hnx, hx, ht, hd, hs, hm'⟩ := hp
          have hdd : a'.defers = [] := by
            generalize a'.defers = dd at hd
            cases hd
            rfl
          exact dEnd_sound h hcs hnx hx ht hdd hm'
        · cases h
    · cases h
  · cases h

/-! ### the code of a deferred call -/

theorem sPost_sts {μ : Map} {H : AHeap} {w : World} {sz : Nat} {cs : List Frame} {c₀ : Frame} {o : Out} {e : Exit} {a' : Act} {cs' : List Frame} {w' : World} (h : SPost G μ H w sz cs c₀ o e a' cs' w') :
    ∃ x τ ds H' m μ' u, o = .sts x τ ds H' m ∧ cs' = { c₀ with mode := u } :: cs ∧ Nxt G μ H w μ' H' w' ∧ XRel G.I μ' x e ∧ TRel G.I μ' τ a'.tmps ∧ DsRel G.I μ' ds a'.defers ∧ a'.tmps.size = sz ∧ MRel G.I μ' m u := by
  unfold SPost at h
  cases o with
  | sts x τ ds H' m => obtain ⟨μ', u, h⟩ := h; exact ⟨x, τ, ds, H', m, μ', u, rfl, h⟩
  | _ => exact h.elim

theorem plainS_sound (hCode : ∀ ro c τ ds H o, rec (.code ro c τ ds H) = some o → CodeSound E G n ro c τ ds H o) {c : Code} {τ : Tr AVal} {ds : List ADef} {H : AHeap} {m : Option Chain} {out : Out}
    (h : plainS m (rec (.code none c τ ds H)) = some out) : CodeSSound E G c τ ds H m out := by
  intro μ w a c₀ cs hw ht hd hin hm
  cases hr : rec (.code none c τ ds H) with
  | none => rw [hr] at h; cases h
  | some o₁ =>
    rw [hr] at h
    have := (hCode _ _ _ _ _ _ hr μ w a none hw .none ht hd hin).wp
    refine wpSIn_of_wpIn rfl (wpIn_mono this fun e a' w' hp => ?_)
    obtain ⟨x, τ, ds, H', μ', rfl, hnx, hx, ht, hd, hs⟩ := stPost_st hp
    cases h
    exact ⟨μ', c₀.mode, rfl, hnx, hx, ht, hd, hs, hm.mono hnx.le⟩

theorem condSStep_sound (hT : Told E G) (hCodeS : ∀ c τ ds H m o, rec (.codeS c τ ds H m) = some o → CodeSSound E G c τ ds H m o) {c : Operand} {x y : Code} {τ : Tr AVal} {ds : List ADef} {H : AHeap} {m : Option Chain} {out : Out}
    (h : condSStep rec (aeval E τ c) x y τ ds H m = some out) : CodeSSound E G (.cond c x y) τ ds H m out := by
  intro μ w a c₀ cs hw ht hd hin hm
  simp only [codeIn, Bool.and_eq_true] at hin
  have hv := aeval_rel (E := E) hT.globals hw ht c
  unfold condSStep at h
  split at h
  · rename_i he
    rw [he] at hv
    generalize hac : a.eval c = v at hv
    cases hv
    exact wpSIn_cond hac (hCodeS _ _ _ _ _ _ h μ w a c₀ cs hw ht hd hin.1 hm)
  · rename_i he
    rw [he] at hv
    generalize hac : a.eval c = v at hv
    cases hv
    exact wpSIn_cond hac (hCodeS _ _ _ _ _ _ h μ w a c₀ cs hw ht hd hin.2 hm)
  · cases h

theorem seqSStep_sound (hCodeS : ∀ c τ ds H m o, rec (.codeS c τ ds H m) = some o → CodeSSound E G c τ ds H m o) {x y : Code} {τ : Tr AVal} {ds : List ADef} {H : AHeap} {m : Option Chain} {out : Out}
    (h : seqSStep rec y (rec (.codeS x τ ds H m)) = some out) : CodeSSound E G (.seq x y) τ ds H m out := by
  intro μ w a c₀ cs hw ht hd hin hm
  simp only [codeIn, Bool.and_eq_true] at hin
  refine wpSIn_seq ?_
  cases hr : rec (.codeS x τ ds H m) with
  | none => rw [hr] at h; cases h
  | some o₁ =>
    rw [hr] at h
    refine wpSIn_mono (hCodeS _ _ _ _ _ _ hr μ w a c₀ cs hw ht hd hin.1 hm) fun e a' cs' w' hp => ?_
    obtain ⟨x, τ, ds, H', m', μ', u, rfl, hcs, hn, hx, ht, hd, hs, hm'⟩ := sPost_sts hp
    cases hx with
    | normal =>
      subst hcs
      have := hCodeS _ _ _ _ _ _ h μ' w' a' { c₀ with mode := u } cs hn.rel ht hd (by rw [hs]; exact hin.2) hm'
      exact wpSIn_mono this fun e a'' cs'' w'' hh => by
        rw [hs] at hh
        exact hh.step hn (fun _ => rfl)
    | exit id => cases h; exact hp
    | ret => cases h; exact hp
    | pan hc => cases h; exact hp

end

end Go.Ab
/- What the evaluator's answers say of the model's runs: recover; rounds; ranges over functions. -/
namespace Go.Ab

variable {E : Env} {G : Ground}

theorem run_recover {ρ : Operand → Value} {o : Oper} (h : isRecover o.op = true) (P : Program) (w : World) : (execOp ρ o).run P w = .ok .recover w := by
  obtain ⟨dst, op, ty, pos, after, guard⟩ := o
  unfold isRecover at h
  split at h
  · rename_i c hc
    split at h
    · rename_i hb
      simp only at hc
      subst hc
      obtain ⟨callee, args, ats⟩ := c
      simp only at hb
      subst hb
      rfl
    · cases h
  · cases h

theorem recoverD_some {μ : Map} {v : AVal} {older : Chain} {c₀ : Frame} {cs : List Frame} (h : MRel G.I μ (some ((v, false) :: older)) c₀.mode) :
    ∃ v' u, recoverD (c₀ :: cs) = some (v', { c₀ with mode := u } :: cs) ∧ VRel G.I μ v v' ∧ MRel G.I μ (some ((v, true) :: older)) u := by
  generalize hm : c₀.mode = m at h
  cases h with
  | pan hc =>
    cases hc with
    | cons hv hr hg hrest =>
    rename_i e es
    obtain ⟨ev, er, eg⟩ := e
    simp only at hr hg
    subst hr hg
    refine ⟨ev, .panicking ({ v := ev, recovered := true } :: es), ?_, hv, .pan (.cons hv rfl rfl hrest)⟩
    simp only [recoverD, hm]

theorem recoverD_none {μ : Map} {m : Option Chain} {c₀ : Frame} {cs : List Frame} (h : MRel G.I μ m c₀.mode) (hne : ∀ v older, m ≠ some ((v, false) :: older)) : recoverD (c₀ :: cs) = none := by
  generalize hm : c₀.mode = u at h
  cases h with
  | ret => simp only [recoverD, hm]
  | pan hc =>
    cases hc with
    | nil => simp only [recoverD, hm]
    | cons hv hr hg hrest =>
      rename_i v r e ch es
      cases r with
      | false => exact absurd rfl (hne _ _)
      | true =>
        obtain ⟨ev, er, eg⟩ := e
        simp only at hr hg
        subst hr hg
        simp only [recoverD, hm]

theorem wpOpsSIn_mono {F : Fence} {P : Program} {ops : Array Oper} {Q Q' : Exit → Act → List Frame → World → Prop} (hq : ∀ e a cs w, Q e a cs w → Q' e a cs w) : ∀ {l : List Nat} {a : Act} {cs : List Frame} {w : World},
    wpOpsSIn F 0 P ops Q l a cs w → wpOpsSIn F 0 P ops Q' l a cs w := by
  intro l
  induction l with
  | nil => exact fun h => hq _ _ _ _ h
  | cons i l ih =>
    intro a cs w h
    simp only [wpOpsSIn] at h ⊢
    split
    · rename_i hi
      rw [hi] at h
      exact ih h
    · rename_i o ho
      rw [ho] at h
      simp only at h
      refine ⟨h.1, ?_⟩
      have h := h.2
      split
      · rename_i hwn
        rw [if_pos hwn] at h
        generalize (execOp a.eval o).run P w = r at h ⊢
        cases r with
        | ok x w' =>
          cases x <;> simp only at h ⊢ <;> try exact h
          · exact ih h
          · exact ih h
          · split at h
            · exact ih h
            · exact ih h
        | halt x w' => cases x <;> simp only at h ⊢ <;> first | exact hq _ _ _ _ h | exact h
      · rename_i hwn
        rw [if_neg hwn] at h
        exact ih h

section
variable {rec : Task → Option Out} {n : Nat}

theorem opsSStep_sound (hT : Told E G) (hOpsS : ∀ all l τ ds H m o, rec (.opsS all l τ ds H m) = some o → OpsSSound E G all l τ ds H m o)
    {all : Array Oper} {o : Oper} {l : List Oper} {τ : Tr AVal} {ds : List ADef} {H : AHeap} {m : Option Chain} {out : Out} (h : opsSStep E rec all o l τ ds H m = some out) : OpsSSound E G all (o :: l) τ ds H m out := by
  intro μ w a c₀ cs i hw ht hd hdrop hin hm
  obtain ⟨hi, hrest⟩ := drop_cons hdrop
  obtain ⟨hdst, hin'⟩ := opsIn_cons hin
  simp only [List.length_cons, List.range'_succ, wpOpsSIn]
  rw [Array.getElem?_toList] at hi
  simp only [hi]
  refine ⟨fun _ _ => trivial, ?_⟩
  have go : ∀ (v : AVal) (v' : Value) (μ₁ : Map) (H₁ : AHeap) (w₁ : World) (c₁ : Frame) (m₁ : Option Chain), Nxt G μ H w μ₁ H₁ w₁ → VRel G.I μ₁ v v' → (∀ u, { c₁ with mode := u } = { c₀ with mode := u }) → MRel G.I μ₁ m₁ c₁.mode →
      rec (.opsS all l (putA τ o.dst v) ds H₁ m₁) = some out → wpOpsSIn Fence.wide 0 E.P all (SPost G μ H w a.tmps.size cs c₀ out) (List.range' (i + 1) l.length) (a.put o.dst v') (c₁ :: cs) w₁ := by
    intro v v' μ₁ H₁ w₁ c₁ m₁ hn hv hc hm₁ hrec
    have := hOpsS _ _ _ _ _ _ _ hrec μ₁ w₁ (a.put o.dst v') c₁ cs (i + 1) hn.rel (put_rel (ht.mono hn.le) hv hdst) (by rw [put_defers]; exact hd.mono hn.le) hrest (by rw [put_size]; exact hin') hm₁
    rw [put_size] at this
    exact wpOpsSIn_mono (fun e a' cs' w' hh => hh.step hn hc) this
  unfold opsSStep at h
  split at h
  · rename_i hwa
    rw [wanted_ok ht hwa]
    simp only [if_true]
    cases hr : isRecover o.op with
    | true =>
      rw [hr] at h
      simp only [cond_true] at h
      rw [run_recover hr]
      simp only
      unfold recoverStep at h
      split at h
      · rename_i v older
        obtain ⟨v', u, hrec, hv, hm'⟩ := recoverD_some (cs := cs) hm
        rw [hrec]
        exact go v v' μ H w { c₀ with mode := u } _ (Nxt.refl hw) hv (fun _ => rfl) hm' h
      · rename_i hne
        rw [recoverD_none (cs := cs) hm (fun v older e => hne v older e)]
        exact go .nilIface .nilIface μ H w c₀ m (Nxt.refl hw) .nilIface (fun _ => rfl) hm h
    | false =>
      rw [hr] at h
      simp only [cond_false] at h
      have hok := opA_ok hT.toEnvOk hw (fun x => aeval_rel hT.globals hw ht x) o (ρ' := a.eval)
      generalize opA E (aeval E τ) o.op H = r at h hok
      unfold opsSNext at h
      cases r with
      | val v H₁ =>
        obtain ⟨v', w₁, μ₁, hrun, hn, hv⟩ := hok
        rw [hrun]
        exact go v v' μ₁ H₁ w₁ c₀ m hn hv (fun _ => rfl) (hm.mono hn.le) h
      | skip H₁ =>
        obtain ⟨w₁, μ₁, hrun, hn⟩ := hok
        rw [hrun]
        exact go aundef undef μ₁ H₁ w₁ c₀ m hn (.top _) (fun _ => rfl) (hm.mono hn.le) h
      | pan v =>
        cases h
        obtain ⟨v', hrun, hv⟩ := hok
        rw [hrun]
        exact ⟨μ, c₀.mode, rfl, Nxt.refl hw, .pan (.cons hv rfl rfl .nil), ht, hd, rfl, hm⟩
      | _ => cases h
  · rename_i hwa
    rw [wanted_ok ht hwa]
    simp only [Bool.false_eq_true, if_false]
    exact go aund undef μ H w c₀ m (Nxt.refl hw) .undef (fun _ => rfl) hm h
  · cases h

/-! ### rounds -/

theorem loop_of_get {μ : Map} {H : AHeap} {w : World} (hw : WRel G μ H w) {l c n : Nat} {r : ALoop} (hg : H.get l = some (.loop r)) (hm : μ l = some (c, n)) : ∃ L, w.heap[c]? = some (.loop L) ∧ LRel G.I μ r L := by
  obtain ⟨_, c', n', o', hm', hc, ho, _⟩ := hw.live _ _ hg
  rw [hm] at hm'
  cases hm'
  cases ho with
  | loop _ _ L h => exact ⟨L, hc, h⟩

theorem _root_.Go.Ab.LRel.set {I : Interp} {μ : Map} {r : ALoop} {L : Loop} (h : LRel I μ r L) (st : LoopState) (p : Option Code) (hp : ∀ c n, p = some c → codeIn n c = true) : LRel I μ { r with state := st, pending := p } { L with state := st, pending := p } :=
  { state := rfl, pending := rfl, pendingIn := hp, tmps := h.tmps, params := h.params, paramsIn := h.paramsIn, assign := h.assign, body := h.body, assignIn := h.assignIn, bodyIn := h.bodyIn, defers := h.defers }

theorem _root_.Go.Ab.LRel.setState {I : Interp} {μ : Map} {r : ALoop} {L : Loop} (h : LRel I μ r L) (st : LoopState) : LRel I μ { r with state := st } { L with state := st } :=
  { state := rfl, pending := h.pending, pendingIn := h.pendingIn, tmps := h.tmps, params := h.params, paramsIn := h.paramsIn, assign := h.assign, body := h.body, assignIn := h.assignIn, bodyIn := h.bodyIn, defers := h.defers }

theorem run_getLoop {P : Program} {w : World} {c : Nat} {L : Loop} (h : w.heap[c]? = some (.loop L)) : (Instr.getLoop c).run P w = .ok L w := by
  have h1 : (getObj c).run P w = .ok (.loop L) w := by simp only [getObj, Sem.run, h]
  unfold Instr.getLoop
  simp only [Sem.run_bind, h1, Result.andThen_ok, Sem.run_pure]

theorem run_setLoop {P : Program} {w : World} {c : Nat} {L : Loop} (h : w.heap[c]? = some (.loop L)) (o : Obj) : (setObj c o).run P w = .ok () { w with heap := w.heap.setIfInBounds c o } := by
  simp only [setObj, Sem.run, h]

theorem foldl_set_size (l : List (Tmp × Value)) : ∀ t : Array Value, (l.foldl (fun tmps x => tmps.setIfInBounds x.1 x.2) t).size = t.size := by
  induction l with
  | nil => intro t; rfl
  | cons x l ih => intro t; simp only [List.foldl_cons, ih, Array.size_setIfInBounds]

theorem setAll_rel {μ : Map} : ∀ {ps : List Tmp} {args : List AVal} {args' : List Value} {τ : Tr AVal} {t : Array Value}, VsRel G.I μ args args' → TRel G.I μ τ t → tmpsIn t.size ps = true →
    TRel G.I μ (setAll ps args τ) ((ps.zip args').foldl (fun tmps x => tmps.setIfInBounds x.1 x.2) t) := by
  intro ps
  induction ps with
  | nil => intro args args' τ t _ ht _; cases args <;> exact ht
  | cons p ps ih =>
    intro args args' τ t ha ht hin
    cases ha with
    | nil => exact ht
    | cons hx hs =>
      simp only [tmpsIn, Bool.and_eq_true] at hin
      simp only [setAll, List.zip_cons_cons, List.foldl_cons]
      refine ih hs ?_ (by rw [Array.size_setIfInBounds]; exact hin.2)
      have := put_rel (a := { tmps := t, defers := [] }) (dst := some p) ht hx (fun d e => by cases e; exact Nat.le_of_ble_eq_true hin.1)
      exact this

theorem roundFin_sound {i : Nat} {jump : Option Code} {H : AHeap} {out : Out} (h : roundFin i jump H = some out) {μ : Map} {w : World} {c k : Nat} (hw : WRel G μ H w) (hm : μ i = some (c, k)) (hj : ∀ x n, jump = some x → codeIn n x = true) (P : Program) :
    ∃ v w', (Instr.endRound c jump).run P w = .ok v w' ∧ CallPost G μ H w out (.returned v) w' := by
  unfold roundFin at h
  split at h
  · rename_i r hg
    obtain ⟨L, hc, hL⟩ := loop_of_get hw hg hm
    have hrun : (Instr.endRound c jump).run P w = .ok (.bool jump.isNone) { w with heap := w.heap.setIfInBounds c (.loop { L with state := if jump.isNone then .ready else .done, pending := jump }) } := by
      unfold Instr.endRound
      simp only [Sem.run_bind, run_getLoop hc, Result.andThen_ok, run_setLoop hc, Sem.run_pure]
    have hn : ∀ st, Nxt G μ H w μ (H.put i (.loop { r with state := st, pending := jump })) { w with heap := w.heap.setIfInBounds c (.loop { L with state := st, pending := jump }) } := fun st =>
      Nxt.put hw hg rfl hm (.loop _ _ _ (hL.set st jump fun x n e => hj x n e)) rfl rfl rfl
    cases jump with
    | none => cases h; exact ⟨_, _, hrun, μ, hn .ready, .bool _⟩
    | some x => cases h; exact ⟨_, _, hrun, μ, hn .done, .bool _⟩
  · cases h

theorem roundStep_sound (hCode : ∀ ro c τ ds H o, rec (.code ro c τ ds H) = some o → CodeSound E G n ro c τ ds H o) {i : Nat} {args : List AVal} {H : AHeap} {out : Out} (h : roundStep rec i args H = some out) : RoundSound E G i args H out := by
  intro μ w args' c k hw hm hargs
  unfold roundStep at h
  split at h
  · rename_i r hg
    obtain ⟨L, hc, hL⟩ := loop_of_get hw hg hm
    cases hb : Nat.beq (lenL args) (lenL r.params) with
    | false => rw [hb] at h; cases h
    | true =>
      rw [hb] at h
      simp only [cond_true] at h
      have hlen := Nat.eq_of_beq_eq_true hb
      rw [lenL_eq, lenL_eq, hargs.length, ← hL.params] at hlen
      simp only [Array.length_toList] at hlen
      let t' := (L.params.zip args').foldl (fun tmps (t, a) => tmps.setIfInBounds t a) L.tmps
      have ht' : t' = (L.params.toList.zip args'.toList).foldl (fun tmps x => tmps.setIfInBounds x.1 x.2) L.tmps := by
        show (L.params.zip args').foldl _ _ = _
        rw [← Array.foldl_toList, Array.toList_zip]
      have hsz : t'.size = L.tmps.size := by rw [ht']; exact foldl_set_size _ _
      refine ⟨L.fn, t', L.assign, L.body, ?_, roundIn_of_wpIn trivial ?_⟩
      · unfold Instr.yield
        simp only [Sem.run_bind, run_getLoop hc, Result.andThen_ok, hlen, ne_eq, not_true_eq_false, if_false, Sem.run_pure]
        rfl
      · unfold roundAssigned at h
        split at h
        · rename_i τ₁ ds₁ H₁ hr
          rw [hL.assign]
          have hin : codeIn t'.size r.assign = true := by rw [hsz]; exact hL.assignIn
          have ht : TRel G.I μ (setAll r.params args r.tmps) t' := by
            rw [ht', ← hL.params]
            refine setAll_rel hargs hL.tmps ?_
            rw [hL.params]; exact hL.paramsIn
          have := (hCode _ _ _ _ _ _ hr μ w { tmps := t', defers := [] } (some c) hw (.some hm) ht .nil hin).wp
          refine wpIn_mono this fun e a' w' hp => ?_
          obtain ⟨x, τ, ds, H', μ', he, hn, hx, ht, hd, hs⟩ := stPost_st hp
          cases he
          cases hx
          split at h
          · rename_i r₁ hg₁
            have hm₁ := hn.le _ _ hm
            obtain ⟨L₁, hc₁, hL₁⟩ := loop_of_get hn.rel hg₁ hm₁
            unfold roundBody at h
            split at h
            · rename_i hst
              have hn₂ : Nxt G μ' H₁ w' μ' (H₁.put i (.loop { r₁ with state := .busy })) { w' with heap := w'.heap.setIfInBounds c (.loop { L₁ with state := .busy }) } :=
                Nxt.put hn.rel hg₁ rfl hm₁ (.loop _ _ _ (hL₁.setState .busy)) rfl rfl rfl
              refine ⟨{ w' with heap := w'.heap.setIfInBounds c (.loop { L₁ with state := .busy }) }, ?_, ?_⟩
              · unfold Instr.beginRound
                have hs₁ : L₁.state = .ready := by rw [hL₁.state, hst]
                simp only [Sem.run_bind, run_getLoop hc₁, Result.andThen_ok, run_setLoop hc₁, hs₁, Sem.run_pure]
              · cases hr₂ : rec (.code (some i) r.body τ₁ ds₁ (H₁.put i (.loop { r₁ with state := .busy }))) with
                | none => rw [hr₂] at h; cases h
                | some o₂ =>
                  rw [hr₂] at h
                  have hin₂ : codeIn a'.tmps.size r.body = true := by rw [hs]; show codeIn t'.size _ = true; rw [hsz]; exact hL.bodyIn
                  rw [hL.body]
                  have := (hCode _ _ _ _ _ _ hr₂ μ' _ a' (some c) hn₂.rel (.some hm₁) ht hd hin₂).wp
                  refine wpIn_mono this fun e a'' w'' hp => ?_
                  obtain ⟨x, τ₃, ds₃, H₃, μ₃, rfl, hn₃, hx₃, _, _, _⟩ := stPost_st hp
                  have hm₃ := hn₃.le _ _ hm₁
                  cases hx₃ with
                  | normal =>
                    obtain ⟨v, w₄, h1, h2⟩ := roundFin_sound (jump := none) h hn₃.rel hm₃ (fun _ _ e => by cases e) E.P
                    exact ⟨v, w₄, h1, (h2.step hn₃).step hn₂ |>.step hn⟩
                  | ret =>
                    obtain ⟨v, w₄, h1, h2⟩ := roundFin_sound (jump := some .ret) h hn₃.rel hm₃ (fun _ _ e => by cases e; rfl) E.P
                    exact ⟨v, w₄, h1, (h2.step hn₃).step hn₂ |>.step hn⟩
                  | exit id =>
                    obtain ⟨v, w₄, h1, h2⟩ := roundFin_sound (jump := some (.exit id)) h hn₃.rel hm₃ (fun _ _ e => by cases e; rfl) E.P
                    exact ⟨v, w₄, h1, (h2.step hn₃).step hn₂ |>.step hn⟩
                  | pan hc => cases h
            · cases h
          · cases h
        · cases h
  · cases h
/-! ### ranges over functions -/

theorem enterLoop_none {P : Program} {fn : Nat} {t : Array Value} {ps : Array Tmp} {x y : Code} {w : World} :
    (Instr.enterLoop fn t ps x y none).run P w = .ok (w.heap.size + 1, [{ target := .collected w.heap.size, args := #[] }])
      { w with heap := (w.heap.push (.deferred (some []))).push (.loop { state := .ready, pending := none, fn := fn, tmps := t, params := ps, assign := x, body := y, defers := w.heap.size }) } := by
  unfold Instr.enterLoop
  simp only [Sem.run_bind, run_newObj, Result.andThen_ok, Sem.run_pure, Array.size_push]

theorem enterLoop_some {P : Program} {fn : Nat} {t : Array Value} {ps : Array Tmp} {x y : Code} {w : World} {c : Nat} {L : Loop} (h : w.heap[c]? = some (.loop L)) :
    (Instr.enterLoop fn t ps x y (some c)).run P w = .ok (w.heap.size, []) { w with heap := w.heap.push (.loop { state := .ready, pending := none, fn := fn, tmps := t, params := ps, assign := x, body := y, defers := L.defers }) } := by
  unfold Instr.enterLoop
  simp only [Sem.run_bind, run_getLoop h, Result.andThen_ok, Sem.run_pure, run_newObj]

theorem endLoop_run {P : Program} {w : World} {c : Nat} {L : Loop} (h : w.heap[c]? = some (.loop L)) (hb : (L.state == .busy) = false) :
    (Instr.endLoop c).run P w = .ok L.pending { w with heap := w.heap.setIfInBounds c (.loop { L with state := .exhausted }) } := by
  unfold Instr.endLoop
  simp only [Sem.run_bind, run_getLoop h, Result.andThen_ok, hb, Bool.false_eq_true, if_false, run_setLoop h, Sem.run_pure]

theorem hasBody_run {f : Nat} (h : hasBody E f = true) (args : Array Value) (w : World) : (callFunc f args).run E.P w = .ok (.enter f args) w := by
  unfold hasBody at h
  split at h
  · rename_i fn hf
    split at h
    · rename_i c hb
      rw [negB_eq] at h
      exact run_callFunc_body hf hb (by simpa using h) args w
    · cases h
  · cases h

/-- behind the function that was ranged over -/
theorem rangeEnd_sound (hCode : ∀ ro c τ ds H o, rec (.code ro c τ ds H) = some o → CodeSound E G n ro c τ ds H o) {ro ro' : Option Nat} {l c k : Nat} {τ : Tr AVal} {ds : List ADef} {H : AHeap} {r : ALoop} {out : Out}
    (h : rangeEnd rec ro l τ ds H r = some out) {μ : Map} {w : World} {a : Act} (hw : WRel G μ H w) (hg : H.get l = some (.loop r)) (hm : μ l = some (c, k)) (hro : RoRel μ ro ro') (ht : TRel G.I μ τ a.tmps) (hd : DsRel G.I μ ds a.defers) {v : Value} : rangePost (fence ro') 0 E.P c (StPost G μ H w a.tmps.size out) a (.returned v) w := by
  obtain ⟨L, hc, hL⟩ := loop_of_get hw hg hm
  have hnb : (L.state == .busy) = false := by
    rw [hL.state]
    unfold rangeEnd at h
    cases hst : r.state with
    | busy => rw [hst] at h; cases h
    | _ => rfl
  have hn : Nxt G μ H w μ (H.put l (.loop { r with state := .exhausted })) { w with heap := w.heap.setIfInBounds c (.loop { L with state := .exhausted }) } :=
    Nxt.put hw hg rfl hm (.loop _ _ _ (hL.setState .exhausted)) rfl rfl rfl
  have h' : (match r.pending with
      | none => some (.st .normal τ ds (H.put l (.loop { r with state := .exhausted })))
      | some c => rec (.code ro c τ ds (H.put l (.loop { r with state := .exhausted })))) = some out := by
    unfold rangeEnd at h
    cases hst : r.state with
    | busy => rw [hst] at h; cases h
    | _ => rw [hst] at h; exact h
  have hend := endLoop_run (P := E.P) hc hnb
  have hLp := hL.pending
  generalize H.put l (.loop { r with state := .exhausted }) = K at h' hn
  generalize ({ w with heap := w.heap.setIfInBounds c (.loop { L with state := .exhausted }) } : World) = W at hend hn
  refine ⟨L.pending, W, hend, ?_⟩
  rw [hLp]
  cases hp : r.pending with
  | none =>
    rw [hp] at h'
    cases h'
    exact ⟨μ, hn, .normal, ht, hd, rfl⟩
  | some x =>
    rw [hp] at h'
    exact wpIn_mono (hCode _ _ _ _ _ _ h' μ _ a ro' hn.rel (hro.mono hn.le) ht hd (hL.pendingIn x _ hp)).wp fun _ _ _ hh => hh.step hn

/-- the function that is ranged over, from the record on -/
theorem rangeGo_sound (hCode : ∀ ro c τ ds H o, rec (.code ro c τ ds H) = some o → CodeSound E G n ro c τ ds H o) (hCall : ∀ f args H o, rec (.call f args H) = some o → CallSound E G f args H o)
    {ro ro' : Option Nat} {g : Nat} {captured : List AVal} {params : Array Tmp} {assign body : Code} {τ : Tr AVal} {ds : List ADef} {H : AHeap} {D cD kD : Nat} {out : Out}
    (h : rangeGo rec ro g captured params assign body τ ds H D = some out) (hbody : hasBody E g = true) {μ : Map} {w : World} {a : Act} (hw : WRel G μ H w) (hro : RoRel μ ro ro') (ht : TRel G.I μ τ a.tmps) (hd : DsRel G.I μ ds a.defers)
    (hD : μ D = some (cD, kD)) {captured' : Array Value} (hcap : VsRel G.I μ captured captured'.toList) (hin : (tmpsIn a.tmps.size params.toList && codeIn a.tmps.size assign && codeIn a.tmps.size body) = true) (fn : Nat) :
    CallsIn (fence ro') 0 E.P g (#[Value.func (.yield w.heap.size) #[] #[]] ++ captured') { w with heap := w.heap.push (.loop { state := .ready, pending := none, fn := fn, tmps := a.tmps, params := params, assign := assign, body := body, defers := cD }) }
      (rangePost (fence ro') 0 E.P w.heap.size (StPost G μ H w a.tmps.size out) a) := by
  simp only [Bool.and_eq_true] at hin
  have hle := Map.le_add hw (w.heap.size, 0)
  have hn : Nxt G μ H w (μ.add H.next (w.heap.size, 0)) (H.alloc (.loop ⟨.ready, none, τ, params.toList, assign, body, D⟩)) { w with heap := w.heap.push (.loop { state := .ready, pending := none, fn := fn, tmps := a.tmps, params := params, assign := assign, body := body, defers := cD }) } :=
    Nxt.alloc hw (.loop _ _ _ { state := rfl, pending := rfl, pendingIn := (fun _ _ e => by cases e), tmps := ht.mono hle, params := rfl, paramsIn := hin.1.1, assign := rfl, body := rfl, assignIn := hin.1.2, bodyIn := hin.2, defers := ⟨kD, hle _ _ hD⟩ }) rfl rfl rfl
  have hself := Map.add_self μ H.next (w.heap.size, 0)
  have hargs : VsRel G.I (μ.add H.next (w.heap.size, 0)) (AVal.func (.yield H.next) [] [] :: captured) (#[Value.func (.yield w.heap.size) #[] #[]] ++ captured').toList := by
    rw [Array.toList_append]
    exact .cons (.func _ _ _ _ _ _ (.yield hself) .nil .nil) (hcap.mono hle)
  unfold rangeGo at h
  split at h
  · rename_i v H3 hr
    split at h
    · rename_i r hg
      rcases hCall _ _ _ _ hr _ _ _ hn.rel hargs with ⟨v', w', hcr, _⟩ | ⟨_, hcalls⟩
      · rw [hasBody_run hbody] at hcr
        cases hcr
      · refine CallsIn.mono (callsIn_fence hcalls) fun e w' hp => ?_
        cases e with
        | returned v' =>
          obtain ⟨μ', hn', _⟩ := hp
          have hm := hn'.le _ _ hself
          have hpost := rangeEnd_sound hCode h hn'.rel hg hm ((hro.mono hle).mono hn'.le) ((ht.mono hle).mono hn'.le) ((hd.mono hle).mono hn'.le) (a := a) (v := v')
          obtain ⟨j, w4, h1, h2⟩ := hpost
          refine ⟨j, w4, h1, ?_⟩
          cases j with
          | none => exact (StPost.step hn' h2).step hn
          | some x => exact wpIn_mono h2 fun _ _ _ hh => (StPost.step hn' hh).step hn
        | panicked es => exact hp.elim
        | outgrown => exact hp.elim
    · cases h
  · rename_i ch H3 hr
    cases h
    rcases hCall _ _ _ _ hr _ _ _ hn.rel hargs with ⟨v', w', hcr, _⟩ | ⟨_, hcalls⟩
    · rw [hasBody_run hbody] at hcr
      cases hcr
    · refine CallsIn.mono (callsIn_fence hcalls) fun e w' hp => ?_
      cases e with
      | returned v' => exact hp.elim
      | panicked es =>
        obtain ⟨μ', hn', hch⟩ := hp
        exact ⟨μ', hn.trans hn', .pan hch, (ht.mono hle).mono hn'.le, (hd.mono hle).mono hn'.le, rfl⟩
      | outgrown => exact hp.elim
  · cases h

theorem resolve_range {P : Program} {a : Act} {f : Operand} {g l : Nat} {a' b' : Array Value} (hf : a.eval f = .func (.func g) a' b') (w : World) :
    (resolve a.eval (rangeCall f l) 0).run P w = .ok { target := .fn (.func g) b', args := a' ++ #[Value.func (.yield l) #[] #[]] } w := by
  unfold resolve rangeCall
  have hc : a.eval (.const (.func (.yield l) #[] #[])) = .func (.yield l) #[] #[] := rfl
  simp only [hf, Deferred.ofValue, Sem.run_pure, List.map_toArray, List.map_cons, List.map_nil, hc]

theorem rangeStep_sound (hT : Told E G) (hCode : ∀ ro c τ ds H o, rec (.code ro c τ ds H) = some o → CodeSound E G n ro c τ ds H o) (hCall : ∀ f args H o, rec (.call f args H) = some o → CallSound E G f args H o)
    {ro : Option Nat} {f : Operand} {params : Array Tmp} {assign body : Code} {τ : Tr AVal} {ds : List ADef} {H : AHeap} {out : Out}
    (h : rangeStep E rec ro (aeval E τ f) params assign body τ ds H = some out) : CodeSound E G (n + 1) ro (.rangeFunc f params assign body) τ ds H out := by
  intro μ w a ro' hw hro ht hd hin
  refine CodeOk.of_wp (fun _ e => by cases e) ?_
  have hv := aeval_rel (E := E) hT.globals hw ht f
  unfold rangeStep at h
  split at h
  · rename_i g captured he
    rw [he] at hv
    generalize hac : a.eval f = fv at hv
    cases hv with
    | func _ fn' _ _ a' b' hfn ha hb =>
    cases hfn
    have ha0 : a' = #[] := by
      apply Array.ext'
      exact List.eq_nil_of_length_eq_zero ha.length.symm
    subst ha0
    cases hbody : hasBody E g with
    | false => rw [hbody] at h; cases h
    | true =>
      rw [hbody] at h
      simp only [cond_true] at h
      refine wpIn_rangeFunc fun fn _ => ?_
      cases hro with
      | none =>
        simp only at h
        have hn : Nxt G μ H w (μ.add H.next (w.heap.size, 0)) (H.alloc (.deferred false)) { w with heap := w.heap.push (.deferred (some [])) } := Nxt.alloc hw (.deferred false 0) rfl rfl rfl
        have hself := Map.add_self μ H.next (w.heap.size, 0)
        have hsz : (w.heap.push (Obj.deferred (some []))).size = w.heap.size + 1 := Array.size_push _
        have hgo := rangeGo_sound hCode hCall h hbody (a := { a with defers := { target := .collected w.heap.size, args := #[] } :: a.defers }) hn.rel .none (ht.mono hn.le) (.cons (.collected _ _ _ hself) (hd.mono hn.le)) hself (hb.mono hn.le) hin fn
        simp only [hsz] at hgo
        refine ⟨_, _, _, _, _, g, _, _, enterLoop_none, resolve_range hac _, fun _ _ => trivial, hasBody_run hbody _ _, fun e => (by cases e), ?_⟩
        simp only [Array.empty_append]
        refine CallsIn.mono hgo fun e w' hp => ?_
        cases e with
        | returned v' =>
          obtain ⟨j, w4, h1, h2⟩ := hp
          refine ⟨j, w4, h1, ?_⟩
          cases j with
          | none => exact h2.step hn
          | some x => exact wpIn_mono h2 fun _ _ _ hh => hh.step hn
        | panicked es => exact StPost.step hn hp
        | outgrown => obtain ⟨a0, w0, h0⟩ := hp; exact ⟨a0, w0, h0.step hn⟩
      | some hl =>
        rename_i l c k
        simp only at h
        split at h
        · rename_i r hg
          obtain ⟨L, hc, hL⟩ := loop_of_get hw hg hl
          obtain ⟨kD, hD⟩ := hL.defers
          have hgo := rangeGo_sound hCode hCall h hbody hw (.some hl) ht hd hD hb hin fn
          refine ⟨_, _, _, _, _, g, _, _, enterLoop_some hc, resolve_range hac _, fun _ _ => trivial, hasBody_run hbody _ _, fun e => (by cases e), ?_⟩
          simp only [Array.empty_append]
          exact hgo
        · cases h
  · cases h

end

end Go.Ab
/- What the evaluator's answers say of the model's runs: everything together; the regions whose order is open come as a hypothesis. -/
namespace Go.Ab

variable {E : Env} {G : Ground}

section
variable {rec : Task → Option Out} {n : Nat}

theorem region_sound (hOps : ∀ ro all l τ ds H o, rec (.ops ro all l τ ds H) = some o → OpsSound E G ro all l τ ds H o) {ro : Option Nat} {id : Nat} {ops : Array Oper} {τ : Tr AVal} {ds : List ADef} {H : AHeap} {out : Out}
    (h : rec (.ops ro ops ops.toList τ ds H) = some out) : CodeSound E G (n + 1) ro (.region id ops false) τ ds H out := by
  intro μ w a ro' hw hro ht hd hin
  refine CodeOk.of_wp (fun _ e => by cases e) (wpIn_region ?_)
  have := hOps _ _ _ _ _ _ _ h μ w a ro' 0 hw hro ht hd rfl hin
  rw [List.range_eq_range']
  simpa using this

theorem seq_sound (hCode : ∀ ro c τ ds H o, rec (.code ro c τ ds H) = some o → CodeSound E G n ro c τ ds H o) {ro : Option Nat} {x y : Code} {τ : Tr AVal} {ds : List ADef} {H : AHeap} {out : Out}
    (h : seqStep rec ro y (rec (.code ro x τ ds H)) = some out) : CodeSound E G (n + 1) ro (.seq x y) τ ds H out := by
  intro μ w a ro' hw hro ht hd hin
  simp only [codeIn, Bool.and_eq_true] at hin
  refine CodeOk.of_wp (fun _ e => by cases e) (wpIn_seq ?_)
  cases hr : rec (.code ro x τ ds H) with
  | none => rw [hr] at h; cases h
  | some o₁ =>
    rw [hr] at h
    refine wpIn_mono (hCode _ _ _ _ _ _ hr μ w a ro' hw hro ht hd hin.1).wp fun e a' w' hp => ?_
    have := seqStep_sound hCode h hro hin.2 hp
    cases e with
    | normal => exact CodeOk.wp this
    | _ => exact this

theorem loop_sound (hCode : ∀ ro c τ ds H o, rec (.code ro c τ ds H) = some o → CodeSound E G n ro c τ ds H o) {ro : Option Nat} {x : Code} {τ : Tr AVal} {ds : List ADef} {H : AHeap} {out : Out}
    (h : seqStep rec ro (.loop x) (rec (.code ro x τ ds H)) = some out) : CodeSound E G (n + 1) ro (.loop x) τ ds H out := by
  intro μ w a ro' hw hro ht hd hin
  show Code.roundsIn _ _ _ _ _ (n + 1) _ _
  cases hr : rec (.code ro x τ ds H) with
  | none => rw [hr] at h; cases h
  | some o₁ =>
    rw [hr] at h
    refine wpIn_mono (hCode _ _ _ _ _ _ hr μ w a ro' hw hro ht hd hin).wp fun e a' w' hp => ?_
    have := seqStep_sound hCode h hro (sz := a.tmps.size) hin hp
    cases e with
    | normal => exact this
    | _ => exact this

theorem scope_sound (hCode : ∀ ro c τ ds H o, rec (.code ro c τ ds H) = some o → CodeSound E G n ro c τ ds H o) {ro : Option Nat} {x : Code} {τ : Tr AVal} {ds : List ADef} {H : AHeap} {out : Out}
    (h : rec (.code ro x τ ds H) = some out) : CodeSound E G (n + 1) ro (.scope x) τ ds H out := by
  intro μ w a ro' hw hro ht hd hin
  refine CodeOk.of_wp (fun _ e => by cases e) (wpIn_scope ?_)
  refine wpIn_mono (hCode _ _ _ _ _ _ h μ w a ro' hw hro ht hd hin).wp fun e a' w' hp => ?_
  cases e with
  | goto l => obtain ⟨x, τ, ds, H', μ', rfl, hn, hx, _⟩ := stPost_st hp; cases hx
  | _ => exact hp

/-- what is said of a region whose order is open -/
def DrawSound (E : Env) (G : Ground) (ro : Option Nat) (ops : Array Oper) (τ : Tr AVal) (ds : List ADef) (H : AHeap) (out : Out) : Prop :=
  ∀ n id, CodeSound E G (n + 1) ro (.region id ops true) τ ds H out

theorem codeStep_sound (hT : Told E G) (hCode : ∀ ro c τ ds H o, rec (.code ro c τ ds H) = some o → CodeSound E G n ro c τ ds H o) (hOps : ∀ ro all l τ ds H o, rec (.ops ro all l τ ds H) = some o → OpsSound E G ro all l τ ds H o)
    (hCall : ∀ f args H o, rec (.call f args H) = some o → CallSound E G f args H o) (hDraw : ∀ ro ops τ ds H o, regionDraw rec ro ops τ ds H (slots E ops) = some o → DrawSound E G ro ops τ ds H o)
    {ro : Option Nat} {c : Code} {τ : Tr AVal} {ds : List ADef} {H : AHeap} {out : Out} (h : codeStep E rec ro c τ ds H = some out) : CodeSound E G (n + 1) ro c τ ds H out := by
  cases c with
  | skip => cases h; exact fun μ w a ro' hw hro ht hd hin => CodeOk.of_wp (fun _ e => by cases e) (wpIn_skip ⟨μ, Nxt.refl hw, .normal, ht, hd, rfl⟩)
  | label l => cases h; exact fun μ w a ro' hw hro ht hd hin => CodeOk.of_wp (fun _ e => by cases e) (wpIn_label ⟨μ, Nxt.refl hw, .normal, ht, hd, rfl⟩)
  | region id ops d => cases d with
    | false => exact region_sound hOps h
    | true => exact hDraw _ _ _ _ _ _ h n id
  | seq x y => exact seq_sound hCode h
  | cond c x y => exact condStep_sound hT hCode h
  | block id b => exact blockStep_sound hCode h
  | loop b => exact loop_sound hCode h
  | exit id => cases h; exact fun μ w a ro' hw hro ht hd hin => CodeOk.of_wp (fun _ e => by cases e) (wpIn_exit ⟨μ, Nxt.refl hw, .exit id, ht, hd, rfl⟩)
  | scope b => exact scope_sound hCode h
  | ret => cases h; exact fun μ w a ro' hw hro ht hd hin => CodeOk.of_wp (fun _ e => by cases e) (wpIn_ret ⟨μ, Nxt.refl hw, .ret, ht, hd, rfl⟩)
  | rangeFunc f ps x y => exact rangeStep_sound hT hCode hCall h
  | _ => cases h

theorem codeSStep_sound (hT : Told E G) (hCode : ∀ ro c τ ds H o, rec (.code ro c τ ds H) = some o → CodeSound E G n ro c τ ds H o) (hCodeS : ∀ c τ ds H m o, rec (.codeS c τ ds H m) = some o → CodeSSound E G c τ ds H m o)
    (hOpsS : ∀ all l τ ds H m o, rec (.opsS all l τ ds H m) = some o → OpsSSound E G all l τ ds H m o) {c : Code} {τ : Tr AVal} {ds : List ADef} {H : AHeap} {m : Option Chain} {out : Out} (h : codeSStep E rec c τ ds H m = some out) :
    CodeSSound E G c τ ds H m out := by
  unfold codeSStep at h
  split at h
  · rename_i id ops
    cases hr : ops.toList.any (fun o => isRecover o.op) with
    | true =>
      rw [hr] at h
      intro μ w a c₀ cs hw ht hd hin hm
      refine wpSIn_region ?_
      have := hOpsS _ _ _ _ _ _ _ h μ w a c₀ cs 0 hw ht hd rfl hin hm
      rw [List.range_eq_range']
      simpa using this
    | false =>
      rw [hr] at h
      exact plainS_sound hCode h
  · exact seqSStep_sound hCodeS h
  · exact condSStep_sound hT hCodeS h
  · exact plainS_sound hCode h

end

end Go.Ab
/- Regions whose order is open, 1: of what an operation's answer hangs. -/
namespace Go.Ab

variable {E : Env} {G : Ground}

theorem mapL_congr {ρ ρ₂ : Operand → AVal} {l : List Operand} (h : ∀ x ∈ l, ρ x = ρ₂ x) : mapL ρ l = mapL ρ₂ l := by
  rw [mapL_eq, mapL_eq]
  exact List.map_congr_left h

theorem partsA_congr {ρ ρ₂ : Operand → AVal} {ps : Array (Nat × Operand)} (h : ∀ p ∈ ps.toList, ρ p.2 = ρ₂ p.2) : partsA ρ ps = partsA ρ₂ ps := by
  unfold partsA
  rw [mapL_eq, mapL_eq]
  exact List.map_congr_left fun p hp => by rw [h p hp]

theorem oval_congr {ρ ρ₂ : Operand → AVal} {x : Option Operand} (h : ∀ y, x = some y → ρ y = ρ₂ y) : oval ρ x = oval ρ₂ x := by
  cases x with
  | none => rfl
  | some y => simp only [oval, h y rfl]

theorem opA_congr {ρ ρ₂ : Operand → AVal} {op : Op} (h : ∀ x ∈ op.operands, ρ x = ρ₂ x) (H : AHeap) : opA E ρ op H = opA E ρ₂ op H := by
  cases op with
  | call c =>
    obtain ⟨callee, args, ats⟩ := c
    cases callee with
    | builtin b =>
      simp only [opA, callA]
      rw [mapL_congr fun x hx => h x (by simpa [Op.operands, Call.operands] using hx)]
    | invoke r name =>
      simp only [opA, callA]
      rw [mapL_congr fun x hx => h x (by simp [Op.operands, Call.operands]; exact .inr (by simpa using hx)), h r (by simp [Op.operands, Call.operands])]
    | value f =>
      simp only [opA, callA]
      rw [mapL_congr fun x hx => h x (by simp [Op.operands, Call.operands]; exact .inr (by simpa using hx)), h f (by simp [Op.operands, Call.operands])]
  | defer c =>
    obtain ⟨callee, args, ats⟩ := c
    cases callee with
    | builtin b => rfl
    | invoke r name => rfl
    | value f =>
      simp only [opA, deferA]
      rw [mapL_congr fun x hx => h x (by simp [Op.operands, Call.operands]; exact .inr (by simpa using hx)), h f (by simp [Op.operands, Call.operands])]
  | build t ps =>
    simp only [opA]
    rw [partsA_congr fun p hp => h p.2 (by simp [Op.operands]; exact ⟨p.1, by simpa using hp⟩)]
  | buildSlice t n ps =>
    simp only [opA]
    rw [partsA_congr fun p hp => h p.2 (by simp [Op.operands]; exact ⟨p.1, by simpa using hp⟩)]
  | makeFunc fn a b =>
    cases fn <;> try rfl
    simp only [opA]
    rw [mapL_congr fun x hx => h x (by simp [Op.operands]; exact .inl (by simpa using hx)), mapL_congr fun x hx => h x (by simp [Op.operands]; exact .inr (by simpa using hx))]
  | slice t x lo hi mx =>
    simp only [opA]
    rw [h x (by simp [Op.operands]), oval_congr (x := lo) fun y e => h y (by simp [Op.operands, e]), oval_congr (x := hi) fun y e => h y (by simp [Op.operands, e]), oval_congr (x := mx) fun y e => h y (by simp [Op.operands, e])]
  | makeMap t r => cases r <;> rfl
  | next x b => cases b with
    | false => simp only [opA]; rw [h x (by simp [Op.operands])]
    | true => rfl
  | ready g => rfl
  | waits g => rfl
  | _ => first | rfl | (simp only [opA]; simp [Op.operands] at h; simp only [h])

theorem newOf_congr {ρ ρ₂ : Operand → AVal} {op : Op} (h : ∀ x ∈ op.operands, ρ x = ρ₂ x) : newOf E ρ op = newOf E ρ₂ op := by
  cases op with
  | buildSlice t n ps =>
    simp only [newOf]
    rw [partsA_congr fun p hp => h p.2 (by simp [Op.operands]; exact ⟨p.1, by simpa using hp⟩)]
  | makeMap t r => cases r <;> rfl
  | _ => first | rfl | (simp only [newOf]; simp [Op.operands] at h; simp only [h])

theorem ofV_some {H H1 : AHeap} {r : Option AVal} {v : AVal} (h : Op1.ofV H r = .val v H1) : r = some v ∧ H1 = H := by
  cases r with
  | none => cases h
  | some x => cases h; exact ⟨rfl, rfl⟩

/-- a pure operation's answer hangs on no memory -/
theorem pure_indep {ρ : Operand → AVal} {op : Op} {H H1 : AHeap} {v : AVal} (hk : kindOf E op = .pure) (h : opA E ρ op H = .val v H1) (K : AHeap) : opA E ρ op K = .val v K := by
  cases op with
  | move x => cases h; rfl
  | assign x => cases h; rfl
  | pick c a b => obtain ⟨e, _⟩ := ofV_some h; simp only [opA, e]; rfl
  | build t ps => obtain ⟨e, _⟩ := ofV_some h; simp only [opA, e]; rfl
  | nilCheck x => obtain ⟨e, _⟩ := ofV_some h; simp only [opA, e]; rfl
  | binOp o t x y yt => obtain ⟨e, _⟩ := ofV_some h; simp only [opA, e]; rfl
  | unOp o t x => obtain ⟨e, _⟩ := ofV_some h; simp only [opA, e]; rfl
  | makeInterface t x => obtain ⟨e, _⟩ := ofV_some h; simp only [opA, e]; rfl
  | makeFunc fn a b => cases fn with
    | func f => cases h; rfl
    | _ => cases h
  | fieldAddr t x f => obtain ⟨e, _⟩ := ofV_some h; simp only [opA, e]; rfl
  | field t x f => obtain ⟨e, _⟩ := ofV_some h; simp only [opA, e]; rfl
  | indexAddr t x i => obtain ⟨e, _⟩ := ofV_some h; simp only [opA, e]; rfl
  | index t x i => obtain ⟨e, _⟩ := ofV_some h; simp only [opA, e]; rfl
  | typeAssert x xt t ok => obtain ⟨e, _⟩ := ofV_some h; simp only [opA, e]; rfl
  | extract x i => obtain ⟨e, _⟩ := ofV_some h; simp only [opA, e]; rfl
  | slice t x lo hi mx =>
    obtain ⟨e, _⟩ := ofV_some h
    have : sliceA E t (ρ x) (oval ρ lo) (oval ρ hi) (oval ρ mx) K = some v := by
      rw [← e]
      unfold sliceA
      split <;> try rfl
      rename_i b o
      cases hu : under E t with
      | none => rfl
      | some d =>
        cases d <;> try rfl
        simp only [kindOf, hu, kindSlice] at hk
        cases hk
    simp only [opA, this]; rfl
  | convert s d x =>
    simp only [kindOf, kindConv] at hk
    split at hk
    · rename_i k1 k2 hs hd
      simp only [opA, convA, hs, hd] at h ⊢
      split at h
      · cases h; rfl
      · cases h
    · cases hk
  | call c =>
    obtain ⟨callee, args, ats⟩ := c
    cases callee with
    | builtin b =>
      simp only [kindOf] at hk
      simp only [opA, callA] at h ⊢
      cases b <;> simp only [kindBuiltin] at hk <;> try (cases hk; done)
      case cap =>
        simp only [builtinA, builtinN] at h ⊢
        split at h
        · obtain ⟨e, _⟩ := ofV_some h; simp only [builtin1, e]; rfl
        · cases h
        · cases h
      case unsafeSliceData =>
        simp only [builtinA, builtinN] at h ⊢
        split at h
        · obtain ⟨e, _⟩ := ofV_some h; simp only [builtin1, e]; rfl
        · cases h
        · cases h
      case max =>
        simp only [builtinA] at h ⊢
        split at h
        · obtain ⟨e, _⟩ := ofV_some h; simp only [e]; rfl
        · cases h
      case min =>
        simp only [builtinA] at h ⊢
        split at h
        · obtain ⟨e, _⟩ := ofV_some h; simp only [e]; rfl
        · cases h
      case len =>
        simp only [builtinA, builtinN] at h ⊢
        split at h
        · rename_i t l y hl _
          have hget : ats.getD 0 0 = t := by
            rw [Array.getD_eq_getD_getElem?, ← Array.getElem?_toList, hl]; rfl
          rw [hget] at hk
          obtain ⟨e, _⟩ := ofV_some h
          have : lenA E t y K = some v := by
            rw [← e]
            unfold lenA
            cases hu : under E t with
            | none => rfl
            | some d =>
              cases d <;> try rfl
              rw [hu] at hk
              cases hk
          simp only [builtin1, this]; rfl
        · cases h
        · cases h
    | invoke r name => cases hk
    | value f => cases hk
  | _ => cases hk

/-- a reading operation's answer in another memory in which what it reads lies as it lay -/
theorem read_local {μ : Map} {ρ : Operand → AVal} {ρ' : Operand → Value} (hρ : ∀ x, VRel G.I μ (ρ x) (ρ' x)) {op : Op} {H H1 K : AHeap} {v : AVal} (hk : kindOf E op = .read) (h : opA E ρ op H = .val v H1)
    (hK : ∀ b o, H.get b = some o → (∃ x, μ b = some x) → K.get b = some o) : opA E ρ op K = .val v K := by
  cases op with
  | load t a =>
    simp only [opA, loadOp] at h ⊢
    split at h
    · rename_i b o e
      have hm : ∃ x, μ b = some x := by
        have := hρ a
        rw [e] at this
        generalize ρ' a = y at this
        cases this with
        | ptr _ _ c n hm => exact ⟨_, hm⟩
      obtain ⟨e1, _⟩ := ofV_some h
      have : loadA E t K b o = some v := by
        rw [← e1]
        unfold loadA AHeap.row AHeap.cell
        cases hg : H.get b with
        | none =>
          unfold loadA AHeap.row AHeap.cell at e1
          rw [hg] at e1
          split at e1
          · split at e1
            · cases e1
            · cases e1
          · cases e1
          · cases e1
        | some ob => rw [hK b ob hg hm]
      simp only [this]; rfl
    · cases h
  | lookup t x k ok =>
    obtain ⟨e1, _⟩ := ofV_some h
    have : lookupA E t (ρ x) (ρ k) ok K = some v := by
      rw [← e1]
      unfold lookupA
      split
      · have hent : ∀ es, entriesA (ρ x) H = some es → entriesA (ρ x) K = some es := by
          intro es hes
          have hx := hρ x
          generalize ρ x = y at hx hes ⊢
          unfold entriesA at hes ⊢
          split at hes
          · exact hes
          · rename_i r
            generalize ρ' x = z at hx
            cases hx with
            | map _ c n hm =>
            split at hes
            · rename_i es' c' hg
              rw [hK r _ hg ⟨_, hm⟩]
              exact hes
            · cases hes
          · cases hes
        cases hes : entriesA (ρ x) H with
        | some es => rw [hent es hes]
        | none =>
          exfalso
          unfold lookupA at e1
          rename_i kt et hu
          rw [hu, hes] at e1
          simp only at e1
          cases hp : plainKey E kt (ρ k) with
          | true => rw [hp] at e1; cases e1
          | false => rw [hp] at e1; cases e1
      · rfl
    simp only [opA, this]; rfl
  | slice t x lo hi mx =>
    obtain ⟨e1, _⟩ := ofV_some h
    have : sliceA E t (ρ x) (oval ρ lo) (oval ρ hi) (oval ρ mx) K = some v := by
      rw [← e1]
      have hx := hρ x
      generalize ρ x = y at hx e1 ⊢
      unfold sliceA at e1 ⊢
      split <;> try rfl
      rename_i b o
      generalize ρ' x = z at hx
      cases hx with
      | ptr _ _ c n hm =>
      simp only at e1
      split
      · rename_i hu hmx
        rw [hu, hmx] at e1
        simp only at e1
        split
        · rename_i s hs
          rw [hs] at e1
          simp only at e1
          unfold sliceArr knownTo at e1 ⊢
          cases hg : H.get b with
          | none => rw [hg] at e1; cases e1
          | some ob => rw [hK b ob hg ⟨_, hm⟩]
        · rfl
      · rfl
    simp only [opA, this]; rfl
  | call c =>
    obtain ⟨callee, args, ats⟩ := c
    cases callee with
    | builtin b =>
      simp only [kindOf] at hk
      simp only [opA, callA] at h ⊢
      cases b <;> simp only [kindBuiltin] at hk <;> try (cases hk; done)
      simp only [builtinA, builtinN] at h ⊢
      split at h
      · rename_i t l y hl hargs
        obtain ⟨e1, _⟩ := ofV_some h
        have hy : ∃ z, VRel G.I μ y z := by
          have := vrels_map hρ args
          rw [hargs] at this
          obtain ⟨z, _, hz⟩ := vsrel_one' this
          exact ⟨z, hz⟩
        obtain ⟨z, hz⟩ := hy
        have : lenA E t y K = some v := by
          rw [← e1]
          unfold lenA at e1 ⊢
          cases hu : under E t with
          | none => rfl
          | some d =>
            cases d <;> try rfl
            rw [hu] at e1
            simp only at e1 ⊢
            split at e1
            · rfl
            · rename_i r
              cases hz with
              | map _ c n hm =>
              cases hg : H.get r with
              | none => rw [hg] at e1; cases e1
              | some ob => rw [hK r ob hg ⟨_, hm⟩]
            · cases e1
        simp only [builtin1, this]; rfl
      · cases h
      · cases h
    | invoke r name => cases hk
    | value f => cases hk
  | convert s d x =>
    simp only [kindOf, kindConv] at hk
    split at hk <;> cases hk
  | _ => cases hk

end Go.Ab
/- Regions whose order is open, 2: the run in text order, as a list of what each operation came to. -/
namespace Go.Ab

variable {E : Env} {G : Ground}

/-- what an operation of the region came to -/
inductive Evt where
  | gone
  | unw
  | pur (v : AVal)
  | rd (v : AVal)
  | nw (o : AObj) (nv : NewV)
  | act (v : AVal) (H' : AHeap)
  | dead (ch : Chain) (H' : AHeap)

def Evt.val (b : Nat) : Evt → Option AVal
  | .gone => none
  | .dead _ _ => none
  | .unw => some aund
  | .pur v => some v
  | .rd v => some v
  | .nw _ nv => some (nv.at b)
  | .act v _ => some v

structure St where
  τ : Tr AVal
  H : AHeap
  p : Prog

noncomputable def St.put (s : St) (x : Slot) (v : Option AVal) : Tr AVal :=
  match v with
  | some v => putA s.τ x.oper.dst v
  | none => s.τ

noncomputable def St.next (s : St) (x : Slot) (e : Evt) : St :=
  { τ := s.put x (e.val (Nat.add s.p.base x.ix))
    H := match e with
      | .nw o _ => s.H.put (Nat.add s.p.base x.ix) o
      | .act _ H' => H'
      | _ => s.H
    p := match e with
      | .unw => match x.kind with
        | .act => ⟨s.p.base, appL s.p.hs [s.H], Nat.succ s.p.k, s.p.reads, s.p.dead, s.p.tau⟩
        | _ => s.p
      | .rd v => ⟨s.p.base, s.p.hs, s.p.k, ⟨x.oper.op, s.τ, v, s.p.k, x.lo, x.hi⟩ :: s.p.reads, s.p.dead, s.p.tau⟩
      | .act _ H' => ⟨s.p.base, appL s.p.hs [H'], Nat.succ s.p.k, s.p.reads, none, s.p.tau⟩
      | .dead ch H' => ⟨s.p.base, s.p.hs, s.p.k, s.p.reads, some (x.ix, ch, H'), s.p.tau⟩
      | _ => s.p }

/-- an act that came to a value, wherever it is carried out -/
def ActVal (E : Env) (G : Ground) (ro : Option Nat) (o : Oper) (τ : Tr AVal) (H : AHeap) (v : AVal) (H' : AHeap) : Prop :=
  ∀ μ w a ro' K Q, WRel G μ H w → RoRel μ ro ro' → (∀ x ∈ o.op.operands, VRel G.I μ (aeval E τ x) (a.eval x)) →
    (∀ v' μ' w', Nxt G μ H w μ' H' w' → VRel G.I μ' v v' → K (a.put o.dst v') w') → o.wpIn (fence ro') 0 E.P a w K Q

def ActPan (E : Env) (G : Ground) (ro : Option Nat) (o : Oper) (τ : Tr AVal) (H : AHeap) (ch : Chain) (H' : AHeap) : Prop :=
  ∀ μ w a ro' (K : Act → World → Prop) Q, WRel G μ H w → RoRel μ ro ro' → (∀ x ∈ o.op.operands, VRel G.I μ (aeval E τ x) (a.eval x)) →
    (∀ es μ' w', Nxt G μ H w μ' H' w' → CRel G.I μ' ch es → Q (.panic es) a w') → o.wpIn (fence ro') 0 E.P a w K Q

def EvWanted (E : Env) (G : Ground) (ro : Option Nat) (all : Array Oper) (x : Slot) (s : St) (e : Evt) : Prop :=
  match e with
  | .gone => False
  | .unw => wantedA all s.τ x.oper.guard = some false
  | .pur v => wantedA all s.τ x.oper.guard = some true ∧ okRound ro x.oper.op = true ∧ x.kind = .pure ∧ ∃ H1, opA E (aeval E s.τ) x.oper.op s.H = .val v H1
  | .rd v => wantedA all s.τ x.oper.guard = some true ∧ okRound ro x.oper.op = true ∧ x.kind = .read ∧ ∃ H1, opA E (aeval E s.τ) x.oper.op s.H = .val v H1
  | .nw o nv => wantedA all s.τ x.oper.guard = some true ∧ okRound ro x.oper.op = true ∧ x.kind = .new ∧ newOf E (aeval E s.τ) x.oper.op = some (o, nv)
  | .act v H' => wantedA all s.τ x.oper.guard = some true ∧ x.kind = .act ∧ ActVal E G ro x.oper s.τ s.H v H'
  | .dead ch H' => wantedA all s.τ x.oper.guard = some true ∧ x.kind = .act ∧ ActPan E G ro x.oper s.τ s.H ch H'

def EvOk (E : Env) (G : Ground) (ro : Option Nat) (all : Array Oper) (x : Slot) (s : St) (e : Evt) : Prop :=
  (passedBy x s.p = true ∧ e = .gone) ∨ (passedBy x s.p = false ∧ EvWanted E G ro all x s e)

def EvsOk (E : Env) (G : Ground) (ro : Option Nat) (all : Array Oper) : List Slot → List Evt → St → Prop
  | [], [], _ => True
  | x :: l, e :: es, s => EvOk E G ro all x s e ∧ EvsOk E G ro all l es (s.next x e)
  | _, _, _ => False

noncomputable def fin : List Slot → List Evt → St → St
  | x :: l, e :: es, s => fin l es (s.next x e)
  | _, _, s => s

/-- the run from here on to the end -/
def DrawS (E : Env) (G : Ground) (ro : Option Nat) (all : Array Oper) (l : List Slot) (ds : List ADef) (s : St) (out : Out) : Prop :=
  ∃ es, EvsOk E G ro all l es s ∧ drawEnd E all (fin l es s).τ ds (fin l es s).H (fin l es s).p = some out

theorem DrawS.cons {ro : Option Nat} {all : Array Oper} {x : Slot} {l : List Slot} {ds : List ADef} {s : St} {out : Out} (e : Evt) (he : EvOk E G ro all x s e) (h : DrawS E G ro all l ds (s.next x e) out) : DrawS E G ro all (x :: l) ds s out := by
  obtain ⟨es, h1, h2⟩ := h
  exact ⟨e :: es, ⟨he, h1⟩, h2⟩

section
variable {rec : Task → Option Out}

/-- the temporaries that are not looked at: nothing is said of them -/
noncomputable def onOperands (op : Op) (ρ : Operand → AVal) (x : Operand) : AVal := by
  classical exact if x ∈ op.operands then ρ x else .tuple []

theorem onOperands_eq {op : Op} {ρ : Operand → AVal} : ∀ x ∈ op.operands, onOperands op ρ x = ρ x := by
  intro x hx
  unfold onOperands
  exact if_pos hx

theorem onOperands_rel {μ : Map} {op : Op} {ρ : Operand → AVal} {ρ' : Operand → Value} (h : ∀ x ∈ op.operands, VRel G.I μ (ρ x) (ρ' x)) (x : Operand) : VRel G.I μ (onOperands op ρ x) (ρ' x) := by
  unfold onOperands
  by_cases hx : x ∈ op.operands
  · rw [if_pos hx]; exact h x hx
  · rw [if_neg hx]; exact .top _

/-- an act's answer, and what it says of the model's -/
theorem act_ok (hT : Told E G) (hCall : ∀ f args H o, rec (.call f args H) = some o → CallSound E G f args H o) (hRound : ∀ l args H o, rec (.round l args H) = some o → RoundSound E G l args H o)
    {ro : Option Nat} {o : Oper} {τ : Tr AVal} {H : AHeap} (hok : okRound ro o.op = true) {r : Op1} (hr : opA E (aeval E τ) o.op H = r) :
    (∀ v H', r = .val v H' → ActVal E G ro o τ H v H') ∧ (∀ H', r = .skip H' → ActVal E G ro o τ H aundef H') ∧ (∀ v, r = .pan v → ActPan E G ro o τ H [(v, false)] H) ∧
    (∀ f args v H', r = .call f args → rec (.call f args H) = some (.val v H') → ActVal E G ro o τ H v H') ∧
    (∀ f args ch H', r = .call f args → rec (.call f args H) = some (.pan ch H') → ActPan E G ro o τ H ch H') ∧
    (∀ j args v H', r = .round j args → rec (.round j args H) = some (.val v H') → ActVal E G ro o τ H v H') := by
  have main : ∀ {μ w} {a : Act}, WRel G μ H w → (∀ x ∈ o.op.operands, VRel G.I μ (aeval E τ x) (a.eval x)) → OpOk E G μ H w (execOp a.eval o) r := by
    intro μ w a hw hρ
    have := opA_ok hT.toEnvOk hw (onOperands_rel hρ) o
    rw [opA_congr (E := E) (fun x hx => onOperands_eq x hx) H, hr] at this
    exact this
  refine ⟨?_, ?_, ?_, ?_, ?_, ?_⟩
  · rintro v H' rfl μ w a ro' K Q hw hro hρ hk
    obtain ⟨v', w', μ', hrun, hn, hv⟩ := main hw hρ
    refine ⟨about_fence, ?_⟩
    rw [show o.semAt (fence ro').round a.eval = execOp a.eval o from semAt_ok hro hok _, hrun]
    exact hk v' μ' w' hn hv
  · rintro H' rfl μ w a ro' K Q hw hro hρ hk
    obtain ⟨w', μ', hrun, hn⟩ := main hw hρ
    refine ⟨about_fence, ?_⟩
    rw [show o.semAt (fence ro').round a.eval = execOp a.eval o from semAt_ok hro hok _, hrun]
    exact hk undef μ' w' hn (.top _)
  · rintro v rfl μ w a ro' K Q hw hro hρ hk
    obtain ⟨v', hrun, hv⟩ := main hw hρ
    refine ⟨about_fence, ?_⟩
    rw [show o.semAt (fence ro').round a.eval = execOp a.eval o from semAt_ok hro hok _, hrun]
    exact hk _ μ w (Nxt.refl hw) (.cons hv rfl rfl .nil)
  · rintro f args v H' rfl hc μ w a ro' K Q hw hro hρ hk
    obtain ⟨args', hrun, hargs⟩ := main hw hρ
    refine ⟨about_fence, ?_⟩
    rw [show o.semAt (fence ro').round a.eval = execOp a.eval o from semAt_ok hro hok _, hrun]
    rcases hCall _ _ _ _ hc μ w args' hw hargs with ⟨v', w', hcr, hp⟩ | ⟨hcr, hcalls⟩
    · rw [hcr]
      obtain ⟨μ₁, hn, hv⟩ := hp
      exact hk v' μ₁ w' hn hv
    · rw [hcr]
      refine ⟨fun e => (by cases e), CallsIn.mono (callsIn_fence hcalls) fun e w' hp => ?_⟩
      cases e with
      | returned v' => obtain ⟨μ₁, hn, hv⟩ := hp; exact hk v' μ₁ w' hn hv
      | panicked es => exact hp.elim
      | outgrown => exact hp.elim
  · rintro f args ch H' rfl hc μ w a ro' K Q hw hro hρ hk
    obtain ⟨args', hrun, hargs⟩ := main hw hρ
    refine ⟨about_fence, ?_⟩
    rw [show o.semAt (fence ro').round a.eval = execOp a.eval o from semAt_ok hro hok _, hrun]
    rcases hCall _ _ _ _ hc μ w args' hw hargs with ⟨v', w', hcr, hp⟩ | ⟨hcr, hcalls⟩
    · exact hp.elim
    · rw [hcr]
      refine ⟨fun e => (by cases e), CallsIn.mono (callsIn_fence hcalls) fun e w' hp => ?_⟩
      cases e with
      | returned v' => exact hp.elim
      | panicked es => obtain ⟨μ₁, hn, hch⟩ := hp; exact hk es μ₁ w' hn hch
      | outgrown => exact hp.elim
  · rintro j args v H' rfl hc μ w a ro' K Q hw hro hρ hk
    obtain ⟨c, n, args', hm, hrun, hargs⟩ := main hw hρ
    refine ⟨about_fence, ?_⟩
    rw [show o.semAt (fence ro').round a.eval = execOp a.eval o from semAt_ok hro hok _, hrun]
    obtain ⟨f, t, x, y, hyr, hround⟩ := hRound _ _ _ _ hc μ w args' c n hw hm hargs
    rw [hyr]
    refine ⟨fun e => (by cases e), RoundIn.mono (roundIn_fence hround) fun e w' hp => ?_⟩
    cases e with
    | returned v' => obtain ⟨μ₁, hn, hv⟩ := hp; exact hk v' μ₁ w' hn hv
    | panicked es => exact hp.elim
    | outgrown => exact hp.elim

theorem drawStep_sound (hT : Told E G) (hCall : ∀ f args H o, rec (.call f args H) = some o → CallSound E G f args H o) (hRound : ∀ l args H o, rec (.round l args H) = some o → RoundSound E G l args H o)
    {ro : Option Nat} {all : Array Oper} {ds : List ADef} (hDraw : ∀ l τ H p o, rec (.draw ro all l τ ds H p) = some o → DrawS E G ro all l ds ⟨τ, H, p⟩ o)
    {x : Slot} {l : List Slot} {τ : Tr AVal} {H : AHeap} {p : Prog} {out : Out} (h : drawStep E rec ro all x l τ ds H p = some out) : DrawS E G ro all (x :: l) ds ⟨τ, H, p⟩ out := by
  unfold drawStep at h
  cases hp : passedBy x p with
  | true =>
    rw [hp] at h
    exact .cons .gone (.inl ⟨hp, rfl⟩) (hDraw _ _ _ _ _ h)
  | false =>
    rw [hp] at h
    simp only [cond_false] at h
    split at h
    · rename_i hwa
      cases hok : okRound ro x.oper.op with
      | false => rw [hok] at h; cases h
      | true =>
        rw [hok] at h
        simp only [cond_true] at h
        split at h
        · rename_i hk
          obtain ⟨g1, g2, g3, g4, g5, g6⟩ := act_ok hT hCall hRound (τ := τ) (H := H) hok rfl
          unfold drawAct at h
          split at h
          · rename_i v H' he
            exact .cons (.act v H') (.inr ⟨hp, hwa, hk, g1 v H' he⟩) (hDraw _ _ _ _ _ h)
          · rename_i H' he
            exact .cons (.act aundef H') (.inr ⟨hp, hwa, hk, g2 H' he⟩) (hDraw _ _ _ _ _ h)
          · rename_i v he
            exact .cons (.dead [(v, false)] H) (.inr ⟨hp, hwa, hk, g3 v he⟩) (hDraw _ _ _ _ _ h)
          · rename_i f args he
            split at h
            · rename_i v H' hc
              exact .cons (.act v H') (.inr ⟨hp, hwa, hk, g4 f args v H' he hc⟩) (hDraw _ _ _ _ _ h)
            · rename_i ch H' hc
              exact .cons (.dead ch H') (.inr ⟨hp, hwa, hk, g5 f args ch H' he hc⟩) (hDraw _ _ _ _ _ h)
            · cases h
          · rename_i j args he
            split at h
            · rename_i v H' hc
              exact .cons (.act v H') (.inr ⟨hp, hwa, hk, g6 j args v H' he hc⟩) (hDraw _ _ _ _ _ h)
            · cases h
          · cases h
        · rename_i hk
          unfold drawPure at h
          split at h
          · rename_i v H1 he
            exact .cons (.pur v) (.inr ⟨hp, hwa, hok, hk, H1, he⟩) (hDraw _ _ _ _ _ h)
          · cases h
        · rename_i hk
          unfold drawRead at h
          split at h
          · rename_i v H1 he
            exact .cons (.rd v) (.inr ⟨hp, hwa, hok, hk, H1, he⟩) (hDraw _ _ _ _ _ h)
          · cases h
        · rename_i hk
          unfold drawNew at h
          split at h
          · rename_i o nv he
            exact .cons (.nw o nv) (.inr ⟨hp, hwa, hok, hk, he⟩) (hDraw _ _ _ _ _ h)
          · cases h
    · rename_i hwa
      refine .cons .unw (.inr ⟨hp, hwa⟩) ?_
      unfold drawUnwanted at h
      have : (St.next ⟨τ, H, p⟩ x .unw) = ⟨putA τ x.oper.dst aund, H, (match x.kind with | .act => ⟨p.base, appL p.hs [H], Nat.succ p.k, p.reads, p.dead, p.tau⟩ | _ => p)⟩ := rfl
      rw [this]
      cases hk : x.kind <;> rw [hk] at h <;> exact hDraw _ _ _ _ _ h
    · cases h
end

end Go.Ab
