/- What the evaluator answers, the model does: the whole; answers in other memories. -/
import Derived.Laws.LoneSync
import Derived.Laws.Externs
import Derived.KernelRfl
import Derived.Test.YtccbadojfbdegaaGreatDoorAbG
import Derived.Test.YtccbadojfbdegaaGreatDoorAbF
import Derived.Test.YtccbadojfbdegaaGreatDoorAbA
/- Regions whose order is open, 12: whatever is next. -/
namespace Go.Ab

variable {E : Env} {G : Ground} {ro ro' : Option Nat} {ops : Array Oper} {sl : List Slot} {es : List Evt} {s₀ : St}
variable {ds : List ADef} {sz : Nat} {μ₀ : Map} {H₀ : AHeap} {w₀ : World} {m : Nat} {listed : Array Bool} {a : Act} {w : World} {μ : Map} {HS : AHeap}

theorem gone_not (D : Draw E G ro ops sl es s₀) (I : Inv G sl es s₀ ds sz μ₀ H₀ w₀ m listed a w μ HS) {i : Nat} {x : Slot} (hi : i < sl.length) (hbef : ∀ j, x.before.testBit j = true → listed.getD j false = true) : passedBy x (runTo sl es s₀ i).p = false := by
  cases h : passedBy x (runTo sl es s₀ i).p with
  | false => rfl
  | true =>
    exfalso
    unfold passedBy at h
    split at h
    · cases h
    · rename_i d rest hd
      obtain ⟨ch, H'⟩ := rest
      obtain ⟨_, hdd⟩ := D.dead_from (i := i) (by omega) d ch H' hd
      obtain ⟨v, hv⟩ := I.alive d _ (hbef d h) hdd
      cases hv

/-- carrying out an operation that gives a value -/
theorem wp_value {o : Oper} {a : Act} {w w' : World} {K : Act → World → Prop} {Q : Exit → Act → World → Prop} {v' : Value} (hro : RoRel μ ro ro') (hok : okRound ro o.op = true) (hr : (execOp a.eval o).run E.P w = .ok (.value v') w') (hk : K (a.put o.dst v') w') :
    o.wpIn (fence ro') 0 E.P a w K Q := by
  refine ⟨about_fence, ?_⟩
  rw [show o.semAt (fence ro').round a.eval = execOp a.eval o from semAt_ok hro hok _, hr]
  exact hk

/-- an operation whose answer in the evaluator's memory is known -/
theorem Inv.op_val (hT : Told E G) (D : Draw E G ro ops sl es s₀) (I : Inv G sl es s₀ ds sz μ₀ H₀ w₀ m listed a w μ HS) {i : Nat} {x : Slot} (hx : sl[i]? = some x) (hun : listed.getD i false = false)
    (hbef : ∀ j, x.before.testBit j = true → listed.getD j false = true) {v : AVal} {K : AHeap} (h : opA E (onOperands x.oper.op (aeval E (runTo sl es s₀ i).τ)) x.oper.op HS = .val v K) :
    ∃ v' w' μ', (execOp a.eval x.oper).run E.P w = .ok (.value v') w' ∧ Nxt G μ HS w μ' K w' ∧ VRel G.I μ' v v' := by
  have := opA_ok hT.toEnvOk I.nxt.rel (onOperands_rel (I.operands_rel hT D hx hun hbef)) x.oper
  rw [h] at this
  exact this

theorem checkReads_mem {hs : List AHeap} : ∀ {rs : List Read}, checkReads E hs rs = true → ∀ r ∈ rs, checkRead E r hs 0 = true := by
  intro rs
  induction rs with
  | nil => intro _ r hr; simp at hr
  | cons r' rs ih =>
    intro h r hr
    obtain ⟨h1, h2⟩ := bif_true h
    rcases List.mem_cons.1 hr with rfl | hr
    · exact h1
    · exact ih h2 r hr

theorem checkRead_at {r : Read} : ∀ {hs : List AHeap} {k j : Nat} {H : AHeap}, checkRead E r hs k = true → hs[j]? = some H → checkAt E r (k + j) H = true := by
  intro hs
  induction hs with
  | nil => intro k j H _ h; simp at h
  | cons H' hs ih =>
    intro k j H h hj
    obtain ⟨h1, h2⟩ := bif_true h
    cases j with
    | zero => simp at hj; subst hj; exact h1
    | succ j =>
      have := ih (k := Nat.succ k) (j := j) h2 (by simpa using hj)
      rwa [show Nat.succ k + j = k + (j + 1) from by omega] at this

theorem checkAt_read {r : Read} {k : Nat} {H : AHeap} (h : checkAt E r k H = true) (hlo : r.lo ≤ k) (hhi : k ≤ r.hi) (hne : k ≠ r.at_) : ∃ K, opA E (aeval E r.τ) r.op H = .val r.v K := by
  unfold checkAt at h
  rw [Nat.ble_eq_true_of_le hlo, Nat.ble_eq_true_of_le hhi] at h
  simp only [cond_true] at h
  have : Nat.beq k r.at_ = false := by
    cases hb : Nat.beq k r.at_ with
    | false => rfl
    | true => exact absurd (Nat.eq_of_beq_eq_true hb) hne
  rw [this] at h
  simp only [cond_false] at h
  unfold readAgain at h
  split at h
  · rename_i v K hv
    rw [AVal.beq_eq _ _ h] at hv
    exact ⟨K, hv⟩
  · cases h

theorem actsS_succ {sl : List Slot} {j : Nat} {x : Slot} (hx : sl[j]? = some x) : actsS sl (j + 1) = actsS sl j + (if x.kind.isAct then 1 else 0) := by
  unfold actsS
  have hlt := (List.getElem?_eq_some_iff.1 hx).1
  have hget := (List.getElem?_eq_some_iff.1 hx).2
  rw [List.take_succ_eq_append_getElem hlt, hget, List.filter_append, List.length_append]
  congr 1
  cases h : x.kind.isAct <;> simp [h]

theorem actsS_mono {sl : List Slot} {j : Nat} : ∀ {d : Nat}, actsS sl j ≤ actsS sl (j + d) := by
  intro d
  induction d with
  | zero => exact Nat.le_refl _
  | succ d ih =>
    refine Nat.le_trans ih ?_
    rcases Nat.lt_or_ge (j + d) sl.length with h | h
    · rw [show j + (d + 1) = j + d + 1 from by omega, actsS_succ (List.getElem?_eq_getElem h)]
      omega
    · unfold actsS
      rw [List.take_of_length_le h, List.take_of_length_le (by omega)]
      exact Nat.le_refl _

theorem Inv.kcount (D : Draw E G ro ops sl es s₀) (I : Inv G sl es s₀ ds sz μ₀ H₀ w₀ m listed a w μ HS) : ∀ {q : Nat}, q ≤ m → (runTo sl es s₀ q).p.k = actsS sl q := by
  intro q
  induction q with
  | zero => intro _; rw [runTo_zero, D.k]; rfl
  | succ q ih =>
    intro h
    have hm := I.mle
    obtain ⟨x, e, hx, he, _, hok, hn⟩ := D.get (i := q) (by omega)
    rw [hn, next_k, ih (by omega), actsS_succ hx]
    congr 1
    by_cases hk : x.kind = .act
    · obtain ⟨v, hv⟩ := I.alive q e ((I.acts q x hx hk).2 (by omega)) he
      have : counts x e = true := by
        cases e with
        | unw => simp [counts, hk, Kind.isAct]
        | act v H' => rfl
        | gone => cases hv
        | dead ch H' => cases hv
        | pur v => have := (hok.wanted (by simp)).2.2.2.1; rw [hk] at this; cases this
        | rd v => have := (hok.wanted (by simp)).2.2.2.1; rw [hk] at this; cases this
        | nw o nv => have := (hok.wanted (by simp)).2.2.2.1; rw [hk] at this; cases this
      rw [this, isAct_iff.2 hk]
    · have h1 := counts_kind hok hk
      have h2 : x.kind.isAct = false := by
        cases hb : x.kind.isAct with
        | false => rfl
        | true => exact absurd (isAct_iff.1 hb) hk
      rw [h1, h2]

/-- how many acts have come before, for an operation that is next -/
theorem Inv.bounds (D : Draw E G ro ops sl es s₀) (I : Inv G sl es s₀ ds sz μ₀ H₀ w₀ m listed a w μ HS) {i : Nat} {x : Slot} (hx : sl[i]? = some x) (hun : listed.getD i false = false)
    (hbef : ∀ j, x.before.testBit j = true → listed.getD j false = true) : x.lo ≤ (runTo sl es s₀ m).p.k ∧ (runTo sl es s₀ m).p.k ≤ x.hi := by
  rw [I.kcount D (Nat.le_refl _)]
  refine ⟨D.st.lo i x _ hx fun j y hy hky hb => ?_, D.st.hi i x _ hx ?_ fun j y hy hky hb => ?_⟩
  · have hjm := (I.acts j y hy hky).1 (hbef j hb)
    have := actsS_mono (sl := sl) (j := j + 1) (d := m - (j + 1))
    rw [show j + 1 + (m - (j + 1)) = m from by omega, actsS_succ hy, isAct_iff.2 hky] at this
    exact this
  · unfold actsS
    refine Nat.le_trans (List.length_filter_le _ _) ?_
    rw [List.length_take]
    omega
  · have hjm : m ≤ j := by
      rcases Nat.lt_or_ge j m with h | h
      · have := I.closed j y hy ((I.acts j y hy hky).2 h) i hb
        rw [hun] at this
        cases this
      · exact h
    have := actsS_mono (sl := sl) (j := m) (d := j - m)
    rw [show m + (j - m) = j from by omega] at this
    exact this

end Go.Ab
/- Regions whose order is open, 13: reads. -/
namespace Go.Ab

variable {E : Env} {G : Ground} {ro ro' : Option Nat} {ops : Array Oper} {sl : List Slot} {es : List Evt} {s₀ : St}
variable {ds : List ADef} {sz : Nat} {μ₀ : Map} {H₀ : AHeap} {w₀ : World} {m : Nat} {listed : Array Bool} {a : Act} {w : World} {μ : Map} {HS : AHeap}

/-- a reading operation reads what it read in the run in text order -/
theorem Inv.read (hT : Told E G) (D : Draw E G ro ops sl es s₀) (I : Inv G sl es s₀ ds sz μ₀ H₀ w₀ m listed a w μ HS) (hch : checkReads E (runTo sl es s₀ sl.length).p.hs (runTo sl es s₀ sl.length).p.reads = true)
    {i : Nat} {x : Slot} {v : AVal} (hx : sl[i]? = some x) (he : es[i]? = some (.rd v)) (hun : listed.getD i false = false)
    (hbef : ∀ j, x.before.testBit j = true → listed.getD j false = true) : opA E (onOperands x.oper.op (aeval E (runTo sl es s₀ i).τ)) x.oper.op HS = .val v HS := by
  have hi : i < sl.length := (List.getElem?_eq_some_iff.1 hx).1
  obtain ⟨x', e, hx', he', _, hok, hn⟩ := D.get hi
  rw [hx] at hx'
  cases hx'
  rw [he] at he'
  cases he'
  obtain ⟨_, _, _, hk, H1, hop⟩ := hok.wanted (by simp)
  have hkk : kindOf E x.oper.op = .read := by rw [← (D.st.slot i x hx).2.2]; exact hk
  have hρ := onOperands_rel (I.operands_rel hT D hx hun hbef)
  have hcongr : ∀ K, opA E (onOperands x.oper.op (aeval E (runTo sl es s₀ i).τ)) x.oper.op K = opA E (aeval E (runTo sl es s₀ i).τ) x.oper.op K := fun K => opA_congr (fun y hy => onOperands_eq y hy) K
  obtain ⟨Hb, g1, g2, g3, g4⟩ := I.hb
  -- what lies behind the last act lies there
  have hbsub : ∀ b o, Hb.get b = some o → HS.get b = some o := fun b o hb => by
    rw [g4 b fun j o' hlj hnw hle e' => by
      subst e'
      rw [(g3 j o' hlj hnw hle).2] at hb
      cases hb]
    exact hb
  by_cases hat : (runTo sl es s₀ m).p.k = (runTo sl es s₀ i).p.k
  · -- as many acts as in the text
    obtain ⟨Hb', q1, q2⟩ := D.heapAt (i := i) (by omega)
    rw [← hat, g1] at q2
    cases q2
    obtain ⟨c1, c2, c3⟩ := D.canon (i := i) (by omega) Hb q1
    refine read_local hρ hkk (H := (runTo sl es s₀ i).H) (H1 := H1) (by rw [hcongr]; exact hop) fun b o hb hm => ?_
    by_cases hnew : ∃ j o, j < i ∧ isNw es j o ∧ (runTo sl es s₀ j).p.k = (runTo sl es s₀ i).p.k ∧ b = s₀.p.base + j
    · obtain ⟨j, o', hj, hnw, hjk, rfl⟩ := hnew
      rw [c2 j o' hj hnw hjk] at hb
      cases hb
      cases hl : listed.getD j false with
      | true => exact (g3 j _ hl hnw (by omega)).1
      | false =>
        obtain ⟨y, hy⟩ := hm
        rw [I.fresh j _ hl hnw] at hy
        cases hy
    · rw [c3 b fun j o' hj hnw hjk e' => hnew ⟨j, o', hj, hnw, hjk, e'⟩] at hb
      exact hbsub b o hb
  · -- looked at again
    have hrec : (⟨x.oper.op, (runTo sl es s₀ i).τ, v, (runTo sl es s₀ i).p.k, x.lo, x.hi⟩ : Read) ∈ (runTo sl es s₀ sl.length).p.reads := by
      have := (D.mono (i := i + 1) (d := sl.length - (i + 1)) (by omega)).2.2
      rw [show i + 1 + (sl.length - (i + 1)) = sl.length from by omega] at this
      refine this _ ?_
      rw [hn]
      exact List.mem_cons_self
    have hc := checkRead_at (checkReads_mem hch _ hrec) g1
    rw [Nat.zero_add] at hc
    obtain ⟨hlo, hhi⟩ := I.bounds D hx hun hbef
    obtain ⟨K, hK⟩ := checkAt_read hc hlo hhi hat
    exact read_local hρ hkk (H := Hb) (H1 := K) (by rw [hcongr]; exact hK) fun b o hb _ => hbsub b o hb

end Go.Ab
/- Regions whose order is open, 14: whatever is next. -/
namespace Go.Ab

variable {E : Env} {G : Ground} {ro ro' : Option Nat} {ops : Array Oper} {sl : List Slot} {es : List Evt} {s₀ : St}
variable {ds : List ADef} {sz : Nat} {μ₀ : Map} {H₀ : AHeap} {w₀ : World} {m : Nat} {listed : Array Bool} {a : Act} {w : World} {μ : Map} {HS : AHeap}

/-- one operation more, whichever is next -/
theorem Inv.step (hT : Told E G) (D : Draw E G ro ops sl es s₀) (I : Inv G sl es s₀ ds sz μ₀ H₀ w₀ m listed a w μ HS) (hro : RoRel μ ro ro') (hch : checkReads E (runTo sl es s₀ sl.length).p.hs (runTo sl es s₀ sl.length).p.reads = true)
    {i : Nat} {x : Slot} (hx : sl[i]? = some x) (hun : listed.getD i false = false) (hbef : ∀ j, x.before.testBit j = true → listed.getD j false = true) (hdst : ∀ d, x.oper.dst = some d → d < sz)
    {K : Act → World → Prop} {Q : Exit → Act → World → Prop}
    (hK : ∀ m' a' w' μ' HS', Inv G sl es s₀ ds sz μ₀ H₀ w₀ m' (listed.setIfInBounds i true) a' w' μ' HS' → K a' w')
    (hQ : ∀ ch H' es' μ' w', es[i]? = some (.dead ch H') → Nxt G μ (runTo sl es s₀ i).H w μ' H' w' → CRel G.I μ' ch es' → Q (.panic es') a w') : wpOpIn (fence ro') 0 E.P ops Q i K a w := by
  have hi : i < sl.length := (List.getElem?_eq_some_iff.1 hx).1
  obtain ⟨x', e, hx', he, _, hok, hn⟩ := D.get hi
  rw [hx] at hx'
  cases hx'
  have hng : e ≠ .gone := fun e' => by
    subst e'
    rcases hok with ⟨h, _⟩ | ⟨_, h⟩
    · rw [gone_not D I hi hbef] at h; cases h
    · exact h
  obtain ⟨_, hw⟩ := hok.wanted hng
  unfold wpOpIn
  rw [(D.st.slot i x hx).1]
  simp only
  cases e with
  | gone => exact absurd rfl hng
  | unw =>
    rw [I.wanted D hx hun hbef hw]
    simp only [Bool.false_eq_true, if_false]
    refine ⟨about_fence, ?_⟩
    by_cases hk : x.kind = .act
    · obtain ⟨hpart, _⟩ := I.act_part D hx hun hbef hk
      have hH : (runTo sl es s₀ (i + 1)).H = (runTo sl es s₀ i).H := by rw [hn]; rfl
      obtain ⟨HS', I'⟩ := I.act D hx he hun hbef hk (v := aund) (v' := undef) rfl (by simp [counts, hk, Kind.isAct]) hH .undef (Nxt.refl (I.nxt.rel.forget hpart)) hdst
      exact hK _ _ _ _ _ I'
    · exact hK _ _ _ _ _ (I.quiet D hx he hun hbef (v := aund) (v' := undef) (Nxt.refl I.nxt.rel) rfl .undef hk (fun _ _ h => by cases h) hdst)
  | pur v =>
    obtain ⟨hwa, hokr, hk, H1, hop⟩ := hw
    rw [I.wanted D hx hun hbef hwa]
    simp only [if_true]
    have hkk : kindOf E x.oper.op = .pure := by rw [← (D.st.slot i x hx).2.2]; exact hk
    have h1 := pure_indep hkk hop HS
    rw [← opA_congr (E := E) (fun y hy => onOperands_eq (ρ := aeval E (runTo sl es s₀ i).τ) y hy) HS] at h1
    obtain ⟨v', w', μ', hr, hnx, hv⟩ := I.op_val hT D hx hun hbef h1
    exact wp_value hro hokr hr (hK _ _ _ _ _ (I.quiet D hx he hun hbef hnx rfl hv (by rw [hk]; simp) (fun _ _ h => by cases h) hdst))
  | rd v =>
    obtain ⟨hwa, hokr, hk, H1, hop⟩ := hw
    rw [I.wanted D hx hun hbef hwa]
    simp only [if_true]
    obtain ⟨v', w', μ', hr, hnx, hv⟩ := I.op_val hT D hx hun hbef (I.read hT D hch hx he hun hbef)
    exact wp_value hro hokr hr (hK _ _ _ _ _ (I.quiet D hx he hun hbef hnx rfl hv (by rw [hk]; simp) (fun _ _ h => by cases h) hdst))
  | nw o nv =>
    obtain ⟨hwa, hokr, hk, hop⟩ := hw
    rw [I.wanted D hx hun hbef hwa]
    simp only [if_true]
    rw [← newOf_congr (E := E) (fun y hy => onOperands_eq (ρ := aeval E (runTo sl es s₀ i).τ) y hy)] at hop
    obtain ⟨s, hs, v', o', n, hr, ho, hv⟩ := newOf_ok (onOperands_rel (I.operands_rel hT D hx hun hbef)) x.oper.op hop x.oper rfl w
    obtain ⟨μ', HS', I'⟩ := I.fresh_block D hx he hun hbef hk ho (w' := { w with heap := w.heap.push o' }) rfl rfl rfl hv hdst
    refine wp_value hro hokr ?_ (hK _ _ _ _ _ I')
    rw [hs]
    simp only [Sem.run_bind, hr, Result.andThen_ok, Sem.run_pure]
  | act v H' =>
    obtain ⟨hwa, hk, hact⟩ := hw
    rw [I.wanted D hx hun hbef hwa]
    simp only [if_true]
    obtain ⟨hpart, _⟩ := I.act_part D hx hun hbef hk
    refine hact μ w a ro' K Q (I.nxt.rel.forget hpart) hro (I.operands_rel hT D hx hun hbef) fun v' μ' w' hnx hv => ?_
    have hH : (runTo sl es s₀ (i + 1)).H = H' := by rw [hn]; rfl
    obtain ⟨HS', I'⟩ := I.act D hx he hun hbef hk rfl rfl hH hv hnx hdst
    exact hK _ _ _ _ _ I'
  | dead ch H' =>
    obtain ⟨hwa, hk, hact⟩ := hw
    rw [I.wanted D hx hun hbef hwa]
    simp only [if_true]
    obtain ⟨hpart, _⟩ := I.act_part D hx hun hbef hk
    exact hact μ w a ro' K Q (I.nxt.rel.forget hpart) hro (I.operands_rel hT D hx hun hbef) fun es' μ' w' hnx hc => hQ ch H' es' μ' w' he hnx hc

end Go.Ab
/- Regions whose order is open, 15: in any order. -/
namespace Go.Ab

variable {E : Env} {G : Ground} {ro ro' : Option Nat} {ops : Array Oper} {sl : List Slot} {es : List Evt} {s₀ : St}
variable {ds : List ADef} {sz : Nat} {μ₀ : Map} {H₀ : AHeap} {w₀ : World} {m : Nat} {listed : Array Bool} {a : Act} {w : World} {μ : Map} {HS : AHeap}

theorem ready_iff (hst : Static E ops sl) (hl : listed.size = sl.length) {i : Nat} : i ∈ Region.ready .any ops listed ↔
    ∃ x, sl[i]? = some x ∧ listed.getD i false = false ∧ ∀ e ∈ x.oper.after.toList, Region.binds .any e = true → listed.getD e.on false = true := by
  unfold Region.ready
  rw [List.mem_filter, List.mem_range]
  constructor
  · rintro ⟨hi, h⟩
    rw [← hst.len] at hi
    have hx := List.getElem?_eq_getElem hi
    refine ⟨_, hx, ?_⟩
    rw [(hst.slot i _ hx).1] at h
    simp only [Bool.and_eq_true, Option.map_some, Option.getD_some] at h
    obtain ⟨h1, h2⟩ := h
    refine ⟨?_, fun e he hb => ?_⟩
    · rw [Array.getD_eq_getD_getElem?] at h1 ⊢
      have : i < listed.size := by omega
      rw [Array.getElem?_eq_getElem this] at h1 ⊢
      simpa using h1
    · rw [← Array.all_toList, List.all_eq_true] at h2
      have := h2 e he
      rw [hb] at this
      simpa using this
  · rintro ⟨x, hx, h1, h2⟩
    have hi := (List.getElem?_eq_some_iff.1 hx).1
    refine ⟨by rw [← hst.len]; exact hi, ?_⟩
    rw [(hst.slot i x hx).1]
    simp only [Bool.and_eq_true, Option.map_some, Option.getD_some]
    refine ⟨?_, ?_⟩
    · rw [Array.getD_eq_getD_getElem?] at h1 ⊢
      have : i < listed.size := by omega
      rw [Array.getElem?_eq_getElem this] at h1 ⊢
      simpa using h1
    · rw [← Array.all_toList, List.all_eq_true]
      intro e he
      cases hb : Region.binds .any e with
      | false => rfl
      | true => simp only [Bool.not_true, Bool.false_or]; exact h2 e he hb

/-- what is ready has all that come before it behind it -/
theorem Inv.ready_before (D : Draw E G ro ops sl es s₀) (I : Inv G sl es s₀ ds sz μ₀ H₀ w₀ m listed a w μ HS) {i : Nat} (h : i ∈ Region.ready .any ops listed) :
    ∃ x, sl[i]? = some x ∧ listed.getD i false = false ∧ ∀ j, x.before.testBit j = true → listed.getD j false = true := by
  obtain ⟨x, hx, h1, h2⟩ := (ready_iff D.st I.lsz).1 h
  refine ⟨x, hx, h1, fun j hj => ?_⟩
  obtain ⟨e, he, hb, hj'⟩ := (D.st.anc i x hx).2 j hj
  have hl := h2 e he hb
  rcases hj' with rfl | ⟨y, hy, hyb⟩
  · exact hl
  · exact I.closed e.on y hy hl j hyb

/-- where nothing is ready, all has been carried out -/
theorem Inv.all_listed (D : Draw E G ro ops sl es s₀) (I : Inv G sl es s₀ ds sz μ₀ H₀ w₀ m listed a w μ HS) (h : Region.ready .any ops listed = []) : ∀ i, i < sl.length → listed.getD i false = true := by
  intro i
  induction i using Nat.strongRecOn with
  | _ i ih =>
    intro hi
    cases hl : listed.getD i false with
    | true => rfl
    | false =>
      exfalso
      have hx := List.getElem?_eq_getElem hi
      have : i ∈ Region.ready .any ops listed := (ready_iff D.st I.lsz).2 ⟨_, hx, hl, fun e he hb => by
        have hlt := (D.st.anc i _ hx).1 e he hb
        exact ih e.on hlt (by omega)⟩
      rw [h] at this
      simp at this

end Go.Ab
/- Regions whose order is open, 16: the induction. -/
namespace Go.Ab

variable {E : Env} {G : Ground} {ro ro' : Option Nat} {ops : Array Oper} {sl : List Slot} {es : List Evt} {s₀ : St}
variable {ds : List ADef} {sz : Nat} {μ₀ : Map} {H₀ : AHeap} {w₀ : World}

def unlisted (n : Nat) (listed : Array Bool) : Nat := ((List.range n).filter fun i => !listed.getD i false).length

theorem unlisted_set {n : Nat} {listed : Array Bool} (hl : listed.size = n) {i : Nat} (hi : i < n) (hun : listed.getD i false = false) : unlisted n (listed.setIfInBounds i true) < unlisted n listed := by
  unfold unlisted
  have hsub : ((List.range n).filter fun j => !(listed.setIfInBounds i true).getD j false) = ((List.range n).filter fun j => !listed.getD j false).filter fun j => decide (j ≠ i) := by
    rw [List.filter_filter]
    apply List.filter_congr
    intro j _
    rw [listed_set (by omega)]
    by_cases h : j = i
    · subst h; simp
    · simp [h]
  rw [hsub]
  refine List.length_filter_lt_length_iff_exists.2 ⟨i, ?_, by simp⟩
  rw [List.mem_filter]
  exact ⟨List.mem_range.2 hi, by simp [hun]⟩

theorem any_sound (hT : Told E G) (D : Draw E G ro ops sl es s₀) (hro : RoRel μ₀ ro ro') (hch : checkReads E (runTo sl es s₀ sl.length).p.hs (runTo sl es s₀ sl.length).p.reads = true)
    (hdst : ∀ (i : Nat) (x : Slot) (d : Nat), sl[i]? = some x → x.oper.dst = some d → d < sz) {Q : Exit → Act → World → Prop}
    (hfin : ∀ m listed a w μ HS, Inv G sl es s₀ ds sz μ₀ H₀ w₀ m listed a w μ HS → (∀ i, i < sl.length → listed.getD i false = true) → Q .normal a w)
    (hpan : ∀ m listed a w μ HS, Inv G sl es s₀ ds sz μ₀ H₀ w₀ m listed a w μ HS → ∀ i x ch H' es' μ' w', sl[i]? = some x → listed.getD i false = false → (∀ j, x.before.testBit j = true → listed.getD j false = true) → es[i]? = some (.dead ch H') →
      Nxt G μ (runTo sl es s₀ i).H w μ' H' w' → CRel G.I μ' ch es' → Q (.panic es') a w') :
    ∀ (fuel m : Nat) (listed : Array Bool) (a : Act) (w : World) (μ : Map) (HS : AHeap), Inv G sl es s₀ ds sz μ₀ H₀ w₀ m listed a w μ HS → unlisted sl.length listed ≤ fuel → wpAnyIn (fence ro') 0 E.P .any ops Q fuel listed a w := by
  intro fuel
  induction fuel with
  | zero =>
    intro m listed a w μ HS I hu
    have hall : ∀ i, i < sl.length → listed.getD i false = true := fun i hi => by
      cases h : listed.getD i false with
      | true => rfl
      | false => have := unlisted_set I.lsz hi h; omega
    refine ⟨?_, hfin _ _ _ _ _ _ I hall⟩
    cases hr : Region.ready .any ops listed with
    | nil => rfl
    | cons i l =>
      obtain ⟨x, hx, h1, _⟩ := I.ready_before D (i := i) (by rw [hr]; exact List.mem_cons_self)
      rw [hall i (List.getElem?_eq_some_iff.1 hx).1] at h1
      cases h1
  | succ fuel ih =>
    intro m listed a w μ HS I hu
    refine ⟨fun hr => hfin _ _ _ _ _ _ I (I.all_listed D hr), fun i hi => ?_⟩
    obtain ⟨x, hx, h1, h2⟩ := I.ready_before D hi
    have hlt := unlisted_set I.lsz (List.getElem?_eq_some_iff.1 hx).1 h1
    exact I.step hT D (hro.mono I.nxt.le) hch hx h1 h2 (fun d hd => hdst i x d hx hd) (fun m' a' w' μ' HS' I' => ih m' _ a' w' μ' HS' I' (by omega)) fun ch H' es' μ' w' hd hn hc => hpan m listed a w μ HS I i x ch H' es' μ' w' hx h1 h2 hd hn hc

end Go.Ab
/- Regions whose order is open, 17: the ends. -/
namespace Go.Ab

variable {E : Env} {G : Ground} {ro ro' : Option Nat} {ops : Array Oper} {sl : List Slot} {es : List Evt} {s₀ : St}
variable {ds : List ADef} {sz : Nat} {μ₀ : Map} {H₀ : AHeap} {w₀ : World} {m : Nat} {listed : Array Bool} {a : Act} {w : World} {μ : Map} {HS : AHeap}

/-- the temporaries in the end -/
theorem Inv.end_tmps (D : Draw E G ro ops sl es s₀) (I : Inv G sl es s₀ ds sz μ₀ H₀ w₀ m listed a w μ HS) (hall : ∀ i, i < sl.length → listed.getD i false = true) : TRel G.I μ (runTo sl es s₀ sl.length).τ a.tmps := by
  intro d v hv
  rcases D.tau_get (Nat.le_refl _) d v hv with ⟨j, y, f, hj, hy, hf, hdst, hval⟩ | ⟨hno, hs⟩
  · exact I.tmps j y f v d (hall j hj) hy hf hval hdst
  · refine I.old d v (fun j y hlj hy hdst => ?_) hs
    obtain ⟨f, hf, _⟩ := evsOk_get D.ok hy
    obtain ⟨u, hu⟩ := I.alive j f hlj hf
    rw [hno j y f (List.getElem?_eq_some_iff.1 hy).1 hy hf hdst] at hu
    cases hu

/-- the memory in the end -/
theorem Inv.end_part (D : Draw E G ro ops sl es s₀) (I : Inv G sl es s₀ ds sz μ₀ H₀ w₀ m listed a w μ HS) (hall : ∀ i, i < sl.length → listed.getD i false = true) : (runTo sl es s₀ sl.length).H.part HS := by
  have hm := I.mle
  have hkk := D.kconst (i := m) (d := sl.length - m) (by omega) fun j y h1 h2 hy hky => by
    have := (I.acts j y hy hky).1 (hall j (by omega))
    omega
  rw [show m + (sl.length - m) = sl.length from by omega] at hkk
  obtain ⟨Hb, g1, g2, g3, g4⟩ := I.hb
  obtain ⟨c1, c2, c3⟩ := D.canon (Nat.le_refl _) Hb (by rw [hkk]; exact g1)
  refine ⟨c1.trans g2.symm, fun b o₁ hb => ?_⟩
  by_cases hnew : ∃ j o, j < sl.length ∧ isNw es j o ∧ (runTo sl es s₀ j).p.k = (runTo sl es s₀ sl.length).p.k ∧ b = s₀.p.base + j
  · obtain ⟨j, o, hj, hnw, hjk, rfl⟩ := hnew
    rw [c2 j o hj hnw hjk] at hb
    cases hb
    exact (g3 j _ (hall j hj) hnw (by omega)).1
  · rw [c3 b fun j o hj hnw hjk e => hnew ⟨j, o, hj, hnw, hjk, e⟩] at hb
    rw [g4 b fun j o hlj hnw hjk e => by
      subst e
      rw [(g3 j o hlj hnw hjk).2] at hb
      cases hb]
    exact hb

theorem Nxt0.forget {μ μ' : Map} {H₀ H K : AHeap} {w w' : World} (h : Nxt0 G μ H₀ w μ' H w') (hp : K.part H) : Nxt0 G μ H₀ w μ' K w' :=
  { le := h.le, rel := h.rel.forget hp, size := h.size, frame := h.frame, new := fun b o c n hb => h.new b o c n (hp.2 _ _ hb), next := by rw [hp.1]; exact h.next, os := h.os, output := h.output }

/-- the region has come to its end -/
theorem Inv.fin_post (D : Draw E G ro ops sl es s₀) (I : Inv G sl es s₀ ds sz μ₀ H₀ w₀ m listed a w μ HS) (hbase : s₀.p.base = H₀.next) (hall : ∀ i, i < sl.length → listed.getD i false = true) :
    StPost G μ₀ H₀ w₀ sz (.st .normal (runTo sl es s₀ sl.length).τ ds (runTo sl es s₀ sl.length).H) .normal a w :=
  ⟨μ, { I.nxt.forget (I.end_part D hall) with keep := fun b hb => I.keep b (by rw [hbase]; exact hb) }, .normal, I.end_tmps D hall, I.defers, I.tsize⟩

theorem forget_get : ∀ {l : List Oper} {τ : Tr AVal} {d : Nat} {v : AVal}, (forgetDsts l τ).get d = some v → v = aundef ∨ ((∀ o ∈ l, o.dst ≠ some d) ∧ τ.get d = some v) := by
  intro l
  induction l with
  | nil => intro τ d v h; exact .inr ⟨fun o ho => by simp at ho, h⟩
  | cons o l ih =>
    intro τ d v h
    rcases ih (τ := putA τ o.dst aundef) h with h | ⟨h1, h2⟩
    · exact .inl h
    · cases hd : o.dst with
      | none =>
        rw [hd] at h2
        refine .inr ⟨fun o' ho' => ?_, h2⟩
        rcases List.mem_cons.1 ho' with rfl | ho'
        · rw [hd]; simp
        · exact h1 o' ho'
      | some d' =>
        rw [hd] at h2
        simp only [putA] at h2
        rw [Tr.get_set] at h2
        by_cases e : d = d'
        · rw [if_pos e] at h2
          cases h2
          exact .inl rfl
        · rw [if_neg e] at h2
          refine .inr ⟨fun o' ho' => ?_, h2⟩
          rcases List.mem_cons.1 ho' with rfl | ho'
          · rw [hd]; intro e'; cases e'; exact e rfl
          · exact h1 o' ho'

/-- an act has panicked -/
theorem Inv.pan_post (D : Draw E G ro ops sl es s₀) (I : Inv G sl es s₀ ds sz μ₀ H₀ w₀ m listed a w μ HS) (hbase : s₀.p.base = H₀.next) (_hle : H₀.next ≤ s₀.H.next) {i : Nat} {x : Slot} (hx : sl[i]? = some x) (hun : listed.getD i false = false)
    (hbef : ∀ j, x.before.testBit j = true → listed.getD j false = true) (hk : x.kind = .act) {ch : Chain} {H' : AHeap} {es' : List PanicEntry} {μ' : Map} {w' : World} (hn : Nxt G μ (runTo sl es s₀ i).H w μ' H' w') (hc : CRel G.I μ' ch es') :
    StPost G μ₀ H₀ w₀ sz (.st (.pan ch) (forgetDsts ops.toList s₀.τ) ds H') (.panic es') a w' := by
  obtain ⟨hpart, _⟩ := I.act_part D hx hun hbef hk
  have h0 := (I.nxt.forget hpart)
  refine ⟨μ', { h0.trans hn.toNxt0 with keep := fun b hb => (hn.keep b (Nat.lt_of_lt_of_le hb h0.next)).trans (I.keep b (by rw [hbase]; exact hb)) }, .pan hc, fun d v hv => ?_, I.defers.mono hn.le, I.tsize⟩
  rcases forget_get hv with rfl | ⟨h1, h2⟩
  · exact .top _
  · refine (I.old d v (fun j y _ hy hdst => ?_) h2).mono hn.le
    have ho := (D.st.slot j y hy).1
    rw [← Array.getElem?_toList] at ho
    exact h1 _ (List.mem_of_getElem? ho) hdst

end Go.Ab
/- Regions whose order is open, 18: the beginning; the whole. -/
namespace Go.Ab

variable {E : Env} {G : Ground} {ro ro' : Option Nat} {ops : Array Oper} {sl : List Slot} {es : List Evt}

/-- numbers are kept free -/
def AHeap.reserve (H : AHeap) (n : Nat) : AHeap := ⟨Nat.add H.next n, H.objs⟩

theorem reserve_get (H : AHeap) (n b : Nat) : (H.reserve n).get b = H.get b := rfl

theorem Nxt.reserve {μ : Map} {H : AHeap} {w : World} (h : WRel G μ H w) (n : Nat) : Nxt G μ H w μ (H.reserve n) w where
  le := Map.le_refl μ
  rel := { live := fun b o hb => by
             obtain ⟨h1, h2⟩ := h.live b o hb
             exact ⟨Nat.lt_of_lt_of_le h1 (Nat.le_add_right _ _), h2⟩
           inj := h.inj
           dom := fun b hb => h.dom b (Nat.le_trans (Nat.le_add_right _ _) hb)
           glob := h.glob
           globNext := Nat.le_trans h.globNext (Nat.le_add_right _ _)
           base := h.base }
  size := Nat.le_refl _
  frame := fun _ _ _ => rfl
  new := fun b o c n hb hc => .inr ⟨b, o, n, hb, hc, id⟩
  next := Nat.le_add_right _ _
  os := rfl
  output := rfl
  keep := fun _ _ => rfl

theorem getD_replicate (n i : Nat) : (Array.replicate n false).getD i false = false := by
  rw [Array.getD_eq_getD_getElem?, Array.getElem?_replicate]
  split <;> rfl

/-- nothing has been carried out yet -/
theorem Inv.start {s₀ : St} {ds : List ADef} {μ : Map} {H : AHeap} {w w₁ : World} {a : Act} (D : Draw E G ro ops sl es s₀) (hw : WRel G μ H w) (hh : w₁.heap = w.heap) (h1 : w₁.os = w.os) (h2 : w₁.output = w.output)
    (hH : s₀.H = H.reserve sl.length) (hbase : s₀.p.base = H.next) (ht : TRel G.I μ s₀.τ a.tmps) (hd : DsRel G.I μ ds a.defers) :
    Inv G sl es s₀ ds a.tmps.size μ H w 0 (Array.replicate sl.length false) a w₁ μ s₀.H where
  lsz := by simp
  closed := fun i x _ h => by rw [getD_replicate] at h; cases h
  alive := fun i e h => by rw [getD_replicate] at h; cases h
  mle := Nat.zero_le _
  acts := fun i x _ _ => by rw [getD_replicate]; simp
  nxt := by rw [hH]; exact ((Nxt.same hw hh h1 h2).trans (Nxt.reserve (hw.of_heap hh) _)).toNxt0
  keep := fun _ _ => rfl
  hb := by
    obtain ⟨Hb, q1, q2⟩ := D.heapAt (i := 0) (Nat.zero_le _)
    have : Hb = s₀.H := by
      rw [runTo_zero, D.hs, D.k] at q1
      cases q1
      rfl
    subst this
    exact ⟨_, q2, rfl, fun j o h => (by rw [getD_replicate] at h; cases h), fun b _ => rfl⟩
  fresh := fun j o _ _ => hw.dom _ (by omega)
  bnd := by rw [hH, hbase]; exact Nat.le_refl _
  tmps := fun i x e v d h => by rw [getD_replicate] at h; cases h
  old := fun d v _ h => ht d v h
  tsize := rfl
  defers := hd

end Go.Ab
/- Regions whose order is open, 19: the whole. -/
namespace Go.Ab

variable {E : Env} {G : Ground} {ro : Option Nat} {ops : Array Oper}

theorem bif_some {α : Type} {a : Bool} {x : Option α} {y : α} (h : (bif a then x else none) = some y) : a = true ∧ x = some y := by
  cases a with
  | true => exact ⟨rfl, h⟩
  | false => cases h

theorem opsIn_mem {n : Nat} : ∀ {l : List Oper}, opsIn n l = true → ∀ {o : Oper}, o ∈ l → ∀ {d : Nat}, o.dst = some d → d < n := by
  intro l
  induction l with
  | nil => intro _ o ho; simp at ho
  | cons o' l ih =>
    intro h o ho d hd
    obtain ⟨h1, h2⟩ := opsIn_cons h
    rcases List.mem_cons.1 ho with rfl | ho
    · exact h1 d hd
    · exact ih h2 ho hd

theorem wpIn_region_of_draw (hT : Told E G) (hmix : E.P.follows .mixedOrders = true) {sl : List Slot} {es : List Evt} {s₀ : St} (D : Draw E G ro ops sl es s₀) {τ : Tr AVal} {ds : List ADef} {H : AHeap} {out : Out}
    (hτ : s₀.τ = τ) (htau : s₀.p.tau = τ) (hH : s₀.H = H.reserve sl.length) (hbase : s₀.p.base = H.next)
    (hend : drawEnd E ops (runTo sl es s₀ sl.length).τ ds (runTo sl es s₀ sl.length).H (runTo sl es s₀ sl.length).p = some out) : DrawSound E G ro ops τ ds H out := by
  intro n id μ w a ro' hw hro ht hd hin
  unfold drawEnd at hend
  obtain ⟨hch, hend⟩ := bif_some hend
  have hdst : ∀ (i : Nat) (x : Slot) (d : Nat), sl[i]? = some x → x.oper.dst = some d → d < a.tmps.size := fun i x d hx hd => by
    have ho := (D.st.slot i x hx).1
    rw [← Array.getElem?_toList] at ho
    exact opsIn_mem hin (List.mem_of_getElem? ho) hd
  refine CodeOk.of_wp (fun _ e => by cases e) (wpIn_region_any hmix ?_)
  have hst := Inv.start (w₁ := { w with drawn := w.drawn + 1 }) (a := a) (ds := ds) D hw rfl rfl rfl hH hbase (by rw [hτ]; exact ht) hd
  rw [← D.st.len]
  refine any_sound hT D hro hch hdst (fun m listed a' w' μ' HS I hall => ?_) (fun m listed a' w' μ' HS I i x ch H' es' μ'' w'' hx hun hbef he hn hc => ?_) _ _ _ _ _ _ _ hst ?_
  · cases hdd : (runTo sl es s₀ sl.length).p.dead with
    | none =>
      rw [hdd] at hend
      cases hend
      exact I.fin_post D hbase hall
    | some q =>
      obtain ⟨d, ch, H'⟩ := q
      obtain ⟨hlt, he⟩ := D.dead_from (Nat.le_refl _) d ch H' hdd
      obtain ⟨v, hv⟩ := I.alive d _ (hall d hlt) he
      cases hv
  · have hi := (List.getElem?_eq_some_iff.1 hx).1
    rw [D.dead_pers he hi (Nat.le_refl _)] at hend
    cases hend
    obtain ⟨x', e, hx', he', _, hok, _⟩ := D.get hi
    rw [hx] at hx'
    cases hx'
    rw [he] at he'
    cases he'
    have := I.pan_post D hbase (by rw [hH]; exact Nat.le_add_right _ _) hx hun hbef (hok.wanted (by simp)).2.2.1 hn hc
    rw [(D.base (Nat.le_refl _)).2, htau, ← hτ]
    exact this
  · unfold unlisted
    refine Nat.le_trans (List.length_filter_le _ _) ?_
    simp

end Go.Ab
/- What the evaluator's answers say of the model's runs: the whole. -/
namespace Go.Ab

variable {E : Env} {G : Ground}

/-- what is to be shown of a task's answer -/
def Sound (E : Env) (G : Ground) (n : Nat) (t : Task) (o : Out) : Prop :=
  match t with
  | .code ro c τ ds H => CodeSound E G n ro c τ ds H o
  | .codeS c τ ds H m => CodeSSound E G c τ ds H m o
  | .ops ro all l τ ds H => OpsSound E G ro all l τ ds H o
  | .opsS all l τ ds H m => OpsSSound E G all l τ ds H m o
  | .draw ro all l τ ds H p => DrawS E G ro all l ds ⟨τ, H, p⟩ o
  | .call f args H => CallSound E G f args H o
  | .callD f args m H => CallDSound E G f args m H o
  | .round l args H => RoundSound E G l args H o
  | .leave fn τ ds m H => LeaveSound E G fn τ ds m H o

theorem CodeSound.zero {ro : Option Nat} {c : Code} {τ : Tr AVal} {ds : List ADef} {H : AHeap} {o : Out} {n : Nat} (h : CodeSound E G n ro c τ ds H o) : CodeSound E G n ro c τ ds H o := h

theorem opsNil_sound {ro : Option Nat} {all : Array Oper} {τ : Tr AVal} {ds : List ADef} {H : AHeap} : OpsSound E G ro all [] τ ds H (.st .normal τ ds H) :=
  fun μ _w _a _ro' _i hw _hro ht hd _ _ => ⟨μ, Nxt.refl hw, .normal, ht, hd, rfl⟩

theorem opsSNil_sound {all : Array Oper} {τ : Tr AVal} {ds : List ADef} {H : AHeap} {m : Option Chain} : OpsSSound E G all [] τ ds H m (.sts .normal τ ds H m) :=
  fun μ _w _a c₀ _cs _i hw ht hd _ _ hm => ⟨μ, c₀.mode, rfl, Nxt.refl hw, .normal, ht, hd, rfl, hm⟩

theorem ev_sound (hT : Told E G) (hmix : E.P.follows .mixedOrders = true) : ∀ (n : Nat) (t : Task) (o : Out), ev E n t = some o → Sound E G n t o := by
  intro n
  induction n with
  | zero => intro t o h; cases h
  | succ n ih =>
    intro t o h
    have h : evStep E (ev E n) t = some o := h
    have hCode : ∀ ro c τ ds H o, ev E n (.code ro c τ ds H) = some o → CodeSound E G n ro c τ ds H o := fun ro c τ ds H o h => ih _ _ h
    have hCodeS : ∀ c τ ds H m o, ev E n (.codeS c τ ds H m) = some o → CodeSSound E G c τ ds H m o := fun c τ ds H m o h => ih _ _ h
    have hOps : ∀ ro all l τ ds H o, ev E n (.ops ro all l τ ds H) = some o → OpsSound E G ro all l τ ds H o := fun ro all l τ ds H o h => ih _ _ h
    have hOpsS : ∀ all l τ ds H m o, ev E n (.opsS all l τ ds H m) = some o → OpsSSound E G all l τ ds H m o := fun all l τ ds H m o h => ih _ _ h
    have hCall : ∀ f args H o, ev E n (.call f args H) = some o → CallSound E G f args H o := fun f args H o h => ih _ _ h
    have hCallD : ∀ f args m H o, ev E n (.callD f args m H) = some o → CallDSound E G f args m H o := fun f args m H o h => ih _ _ h
    have hRound : ∀ l args H o, ev E n (.round l args H) = some o → RoundSound E G l args H o := fun l args H o h => ih _ _ h
    have hLeave : ∀ fn τ ds m H o, ev E n (.leave fn τ ds m H) = some o → LeaveSound E G fn τ ds m H o := fun fn τ ds m H o h => ih _ _ h
    have hDr : ∀ ro all ds l τ H p o, ev E n (.draw ro all l τ ds H p) = some o → DrawS E G ro all l ds ⟨τ, H, p⟩ o := fun ro all ds l τ H p o h => ih _ _ h
    have hDraw : ∀ ro ops τ ds H o, regionDraw (ev E n) ro ops τ ds H (slots E ops) = some o → DrawSound E G ro ops τ ds H o := fun ro ops τ ds H o h => by
      unfold regionDraw at h
      split at h
      · rename_i sl hsl
        obtain ⟨es, hes, hend⟩ := hDr _ _ _ _ _ _ _ _ h
        rw [fin_eq hes] at hend
        have hst := static_of_slots hsl
        exact wpIn_region_of_draw hT hmix { st := hst, ok := hes, hs := rfl, k := rfl, dead := rfl, reads := rfl } rfl rfl (by rw [hst.len]; rfl) rfl hend
      · cases h
    cases t with
    | code ro c τ ds H => exact codeStep_sound hT hCode hOps hCall hDraw h
    | codeS c τ ds H m => exact codeSStep_sound hT hCode hCodeS hOpsS h
    | ops ro all l τ ds H => cases l with
      | nil => cases h; exact opsNil_sound
      | cons x l => exact opsStep_sound hT hOps hCall hRound h
    | opsS all l τ ds H m => cases l with
      | nil => cases h; exact opsSNil_sound
      | cons x l => exact opsSStep_sound hT hOpsS h
    | draw ro all l τ ds H p => cases l with
      | nil => exact ⟨[], trivial, h⟩
      | cons x l => exact drawStep_sound hT hCall hRound (fun l τ H p o h => hDr _ _ _ _ _ _ _ _ h) h
    | call f args H => exact callStep_sound hT hCode hLeave h
    | callD f args m H => exact callDStep_sound hT hCodeS h
    | round l args H => exact roundStep_sound hCode h
    | leave fn τ ds m H => exact leaveStep_sound hLeave hCallD h

end Go.Ab
/- Contracts of other makes as answers: what was there lies as it lay. -/
namespace Go.Ab

/-- of what was there nothing has turned -/
structure Keeps (w w' : World) : Prop where
  os : w'.os = w.os
  output : w'.output = w.output
  size : w.heap.size ≤ w'.heap.size
  block : ∀ k, k < w.heap.size → w'.heap[k]? = w.heap[k]?

theorem Keeps.refl (w : World) : Keeps w w := ⟨rfl, rfl, Nat.le_refl _, fun _ _ => rfl⟩
theorem Keeps.trans {a b c : World} (h : Keeps a b) (h' : Keeps b c) : Keeps a c :=
  ⟨h'.os.trans h.os, h'.output.trans h.output, Nat.le_trans h.size h'.size, fun k hk => (h'.block k (Nat.lt_of_lt_of_le hk h.size)).trans (h.block k hk)⟩

theorem getElem?_lt {α : Type} {a : Array α} {i : Nat} {x : α} (h : a[i]? = some x) : i < a.size := by
  rcases Nat.lt_or_ge i a.size with h' | h'
  · exact h'
  · rw [Array.getElem?_eq_none h'] at h; cases h

theorem WRel.ext {G : Ground} {μ : Map} {H : AHeap} {w w' : World} (h : WRel G μ H w) (e : Keeps w w') : WRel G μ H w' where
  live := fun b o hb => by
    obtain ⟨h1, c, n, o', h2, h3, h4⟩ := h.live b o hb
    exact ⟨h1, c, n, o', h2, by rw [e.block c (getElem?_lt h3)]; exact h3, h4⟩
  inj := h.inj
  dom := h.dom
  glob := h.glob
  globNext := h.globNext
  base := Nat.le_trans h.base e.size

theorem Nxt.ext {G : Ground} {μ : Map} {H : AHeap} {w w' : World} (h : WRel G μ H w) (e : Keeps w w') : Nxt G μ H w μ H w' where
  le := Map.le_refl μ
  rel := h.ext e
  size := e.size
  frame := fun c hc _ => e.block c hc
  new := fun b o _ n hb hc => .inr ⟨b, o, n, hb, hc, id⟩
  next := Nat.le_refl _
  os := e.os
  output := e.output
  keep := fun _ _ => rfl

theorem callPost_of_ext {G : Ground} {μ : Map} {H : AHeap} {w w' : World} {v : AVal} {v' : Value} (h : WRel G μ H w) (e : Keeps w w') (hv : VRel G.I μ v v') : CallPost G μ H w (.val v H) (.returned v') w' :=
  ⟨μ, Nxt.ext h e, hv⟩

theorem callOk_of_calls {P : Program} {f : Nat} {fn : Func} {c : Code} (hf : P.funcs[f]? = some fn) (hb : fn.body = some c) (hn : (fn.name == "runtime.NumGoroutine") = false) {args : Array Value} {w : World} {R R' : Ending → World → Prop}
    (h : Calls P f args w R) (hr : ∀ e w', R e w' → R' e w') : CallOk P f args w R' :=
  .inr ⟨run_callFunc_body hf hb hn args w, callsIn_wide.2 (h.mono hr)⟩

end Go.Ab
/- A closed call's answer, in another memory: the numbers of blocks turned. -/
namespace Go.Ab

def renF (ρ : Nat → Nat) : Fn → Fn
  | .yield l => .yield (ρ l)
  | fn => fn

mutual
def renV (ρ : Nat → Nat) : AVal → AVal
  | .ptr b o => .ptr (ρ b) o
  | .slice b o l c e s => .slice (ρ b) o l c e s
  | .map r => .map (ρ r)
  | .func fn a b => .func (renF ρ fn) (renVs ρ a) (renVs ρ b)
  | .iface t v => .iface t (renV ρ v)
  | .agg cs => .agg (renVs ρ cs)
  | .tuple cs => .tuple (renVs ρ cs)
  | .bool b => .bool b
  | .int k n => .int k n
  | .isym s => .isym s
  | .str s => .str s
  | .nilptr => .nilptr
  | .nilslice => .nilslice
  | .nilmap => .nilmap
  | .nilFunc => .nilFunc
  | .nilIface => .nilIface
def renVs (ρ : Nat → Nat) : List AVal → List AVal
  | [] => []
  | x :: xs => renV ρ x :: renVs ρ xs
end

theorem renVs_length (ρ : Nat → Nat) : ∀ l : List AVal, (renVs ρ l).length = l.length
  | [] => rfl
  | _ :: l => by simp [renVs, renVs_length ρ l]

variable {I : Interp} {μ μ' : Map} {ρ : Nat → Nat}

mutual
theorem VRel.ren (h : ∀ b x, μ b = some x → μ' (ρ b) = some x) : ∀ {v : AVal} {y : Value}, VRel I μ v y → VRel I μ' (renV ρ v) y
  | _, _, .top y => .top y
  | _, _, .undef => .undef
  | _, _, .bool b => .bool b
  | _, _, .int k n => .int k n
  | _, _, .isym s => .isym s
  | _, _, .str s b e => .str s b e
  | _, _, .nilptr => .nilptr
  | _, _, .ptr b o c n e => .ptr (ρ b) o c n (h _ _ e)
  | _, _, .nilslice => .nilslice
  | _, _, .slice b o len cap exact esz c n off cap' e hl hc he hb => .slice (ρ b) o len cap exact esz c n off cap' (h _ _ e) hl hc he hb
  | _, _, .nilmap => .nilmap
  | _, _, .map r c n e => .map (ρ r) c n (h _ _ e)
  | _, _, .func fn fn' a b a' b' hf ha hb => .func (renF ρ fn) fn' (renVs ρ a) (renVs ρ b) a' b' (by cases hf with | func f => exact .func f | yield e => exact .yield (h _ _ e)) (VsRel.ren h ha) (VsRel.ren h hb)
  | _, _, .nilFunc => .nilFunc
  | _, _, .iface t v v' e => .iface t (renV ρ v) v' (VRel.ren h e)
  | _, _, .nilIface => .nilIface
  | _, _, .agg a a' e => .agg (renVs ρ a) a' (VsRel.ren h e)
  | _, _, .tuple a a' e => .tuple (renVs ρ a) a' (VsRel.ren h e)
theorem VsRel.ren (h : ∀ b x, μ b = some x → μ' (ρ b) = some x) : ∀ {v : List AVal} {y : List Value}, VsRel I μ v y → VsRel I μ' (renVs ρ v) y
  | _, _, .nil => .nil
  | _, _, .cons e es => .cons (VRel.ren h e) (VsRel.ren h es)
end

/-- which blocks a value names -/
def closedF (n : Nat) : Fn → Bool
  | .yield l => Nat.ble (Nat.succ l) n
  | _ => true

mutual
def closedV (n : Nat) : AVal → Bool
  | .ptr b _ => Nat.ble (Nat.succ b) n
  | .slice b _ _ _ _ _ => Nat.ble (Nat.succ b) n
  | .map r => Nat.ble (Nat.succ r) n
  | .func fn a b => closedF n fn && closedVs n a && closedVs n b
  | .iface _ v => closedV n v
  | .agg cs => closedVs n cs
  | .tuple cs => closedVs n cs
  | _ => true
def closedVs (n : Nat) : List AVal → Bool
  | [] => true
  | x :: xs => closedV n x && closedVs n xs
end

theorem VRel.tuple_cases {l : List AVal} {y : Value} (hn : l ≠ []) (r : VRel I μ (.tuple l) y) : (l = [.tuple []] ∧ y = Go.undef) ∨ ∃ a', y = .tuple a' ∧ VsRel I μ l a'.toList := by
  cases r with
  | top => exact absurd rfl hn
  | undef => exact .inl ⟨rfl, rfl⟩
  | tuple _ a' e => exact .inr ⟨a', rfl, e⟩

mutual
theorem VRel.unren {n : Nat} (h : ∀ b x, b < n → μ' (ρ b) = some x → μ b = some x) : ∀ {v : AVal} {y : Value}, closedV n v = true → VRel I μ' (renV ρ v) y → VRel I μ v y := by
  intro v y hc r
  cases v with
  | ptr b o =>
    simp only [closedV] at hc
    simp only [renV] at r
    cases r with | ptr _ _ c m e => exact .ptr b o c m (h _ _ (Nat.le_of_ble_eq_true hc) e)
  | slice b o l c e s =>
    simp only [closedV] at hc
    simp only [renV] at r
    cases r with | slice _ _ _ _ _ _ c' m off cap' e' hl hc' he hb => exact .slice b o l c e s c' m off cap' (h _ _ (Nat.le_of_ble_eq_true hc) e') hl hc' he hb
  | map b =>
    simp only [closedV] at hc
    simp only [renV] at r
    cases r with | map _ c m e => exact .map b c m (h _ _ (Nat.le_of_ble_eq_true hc) e)
  | func fn a b =>
    simp only [closedV, Bool.and_eq_true] at hc
    simp only [renV] at r
    cases r with
    | func _ fn' _ _ a' b' hf ha hb =>
      refine .func fn fn' a b a' b' ?_ (VsRel.unren h hc.1.2 ha) (VsRel.unren h hc.2 hb)
      cases fn with
      | func f => cases hf with | func f => exact .func f
      | yield l => simp only [closedF] at hc; cases hf with | yield e => exact .yield (h _ _ (Nat.le_of_ble_eq_true hc.1.1) e)
      | _ => simp only [renF] at hf; cases hf
  | iface t v =>
    simp only [closedV] at hc
    simp only [renV] at r
    cases r with | iface _ _ v' e => exact .iface t v v' (VRel.unren h hc e)
  | agg cs =>
    simp only [closedV] at hc
    simp only [renV] at r
    cases r with | agg _ a' e => exact .agg cs a' (VsRel.unren h hc e)
  | tuple cs =>
    simp only [closedV] at hc
    simp only [renV] at r
    cases cs with
    | nil => exact .top y
    | cons x xs =>
      rcases VRel.tuple_cases (by simp only [renVs]; intro h; cases h) r with ⟨he, hy⟩ | ⟨a', hy, e⟩
      · subst hy
        have hx : x = .tuple [] ∧ xs = [] := by
          simp only [renVs] at he
          injection he with h1 h2
          cases xs with
          | nil =>
            refine ⟨?_, rfl⟩
            cases x with
            | tuple l => cases l with
              | nil => rfl
              | cons y l => simp only [renV, renVs] at h1; injection h1 with h1; cases h1
            | _ => simp only [renV] at h1; cases h1
          | cons y l => simp only [renVs] at h2; cases h2
        rw [hx.1, hx.2]
        exact .undef
      · subst hy
        exact .tuple _ a' (VsRel.unren (v := x :: xs) h hc e)
  | bool b => simp only [renV] at r; cases r; exact .bool b
  | int k m => simp only [renV] at r; cases r; exact .int k m
  | isym s => simp only [renV] at r; cases r; exact .isym s
  | str s => simp only [renV] at r; cases r with | str _ b e => exact .str s b e
  | nilptr => simp only [renV] at r; cases r; exact .nilptr
  | nilslice => simp only [renV] at r; cases r; exact .nilslice
  | nilmap => simp only [renV] at r; cases r; exact .nilmap
  | nilFunc => simp only [renV] at r; cases r; exact .nilFunc
  | nilIface => simp only [renV] at r; cases r; exact .nilIface
theorem VsRel.unren {n : Nat} (h : ∀ b x, b < n → μ' (ρ b) = some x → μ b = some x) : ∀ {v : List AVal} {y : List Value}, closedVs n v = true → VsRel I μ' (renVs ρ v) y → VsRel I μ v y := by
  intro v y hc r
  cases v with
  | nil => simp only [renVs] at r; cases r; exact .nil
  | cons x xs =>
    simp only [closedVs, Bool.and_eq_true] at hc
    simp only [renVs] at r
    cases r with | cons e es => exact .cons (VRel.unren h hc.1 e) (VsRel.unren h hc.2 es)
end

end Go.Ab
/- A closed call's answer, in another memory: the theorem. -/
namespace Go.Ab

variable {E : Env} {G : Ground}

theorem CallOk.mono {P : Program} {f : FuncId} {args : Array Value} {w : World} {R R' : Ending → World → Prop} (h : CallOk P f args w R) (hr : ∀ e w', R e w' → R' e w') : CallOk P f args w R' := by
  rcases h with ⟨v, w', h1, h2⟩ | ⟨h1, h2⟩
  · exact .inl ⟨v, w', h1, hr _ _ h2⟩
  · exact .inr ⟨h1, callsIn_wide.2 ((callsIn_wide.1 h2).mono hr)⟩

def renE (ρ : Nat → Nat) : List (AVal × AVal × Nat) → List (AVal × AVal × Nat)
  | [] => []
  | (k, v, b) :: es => (renV ρ k, renV ρ v, b) :: renE ρ es

theorem EsRel.ren {I : Interp} {μ μ' : Map} {ρ : Nat → Nat} (h : ∀ b x, μ b = some x → μ' (ρ b) = some x) {es : List (AVal × AVal × Nat)} {es' : List MapEntry} (r : EsRel I μ es es') : EsRel I μ' (renE ρ es) es' := by
  induction r with
  | nil => exact .nil
  | cons hk hv hb _ ih => exact .cons (hk.ren h) (hv.ren h) hb ih

/-- an object with its blocks' numbers turned: rows and maps -/
def renO (ρ : Nat → Nat) : AObj → AObj
  | .cells cs e fz => .cells (renVs ρ cs) e fz
  | .map es clock => .map (renE ρ es) clock
  | o => o

def plainO : AObj → Bool
  | .cells _ _ .ro => false
  | .cells _ _ _ => true
  | .map _ _ => true
  | _ => false

theorem ORel.ren {I : Interp} {μ μ' : Map} {ρ : Nat → Nat} (h : ∀ b x, μ b = some x → μ' (ρ b) = some x) {o : AObj} {n : Nat} {o' : Obj} (hp : plainO o = true) (r : ORel I μ o n o') : ORel I μ' (renO ρ o) n o' := by
  cases r with
  | cells cs e fz n c fr hn hc hz =>
    refine .cells _ e fz n c fr hn ⟨?_, ?_⟩ hz
    · rw [renVs_length]; exact hc.1
    · rw [renVs_length]; exact hc.2.ren h
  | map es clock n es' he => exact .map _ clock n es' (he.ren h)
  | _ => simp [plainO] at hp

theorem renO_notRo {ρ : Nat → Nat} {o : AObj} (h : plainO o = true) : (renO ρ o).isRo = false := by
  cases o with
  | cells cs e fz => cases fz <;> first | rfl | simp [plainO] at h
  | map es c => rfl
  | _ => simp [plainO] at h

/-- new objects laid -/
noncomputable def putAll (ρ : Nat → Nat) : List (Nat × AObj) → Tr AObj → Tr AObj
  | [], t => t
  | (b, o) :: l, t => putAll ρ l (t.set (some (renO ρ o)) (Nat.succ (ρ b)) (ρ b))

theorem putAll_get {ρ : Nat → Nat} {l : List (Nat × AObj)} : ∀ {t : Tr AObj} {x : Nat} {o : AObj}, (putAll ρ l t).get x = some o → (∃ b o₀, (b, o₀) ∈ l ∧ x = ρ b ∧ o = renO ρ o₀) ∨ t.get x = some o := by
  induction l with
  | nil => intro t x o h; exact .inr h
  | cons p l ih =>
    intro t x o h
    obtain ⟨b, o₀⟩ := p
    rcases ih h with ⟨b', o', hm, hx, ho⟩ | h'
    · exact .inl ⟨b', o', List.mem_cons_of_mem _ hm, hx, ho⟩
    · rw [Tr.get_set] at h'
      split at h'
      · cases h'; rename_i e; exact .inl ⟨b, o₀, List.mem_cons_self .., e, rfl⟩
      · exact .inr h'

/-- the numbers of a closed call's blocks in another memory -/
def into (ρ : Nat → Nat) (n₀ base : Nat) (b : Nat) : Nat := bif Nat.ble (Nat.succ b) n₀ then ρ b else Nat.add base (Nat.sub b n₀)

theorem into_old {ρ : Nat → Nat} {n₀ base b : Nat} (h : b < n₀) : into ρ n₀ base b = ρ b := by
  unfold into; rw [Nat.ble_eq_true_of_le h]; rfl
theorem into_new {ρ : Nat → Nat} {n₀ base b : Nat} (h : n₀ ≤ b) : into ρ n₀ base b = base + (b - n₀) := by
  unfold into
  have : Nat.ble (Nat.succ b) n₀ = false := by
    cases hx : Nat.ble (Nat.succ b) n₀ with
    | false => rfl
    | true => have := Nat.le_of_ble_eq_true hx; omega
  rw [this]; rfl

theorem ren_contract (hT : Told E G) (hmix : E.P.follows .mixedOrders = true) {n f : Nat} {args₀ : List AVal} {H₀ H₁ : AHeap} {v₀ : AVal} (hev : ev E n (.call f args₀ H₀) = some (.val v₀ H₁))
    {ρ : Nat → Nat} {H : AHeap}
    (hobj : ∀ b o, H₀.get b = some o → b < H₀.next ∧ ∃ cs e fz, o = .cells cs e .ro ∧ closedVs H₀.next cs = true ∧ H.get (ρ b) = some (.cells (renVs ρ cs) e fz))
    (hinj : ∀ b b' o o', H₀.get b = some o → H₀.get b' = some o' → ρ b = ρ b' → b = b')
    (hglob : ∀ g, g < G.globals → ρ g = g) (hgn : G.globals ≤ H₀.next)
    (hclosed : closedVs H₀.next args₀ = true)
    {objs : List (Nat × AObj)} (hobjs : ∀ b o, (b, o) ∈ objs → H₁.get b = some o ∧ H₀.next ≤ b ∧ plainO o = true) {top : Nat} (htop : H₁.next ≤ top) (htop0 : H₀.next ≤ top) :
    ∀ μ w args', WRel G μ H w → VsRel G.I μ (renVs ρ args₀) args'.toList →
      CallOk E.P f args' w (CallPost G μ H w (.val (renV (into ρ H₀.next H.next) v₀) ⟨H.next + (top - H₀.next), putAll (into ρ H₀.next H.next) objs H.objs⟩)) := by
  intro μ w args' hw ha
  let μ₀ : Map := fun b => if b < H₀.next then μ (ρ b) else none
  have hμ₀ : ∀ b x, b < H₀.next → μ (ρ b) = some x → μ₀ b = some x := fun b x hb hx => by simp [μ₀, hb, hx]
  have hw₀ : WRel G μ₀ H₀ w := by
    refine ⟨?_, ?_, ?_, ?_, hgn, hw.base⟩
    · intro b o hb
      obtain ⟨hlt, cs, e, fz, rfl, hcl, hH⟩ := hobj b o hb
      obtain ⟨_, c, m, o', hm, hc, ho, _⟩ := hw.live _ _ hH
      refine ⟨hlt, c, m, o', hμ₀ _ _ hlt hm, hc, ?_, .inl rfl⟩
      cases ho with
      | cells _ _ _ _ c' fr hn hp hz =>
        refine .cells cs e .ro m c' fr hn ⟨?_, ?_⟩ trivial
        · have := hp.1; rwa [renVs_length] at this
        · have := hp.2
          rw [renVs_length] at this
          exact this.unren hμ₀ hcl
    · intro b b' o o' c m m' hb hb' hm hm'
      obtain ⟨hlt, _, _, _, _, _, hH⟩ := hobj b o hb
      obtain ⟨hlt', _, _, _, _, _, hH'⟩ := hobj b' o' hb'
      simp only [μ₀, hlt, hlt', if_true] at hm hm'
      exact hinj b b' o o' hb hb' (hw.inj _ _ _ _ _ _ _ hH hH' hm hm')
    · intro b hb
      simp only [μ₀]
      rw [if_neg (by omega)]
    · intro g hg
      obtain ⟨m, hm⟩ := hw.glob g hg
      exact ⟨m, hμ₀ _ _ (by omega) (by rw [hglob g hg]; exact hm)⟩
  have ha₀ : VsRel G.I μ₀ args₀ args'.toList := ha.unren hμ₀ hclosed
  have hs : CallSound E G f args₀ H₀ (.val v₀ H₁) := ev_sound hT hmix n _ _ hev
  refine (hs μ₀ w args' hw₀ ha₀).mono fun e w' hpost => ?_
  cases e with
  | returned v' =>
    obtain ⟨μ₁, hx, hv⟩ := hpost
    let μ' : Map := fun x => if x < H.next then μ x else μ₁ (H₀.next + (x - H.next))
    have hkey : ∀ b x, μ₁ b = some x → μ' (into ρ H₀.next H.next b) = some x := by
      intro b x hb
      by_cases hlt : b < H₀.next
      · rw [into_old hlt]
        have h1 := hx.keep b hlt
        rw [hb] at h1
        have h2 : μ (ρ b) = some x := by simpa [μ₀, hlt] using h1.symm
        have h3 : ρ b < H.next := by
          rcases Nat.lt_or_ge (ρ b) H.next with h | h
          · exact h
          · rw [hw.dom _ h] at h2; cases h2
        simp only [μ', h3, if_true]
        exact h2
      · rw [into_new (by omega)]
        simp only [μ']
        rw [if_neg (by omega), show H₀.next + (H.next + (b - H₀.next) - H.next) = b by omega]
        exact hb
    have hle : μ.le μ' := by
      intro b x hb
      have : b < H.next := by
        rcases Nat.lt_or_ge b H.next with h | h
        · exact h
        · rw [hw.dom _ h] at hb; cases hb
      simp only [μ', this, if_true]
      exact hb
    have hold : ∀ c, c < w.heap.size → w'.heap[c]? = w.heap[c]? := fun c hc => hx.frame c hc fun b o m hb hm => by
      obtain ⟨_, _, _, _, rfl, _⟩ := hobj b o hb
      rfl
    -- of a new object: its block is new
    have hnew : ∀ b o, (b, o) ∈ objs → ∃ c m o', μ' (into ρ H₀.next H.next b) = some (c, m) ∧ w'.heap[c]? = some o' ∧ ORel G.I μ' (renO (into ρ H₀.next H.next) o) m o' ∧ w.heap.size ≤ c ∧ G.base ≤ c ∧ μ₁ b = some (c, m) := by
      intro b o hm
      obtain ⟨hg, hb, hp⟩ := hobjs b o hm
      obtain ⟨_, c, m, o', hμ, hc, ho, hr⟩ := hx.rel.live b o hg
      have hnr : o.isRo = false := by cases o with
        | cells cs e fz => cases fz <;> first | rfl | simp [plainO] at hp
        | map es c => rfl
        | _ => simp [plainO] at hp
      have hsz : w.heap.size ≤ c := by
        rcases hx.new b o c m hg hμ with h | ⟨b₁, o₁, m₁, hb₁, hm₁, hro⟩
        · exact h
        · obtain ⟨_, _, _, _, rfl, _⟩ := hobj b₁ o₁ hb₁
          rw [hro rfl] at hnr; cases hnr
      exact ⟨c, m, o', hkey _ _ hμ, hc, ho.ren hkey hp, hsz, Nat.le_trans hw.base hsz, hμ⟩
    refine ⟨μ', ?_, hv.ren hkey⟩
    have hget : ∀ x o, (AHeap.mk (H.next + (top - H₀.next)) (putAll (into ρ H₀.next H.next) objs H.objs)).get x = some o →
        (∃ b o₀, (b, o₀) ∈ objs ∧ x = into ρ H₀.next H.next b ∧ o = renO (into ρ H₀.next H.next) o₀) ∨ H.get x = some o := fun x o h => putAll_get h
    refine { le := hle, rel := ?_, size := hx.size, frame := fun c hc _ => hold c hc, new := ?_, next := Nat.le_add_right _ _, os := hx.os, output := hx.output, keep := fun b hb => by simp only [μ', hb, if_true] }
    · refine ⟨?_, ?_, ?_, ?_, Nat.le_trans hw.globNext (Nat.le_add_right _ _), Nat.le_trans hw.base hx.size⟩
      · intro x o hg
        rcases hget x o hg with ⟨b, o₀, hm, rfl, rfl⟩ | hg'
        · obtain ⟨c, m, o', h1, h2, h3, h4, h5, h6⟩ := hnew b o₀ hm
          obtain ⟨hgb, hb, _⟩ := hobjs b o₀ hm
          have hbn := (hx.rel.live b o₀ hgb).1
          refine ⟨?_, c, m, o', h1, h2, h3, .inr h5⟩
          rw [into_new hb]
          show H.next + (b - H₀.next) < H.next + (top - H₀.next)
          omega
        · obtain ⟨h1, c, m, o', h2, h3, h4, h5⟩ := hw.live x o hg'
          exact ⟨Nat.lt_of_lt_of_le h1 (Nat.le_add_right _ _), c, m, o', hle _ _ h2, by rw [hold c (getElem?_lt h3)]; exact h3, h4.mono hle, h5⟩
      · intro x x' o o' c m m' hg hg' hm hm'
        rcases hget x o hg with ⟨b, o₀, hmem, rfl, rfl⟩ | hg1
        · obtain ⟨c1, m1, _, h1, _, _, h4, _, h6⟩ := hnew b o₀ hmem
          rw [h1] at hm; cases hm
          rcases hget x' o' hg' with ⟨b', o₀', hmem', rfl, rfl⟩ | hg1'
          · obtain ⟨c1', m1', _, h1', _, _, _, _, h6'⟩ := hnew b' o₀' hmem'
            rw [h1'] at hm'; cases hm'
            rw [hx.rel.inj b b' _ _ _ _ _ (hobjs _ _ hmem).1 (hobjs _ _ hmem').1 h6 h6']
          · obtain ⟨_, c2, m2, _, h2, h3, _⟩ := hw.live x' o' hg1'
            rw [hle _ _ h2] at hm'; cases hm'
            have := getElem?_lt h3
            omega
        · obtain ⟨_, c2, m2, _, h2, h3, _⟩ := hw.live x o hg1
          rw [hle _ _ h2] at hm; cases hm
          rcases hget x' o' hg' with ⟨b', o₀', hmem', rfl, rfl⟩ | hg1'
          · obtain ⟨c1', m1', _, h1', _, _, h4', _, _⟩ := hnew b' o₀' hmem'
            rw [h1'] at hm'; cases hm'
            have := getElem?_lt h3
            omega
          · obtain ⟨_, c3, m3, _, h2', _, _⟩ := hw.live x' o' hg1'
            rw [hle _ _ h2'] at hm'; cases hm'
            exact hw.inj _ _ _ _ _ _ _ hg1 hg1' h2 h2'
      · intro x hx'
        have hx'' : H.next + (top - H₀.next) ≤ x := hx'
        simp only [μ']
        rw [if_neg (by omega)]
        exact hx.rel.dom _ (by omega)
      · intro g hg
        obtain ⟨m, hm⟩ := hw.glob g hg
        exact ⟨m, hle _ _ hm⟩
    · intro x o c m hg hm
      rcases hget x o hg with ⟨b, o₀, hmem, rfl, rfl⟩ | hg1
      · obtain ⟨c1, m1, _, h1, _, _, h4, _, _⟩ := hnew b o₀ hmem
        rw [h1] at hm; cases hm
        exact .inl h4
      · obtain ⟨_, c2, m2, _, h2, _, _⟩ := hw.live x o hg1
        rw [hle _ _ h2] at hm; cases hm
        exact .inr ⟨x, o, _, hg1, h2, id⟩
  | panicked _ => exact hpost.elim
  | _ => exact hpost.elim

end Go.Ab
/- The library's functions without a Go body: what the evaluator answers is what the model does. -/
namespace Go.Ab

variable {E : Env} {G : Ground} {μ : Map} {H H' : AHeap} {w : World}

theorem setCell_heap {w : World} {c o : Nat} {cs : Array Value} {e : Nat} {fr : Nat × Nat} {v : Value} (h : w.heap[c]? = some (.cells cs e fr)) :
    (w.setCell ⟨c, o, none⟩ v).heap = w.heap.setIfInBounds c (.cells (cs.setIfInBounds o v) e fr) := by
  apply Array.ext_getElem?
  intro i
  simp only [World.setCell, Array.getElem?_modify, Array.getElem?_setIfInBounds]
  by_cases hi : c = i
  · subst hi
    have hlt := getElem?_lt h
    have hx : w.heap[c] = .cells cs e fr := by rw [Array.getElem?_eq_getElem hlt] at h; exact Option.some.inj h
    simp [hlt, hx]
  · simp [hi]

theorem setCell_nxt (hw : WRel G μ H w) {b o c m : Nat} {v : AVal} {v' : Value} (h : H.storeN b o [v] = some H') (hm : μ b = some (c, m)) (hv : VRel G.I μ v v') :
    w.frozen? ⟨c, o, none⟩ = false ∧ (∃ u, w.cell? ⟨c, o, none⟩ = some u) ∧ Nxt G μ H w μ H' (w.setCell ⟨c, o, none⟩ v') := by
  unfold AHeap.storeN at h
  split at h
  · rename_i cs e fz hb
    obtain ⟨c', fr, hc, hn, hp, hz⟩ := block_of_cells hw hb hm
    cases hl : fz.lets o with
    | false => rw [hl] at h; cases h
    | true =>
      cases ha : allL isCell [v] with
      | false => rw [hl, ha] at h; cases h
      | true =>
        rw [hl, ha] at h
        simp only [cond_true] at h
        split at h
        · rename_i cs' hov
          cases h
          obtain ⟨hle, hcs⟩ := overwrite_some hov
          have hp1 := hp.1
          simp only [List.length_cons, List.length_nil] at hle
          have hvs : VsRel G.I μ [v] [v'] := .cons hv .nil
          refine ⟨?_, ?_, ?_⟩
          · rw [frozen_of_block hc]
            have := lets_free hl hz (k := 1) (by omega) o (Nat.le_refl _) (by omega)
            simp only [Bool.and_eq_false_iff, decide_eq_false_iff_not]
            omega
          · refine ⟨c'[o]'(by omega), ?_⟩
            rw [cell_of_block hc]
            exact Array.getElem?_eq_getElem (by omega)
          · have hr := prel_replace hp hvs (by omega) (by simp; omega) hcs
            refine Nxt.put hw hb (not_ro hl) hm (.cells _ _ _ _ _ _ ?_ hr hz) ?_ rfl rfl
            · rw [setRange_size]; exact hn
            · rw [setCell_heap hc]; rfl
        · cases h
  · cases h

theorem store_one {b o : Nat} {v : AVal} (h : H.store b o [v] = some H') : H.storeN b o [v] = some H' := h

theorem loadU32_ok {f : Nat} {fn : Func} (hf : E.P.funcs[f]? = some fn) (hname : (fn.name == "runtime.NumGoroutine") = false) (hb : fn.body.isNone = true) (hn : Extern.findNext fn = none)
    (he : Extern.find fn = some (Extern.Atomic.loadT (.int .u32))) {args : List AVal} {v : AVal} (h : externA .loadU32 args H = some (v, H')) {args' : Array Value} (hw : WRel G μ H w) (ha : VsRel G.I μ args args'.toList) :
    CallOk E.P f args' w (CallPost G μ H w (.val v H')) := by
  unfold externA at h
  split at h
  all_goals (try contradiction)
  rename_i b o heq
  cases heq
  split at h
  · rename_i n hcell
    cases h
    obtain ⟨as⟩ := args'
    cases ha with
    | cons h1 h2 =>
      cases h2
      cases h1 with
      | ptr _ _ c m hm =>
        obtain ⟨v', hv', hr⟩ := cell_run hw hcell hm
        cases hr
        exact .inl ⟨_, w, run_call_load hf hname hb hn .u32 he hv', μ, Nxt.refl hw, .int _ _⟩
  · cases h

section
variable {f : Nat} {fn : Func} (hf : E.P.funcs[f]? = some fn) (hname : (fn.name == "runtime.NumGoroutine") = false) (hb : fn.body.isNone = true) (hn : Extern.findNext fn = none)
variable {args : List AVal} {v : AVal} {args' : Array Value} (hw : WRel G μ H w) (ha : VsRel G.I μ args args'.toList)
include hf hname hb hn hw ha

theorem storeU32_ok (he : Extern.find fn = some Extern.Atomic.storeT) (h : externA .storeU32 args H = some (v, H')) : CallOk E.P f args' w (CallPost G μ H w (.val v H')) := by
  unfold externA at h
  split at h
  all_goals (try contradiction)
  rename_i b o n heq
  cases heq
  cases hst : H.store b o [.int .u32 n] with
  | none => rw [hst] at h; cases h
  | some H1 =>
    rw [hst] at h
    cases h
    obtain ⟨as⟩ := args'
    cases ha with
    | cons h1 h2 => cases h2 with
      | cons h2 h3 =>
        cases h3
        cases h2
        cases h1 with
        | ptr _ _ c m hm =>
          obtain ⟨hz, ⟨u, hu⟩, hx⟩ := setCell_nxt hw (store_one hst) hm (.int .u32 n)
          exact .inl ⟨_, _, run_call_store hf hname hb hn he hu hz, μ, hx, .tuple _ _ .nil⟩

theorem race0_ok (m : Mark) (he : Extern.find fn = some (fun _ => do mark m; pure Extern.Race.none_)) (h : externA .race0 args H = some (v, H')) : CallOk E.P f args' w (CallPost G μ H w (.val v H')) := by
  unfold externA at h
  split at h
  all_goals (try contradiction)
  cases h
  obtain ⟨as⟩ := args'
  cases ha
  exact .inl ⟨_, w, run_call_mark0 hf hname hb hn m he w, μ, Nxt.refl hw, .tuple _ _ .nil⟩

theorem noEscape_ok (he : Extern.find fn = some Extern.AbiNoEscape.same) (h : externA .noEscape args H = some (v, H')) : CallOk E.P f args' w (CallPost G μ H w (.val v H')) := by
  unfold externA at h
  split at h
  all_goals (try contradiction)
  cases h
  obtain ⟨as⟩ := args'
  cases ha with
  | cons h1 h2 =>
    cases h2
    refine .inl ⟨_, w, ?_, μ, Nxt.refl hw, h1⟩
    rw [run_callFunc_extern hf hname hb hn he]
    rfl

theorem casI32_ok (he : Extern.find fn = some (Extern.Atomic.casT (.int .i32))) (h : externA .casI32 args H = some (v, H')) : CallOk E.P f args' w (CallPost G μ H w (.val v H')) := by
  unfold externA at h
  split at h
  all_goals (try contradiction)
  rename_i b o x y heq
  cases heq
  unfold casA at h
  split at h
  · rename_i n hcell
    obtain ⟨as⟩ := args'
    cases ha with
    | cons h1 h2 => cases h2 with
      | cons h2 h3 => cases h3 with
        | cons h3 h4 =>
          cases h4
          cases h3
          cases h2
          cases h1 with
          | ptr _ _ c m hm =>
            obtain ⟨v', hv', hr⟩ := cell_run hw hcell hm
            cases hr
            cases hx : intBeq n x with
            | true =>
              rw [hx] at h
              simp only [cond_true] at h
              have hnx := intBeq_true hx
              subst hnx
              cases hst : H.store b o [.int .i32 y] with
              | none => rw [hst] at h; cases h
              | some H1 =>
                rw [hst] at h
                cases h
                obtain ⟨hz, _, hxx⟩ := setCell_nxt hw (store_one hst) hm (.int .i32 y)
                exact .inl ⟨_, _, run_call_cas_hit hf hname hb hn .i32 he hv' hz, μ, hxx, .bool true⟩
            | false => rw [hx] at h; cases h
  · cases h

theorem race1_ok (m : Addr → Mark) (he : Extern.find fn = some (Extern.Race.marked m)) (h : externA .race1 args H = some (v, H')) : CallOk E.P f args' w (CallPost G μ H w (.val v H')) := by
  unfold externA at h
  split at h
  all_goals (try contradiction)
  cases h
  obtain ⟨as⟩ := args'
  cases ha with
  | cons h1 h2 =>
    cases h2
    cases h1 with
    | ptr _ _ c m' hm => exact .inl ⟨_, w, run_call_marked hf hname hb hn m he _ w, μ, Nxt.refl hw, .tuple _ _ .nil⟩

theorem addI32_ok (he : Extern.find fn = some (Extern.Atomic.update (Op.intArith .add) .i32 true)) (h : externA .addI32 args H = some (v, H')) : CallOk E.P f args' w (CallPost G μ H w (.val v H')) := by
  unfold externA at h
  split at h
  all_goals (try contradiction)
  rename_i b o x heq
  cases heq
  unfold addI32A at h
  split at h
  · rename_i n hcell
    obtain ⟨as⟩ := args'
    cases ha with
    | cons h1 h2 => cases h2 with
      | cons h2 h3 =>
        cases h3
        cases h2
        cases h1 with
        | ptr _ _ c m hm =>
          obtain ⟨v', hv', hr⟩ := cell_run hw hcell hm
          cases hr
          cases hst : H.store b o [.int .i32 (IntKind.i32.wrap (n + x))] with
          | none => rw [hst] at h; cases h
          | some H1 =>
            rw [hst] at h
            cases h
            obtain ⟨hz, _, hxx⟩ := setCell_nxt hw (store_one hst) hm (.int .i32 (IntKind.i32.wrap (n + x)))
            exact .inl ⟨_, _, run_call_add hf hname hb hn .i32 he hv' hz rfl, μ, hxx, .int _ _⟩
  · cases h

end
end Go.Ab
