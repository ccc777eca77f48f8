/- Regions whose order is drawn: the canonical run and its invariant. -/
import Derived.Test.YtccbadojfbdegaaGreatDoorAbB
import Derived.Test.YtccbadojfbdegaaGreatDoorAbF
/- Equality of the evaluator's values, as it is computed. -/
namespace Go.Ab

theorem bif_true {a b : Bool} (h : (bif a then b else false) = true) : a = true ∧ b = true := by
  cases a with
  | true => exact ⟨rfl, h⟩
  | false => cases h

theorem fnBeq_eq {a b : Fn} (h : fnBeq a b = true) : a = b := by
  unfold fnBeq at h
  split at h
  · rw [Nat.eq_of_beq_eq_true h]
  · rw [Nat.eq_of_beq_eq_true h]
  · cases h

theorem boolBeq_true {a b : Bool} (h : boolBeq a b = true) : a = b := by rw [boolBeq_eq] at h; simpa using h
theorem intBeq_true {a b : Int} (h : intBeq a b = true) : a = b := by rw [intBeq_eq] at h; simpa using h

mutual
theorem AVal.beq_eq : ∀ (a b : AVal), AVal.beq a b = true → a = b
  | .bool a, b, h => by cases b <;> simp only [AVal.beq] at h <;> first | rw [boolBeq_true h] | cases h
  | .int j a, b, h => by
    cases b <;> simp only [AVal.beq] at h <;> first | cases h; done | skip
    obtain ⟨h1, h2⟩ := bif_true h
    rw [kindBeq_eq h1, intBeq_true h2]
  | .str a, b, h => by cases b <;> simp only [AVal.beq] at h <;> first | rw [strBeq_eq _ _ h] | cases h
  | .isym a, b, h => by cases b <;> simp only [AVal.beq] at h <;> first | rw [strBeq_eq _ _ h] | cases h
  | .nilptr, b, h => by cases b <;> simp only [AVal.beq] at h <;> first | rfl | cases h
  | .ptr a o, b, h => by
    cases b <;> simp only [AVal.beq] at h <;> first | cases h; done | skip
    obtain ⟨h1, h2⟩ := bif_true h
    rw [Nat.eq_of_beq_eq_true h1, Nat.eq_of_beq_eq_true h2]
  | .nilslice, b, h => by cases b <;> simp only [AVal.beq] at h <;> first | rfl | cases h
  | .slice a o l c e f, b, h => by
    cases b <;> simp only [AVal.beq] at h <;> first | cases h; done | skip
    obtain ⟨h1, h⟩ := bif_true h
    obtain ⟨h2, h⟩ := bif_true h
    obtain ⟨h3, h⟩ := bif_true h
    obtain ⟨h4, h⟩ := bif_true h
    obtain ⟨h5, h⟩ := bif_true h
    rw [Nat.eq_of_beq_eq_true h1, Nat.eq_of_beq_eq_true h2, Nat.eq_of_beq_eq_true h3, Nat.eq_of_beq_eq_true h4, boolBeq_true h5, Nat.eq_of_beq_eq_true h]
  | .nilmap, b, h => by cases b <;> simp only [AVal.beq] at h <;> first | rfl | cases h
  | .map a, b, h => by cases b <;> simp only [AVal.beq] at h <;> first | rw [Nat.eq_of_beq_eq_true h] | cases h
  | .func f x y, b, h => by
    cases b <;> simp only [AVal.beq] at h <;> first | cases h; done | skip
    obtain ⟨h1, h⟩ := bif_true h
    obtain ⟨h2, h⟩ := bif_true h
    rw [fnBeq_eq h1, AVal.beqs_eq _ _ h2, AVal.beqs_eq _ _ h]
  | .nilFunc, b, h => by cases b <;> simp only [AVal.beq] at h <;> first | rfl | cases h
  | .iface t x, b, h => by
    cases b <;> simp only [AVal.beq] at h <;> first | cases h; done | skip
    obtain ⟨h1, h⟩ := bif_true h
    rw [Nat.eq_of_beq_eq_true h1, AVal.beq_eq _ _ h]
  | .nilIface, b, h => by cases b <;> simp only [AVal.beq] at h <;> first | rfl | cases h
  | .agg x, b, h => by cases b <;> simp only [AVal.beq] at h <;> first | rw [AVal.beqs_eq _ _ h] | cases h
  | .tuple x, b, h => by cases b <;> simp only [AVal.beq] at h <;> first | rw [AVal.beqs_eq _ _ h] | cases h
theorem AVal.beqs_eq : ∀ (a b : List AVal), AVal.beqs a b = true → a = b
  | [], b, h => by cases b <;> simp only [AVal.beqs] at h <;> first | rfl | cases h
  | x :: xs, b, h => by
    cases b <;> simp only [AVal.beqs] at h <;> first | cases h; done | skip
    obtain ⟨h1, h2⟩ := bif_true h
    rw [AVal.beq_eq _ _ h1, AVal.beqs_eq _ _ h2]
end

end Go.Ab
/- Regions whose order is open, 3: what 'slots' says of the operations; memory with blocks laid early. -/
namespace Go.Ab

variable {E : Env} {G : Ground}

/-! ### who comes before whom -/

theorem ancestors_spec {i : Nat} {bs : List Nat} : ∀ {es : List Edge} {m m' : Nat}, es.foldl (ancStep i bs) (some m) = some m' →
    (∀ e ∈ es, Region.binds .any e = true → e.on < i) ∧ (∀ j, m'.testBit j = true → m.testBit j = true ∨ ∃ e ∈ es, Region.binds .any e = true ∧ (j = e.on ∨ (bs.getD e.on 0).testBit j = true)) := by
  intro es
  induction es with
  | nil => intro m m' h; cases h; exact ⟨fun e he => by simp at he, fun j hj => .inl hj⟩
  | cons e es ih =>
    intro m m' h
    simp only [List.foldl_cons, ancStep] at h
    have hnone : ∀ es : List Edge, es.foldl (ancStep i bs) none = none := by
      intro es
      induction es with
      | nil => rfl
      | cons e es ih => simp only [List.foldl_cons, ancStep, ih]
    cases hb : Region.binds .any e with
    | false =>
      rw [hb] at h
      simp only [cond_false] at h
      obtain ⟨h1, h2⟩ := ih h
      refine ⟨fun e' he' hbe => ?_, fun j hj => ?_⟩
      · rcases List.mem_cons.1 he' with rfl | he'
        · rw [hb] at hbe; cases hbe
        · exact h1 e' he' hbe
      · rcases h2 j hj with hj | ⟨e', he', g⟩
        · exact .inl hj
        · exact .inr ⟨e', List.mem_cons_of_mem _ he', g⟩
    | true =>
      rw [hb] at h
      simp only [cond_true] at h
      cases hlt : Nat.ble (Nat.succ e.on) i with
      | false => rw [hlt] at h; simp only [cond_false, hnone] at h; cases h
      | true =>
        rw [hlt] at h
        simp only [cond_true] at h
        obtain ⟨h1, h2⟩ := ih h
        refine ⟨fun e' he' hbe => ?_, fun j hj => ?_⟩
        · rcases List.mem_cons.1 he' with rfl | he'
          · exact Nat.le_of_ble_eq_true hlt
          · exact h1 e' he' hbe
        · rcases h2 j hj with hj | ⟨e', he', g⟩
          · have : (m ||| 1 <<< e.on ||| bs.getD e.on 0).testBit j = true := hj
            rw [Nat.testBit_or, Nat.testBit_or] at this
            simp only [Bool.or_eq_true] at this
            rcases this with (hm | hs) | hg
            · exact .inl hm
            · refine .inr ⟨e, List.mem_cons_self, hb, .inl ?_⟩
              rw [Nat.one_shiftLeft, Nat.testBit_two_pow] at hs
              exact (of_decide_eq_true hs).symm
            · exact .inr ⟨e, List.mem_cons_self, hb, .inr hg⟩
          · exact .inr ⟨e', List.mem_cons_of_mem _ he', g⟩

/-- what the numbers say of an operation -/
def AncOk (bs : List Nat) (o : Oper) (i : Nat) : Prop :=
  ∃ m, bs[i]? = some m ∧ (∀ e ∈ o.after.toList, Region.binds .any e = true → e.on < i) ∧
    ∀ j, m.testBit j = true → ∃ e ∈ o.after.toList, Region.binds .any e = true ∧ (j = e.on ∨ (bs.getD e.on 0).testBit j = true)

theorem allAncestors_spec : ∀ {os : List Oper} {i : Nat} {bs bs' : List Nat}, allAncestors os i bs = some bs' → bs.length = i →
    bs'.length = i + os.length ∧ (∀ k, k < i → bs'[k]? = bs[k]?) ∧ ∀ k o, os[k]? = some o → AncOk bs' o (i + k) := by
  intro os
  induction os with
  | nil => intro i bs bs' h hl; cases h; exact ⟨by simpa using hl, fun _ _ => rfl, fun k o ho => by simp at ho⟩
  | cons o os ih =>
    intro i bs bs' h hl
    simp only [allAncestors] at h
    split at h
    · rename_i m hm
      obtain ⟨h1, h2, h3⟩ := ih h (by simp [hl])
      refine ⟨by rw [h1]; simp; omega, fun k hk => ?_, fun k o' ho => ?_⟩
      · rw [h2 k (by omega), List.getElem?_append_left (by omega)]
      · cases k with
        | zero =>
          simp at ho
          subst ho
          obtain ⟨g1, g2⟩ := ancestors_spec hm
          refine ⟨m, ?_, g1, fun j hj => ?_⟩
          · rw [Nat.add_zero, h2 i (by omega), ← hl]
            simp
          · rcases g2 j hj with hj | ⟨e, he, hb, hj⟩
            · simp at hj
            · refine ⟨e, he, hb, hj.imp id fun hj => ?_⟩
              have hlt := g1 e he hb
              have : bs'.getD e.on 0 = bs.getD e.on 0 := by
                rw [List.getD_eq_getElem?_getD, List.getD_eq_getElem?_getD, h2 e.on (by omega), List.getElem?_append_left (by omega)]
              rw [this]
              exact hj
        | succ k =>
          have := h3 k o' (by simpa using ho)
          rwa [show i + (k + 1) = Nat.succ i + k from by omega]
    · cases h

theorem rowsOf_get {ops : Array Oper} : ∀ {os : List Oper} {bs : List Nat} {i : Nat} {o : Oper} {b : Nat}, os[i]? = some o → bs[i]? = some b → (rowsOf E ops os bs)[i]? = some (rowOf E ops o b) := by
  intro os
  induction os with
  | nil => intro bs i o b h; simp at h
  | cons o' os ih =>
    intro bs i o b h hb
    cases bs with
    | nil => simp at hb
    | cons b' bs =>
      cases i with
      | zero => simp at h hb; subst h hb; rfl
      | succ i => simp only [rowsOf, List.getElem?_cons_succ]; exact ih (by simpa using h) (by simpa using hb)

theorem rowsOf_length {ops : Array Oper} : ∀ {os : List Oper} {bs : List Nat}, bs.length = os.length → (rowsOf E ops os bs).length = os.length := by
  intro os
  induction os with
  | nil => intro bs _; rfl
  | cons o os ih =>
    intro bs h
    cases bs with
    | nil => simp at h
    | cons b bs => simp only [rowsOf, List.length_cons]; rw [ih (by simpa using h)]

theorem slotsOf_get {rows : List Row} : ∀ {os : List Oper} {rs : List Row} {i k : Nat} {o : Oper} {r : Row}, os[k]? = some o → rs[k]? = some r → (slotsOf rows os rs i)[k]? = some (slotOf rows (i + k) o r) := by
  intro os
  induction os with
  | nil => intro rs i k o r h; simp at h
  | cons o' os ih =>
    intro rs i k o r h hr
    cases rs with
    | nil => simp at hr
    | cons r' rs =>
      cases k with
      | zero => simp at h hr; subst h hr; rfl
      | succ k =>
        simp only [slotsOf, List.getElem?_cons_succ]
        rw [ih (i := i + 1) (by simpa using h) (by simpa using hr)]
        congr 2
        omega

theorem slotsOf_length {rows : List Row} : ∀ {os : List Oper} {rs : List Row} {i : Nat}, rs.length = os.length → (slotsOf rows os rs i).length = os.length := by
  intro os
  induction os with
  | nil => intro rs i _; cases rs <;> rfl
  | cons o os ih =>
    intro rs i h
    cases rs with
    | nil => simp at h
    | cons r rs => simp only [slotsOf, List.length_cons]; rw [ih (by simpa using h)]

theorem rowsOk_spec : ∀ {rs : List Row} {i : Nat} {done : List Row}, rowsOk rs i done = true → done.length = i → ∀ k r, rs[k]? = some r → ∀ j q, j < i + k → (done ++ rs)[j]? = some q →
    pairOk r.kind q.kind (r.before.testBit j) r.dst q.dst r.looks q.looks = true := by
  intro rs
  induction rs with
  | nil => intro i done _ _ k r hr; simp at hr
  | cons r' rs ih =>
    intro i done h hl k r hr j q hj hq
    simp only [rowsOk, Bool.and_eq_true] at h
    cases k with
    | zero =>
      simp at hr
      subst hr
      have := List.all_eq_true.1 h.1 j (List.mem_range.2 (by omega))
      rw [List.getElem?_append_left (by omega)] at hq
      rw [hq] at this
      exact this
    | succ k =>
      exact ih h.2 (by simp [hl]) k r (by simpa using hr) j q (by omega) (by simpa using hq)

theorem loOf_le {rows : List Row} {before : Nat} : ∀ {l : List Row} {i j : Nat} {q : Row}, l[j]? = some q → q.kind.isAct = true → before.testBit (i + j) = true → actsTo rows (i + j) + 1 ≤ loOf rows before l i := by
  intro l
  induction l with
  | nil => intro i j q h; simp at h
  | cons q' l ih =>
    intro i j q h hk hb
    cases j with
    | zero =>
      simp at h
      subst h
      simp only [Nat.add_zero] at hb ⊢
      simp only [loOf, hk, hb, Bool.and_self, if_true]
      exact Nat.le_max_left _ _
    | succ j =>
      have := ih (i := i + 1) (j := j) (q := q) (by simpa using h) hk (by rwa [show i + 1 + j = i + (j + 1) from by omega])
      rw [show i + 1 + j = i + (j + 1) from by omega] at this
      simp only [loOf]
      split
      · exact Nat.le_trans this (Nat.le_max_right _ _)
      · exact this

theorem hiOf_ge {rows : List Row} {i n : Nat} (hn : n ≤ rows.length) : ∀ {l : List Row} {j : Nat}, (∀ k q, l[k]? = some q → q.kind.isAct = true → q.before.testBit i = true → n ≤ actsTo rows (j + k)) → n ≤ hiOf rows i l j := by
  intro l
  induction l with
  | nil => intro j _; exact hn
  | cons q' l ih =>
    intro j h
    have := ih (j := j + 1) fun k q hq hk hb => by
      have := h (k + 1) q (by simpa using hq) hk hb
      rwa [show j + 1 + k = j + (k + 1) from by omega]
    simp only [hiOf]
    split
    · rename_i hc
      simp only [Bool.and_eq_true] at hc
      exact Nat.le_min.2 ⟨h 0 q' rfl hc.1 hc.2, this⟩
    · exact this

theorem loOf_bound {rows : List Row} {before n : Nat} : ∀ {l : List Row} {i : Nat}, (∀ j q, l[j]? = some q → q.kind.isAct = true → before.testBit (i + j) = true → actsTo rows (i + j) + 1 ≤ n) → loOf rows before l i ≤ n := by
  intro l
  induction l with
  | nil => intro i _; exact Nat.zero_le _
  | cons q' l ih =>
    intro i h
    have := ih (i := i + 1) fun j q hq hk hb => by
      have := h (j + 1) q (by simpa using hq) hk (by rwa [show i + (j + 1) = i + 1 + j from by omega])
      rwa [show i + 1 + j = i + (j + 1) from by omega]
    simp only [loOf]
    split
    · rename_i hc
      simp only [Bool.and_eq_true] at hc
      exact Nat.max_le.2 ⟨h 0 q' rfl hc.1 hc.2, this⟩
    · exact this

end Go.Ab
/- Regions whose order is open, 4: memory with blocks laid early. -/
namespace Go.Ab

variable {E : Env} {G : Ground}

/-- a part of a memory -/
def AHeap.part (K H : AHeap) : Prop := K.next = H.next ∧ ∀ b o, K.get b = some o → H.get b = some o

theorem WRel.forget {μ : Map} {H K : AHeap} {w : World} (h : WRel G μ H w) (hp : K.part H) : WRel G μ K w where
  live := fun b o hb => by rw [hp.1]; exact h.live b o (hp.2 b o hb)
  inj := fun b b' o o' c n n' h1 h2 => h.inj b b' o o' c n n' (hp.2 _ _ h1) (hp.2 _ _ h2)
  dom := fun b hb => h.dom b (by rw [← hp.1]; exact hb)
  glob := h.glob
  globNext := by rw [hp.1]; exact h.globNext
  base := h.base

theorem Nxt.forget {μ μ' : Map} {H₀ H K : AHeap} {w w' : World} (h : Nxt G μ H₀ w μ' H w') (hp : K.part H) : Nxt G μ H₀ w μ' K w' :=
  { le := h.le, rel := h.rel.forget hp, size := h.size, frame := h.frame, new := fun b o c n hb => h.new b o c n (hp.2 _ _ hb), next := by rw [hp.1]; exact h.next, os := h.os, output := h.output, keep := h.keep }

/-- a new block at a number that was kept free -/
theorem Nxt0.newAt {μ : Map} {H : AHeap} {w w' : World} (h : WRel G μ H w) {b : Nat} (hb : b < H.next) (hm : μ b = none) {o : AObj} {n : Nat} {o' : Obj} (ho : ORel G.I μ o n o')
    (hh : w'.heap = w.heap.push o') (h1 : w'.os = w.os) (h2 : w'.output = w.output) : Nxt0 G μ H w (μ.add b (w.heap.size, n)) (H.put b o) w' := by
  have hle : μ.le (μ.add b (w.heap.size, n)) := fun j y e => by
    unfold Map.add
    split
    · subst_vars; rw [hm] at e; cases e
    · exact e
  have old : ∀ b₁ o₁, b₁ ≠ b → (H.put b o).get b₁ = some o₁ → H.get b₁ = some o₁ := fun b₁ o₁ hne e => by rwa [AHeap.get_put, if_neg hne] at e
  refine { le := hle, rel := ?_, size := by rw [hh]; simp, frame := ?_, new := ?_, next := Nat.le_refl _, os := h1, output := h2 }
  · refine { live := ?_, inj := ?_, dom := ?_, glob := ?_, globNext := h.globNext, base := by rw [hh]; have := h.base; simp; omega }
    · intro b₁ o₁ hb₁
      by_cases e : b₁ = b
      · subst e
        rw [AHeap.get_put, if_pos rfl] at hb₁
        cases hb₁
        exact ⟨hb, _, _, o', Map.add_self _ _ _, by rw [hh]; simp, ho.mono hle, .inr h.base⟩
      · obtain ⟨hlt, c, n₁, o₂, hm₁, hc, hr, hb'⟩ := h.live b₁ o₁ (old b₁ o₁ e hb₁)
        refine ⟨hlt, c, n₁, o₂, hle _ _ hm₁, ?_, hr.mono hle, hb'⟩
        have hlt' := (Array.getElem?_eq_some_iff.1 hc).1
        rw [hh, Array.getElem?_push_lt hlt', ← Array.getElem?_eq_getElem hlt']; exact hc
    · intro b₁ b₂ o₁ o₂ c n₁ n₂ g1 g2 m1 m2
      by_cases e1 : b₁ = b
      · by_cases e2 : b₂ = b
        · rw [e1, e2]
        · obtain ⟨_, c', n', o₃, hm2, hc, _⟩ := h.live b₂ o₂ (old b₂ o₂ e2 g2)
          rw [hle _ _ hm2] at m2
          cases m2
          subst e1
          rw [Map.add_self] at m1
          cases m1
          have := (Array.getElem?_eq_some_iff.1 hc).1
          omega
      · by_cases e2 : b₂ = b
        · obtain ⟨_, c', n', o₃, hm2, hc, _⟩ := h.live b₁ o₁ (old b₁ o₁ e1 g1)
          rw [hle _ _ hm2] at m1
          cases m1
          subst e2
          rw [Map.add_self] at m2
          cases m2
          have := (Array.getElem?_eq_some_iff.1 hc).1
          omega
        · unfold Map.add at m1 m2
          rw [if_neg e1] at m1
          rw [if_neg e2] at m2
          exact h.inj b₁ b₂ o₁ o₂ c n₁ n₂ (old _ _ e1 g1) (old _ _ e2 g2) m1 m2
    · intro b₁ hb₁
      have : (H.put b o).next = H.next := rfl
      rw [this] at hb₁
      unfold Map.add
      rw [if_neg (by omega)]
      exact h.dom b₁ hb₁
    · intro g hg
      obtain ⟨n₁, hn⟩ := h.glob g hg
      exact ⟨n₁, hle _ _ hn⟩
  · intro c hc _
    rw [hh, Array.getElem?_push_lt hc, Array.getElem?_eq_getElem hc]
  · intro b₁ o₁ c n₁ g1 m1
    by_cases e : b₁ = b
    · subst e
      rw [Map.add_self] at m1
      cases m1
      exact .inl (Nat.le_refl _)
    · unfold Map.add at m1
      rw [if_neg e] at m1
      exact .inr ⟨b₁, o₁, n₁, old b₁ o₁ e g1, m1, id⟩

noncomputable def puts : List (Nat × AObj) → AHeap → AHeap
  | [], K => K
  | (b, o) :: X, K => (puts X K).put b o

theorem puts_next : ∀ (X : List (Nat × AObj)) (K : AHeap), (puts X K).next = K.next := by
  intro X
  induction X with
  | nil => intro K; rfl
  | cons x X ih => intro K; exact ih K

theorem puts_get {K : AHeap} : ∀ {X : List (Nat × AObj)}, (∀ b o o', (b, o) ∈ X → (b, o') ∈ X → o = o') → (∀ b o, (b, o) ∈ X → (puts X K).get b = some o) ∧ (∀ b, (∀ o, (b, o) ∉ X) → (puts X K).get b = K.get b) := by
  intro X
  induction X with
  | nil => intro _; exact ⟨fun b o h => by simp at h, fun b _ => rfl⟩
  | cons x X ih =>
    obtain ⟨b₀, o₀⟩ := x
    intro hX
    obtain ⟨h1, h2⟩ := ih fun b o o' g g' => hX b o o' (List.mem_cons_of_mem _ g) (List.mem_cons_of_mem _ g')
    refine ⟨fun b o h => ?_, fun b h => ?_⟩
    · simp only [puts]
      rw [AHeap.get_put]
      by_cases e : b = b₀
      · subst e
        rw [if_pos rfl, hX b o o₀ h List.mem_cons_self]
      · rw [if_neg e]
        rcases List.mem_cons.1 h with h | h
        · cases h; exact absurd rfl e
        · exact h1 b o h
    · simp only [puts]
      rw [AHeap.get_put, if_neg, h2 b fun o ho => h o (List.mem_cons_of_mem _ ho)]
      intro e
      subst e
      exact h o₀ List.mem_cons_self

/-- an act beside blocks that it does not know -/
theorem actStep {μ μ' : Map} {HS K H' : AHeap} {w w' : World} {X : List (Nat × AObj)} (h : WRel G μ HS w) (hp : K.part HS) (hX : ∀ b o, (b, o) ∈ X → HS.get b = some o ∧ K.get b = none) (hn : Nxt G μ K w μ' H' w') :
    (∀ b o, (b, o) ∈ X → H'.get b = none) ∧ Nxt G μ HS w μ' (puts X H') w' := by
  have hfun : ∀ b o o', (b, o) ∈ X → (b, o') ∈ X → o = o' := fun b o o' g g' => by
    have := (hX b o g).1.symm.trans (hX b o' g').1
    exact Option.some.inj this
  obtain ⟨hin, hout⟩ := puts_get (K := H') hfun
  -- where an early block lies
  have place : ∀ b o, (b, o) ∈ X → ∃ c n o', μ b = some (c, n) ∧ w.heap[c]? = some o' ∧ c < w.heap.size ∧ ORel G.I μ o n o' ∧ (o.isRo = true ∨ G.base ≤ c) ∧ ∀ b₁ o₁ n₁, K.get b₁ = some o₁ → μ b₁ = some (c, n₁) → False := fun b o g => by
    obtain ⟨g1, g2⟩ := hX b o g
    obtain ⟨_, c, n, o', hm, hc, hr, hb⟩ := h.live b o g1
    refine ⟨c, n, o', hm, hc, (Array.getElem?_eq_some_iff.1 hc).1, hr, hb, fun b₁ o₁ n₁ k1 m1 => ?_⟩
    have := h.inj b₁ b o₁ o c n₁ n (hp.2 _ _ k1) g1 m1 hm
    subst this
    rw [g2] at k1
    cases k1
  have apart : ∀ b o, (b, o) ∈ X → ∀ b' o' c n n', H'.get b' = some o' → μ b = some (c, n) → μ' b' = some (c, n') → False := fun b o g b' o' c n n' k m m' => by
    obtain ⟨c₁, n₁, _, hm, _, hlt, _, _, hno⟩ := place b o g
    rw [m] at hm
    cases hm
    rcases hn.new b' o' c n' k m' with hs | ⟨b₀, o₀, n₀, k₀, m₀, _⟩
    · omega
    · exact hno b₀ o₀ n₀ k₀ m₀
  refine ⟨fun b o g => ?_, ?_⟩
  · cases hg : H'.get b with
    | none => rfl
    | some o' =>
      exfalso
      obtain ⟨c, n, _, hm, _⟩ := place b o g
      exact apart b o g b o' c n n hg hm (hn.le _ _ hm)
  · have cases_ : ∀ b o, (puts X H').get b = some o → (b, o) ∈ X ∨ H'.get b = some o := fun b o g => by
      by_cases e : ∃ o₁, (b, o₁) ∈ X
      · obtain ⟨o₁, e⟩ := e
        rw [hin b o₁ e] at g
        cases g
        exact .inl e
      · rw [hout b fun o ho => e ⟨o, ho⟩] at g
        exact .inr g
    have hnext : (puts X H').next = H'.next := puts_next _ _
    refine { le := hn.le, rel := ?_, size := hn.size, frame := ?_, new := ?_, next := ?_, os := hn.os, output := hn.output, keep := fun b hb => hn.keep b (by rw [hp.1]; exact hb) }
    · refine { live := ?_, inj := ?_, dom := fun b hb => hn.rel.dom b (by rw [← hnext]; exact hb), glob := hn.rel.glob, globNext := by rw [hnext]; exact hn.rel.globNext, base := hn.rel.base }
      · intro b o g
        rw [hnext]
        rcases cases_ b o g with g | g
        · obtain ⟨c, n, o', hm, hc, hlt, hr, hb, hno⟩ := place b o g
          have hb' := (h.live b o (hX b o g).1).1
          refine ⟨by have := hn.next; rw [hp.1] at this; omega, c, n, o', hn.le _ _ hm, ?_, hr.mono hn.le, hb⟩
          rw [hn.frame c hlt fun b₁ o₁ n₁ k1 m1 => (hno b₁ o₁ n₁ k1 m1).elim]
          exact hc
        · exact hn.rel.live b o g
      · intro b b' o o' c n n' g g' m m'
        rcases cases_ b o g with g | g
        · obtain ⟨c₁, n₁, _, hm, _⟩ := place b o g
          have := hn.le _ _ hm
          rw [m] at this
          cases this
          rcases cases_ b' o' g' with g' | g'
          · obtain ⟨c₂, n₂, _, hm', _⟩ := place b' o' g'
            have := hn.le _ _ hm'
            rw [m'] at this
            cases this
            exact h.inj b b' o o' c n n' (hX b o g).1 (hX b' o' g').1 hm hm'
          · exact (apart b o g b' o' c n n' g' hm m').elim
        · rcases cases_ b' o' g' with g' | g'
          · obtain ⟨c₂, n₂, _, hm', _⟩ := place b' o' g'
            have := hn.le _ _ hm'
            rw [m'] at this
            cases this
            exact (apart b' o' g' b o c n' n g hm' m).elim
          · exact hn.rel.inj b b' o o' c n n' g g' m m'
    · intro c hc hro
      exact hn.frame c hc fun b o n k m => hro b o n (hp.2 _ _ k) m
    · intro b o c n g m
      rcases cases_ b o g with g | g
      · obtain ⟨c₁, n₁, _, hm, _⟩ := place b o g
        have := hn.le _ _ hm
        rw [m] at this
        cases this
        exact .inr ⟨b, o, n, (hX b o g).1, hm, id⟩
      · rcases hn.new b o c n g m with hs | ⟨b₀, o₀, n₀, k₀, m₀, hr⟩
        · exact .inl hs
        · exact .inr ⟨b₀, o₀, n₀, hp.2 _ _ k₀, m₀, hr⟩
    · rw [hnext, ← hp.1]
      exact hn.next

end Go.Ab
/- Regions whose order is open, 5: the facts about the operations; the run in text order. -/
namespace Go.Ab

variable {E : Env} {G : Ground}

def actsS (sl : List Slot) (j : Nat) : Nat := ((sl.take j).filter fun x => x.kind.isAct).length

structure Static (E : Env) (ops : Array Oper) (sl : List Slot) : Prop where
  len : sl.length = ops.size
  slot : ∀ (i : Nat) (x : Slot), sl[i]? = some x → ops[i]? = some x.oper ∧ x.ix = i ∧ x.kind = kindOf E x.oper.op
  actAct : ∀ (i j : Nat) (x y : Slot), sl[i]? = some x → sl[j]? = some y → j < i → x.kind = .act → y.kind = .act → x.before.testBit j = true
  actNew : ∀ (i j : Nat) (x y : Slot), sl[i]? = some x → sl[j]? = some y → j < i → x.kind = .act → y.kind = .new → x.before.testBit j = true
  dsts : ∀ (i j : Nat) (x y : Slot) (d : Nat), sl[i]? = some x → sl[j]? = some y → j < i → x.oper.dst = some d → y.oper.dst = some d → False
  look : ∀ (i j : Nat) (x y : Slot) (d : Nat), sl[i]? = some x → sl[j]? = some y → j < i → y.oper.dst = some d → d ∈ looks ops x.oper → x.before.testBit j = true
  look' : ∀ (i j : Nat) (x y : Slot) (d : Nat), sl[i]? = some x → sl[j]? = some y → j < i → x.oper.dst = some d → d ∈ looks ops y.oper → x.before.testBit j = true
  anc : ∀ (i : Nat) (x : Slot), sl[i]? = some x → (∀ e ∈ x.oper.after.toList, Region.binds .any e = true → e.on < i) ∧
    ∀ j, x.before.testBit j = true → ∃ e ∈ x.oper.after.toList, Region.binds .any e = true ∧ (j = e.on ∨ ∃ y, sl[e.on]? = some y ∧ y.before.testBit j = true)
  lo : ∀ (i : Nat) (x : Slot) (n : Nat), sl[i]? = some x → (∀ (j : Nat) (y : Slot), sl[j]? = some y → y.kind = .act → x.before.testBit j = true → actsS sl j + 1 ≤ n) → x.lo ≤ n
  hi : ∀ (i : Nat) (x : Slot) (n : Nat), sl[i]? = some x → n ≤ sl.length → (∀ (j : Nat) (y : Slot), sl[j]? = some y → y.kind = .act → y.before.testBit i = true → n ≤ actsS sl j) → n ≤ x.hi

theorem isAct_iff {k : Kind} : k.isAct = true ↔ k = .act := by cases k <;> simp [Kind.isAct]

theorem memN_mem {x : Nat} {l : List Nat} : memN x l = true ↔ x ∈ l := by rw [memN_eq]; simp

theorem sameDst_iff {a b : Option Nat} : sameDst a b = true ↔ ∃ d, a = some d ∧ b = some d := by
  unfold sameDst
  split
  · rename_i x y
    constructor
    · intro h; exact ⟨x, rfl, by rw [Nat.eq_of_beq_eq_true h]⟩
    · rintro ⟨d, h1, h2⟩; cases h1; cases h2; exact Nat.beq_refl _
  · rename_i hne
    constructor
    · intro h; cases h
    · rintro ⟨d, h1, h2⟩; exact (hne d d h1 h2).elim

theorem acts_kinds {α : Type} (l : List α) (f : α → Kind) (j : Nat) : ((l.take j).filter fun x => (f x).isAct).length = (((l.map f).take j).filter fun k => k.isAct).length := by
  rw [← List.map_take, List.filter_map, List.length_map]
  rfl

theorem slotsOf_kinds {rows : List Row} : ∀ {os : List Oper} {rs : List Row} {i : Nat}, rs.length = os.length → (slotsOf rows os rs i).map (fun x => x.kind) = rs.map fun q => q.kind := by
  intro os
  induction os with
  | nil => intro rs i h; cases rs with
    | nil => rfl
    | cons r rs => simp at h
  | cons o os ih =>
    intro rs i h
    cases rs with
    | nil => simp at h
    | cons r rs =>
      simp only [slotsOf, List.map_cons]
      rw [ih (by simpa using h)]
      rfl

theorem static_of_slots {ops : Array Oper} {sl : List Slot} (h : slots E ops = some sl) : Static E ops sl := by
  unfold slots at h
  split at h
  · cases h
  · rename_i bs hbs
    cases hok : rowsOk (rowsOf E ops ops.toList bs) 0 [] with
    | false => rw [hok] at h; cases h
    | true =>
      rw [hok] at h
      cases h
      obtain ⟨hl, _, hanc⟩ := allAncestors_spec hbs rfl
      simp only [Nat.zero_add] at hl hanc
      have hrl : (rowsOf E ops ops.toList bs).length = ops.toList.length := rowsOf_length hl
      generalize hrows : rowsOf E ops ops.toList bs = rows at *
      have hsl : (slotsOf rows ops.toList rows 0).length = ops.toList.length := slotsOf_length hrl
      -- a slot's parts
      have parts : ∀ (i : Nat) (x : Slot), (slotsOf rows ops.toList rows 0)[i]? = some x → ∃ o b, ops.toList[i]? = some o ∧ bs[i]? = some b ∧ rows[i]? = some (rowOf E ops o b) ∧ x = slotOf rows i o (rowOf E ops o b) := by
        intro i x hx
        have hlt : i < ops.toList.length := by
          have := (List.getElem?_eq_some_iff.1 hx).1
          omega
        obtain ⟨o, ho⟩ : ∃ o, ops.toList[i]? = some o := ⟨_, List.getElem?_eq_getElem hlt⟩
        obtain ⟨b, hb⟩ : ∃ b, bs[i]? = some b := ⟨_, List.getElem?_eq_getElem (by omega)⟩
        have hr : rows[i]? = some (rowOf E ops o b) := by rw [← hrows]; exact rowsOf_get ho hb
        have := slotsOf_get (rows := rows) (i := 0) ho hr
        rw [Nat.zero_add, hx] at this
        exact ⟨o, b, ho, hb, hr, Option.some.inj this⟩
      have hacts : ∀ j, actsS (slotsOf rows ops.toList rows 0) j = actsTo rows j := by
        intro j
        unfold actsS actsTo
        rw [acts_kinds (slotsOf rows ops.toList rows 0) (fun x => x.kind) j, acts_kinds rows (fun q => q.kind) j, slotsOf_kinds hrl]
      have pair : ∀ (i j : Nat) (x y : Slot), (slotsOf rows ops.toList rows 0)[i]? = some x → (slotsOf rows ops.toList rows 0)[j]? = some y → j < i →
          pairOk x.kind y.kind (x.before.testBit j) x.oper.dst y.oper.dst (looks ops x.oper) (looks ops y.oper) = true := by
        intro i j x y hx hy hj
        obtain ⟨o, b, _, _, hr, rfl⟩ := parts i x hx
        obtain ⟨o', b', _, _, hr', rfl⟩ := parts j y hy
        exact rowsOk_spec hok rfl i _ hr j _ (by omega) (by simpa using hr')
      refine { len := by rw [hsl]; simp, slot := ?_, actAct := ?_, actNew := ?_, dsts := ?_, look := ?_, look' := ?_, anc := ?_, lo := ?_, hi := ?_ }
      · intro i x hx
        obtain ⟨o, b, ho, _, _, rfl⟩ := parts i x hx
        exact ⟨by rw [← Array.getElem?_toList]; exact ho, rfl, rfl⟩
      · intro i j x y hx hy hj h1 h2
        have := pair i j x y hx hy hj
        unfold pairOk at this
        rw [h1, h2] at this
        simp only [Bool.and_eq_true] at this
        exact this.1.1
      · intro i j x y hx hy hj h1 h2
        have := pair i j x y hx hy hj
        unfold pairOk at this
        rw [h1, h2] at this
        simp only [Bool.and_eq_true] at this
        exact this.1.1
      · intro i j x y d hx hy hj h1 h2
        have := pair i j x y hx hy hj
        unfold pairOk at this
        simp only [Bool.and_eq_true, negB_eq] at this
        have hs : sameDst x.oper.dst y.oper.dst = true := sameDst_iff.2 ⟨d, h1, h2⟩
        rw [hs] at this
        simp at this
      · intro i j x y d hx hy hj h1 h2
        have := pair i j x y hx hy hj
        unfold pairOk at this
        simp only [Bool.and_eq_true, Bool.or_eq_true, negB_eq] at this
        rcases this.2 with h | h
        · exact h
        · have hd : dstIn y.oper.dst (looks ops x.oper) = true := by rw [h1]; exact memN_mem.2 h2
          rw [hd] at h
          simp at h
      · intro i j x y d hx hy hj h1 h2
        have := pair i j x y hx hy hj
        unfold pairOk at this
        simp only [Bool.and_eq_true, Bool.or_eq_true, negB_eq] at this
        rcases this.2 with h | h
        · exact h
        · have hd : dstIn x.oper.dst (looks ops y.oper) = true := by rw [h1]; exact memN_mem.2 h2
          rw [hd] at h
          simp at h
      · intro i x hx
        obtain ⟨o, b, ho, hb, _, rfl⟩ := parts i x hx
        obtain ⟨m, hm, g1, g2⟩ := hanc i o ho
        rw [hb] at hm
        cases hm
        refine ⟨g1, fun j hj => ?_⟩
        obtain ⟨e, he, hbe, hj'⟩ := g2 j hj
        refine ⟨e, he, hbe, hj'.imp id fun hj' => ?_⟩
        have hlt := g1 e he hbe
        have hli : i < ops.toList.length := (List.getElem?_eq_some_iff.1 ho).1
        obtain ⟨y, hy⟩ : ∃ y, (slotsOf rows ops.toList rows 0)[e.on]? = some y := ⟨_, List.getElem?_eq_getElem (by omega)⟩
        obtain ⟨o', b', ho', hb', _, rfl⟩ := parts _ y hy
        refine ⟨_, hy, ?_⟩
        rw [List.getD_eq_getElem?_getD, hb'] at hj'
        exact hj'
      · intro i x n hx hb
        obtain ⟨o, b, ho, _, hr, rfl⟩ := parts i x hx
        refine loOf_bound fun j q hq hk hbj => ?_
        simp only [Nat.zero_add] at hbj ⊢
        have hlj : j < ops.toList.length := by have := (List.getElem?_eq_some_iff.1 hq).1; omega
        obtain ⟨y, hy⟩ : ∃ y, (slotsOf rows ops.toList rows 0)[j]? = some y := ⟨_, List.getElem?_eq_getElem (by omega)⟩
        obtain ⟨o', b', _, _, hr', rfl⟩ := parts j y hy
        rw [hq] at hr'
        cases hr'
        have := hb j _ hy (isAct_iff.1 hk) hbj
        rwa [hacts] at this
      · intro i x n hx hn hb
        obtain ⟨o, b, ho, _, hr, rfl⟩ := parts i x hx
        refine hiOf_ge (by omega) fun j q hq hk hbj => ?_
        simp only [Nat.zero_add]
        have hlj : j < ops.toList.length := by have := (List.getElem?_eq_some_iff.1 hq).1; omega
        obtain ⟨y, hy⟩ : ∃ y, (slotsOf rows ops.toList rows 0)[j]? = some y := ⟨_, List.getElem?_eq_getElem (by omega)⟩
        obtain ⟨o', b', _, _, hr', rfl⟩ := parts j y hy
        rw [hq] at hr'
        cases hr'
        have := hb j _ hy (isAct_iff.1 hk) hbj
        rwa [hacts] at this

end Go.Ab
/- Regions whose order is open, 6: the run in text order. -/
namespace Go.Ab

variable {E : Env} {G : Ground}

/-- the state ahead of the i-th operation -/
noncomputable def runTo : List Slot → List Evt → St → Nat → St
  | _, _, s, 0 => s
  | x :: l, e :: es, s, i + 1 => runTo l es (s.next x e) i
  | _, _, s, _ + 1 => s

theorem runTo_succ : ∀ {l : List Slot} {es : List Evt} {s : St} {i : Nat} {x : Slot} {e : Evt}, l[i]? = some x → es[i]? = some e → runTo l es s (i + 1) = (runTo l es s i).next x e := by
  intro l
  induction l with
  | nil => intro es s i x e h; simp at h
  | cons y l ih =>
    intro es s i x e h he
    cases es with
    | nil => simp at he
    | cons f es =>
      cases i with
      | zero => simp at h he; subst h he; cases l <;> cases es <;> rfl
      | succ i => exact ih (by simpa using h) (by simpa using he)

theorem evsOk_get {ro : Option Nat} {all : Array Oper} : ∀ {l : List Slot} {es : List Evt} {s : St} {i : Nat} {x : Slot}, EvsOk E G ro all l es s → l[i]? = some x → ∃ e, es[i]? = some e ∧ EvOk E G ro all x (runTo l es s i) e := by
  intro l
  induction l with
  | nil => intro es s i x _ h; simp at h
  | cons y l ih =>
    intro es s i x h hx
    cases es with
    | nil => exact h.elim
    | cons f es =>
      cases i with
      | zero => simp at hx; subst hx; exact ⟨f, rfl, h.1⟩
      | succ i => exact ih h.2 (by simpa using hx)

theorem evsOk_length {ro : Option Nat} {all : Array Oper} : ∀ {l : List Slot} {es : List Evt} {s : St}, EvsOk E G ro all l es s → es.length = l.length := by
  intro l
  induction l with
  | nil => intro es s h; cases es with
    | nil => rfl
    | cons _ _ => exact h.elim
  | cons y l ih =>
    intro es s h
    cases es with
    | nil => exact h.elim
    | cons f es => simp only [List.length_cons]; rw [ih h.2]

theorem fin_eq {ro : Option Nat} {all : Array Oper} : ∀ {l : List Slot} {es : List Evt} {s : St}, EvsOk E G ro all l es s → fin l es s = runTo l es s l.length := by
  intro l
  induction l with
  | nil => intro es s h; cases es <;> rfl
  | cons y l ih =>
    intro es s h
    cases es with
    | nil => exact h.elim
    | cons f es => simp only [fin, List.length_cons, runTo]; exact ih h.2

/-- what lies ahead of a region -/
structure Draw (E : Env) (G : Ground) (ro : Option Nat) (ops : Array Oper) (sl : List Slot) (es : List Evt) (s₀ : St) : Prop where
  st : Static E ops sl
  ok : EvsOk E G ro ops sl es s₀
  hs : s₀.p.hs = [s₀.H]
  k : s₀.p.k = 0
  dead : s₀.p.dead = none
  reads : s₀.p.reads = []

section
variable {ro : Option Nat} {ops : Array Oper} {sl : List Slot} {es : List Evt} {s₀ : St}

theorem next_base (s : St) (x : Slot) (e : Evt) : (s.next x e).p.base = s.p.base := by
  unfold St.next
  cases e <;> simp only
  cases x.kind <;> rfl

theorem next_tau (s : St) (x : Slot) (e : Evt) : (s.next x e).p.tau = s.p.tau := by
  unfold St.next
  cases e <;> simp only
  cases x.kind <;> rfl

/-- does the operation count as an act? -/
def counts (x : Slot) (e : Evt) : Bool :=
  match e with
  | .unw => x.kind.isAct
  | .act _ _ => true
  | _ => false

theorem next_k (s : St) (x : Slot) (e : Evt) : (s.next x e).p.k = s.p.k + (if counts x e then 1 else 0) := by
  unfold St.next counts
  cases e <;> simp only [Bool.false_eq_true, if_false, if_true, Nat.add_zero]
  · cases x.kind <;> rfl

theorem next_hs (s : St) (x : Slot) (e : Evt) : (s.next x e).p.hs = s.p.hs ++ (if counts x e then [(s.next x e).H] else []) := by
  unfold St.next counts
  cases e <;> simp only [Bool.false_eq_true, if_false, if_true, List.append_nil, appL_eq]
  · cases x.kind <;> simp [Kind.isAct]

theorem next_H_other (s : St) (x : Slot) (e : Evt) (hc : counts x e = false) (h : ∀ o nv, e ≠ .nw o nv) : (s.next x e).H = s.H := by
  cases e with
  | nw o nv => exact absurd rfl (h o nv)
  | act v H' => cases hc
  | _ => rfl

theorem next_reads (s : St) (x : Slot) (e : Evt) : ∀ r ∈ s.p.reads, r ∈ (s.next x e).p.reads := by
  intro r hr
  unfold St.next
  cases e <;> simp only <;> try exact hr
  · cases x.kind <;> exact hr
  · exact List.mem_cons_of_mem _ hr

/-- every operation and what it came to -/
theorem Draw.get (D : Draw E G ro ops sl es s₀) {i : Nat} (hi : i < sl.length) : ∃ x e, sl[i]? = some x ∧ es[i]? = some e ∧ x.ix = i ∧ EvOk E G ro ops x (runTo sl es s₀ i) e ∧ runTo sl es s₀ (i + 1) = (runTo sl es s₀ i).next x e := by
  have hx := List.getElem?_eq_getElem hi
  obtain ⟨e, he, hok⟩ := evsOk_get D.ok hx
  exact ⟨_, e, hx, he, (D.st.slot i _ hx).2.1, hok, runTo_succ hx he⟩

theorem Draw.base (D : Draw E G ro ops sl es s₀) : ∀ {i : Nat}, i ≤ sl.length → (runTo sl es s₀ i).p.base = s₀.p.base ∧ (runTo sl es s₀ i).p.tau = s₀.p.tau := by
  intro i
  induction i with
  | zero => intro _; cases sl <;> cases es <;> exact ⟨rfl, rfl⟩
  | succ i ih =>
    intro h
    obtain ⟨x, e, _, _, _, _, hn⟩ := D.get (i := i) (by omega)
    obtain ⟨h1, h2⟩ := ih (by omega)
    rw [hn, next_base, next_tau]
    exact ⟨h1, h2⟩

theorem runTo_zero : runTo sl es s₀ 0 = s₀ := by cases sl <;> cases es <;> rfl

theorem Draw.mono (D : Draw E G ro ops sl es s₀) {i : Nat} : ∀ {d : Nat}, i + d ≤ sl.length → (runTo sl es s₀ i).p.k ≤ (runTo sl es s₀ (i + d)).p.k ∧ (∃ t, (runTo sl es s₀ (i + d)).p.hs = (runTo sl es s₀ i).p.hs ++ t) ∧
    ∀ r ∈ (runTo sl es s₀ i).p.reads, r ∈ (runTo sl es s₀ (i + d)).p.reads := by
  intro d
  induction d with
  | zero => intro _; exact ⟨Nat.le_refl _, ⟨[], by simp⟩, fun r hr => hr⟩
  | succ d ih =>
    intro h
    obtain ⟨h1, ⟨t, h2⟩, h3⟩ := ih (by omega)
    obtain ⟨x, e, _, _, _, _, hn⟩ := D.get (i := i + d) (by omega)
    rw [show i + (d + 1) = i + d + 1 from by omega, hn]
    refine ⟨?_, ?_, fun r hr => next_reads _ _ _ r (h3 r hr)⟩
    · rw [next_k]; omega
    · rw [next_hs, h2, List.append_assoc]; exact ⟨_, rfl⟩

theorem Draw.hlen (D : Draw E G ro ops sl es s₀) : ∀ {i : Nat}, i ≤ sl.length → (runTo sl es s₀ i).p.hs.length = (runTo sl es s₀ i).p.k + 1 := by
  intro i
  induction i with
  | zero => intro _; rw [runTo_zero, D.hs, D.k]; rfl
  | succ i ih =>
    intro h
    obtain ⟨x, e, _, _, _, _, hn⟩ := D.get (i := i) (by omega)
    have := ih (by omega)
    rw [hn, next_hs, next_k, List.length_append, this]
    cases counts x e <;> simp <;> omega

/-- the memory behind the last act ahead of the i-th operation -/
theorem Draw.heapAt (D : Draw E G ro ops sl es s₀) {i : Nat} (hi : i ≤ sl.length) : ∃ Hb, (runTo sl es s₀ i).p.hs[(runTo sl es s₀ i).p.k]? = some Hb ∧ (runTo sl es s₀ sl.length).p.hs[(runTo sl es s₀ i).p.k]? = some Hb := by
  have hl := D.hlen hi
  have hx := List.getElem?_eq_getElem (l := (runTo sl es s₀ i).p.hs) (i := (runTo sl es s₀ i).p.k) (by omega)
  refine ⟨_, hx, ?_⟩
  obtain ⟨_, ⟨t, ht⟩, _⟩ := D.mono (i := i) (d := sl.length - i) (by omega)
  rw [show i + (sl.length - i) = sl.length from by omega] at ht
  rw [ht, List.getElem?_append_left (by omega)]
  exact hx

/-- is it a new block's operation, and which block? -/
def isNw (es : List Evt) (j : Nat) (o : AObj) : Prop := ∃ nv, es[j]? = some (.nw o nv)

/-- the canonical memory: the memory behind the last act, and the new blocks since then -/
theorem Draw.canon (D : Draw E G ro ops sl es s₀) : ∀ {i : Nat}, i ≤ sl.length → ∀ Hb, (runTo sl es s₀ i).p.hs[(runTo sl es s₀ i).p.k]? = some Hb →
    (runTo sl es s₀ i).H.next = Hb.next ∧ (∀ j o, j < i → isNw es j o → (runTo sl es s₀ j).p.k = (runTo sl es s₀ i).p.k → (runTo sl es s₀ i).H.get (s₀.p.base + j) = some o) ∧
    ∀ b, (∀ j o, j < i → isNw es j o → (runTo sl es s₀ j).p.k = (runTo sl es s₀ i).p.k → b ≠ s₀.p.base + j) → (runTo sl es s₀ i).H.get b = Hb.get b := by
  intro i
  induction i with
  | zero =>
    intro _ Hb h
    rw [runTo_zero, D.hs, D.k] at h
    rw [runTo_zero]
    cases h
    exact ⟨rfl, fun j o hj => by omega, fun b _ => rfl⟩
  | succ i ih =>
    intro hi Hb h
    obtain ⟨x, e, hx, he, hix, hok, hn⟩ := D.get (i := i) (by omega)
    obtain ⟨hb, htau⟩ := D.base (i := i) (by omega)
    have hl := D.hlen (i := i) (by omega)
    have hkk : (runTo sl es s₀ (i + 1)).p.k = (runTo sl es s₀ i).p.k + (if counts x e then 1 else 0) := by rw [hn, next_k]
    cases hc : counts x e with
    | true =>
      rw [hc] at hkk
      simp only [if_true] at hkk
      rw [hkk, hn, next_hs, hc] at h
      simp only [if_true] at h
      rw [List.getElem?_append_right (by omega)] at h
      rw [show (runTo sl es s₀ i).p.k + 1 - (runTo sl es s₀ i).p.hs.length = 0 from by omega] at h
      simp only [List.getElem?_cons_zero, Option.some.injEq] at h
      rw [hn, h]
      refine ⟨rfl, fun j o hj hnw hk => ?_, fun b _ => rfl⟩
      exfalso
      obtain ⟨h1, _⟩ := D.mono (i := j) (d := i - j) (by omega)
      rw [show j + (i - j) = i from by omega] at h1
      rw [next_k, hc] at hk
      simp only [if_true] at hk
      omega
    | false =>
      rw [hc] at hkk
      simp only [Bool.false_eq_true, if_false, Nat.add_zero] at hkk
      rw [hkk, hn, next_hs, hc] at h
      simp only [Bool.false_eq_true, if_false, List.append_nil] at h
      obtain ⟨h1, h2, h3⟩ := ih (by omega) Hb h
      rw [hkk]
      by_cases hnw : ∃ o nv, e = .nw o nv
      · obtain ⟨o, nv, rfl⟩ := hnw
        have hH : (runTo sl es s₀ (i + 1)).H = (runTo sl es s₀ i).H.put (s₀.p.base + i) o := by
          rw [hn, ← hb, ← hix]; rfl
        rw [hH]
        refine ⟨h1, fun j o' hj hj2 hk => ?_, fun b hb2 => ?_⟩
        · rw [AHeap.get_put]
          by_cases e : j = i
          · subst e
            obtain ⟨nv', h'⟩ := hj2
            rw [he] at h'
            cases h'
            rw [if_pos rfl]
          · rw [if_neg (by omega)]
            exact h2 j o' (by omega) hj2 hk
        · rw [AHeap.get_put, if_neg (hb2 i o (by omega) ⟨nv, he⟩ rfl)]
          exact h3 b fun j o' hj hj2 hk => hb2 j o' (by omega) hj2 hk
      · have hH' : (runTo sl es s₀ (i + 1)).H = (runTo sl es s₀ i).H := by
          rw [hn]
          exact next_H_other _ _ _ hc fun o nv e' => hnw ⟨o, nv, e'⟩
        rw [hH']
        refine ⟨h1, fun j o' hj hj2 hk => ?_, fun b hb2 => h3 b fun j o' hj hj2 hk => hb2 j o' (by omega) hj2 hk⟩
        have hji : j ≠ i := fun e' => by
          subst e'
          obtain ⟨nv', h'⟩ := hj2
          rw [he] at h'
          cases h'
          exact hnw ⟨_, _, rfl⟩
        exact h2 j o' (by omega) hj2 hk

end

end Go.Ab
/- Regions whose order is open, 7: temporaries and panics of the run in text order. -/
namespace Go.Ab

variable {E : Env} {G : Ground} {ro : Option Nat} {ops : Array Oper} {sl : List Slot} {es : List Evt} {s₀ : St}

/-- where the value of a temporary comes from -/
def TauAt (sl : List Slot) (es : List Evt) (s₀ : St) (i d : Nat) (v : AVal) : Prop :=
    (∃ (j : Nat) (x : Slot) (e : Evt), j < i ∧ sl[j]? = some x ∧ es[j]? = some e ∧ x.oper.dst = some d ∧ e.val (s₀.p.base + j) = some v) ∨
    ((∀ (j : Nat) (x : Slot) (e : Evt), j < i → sl[j]? = some x → es[j]? = some e → x.oper.dst = some d → e.val (s₀.p.base + j) = none) ∧ s₀.τ.get d = some v)

theorem Draw.tau_get (D : Draw E G ro ops sl es s₀) : ∀ {i : Nat}, i ≤ sl.length → ∀ d v, (runTo sl es s₀ i).τ.get d = some v → TauAt sl es s₀ i d v := by
  intro i
  induction i with
  | zero => intro _ d v h; rw [runTo_zero] at h; exact .inr ⟨fun j x e hj => by omega, h⟩
  | succ i ih =>
    intro hi d v h
    obtain ⟨x, e, hx, he, hix, hok, hn⟩ := D.get (i := i) (by omega)
    obtain ⟨hb, _⟩ := D.base (i := i) (by omega)
    have hτ : (runTo sl es s₀ (i + 1)).τ = (runTo sl es s₀ i).put x (e.val (s₀.p.base + i)) := by
      rw [hn, ← hb, ← hix]; rfl
    rw [hτ] at h
    have old : (runTo sl es s₀ i).τ.get d = some v → (x.oper.dst = some d → e.val (s₀.p.base + i) = none) → TauAt sl es s₀ (i + 1) d v := fun h hne => by
      rcases ih (by omega) d v h with ⟨j, y, f, hj, g⟩ | ⟨g1, g2⟩
      · exact .inl ⟨j, y, f, by omega, g⟩
      · refine Or.inr ⟨fun j y f hj hy hf hd => ?_, g2⟩
        by_cases e' : j = i
        · subst e'
          rw [hx] at hy
          cases hy
          rw [he] at hf
          cases hf
          exact hne hd
        · exact g1 j y f (by omega) hy hf hd
    cases hv : e.val (s₀.p.base + i) with
    | none =>
      rw [hv] at h
      exact old h fun _ => hv
    | some u =>
      rw [hv] at h
      unfold St.put putA at h
      simp only at h
      cases hd : x.oper.dst with
      | none =>
        rw [hd] at h
        exact old h fun e' => by rw [hd] at e'; cases e'
      | some d' =>
        rw [hd] at h
        simp only at h
        rw [Tr.get_set] at h
        by_cases e' : d = d'
        · subst e'
          rw [if_pos rfl] at h
          exact .inl ⟨i, x, e, by omega, hx, he, hd, by rw [hv]; exact h⟩
        · rw [if_neg e'] at h
          exact old h fun e'' => by rw [hd] at e''; cases e''; exact absurd rfl e'

theorem EvOk.wanted {x : Slot} {s : St} {e : Evt} (h : EvOk E G ro ops x s e) (hg : e ≠ .gone) : passedBy x s.p = false ∧ EvWanted E G ro ops x s e := by
  rcases h with ⟨_, h⟩ | h
  · exact absurd h hg
  · exact h

theorem next_dead (s : St) (x : Slot) (e : Evt) : (s.next x e).p.dead = match e with | .act _ _ => none | .dead ch H' => some (x.ix, ch, H') | _ => s.p.dead := by
  unfold St.next
  cases e <;> simp only
  cases x.kind <;> rfl

theorem Draw.dead_pers (D : Draw E G ro ops sl es s₀) {j : Nat} {ch : Chain} {H' : AHeap} (hj : es[j]? = some (.dead ch H')) : ∀ {i : Nat}, j < i → i ≤ sl.length → (runTo sl es s₀ i).p.dead = some (j, ch, H') := by
  intro i
  induction i with
  | zero => intro h; omega
  | succ i ih =>
    intro h hi
    obtain ⟨x, e, hx, he, hix, hok, hn⟩ := D.get (i := i) (by omega)
    rw [hn, next_dead]
    by_cases e' : j = i
    · subst e'
      rw [he] at hj
      cases hj
      simp only [hix]
    · have hd := ih (by omega) (by omega)
      obtain ⟨y, f, hy, hf, _, hok', _⟩ := D.get (i := j) (by omega)
      rw [hf] at hj
      cases hj
      have hky : y.kind = .act := (hok'.wanted (by simp)).2.2.1
      have hno : x.kind = .act → e = .gone := fun hk => by
        rcases hok with ⟨_, g⟩ | ⟨g, _⟩
        · exact g
        · have := D.st.actAct i j x y hx hy (by omega) hk hky
          unfold passedBy at g
          rw [hd] at g
          simp only at g
          rw [this] at g
          cases g
      cases e with
      | act v H2 => have := hno (hok.wanted (by simp)).2.2.1; cases this
      | dead ch2 H2 => have := hno (hok.wanted (by simp)).2.2.1; cases this
      | _ => exact hd

theorem Draw.dead_from (D : Draw E G ro ops sl es s₀) : ∀ {i : Nat}, i ≤ sl.length → ∀ d ch H', (runTo sl es s₀ i).p.dead = some (d, ch, H') → d < i ∧ es[d]? = some (.dead ch H') := by
  intro i
  induction i with
  | zero => intro _ d ch H' h; rw [runTo_zero, D.dead] at h; cases h
  | succ i ih =>
    intro hi d ch H' h
    obtain ⟨x, e, hx, he, hix, hok, hn⟩ := D.get (i := i) (by omega)
    rw [hn, next_dead] at h
    cases e with
    | act v H2 => cases h
    | dead ch2 H2 =>
      simp only [Option.some.injEq, Prod.mk.injEq] at h
      obtain ⟨h1, h2, h3⟩ := h
      rw [hix] at h1
      subst h1 h2 h3
      exact ⟨by omega, he⟩
    | _ => obtain ⟨h1, h2⟩ := ih (by omega) d ch H' h; exact ⟨by omega, h2⟩

end Go.Ab
/- Regions whose order is open, 8: what holds when some of the operations have been carried out. -/
namespace Go.Ab

variable {E : Env} {G : Ground} {ro : Option Nat} {ops : Array Oper} {sl : List Slot} {es : List Evt} {s₀ : St}

/-- some operations have been carried out -/
structure Inv (G : Ground) (sl : List Slot) (es : List Evt) (s₀ : St) (ds : List ADef) (sz : Nat) (μ₀ : Map) (H₀ : AHeap) (w₀ : World) (m : Nat) (listed : Array Bool) (a : Act) (w : World) (μ : Map) (HS : AHeap) : Prop where
  lsz : listed.size = sl.length
  closed : ∀ (i : Nat) (x : Slot), sl[i]? = some x → listed.getD i false = true → ∀ j, x.before.testBit j = true → listed.getD j false = true
  alive : ∀ (i : Nat) (e : Evt), listed.getD i false = true → es[i]? = some e → ∃ v, e.val (s₀.p.base + i) = some v
  mle : m ≤ sl.length
  acts : ∀ (i : Nat) (x : Slot), sl[i]? = some x → x.kind = .act → (listed.getD i false = true ↔ i < m)
  nxt : Nxt0 G μ₀ H₀ w₀ μ HS w
  keep : ∀ b, b < s₀.p.base → μ b = μ₀ b
  hb : ∃ Hb : AHeap, (runTo sl es s₀ sl.length).p.hs[(runTo sl es s₀ m).p.k]? = some Hb ∧ HS.next = Hb.next ∧
    (∀ (j : Nat) (o : AObj), listed.getD j false = true → isNw es j o → (runTo sl es s₀ m).p.k ≤ (runTo sl es s₀ j).p.k → HS.get (s₀.p.base + j) = some o ∧ Hb.get (s₀.p.base + j) = none) ∧
    ∀ b, (∀ (j : Nat) (o : AObj), listed.getD j false = true → isNw es j o → (runTo sl es s₀ m).p.k ≤ (runTo sl es s₀ j).p.k → b ≠ s₀.p.base + j) → HS.get b = Hb.get b
  fresh : ∀ (j : Nat) (o : AObj), listed.getD j false = false → isNw es j o → μ (s₀.p.base + j) = none
  bnd : s₀.p.base + sl.length ≤ HS.next
  tmps : ∀ (i : Nat) (x : Slot) (e : Evt) (v : AVal) (d : Nat), listed.getD i false = true → sl[i]? = some x → es[i]? = some e → e.val (s₀.p.base + i) = some v → x.oper.dst = some d → VRel G.I μ v (a.tmps.getD d undef)
  old : ∀ (d : Nat) (v : AVal), (∀ (i : Nat) (x : Slot), listed.getD i false = true → sl[i]? = some x → x.oper.dst ≠ some d) → s₀.τ.get d = some v → VRel G.I μ v (a.tmps.getD d undef)
  tsize : a.tmps.size = sz
  defers : DsRel G.I μ ds a.defers

section
variable {ds : List ADef} {sz : Nat} {μ₀ : Map} {H₀ : AHeap} {w₀ : World} {m : Nat} {listed : Array Bool} {a : Act} {w : World} {μ : Map} {HS : AHeap}

/-- the temporaries at which the next operation looks are as in the run in text order -/
theorem Inv.looks_rel (D : Draw E G ro ops sl es s₀) (I : Inv G sl es s₀ ds sz μ₀ H₀ w₀ m listed a w μ HS) {i : Nat} {x : Slot} (hx : sl[i]? = some x) (hun : listed.getD i false = false)
    (hbef : ∀ j, x.before.testBit j = true → listed.getD j false = true) {d : Nat} (hd : d ∈ looks ops x.oper) {v : AVal} (hv : (runTo sl es s₀ i).τ.get d = some v) : VRel G.I μ v (a.tmps.getD d undef) := by
  have hi : i < sl.length := (List.getElem?_eq_some_iff.1 hx).1
  rcases D.tau_get (by omega) d v hv with ⟨j, y, f, hj, hy, hf, hdst, hval⟩ | ⟨hno, hs⟩
  · exact I.tmps j y f v d (hbef j (D.st.look i j x y d hx hy hj hdst hd)) hy hf hval hdst
  · refine I.old d v (fun j y hlj hy hdst => ?_) hs
    have hne : j ≠ i := fun e => by subst e; rw [hun] at hlj; cases hlj
    rcases Nat.lt_or_ge j i with hlt | hge
    · obtain ⟨f, hf, _⟩ := evsOk_get D.ok hy
      obtain ⟨u, hu⟩ := I.alive j f hlj hf
      rw [hno j y f hlt hy hf hdst] at hu
      cases hu
    · have := D.st.look' j i y x d hy hx (by omega) hdst hd
      have := I.closed j y hy hlj i this
      rw [hun] at this
      cases this

theorem tmp_mem_looks {o : Oper} {t : Nat} (h : Operand.tmp t ∈ o.op.operands) : t ∈ looks ops o := by
  unfold looks tmpsOf
  rw [List.mem_append]
  left
  rw [List.mem_filterMap]
  exact ⟨.tmp t, by simpa using h, rfl⟩

/-- its operands -/
theorem Inv.operands_rel (hT : Told E G) (D : Draw E G ro ops sl es s₀) (I : Inv G sl es s₀ ds sz μ₀ H₀ w₀ m listed a w μ HS) {i : Nat} {x : Slot} (hx : sl[i]? = some x) (hun : listed.getD i false = false)
    (hbef : ∀ j, x.before.testBit j = true → listed.getD j false = true) : ∀ y ∈ x.oper.op.operands, VRel G.I μ (aeval E (runTo sl es s₀ i).τ y) (a.eval y) := by
  intro y hy
  have hnil : TRel G.I μ .nil a.tmps := fun k v h => by rw [Tr.get_nil] at h; cases h
  cases y with
  | tmp t => exact orUndef_rel fun v hv => I.looks_rel D hx hun hbef (tmp_mem_looks hy) hv
  | const v => exact aeval_rel (E := E) hT.globals I.nxt.rel hnil (.const v)
  | global g => exact aeval_rel (E := E) hT.globals I.nxt.rel hnil (.global g)
  | func f => exact aeval_rel (E := E) hT.globals I.nxt.rel hnil (.func f)

/-- whether it is wanted -/
theorem Inv.wanted (D : Draw E G ro ops sl es s₀) (I : Inv G sl es s₀ ds sz μ₀ H₀ w₀ m listed a w μ HS) {i : Nat} {x : Slot} (hx : sl[i]? = some x) (hun : listed.getD i false = false)
    (hbef : ∀ j, x.before.testBit j = true → listed.getD j false = true) {b : Bool} (h : wantedA ops (runTo sl es s₀ i).τ x.oper.guard = some b) : Region.wanted x.oper (yielded ops a.tmps) = b := by
  cases hg : x.oper.guard with
  | none =>
    rw [hg] at h
    cases h
    simp [Region.wanted, hg]
  | some g =>
    obtain ⟨j, want⟩ := g
    cases ho : ops[j]? with
    | none =>
      have hnil : TRel G.I μ .nil a.tmps := fun k v h => by rw [Tr.get_nil] at h; cases h
      refine wanted_ok (G := G) (τ := .nil) hnil ?_
      rw [hg] at h ⊢
      simp only [wantedA, ho] at h ⊢
      exact h
    | some o' =>
      cases hd : o'.dst with
      | none =>
        have hnil : TRel G.I μ .nil a.tmps := fun k v h => by rw [Tr.get_nil] at h; cases h
        refine wanted_ok (G := G) (τ := .nil) hnil ?_
        rw [hg] at h ⊢
        simp only [wantedA, ho, hd] at h ⊢
        exact h
      | some d =>
        have hmem : d ∈ looks ops x.oper := by
          unfold looks
          rw [List.mem_append]
          right
          simp [hg, ho, hd]
        let τ' : Tr AVal := Tr.set ((runTo sl es s₀ i).τ.get d) (Nat.succ d) .nil d
        have hget : ∀ k, τ'.get k = if k = d then (runTo sl es s₀ i).τ.get d else none := fun k => by
          show (Tr.set _ _ _ _).get k = _
          rw [Tr.get_set, Tr.get_nil]
        refine wanted_ok (G := G) (μ := μ) (τ := τ') (fun k v hk => ?_) ?_
        · rw [hget] at hk
          split at hk
          · rename_i e
            subst e
            exact I.looks_rel D hx hun hbef hmem hk
          · cases hk
        · rw [hg] at h ⊢
          simp only [wantedA, ho, hd] at h ⊢
          rw [hget, if_pos rfl]
          exact h
end

end Go.Ab
/- Regions whose order is open, 9: one operation more. -/
namespace Go.Ab

variable {E : Env} {G : Ground} {ro : Option Nat} {ops : Array Oper} {sl : List Slot} {es : List Evt} {s₀ : St}
variable {ds : List ADef} {sz : Nat} {μ₀ : Map} {H₀ : AHeap} {w₀ : World} {m : Nat} {listed : Array Bool} {a : Act} {w : World} {μ : Map} {HS : AHeap}

theorem listed_set {listed : Array Bool} {i j : Nat} (hi : i < listed.size) : (listed.setIfInBounds i true).getD j false = if j = i then true else listed.getD j false := by
  rw [Array.getD_eq_getD_getElem?, Array.getElem?_setIfInBounds, Array.getD_eq_getD_getElem?]
  by_cases h : i = j
  · subst h; simp [hi]
  · have : ¬ j = i := fun e => h e.symm
    simp [h, this]

/-- what is asked of the memory -/
def MemOk (sl : List Slot) (es : List Evt) (s₀ : St) (m : Nat) (listed : Array Bool) (HS : AHeap) : Prop :=
  ∃ Hb : AHeap, (runTo sl es s₀ sl.length).p.hs[(runTo sl es s₀ m).p.k]? = some Hb ∧ HS.next = Hb.next ∧
    (∀ (j : Nat) (o : AObj), listed.getD j false = true → isNw es j o → (runTo sl es s₀ m).p.k ≤ (runTo sl es s₀ j).p.k → HS.get (s₀.p.base + j) = some o ∧ Hb.get (s₀.p.base + j) = none) ∧
    ∀ b, (∀ (j : Nat) (o : AObj), listed.getD j false = true → isNw es j o → (runTo sl es s₀ m).p.k ≤ (runTo sl es s₀ j).p.k → b ≠ s₀.p.base + j) → HS.get b = Hb.get b

theorem Inv.list (D : Draw E G ro ops sl es s₀) (I : Inv G sl es s₀ ds sz μ₀ H₀ w₀ m listed a w μ HS) {i : Nat} {x : Slot} {e : Evt} (hx : sl[i]? = some x) (he : es[i]? = some e) (hun : listed.getD i false = false)
    (hbef : ∀ j, x.before.testBit j = true → listed.getD j false = true) {v : AVal} {v' : Value} {μ' : Map} {w' : World} {HS' : AHeap} {m' : Nat} (hv : e.val (s₀.p.base + i) = some v) (hrel : VRel G.I μ' v v')
    (hn : Nxt0 G μ HS w μ' HS' w') (hkeep : ∀ b, b < s₀.p.base → μ' b = μ b) (hm' : m' ≤ sl.length) (hacts : ∀ (j : Nat) (y : Slot), sl[j]? = some y → y.kind = .act → ((listed.setIfInBounds i true).getD j false = true ↔ j < m'))
    (hmem : MemOk sl es s₀ m' (listed.setIfInBounds i true) HS') (hfresh : ∀ (j : Nat) (o : AObj), j ≠ i → listed.getD j false = false → isNw es j o → μ' (s₀.p.base + j) = none)
    (hdst : ∀ d, x.oper.dst = some d → d < sz) : Inv G sl es s₀ ds sz μ₀ H₀ w₀ m' (listed.setIfInBounds i true) (a.put x.oper.dst v') w' μ' HS' := by
  have hi : i < listed.size := by rw [I.lsz]; exact (List.getElem?_eq_some_iff.1 hx).1
  have hl : ∀ j, (listed.setIfInBounds i true).getD j false = true → j = i ∨ listed.getD j false = true := fun j h => by
    rw [listed_set hi] at h
    split at h
    · exact .inl (by assumption)
    · exact .inr h
  have hl' : ∀ j, listed.getD j false = true → (listed.setIfInBounds i true).getD j false = true := fun j h => by
    rw [listed_set hi]
    split
    · rfl
    · exact h
  have hput : ∀ d, x.oper.dst ≠ some d → (a.put x.oper.dst v').tmps.getD d undef = a.tmps.getD d undef := fun d hd => by
    cases hdd : x.oper.dst with
    | none => rfl
    | some d' =>
      have : ¬ d' = d := fun e => by rw [hdd, e] at hd; exact hd rfl
      simp only [Act.put]
      rw [Array.getD_eq_getD_getElem?, Array.getElem?_setIfInBounds, if_neg this, ← Array.getD_eq_getD_getElem?]
  have hself : ∀ d, x.oper.dst = some d → (a.put x.oper.dst v').tmps.getD d undef = v' := fun d hd => by
    rw [hd]
    simp only [Act.put]
    have : d < a.tmps.size := by rw [I.tsize]; exact hdst d hd
    rw [Array.getD_eq_getD_getElem?, Array.getElem?_setIfInBounds, if_pos rfl, if_pos this]
    rfl
  exact {
    lsz := by rw [Array.size_setIfInBounds]; exact I.lsz
    closed := fun k y hy hk j hj => by
      rcases hl k hk with rfl | hk
      · rw [hx] at hy
        cases hy
        exact hl' j (hbef j hj)
      · exact hl' j (I.closed k y hy hk j hj)
    alive := fun k f hk hf => by
      rcases hl k hk with rfl | hk
      · rw [he] at hf
        cases hf
        exact ⟨v, hv⟩
      · exact I.alive k f hk hf
    mle := hm'
    acts := hacts
    nxt := I.nxt.trans hn
    keep := fun b hb => (hkeep b hb).trans (I.keep b hb)
    hb := hmem
    fresh := fun j o hj hnw => by
      have hji : j ≠ i := fun e => by subst e; rw [listed_set hi, if_pos rfl] at hj; cases hj
      refine hfresh j o hji ?_ hnw
      rw [listed_set hi, if_neg hji] at hj
      exact hj
    bnd := Nat.le_trans I.bnd hn.next
    tmps := fun k y f u d hk hy hf hu hd => by
      by_cases hki : k = i
      · subst hki
        rw [hx] at hy
        cases hy
        rw [he] at hf
        cases hf
        rw [hv] at hu
        cases hu
        rw [hself d hd]
        exact hrel
      · have hk' : listed.getD k false = true := by
          rcases hl k hk with h | h
          · exact absurd h hki
          · exact h
        have hne : x.oper.dst ≠ some d := fun e' => by
          rcases Nat.lt_or_ge k i with h | h
          · exact D.st.dsts i k x y d hx hy h e' hd
          · exact D.st.dsts k i y x d hy hx (by omega) hd e'
        rw [hput d hne]
        exact (I.tmps k y f u d hk' hy hf hu hd).mono hn.le
    old := fun d u hno hu => by
      have hne : x.oper.dst ≠ some d := hno i x (by rw [listed_set hi, if_pos rfl]) hx
      rw [hput d hne]
      exact (I.old d u (fun k y hk hy => hno k y (hl' k hk) hy) hu).mono hn.le
    tsize := by rw [put_size]; exact I.tsize
    defers := by rw [put_defers]; exact I.defers.mono hn.le }

end Go.Ab
/- Regions whose order is open, 10: one operation more: what is no act. -/
namespace Go.Ab

variable {E : Env} {G : Ground} {ro : Option Nat} {ops : Array Oper} {sl : List Slot} {es : List Evt} {s₀ : St}
variable {ds : List ADef} {sz : Nat} {μ₀ : Map} {H₀ : AHeap} {w₀ : World} {m : Nat} {listed : Array Bool} {a : Act} {w : World} {μ : Map} {HS : AHeap}

theorem acts_list {i : Nat} {x : Slot} (I : Inv G sl es s₀ ds sz μ₀ H₀ w₀ m listed a w μ HS) (hx : sl[i]? = some x) (hk : x.kind ≠ .act) : ∀ (j : Nat) (y : Slot), sl[j]? = some y → y.kind = .act → ((listed.setIfInBounds i true).getD j false = true ↔ j < m) := by
  intro j y hy hky
  have hi : i < listed.size := by rw [I.lsz]; exact (List.getElem?_eq_some_iff.1 hx).1
  rw [listed_set hi, if_neg]
  · exact I.acts j y hy hky
  · intro e
    subst e
    rw [hx] at hy
    cases hy
    exact hk hky

/-- a value, and the memory as it was -/
theorem Inv.quiet (D : Draw E G ro ops sl es s₀) (I : Inv G sl es s₀ ds sz μ₀ H₀ w₀ m listed a w μ HS) {i : Nat} {x : Slot} {e : Evt} (hx : sl[i]? = some x) (he : es[i]? = some e) (hun : listed.getD i false = false)
    (hbef : ∀ j, x.before.testBit j = true → listed.getD j false = true) {v : AVal} {v' : Value} {μ' : Map} {w' : World} (hn : Nxt G μ HS w μ' HS w') (hv : e.val (s₀.p.base + i) = some v) (hrel : VRel G.I μ' v v') (hk : x.kind ≠ .act) (hnw : ∀ o nv, e ≠ .nw o nv)
    (hdst : ∀ d, x.oper.dst = some d → d < sz) : Inv G sl es s₀ ds sz μ₀ H₀ w₀ m (listed.setIfInBounds i true) (a.put x.oper.dst v') w' μ' HS := by
  have hi : i < listed.size := by rw [I.lsz]; exact (List.getElem?_eq_some_iff.1 hx).1
  have hno : ∀ j o, isNw es j o → j ≠ i := fun j o ⟨nv, h⟩ e' => by
    subst e'
    rw [he] at h
    cases h
    exact hnw _ _ rfl
  have hlt : ∀ j o, isNw es j o → j < sl.length := fun j o ⟨nv, h⟩ => by
    have := (List.getElem?_eq_some_iff.1 h).1
    rw [evsOk_length D.ok] at this
    exact this
  refine I.list D hx he hun hbef hv hrel hn.toNxt0 (fun b hb => hn.keep b (by have := I.bnd; omega)) I.mle (acts_list I hx hk) ?_ (fun j o _ hj h => by rw [hn.keep _ (by have := I.bnd; have := hlt j o h; omega)]; exact I.fresh j o hj h) hdst
  obtain ⟨Hb, h1, h2, h3, h4⟩ := I.hb
  refine ⟨Hb, h1, h2, fun j o hj h hle => h3 j o ?_ h hle, fun b hb => h4 b fun j o hj h hle => hb j o ?_ h hle⟩
  · rw [listed_set hi, if_neg (hno j o h)] at hj
    exact hj
  · rw [listed_set hi, if_neg (hno j o h)]
    exact hj

theorem counts_kind {x : Slot} {s : St} {e : Evt} (h : EvOk E G ro ops x s e) (hk : x.kind ≠ .act) : counts x e = false := by
  cases e with
  | unw => unfold counts; cases hx : x.kind <;> first | rfl | exact absurd hx hk
  | act v H' => exact absurd (h.wanted (by simp)).2.2.1 hk
  | _ => rfl

/-- where no act lies between, as many acts lie ahead -/
theorem Draw.kconst (D : Draw E G ro ops sl es s₀) {i : Nat} : ∀ {d : Nat}, i + d ≤ sl.length → (∀ (j : Nat) (y : Slot), i ≤ j → j < i + d → sl[j]? = some y → y.kind ≠ .act) → (runTo sl es s₀ (i + d)).p.k = (runTo sl es s₀ i).p.k := by
  intro d
  induction d with
  | zero => intro _ _; rfl
  | succ d ih =>
    intro h hno
    obtain ⟨x, e, hx, _, _, hok, hn⟩ := D.get (i := i + d) (by omega)
    rw [show i + (d + 1) = i + d + 1 from by omega, hn, next_k, counts_kind hok (hno (i + d) x (by omega) (by omega) hx)]
    simp only [Bool.false_eq_true, if_false, Nat.add_zero]
    exact ih (by omega) fun j y h1 h2 => hno j y h1 (by omega)

/-- an unlisted operation before which every act comes or which comes before every later act: its count is that of the state -/
theorem Inv.count_le (D : Draw E G ro ops sl es s₀) (I : Inv G sl es s₀ ds sz μ₀ H₀ w₀ m listed a w μ HS) {i : Nat} {x : Slot} (hx : sl[i]? = some x) (hun : listed.getD i false = false) (hk : x.kind = .new) :
    (runTo sl es s₀ m).p.k ≤ (runTo sl es s₀ i).p.k := by
  have hi : i < sl.length := (List.getElem?_eq_some_iff.1 hx).1
  rcases Nat.lt_or_ge i m with hlt | hge
  · have := D.kconst (i := i) (d := m - i) (by have := I.mle; omega) fun j y h1 h2 hy hky => by
      have hlj := (I.acts j y hy hky).2 (by omega)
      by_cases e : j = i
      · subst e; rw [hun] at hlj; cases hlj
      · have hb := D.st.actNew j i y x hy hx (by omega) hky hk
        have := I.closed j y hy hlj i hb
        rw [hun] at this
        cases this
    rw [show i + (m - i) = m from by omega] at this
    omega
  · have := (D.mono (i := m) (d := i - m) (by omega)).1
    rw [show m + (i - m) = i from by omega] at this
    exact this

/-- a new block -/
theorem Inv.fresh_block (D : Draw E G ro ops sl es s₀) (I : Inv G sl es s₀ ds sz μ₀ H₀ w₀ m listed a w μ HS) {i : Nat} {x : Slot} {o : AObj} {nv : NewV} (hx : sl[i]? = some x) (he : es[i]? = some (.nw o nv)) (hun : listed.getD i false = false)
    (hbef : ∀ j, x.before.testBit j = true → listed.getD j false = true) (hk : x.kind = .new) {v' : Value} {o' : Obj} {n : Nat} {w' : World} (ho : ORel G.I μ o n o') (hh : w'.heap = w.heap.push o') (h1 : w'.os = w.os) (h2 : w'.output = w.output)
    (hrel : ∀ (μ' : Map) (b : Nat), μ' b = some (w.heap.size, n) → VRel G.I μ' (nv.at b) v') (hdst : ∀ d, x.oper.dst = some d → d < sz) :
    ∃ μ' HS', Inv G sl es s₀ ds sz μ₀ H₀ w₀ m (listed.setIfInBounds i true) (a.put x.oper.dst v') w' μ' HS' := by
  have hil : i < sl.length := (List.getElem?_eq_some_iff.1 hx).1
  have hi : i < listed.size := by rw [I.lsz]; exact hil
  have hfr := I.fresh i o hun ⟨nv, he⟩
  have hn := Nxt0.newAt I.nxt.rel (b := s₀.p.base + i) (by have := I.bnd; omega) hfr ho hh h1 h2
  have hnone : HS.get (s₀.p.base + i) = none := by
    cases hg : HS.get (s₀.p.base + i) with
    | none => rfl
    | some o₁ =>
      obtain ⟨_, c, n₁, _, hm, _⟩ := I.nxt.rel.live _ _ hg
      rw [hfr] at hm
      cases hm
  refine ⟨_, _, I.list D hx he hun hbef (v := nv.at (s₀.p.base + i)) rfl (hrel _ _ (Map.add_self _ _ _)) hn (fun b hb => by simp only [Map.add]; rw [if_neg (by omega)]) I.mle (acts_list I hx (by rw [hk]; simp)) ?_ (fun j o₁ hji hj h => ?_) hdst⟩
  · obtain ⟨Hb, g1, g2, g3, g4⟩ := I.hb
    refine ⟨Hb, g1, g2, fun j o₁ hj h hle => ?_, fun b hb => ?_⟩
    · rw [AHeap.get_put]
      by_cases e : j = i
      · subst e
        rw [if_pos rfl]
        obtain ⟨nv₁, h⟩ := h
        rw [he] at h
        cases h
        refine ⟨rfl, ?_⟩
        rw [← g4 _ fun k o₂ hk2 _ _ e => by
          have : k = j := by omega
          subst this
          rw [hun] at hk2
          cases hk2]
        exact hnone
      · rw [if_neg (by omega)]
        rw [listed_set hi, if_neg e] at hj
        exact g3 j o₁ hj h hle
    · rw [AHeap.get_put, if_neg (hb i o (by rw [listed_set hi, if_pos rfl]) ⟨nv, he⟩ (I.count_le D hx hun hk))]
      exact g4 b fun j o₁ hj h hle => hb j o₁ (by
        rw [listed_set hi]
        split
        · rfl
        · exact hj) h hle
  · unfold Map.add
    rw [if_neg (by omega)]
    exact I.fresh j o₁ hj h

end Go.Ab
/- Regions whose order is open, 11: one operation more: an act. -/
namespace Go.Ab

variable {E : Env} {G : Ground} {ro : Option Nat} {ops : Array Oper} {sl : List Slot} {es : List Evt} {s₀ : St}
variable {ds : List ADef} {sz : Nat} {μ₀ : Map} {H₀ : AHeap} {w₀ : World} {m : Nat} {listed : Array Bool} {a : Act} {w : World} {μ : Map} {HS : AHeap}

/-- ahead of an act that is next: as many acts lie ahead as in the text -/
theorem Inv.act_count (D : Draw E G ro ops sl es s₀) (I : Inv G sl es s₀ ds sz μ₀ H₀ w₀ m listed a w μ HS) {i : Nat} {x : Slot} (hx : sl[i]? = some x) (hun : listed.getD i false = false)
    (hbef : ∀ j, x.before.testBit j = true → listed.getD j false = true) (hk : x.kind = .act) : m ≤ i ∧ (runTo sl es s₀ i).p.k = (runTo sl es s₀ m).p.k := by
  have hi : i < sl.length := (List.getElem?_eq_some_iff.1 hx).1
  have hmi : m ≤ i := by
    rcases Nat.lt_or_ge i m with h | h
    · have := (I.acts i x hx hk).2 h
      rw [hun] at this
      cases this
    · exact h
  refine ⟨hmi, ?_⟩
  have := D.kconst (i := m) (d := i - m) (by omega) fun j y h1 h2 hy hky => by
    have hlj := hbef j (D.st.actAct i j x y hx hy (by omega) hk hky)
    have := (I.acts j y hy hky).1 hlj
    omega
  rw [show m + (i - m) = i from by omega] at this
  exact this

theorem nw_kind (D : Draw E G ro ops sl es s₀) {j : Nat} {o : AObj} (h : isNw es j o) (hj : j < sl.length) : ∃ y, sl[j]? = some y ∧ y.kind = .new := by
  obtain ⟨nv, h⟩ := h
  obtain ⟨y, f, hy, hf, _, hok, _⟩ := D.get hj
  rw [hf] at h
  cases h
  exact ⟨y, hy, (hok.wanted (by simp)).2.2.2.1⟩

theorem isNw_lt (D : Draw E G ro ops sl es s₀) {j : Nat} {o : AObj} (h : isNw es j o) : j < sl.length := by
  obtain ⟨nv, h⟩ := h
  have := (List.getElem?_eq_some_iff.1 h).1
  rw [evsOk_length D.ok] at this
  exact this

theorem isNw_fun {j : Nat} {o o' : AObj} (h : isNw es j o) (h' : isNw es j o') : o = o' := by
  obtain ⟨nv, h⟩ := h
  obtain ⟨nv', h'⟩ := h'
  rw [h] at h'
  cases h'
  rfl

/-- the memory of the run in text order is a part of what is there -/
theorem Inv.act_part (D : Draw E G ro ops sl es s₀) (I : Inv G sl es s₀ ds sz μ₀ H₀ w₀ m listed a w μ HS) {i : Nat} {x : Slot} (hx : sl[i]? = some x) (hun : listed.getD i false = false)
    (hbef : ∀ j, x.before.testBit j = true → listed.getD j false = true) (hk : x.kind = .act) :
    (runTo sl es s₀ i).H.part HS ∧ ∀ j o, i < j → listed.getD j false = true → isNw es j o → HS.get (s₀.p.base + j) = some o ∧ (runTo sl es s₀ i).H.get (s₀.p.base + j) = none := by
  have hi : i < sl.length := (List.getElem?_eq_some_iff.1 hx).1
  obtain ⟨hmi, hkk⟩ := I.act_count D hx hun hbef hk
  obtain ⟨Hb, g1, g2, g3, g4⟩ := I.hb
  obtain ⟨Hb', q1, q2⟩ := D.heapAt (i := i) (by omega)
  rw [hkk] at q2
  rw [g1] at q2
  cases q2
  obtain ⟨c1, c2, c3⟩ := D.canon (i := i) (by omega) Hb q1
  have hle : ∀ j, i < j → j < sl.length → (runTo sl es s₀ m).p.k ≤ (runTo sl es s₀ j).p.k := fun j h1 h2 => by
    have := (D.mono (i := i) (d := j - i) (by omega)).1
    rw [show i + (j - i) = j from by omega] at this
    omega
  refine ⟨⟨c1.trans g2.symm, fun b o₁ hb => ?_⟩, fun j o hij hlj hnw => ?_⟩
  · by_cases hnew : ∃ j o, j < i ∧ isNw es j o ∧ (runTo sl es s₀ j).p.k = (runTo sl es s₀ i).p.k ∧ b = s₀.p.base + j
    · obtain ⟨j, o, hj, hnw, hjk, rfl⟩ := hnew
      rw [c2 j o hj hnw hjk] at hb
      cases hb
      obtain ⟨y, hy, hky⟩ := nw_kind D hnw (by omega)
      exact (g3 j _ (hbef j (D.st.actNew i j x y hx hy hj hk hky)) hnw (by omega)).1
    · rw [c3 b fun j o hj hnw hjk e => hnew ⟨j, o, hj, hnw, hjk, e⟩] at hb
      rw [g4 b fun j o hlj hnw hjk e => by
        subst e
        rw [(g3 j o hlj hnw hjk).2] at hb
        cases hb]
      exact hb
  · obtain ⟨h1, h2⟩ := g3 j o hlj hnw (hle j hij (isNw_lt D hnw))
    refine ⟨h1, ?_⟩
    rw [c3 _ fun j' o' hj' _ _ e => by omega]
    exact h2

/-- the new blocks that were laid although they stand behind the i-th operation -/
noncomputable def laterNews (es : List Evt) (base : Nat) (listed : Array Bool) (i : Nat) : List (Nat × AObj) :=
  (List.range es.length).filterMap fun j => match (es[j]? : Option Evt) with
    | some (Evt.nw o _) => if i < j ∧ listed.getD j false = true then some (base + j, o) else none
    | _ => none

theorem mem_laterNews {base i b : Nat} {o : AObj} : (b, o) ∈ laterNews es base listed i ↔ ∃ j, i < j ∧ listed.getD j false = true ∧ isNw es j o ∧ b = base + j := by
  unfold laterNews
  rw [List.mem_filterMap]
  constructor
  · rintro ⟨j, _, h⟩
    split at h
    · rename_i o' nv hj
      split at h
      · rename_i hc
        cases h
        exact ⟨j, hc.1, hc.2, ⟨nv, hj⟩, rfl⟩
      · cases h
    · cases h
  · rintro ⟨j, h1, h2, ⟨nv, h3⟩, rfl⟩
    refine ⟨j, List.mem_range.2 (List.getElem?_eq_some_iff.1 h3).1, ?_⟩
    rw [h3]
    simp only
    rw [if_pos ⟨h1, h2⟩]

/-- an act -/
theorem Inv.act (D : Draw E G ro ops sl es s₀) (I : Inv G sl es s₀ ds sz μ₀ H₀ w₀ m listed a w μ HS) {i : Nat} {x : Slot} {e : Evt} (hx : sl[i]? = some x) (he : es[i]? = some e) (hun : listed.getD i false = false)
    (hbef : ∀ j, x.before.testBit j = true → listed.getD j false = true) (hk : x.kind = .act) {v : AVal} {v' : Value} (hv : e.val (s₀.p.base + i) = some v) (hc : counts x e = true) {μ' : Map} {H' : AHeap} {w' : World}
    (hH : (runTo sl es s₀ (i + 1)).H = H') (hrel : VRel G.I μ' v v') (hn : Nxt G μ (runTo sl es s₀ i).H w μ' H' w') (hdst : ∀ d, x.oper.dst = some d → d < sz) :
    ∃ HS', Inv G sl es s₀ ds sz μ₀ H₀ w₀ (i + 1) (listed.setIfInBounds i true) (a.put x.oper.dst v') w' μ' HS' := by
  have hi : i < sl.length := (List.getElem?_eq_some_iff.1 hx).1
  have hil : i < listed.size := by rw [I.lsz]; exact hi
  obtain ⟨hmi, hkk⟩ := I.act_count D hx hun hbef hk
  obtain ⟨hpart, hlater⟩ := I.act_part D hx hun hbef hk
  obtain ⟨h1, h2⟩ := actStep (X := laterNews es s₀.p.base listed i) I.nxt.rel hpart (fun b o hb => by
    obtain ⟨j, g1, g2, g3, rfl⟩ := mem_laterNews.1 hb
    exact hlater j o g1 g2 g3) hn
  have hfun : ∀ b o o', (b, o) ∈ laterNews es s₀.p.base listed i → (b, o') ∈ laterNews es s₀.p.base listed i → o = o' := fun b o o' hb hb' => by
    obtain ⟨j, _, _, g3, rfl⟩ := mem_laterNews.1 hb
    obtain ⟨j', _, _, g3', e'⟩ := mem_laterNews.1 hb'
    have : j = j' := by omega
    subst this
    exact isNw_fun g3 g3'
  obtain ⟨p1, p2⟩ := puts_get (K := H') hfun
  have hk1 : (runTo sl es s₀ (i + 1)).p.k = (runTo sl es s₀ i).p.k + 1 := by
    rw [runTo_succ hx he, next_k, hc]; rfl
  have hnotnw : ∀ o, ¬ isNw es i o := fun o ⟨nv, h⟩ => by
    rw [he] at h
    cases h
    simp [counts] at hc
  refine ⟨_, I.list D hx he hun hbef hv hrel h2.toNxt0 (fun b hb => h2.keep b (by have := I.bnd; omega)) (by omega) ?_ ?_ (fun j o hji hj h => ?_) hdst⟩
  · intro j y hy hky
    rw [listed_set hil]
    by_cases e' : j = i
    · subst e'; simp
    · rw [if_neg e', I.acts j y hy hky]
      constructor
      · intro h; omega
      · intro h
        have hlj := hbef j (D.st.actAct i j x y hx hy (by omega) hk hky)
        exact (I.acts j y hy hky).1 hlj
  · obtain ⟨Hb, q1, q2⟩ := D.heapAt (i := i + 1) (by omega)
    have hHb : Hb = H' := by
      rw [hk1] at q1
      rw [runTo_succ hx he] at q1 hH
      rw [next_hs, hc] at q1
      simp only [if_true] at q1
      have hl := D.hlen (i := i) (by omega)
      rw [List.getElem?_append_right (by omega), show (runTo sl es s₀ i).p.k + 1 - (runTo sl es s₀ i).p.hs.length = 0 from by omega] at q1
      simp only [List.getElem?_cons_zero, Option.some.injEq] at q1
      rw [← q1, hH]
    subst hHb
    have hgt : ∀ j, j < sl.length → (runTo sl es s₀ (i + 1)).p.k ≤ (runTo sl es s₀ j).p.k → i < j := fun j hj hle => by
      rcases Nat.lt_or_ge i j with h | h
      · exact h
      · have := (D.mono (i := j) (d := i - j) (by omega)).1
        rw [show j + (i - j) = i from by omega] at this
        omega
    refine ⟨Hb, q2, puts_next _ _, fun j o hj hnw hle => ?_, fun b hb => ?_⟩
    · have hij := hgt j (isNw_lt D hnw) hle
      rw [listed_set hil, if_neg (by omega)] at hj
      have hmem : (s₀.p.base + j, o) ∈ laterNews es s₀.p.base listed i := mem_laterNews.2 ⟨j, hij, hj, hnw, rfl⟩
      exact ⟨p1 _ o hmem, h1 _ o hmem⟩
    · refine p2 b fun o ho => ?_
      obtain ⟨j, g1, g2, g3, e'⟩ := mem_laterNews.1 ho
      refine hb j o ?_ g3 ?_ e'
      · rw [listed_set hil]
        split
        · rfl
        · exact g2
      · have := (D.mono (i := i + 1) (d := j - (i + 1)) (by have := isNw_lt D g3; omega)).1
        rw [show i + 1 + (j - (i + 1)) = j from by omega] at this
        exact this
  · have hjl := isNw_lt D h
    rw [h2.keep _ (by have := I.bnd; omega)]
    exact I.fresh j o hj h

end Go.Ab
