/- Single operations of the evaluator are those of the model, second part. -/
import Derived.Test.YtccbadojfbdegaaGreatDoorAbC
/- Soundness of single operations, 8: appends, copies, clear. -/
namespace Go.Ab

variable {E : Env} {G : Ground} {μ : Map} {H : AHeap} {w : World}

theorem u8_rel (b : UInt8) : VRel G.I μ (u8 b.toNat) (.int .u8 b.toNat) := .int _ _

theorem orow_run (hw : WRel G μ H w) {b o n c m : Nat} {l : List AVal} (h : orow H b o n = some l) (hm : μ b = some (c, m)) (off : Nat) (ho : n = 0 ∨ off = o) :
    ∃ vs : Array Value, (loadCells ⟨c, off, none⟩ n).run E.P w = .ok vs w ∧ VsRel G.I μ l vs.toList ∧ l.length = n := by
  cases n with
  | zero =>
    simp only [orow] at h
    cases h
    exact ⟨#[], rfl, .nil, rfl⟩
  | succ n =>
    have : off = o := by rcases ho with ho | ho; · cases ho
                         · exact ho
    subst this
    exact row_run hw h hm

/-- what is appended or copied -/
theorem elemsA_run (hw : WRel G μ H w) {s n : Nat} {x : AVal} {x' : Value} {l : List AVal} (h : elemsA s n x H = some l) (hx : VRel G.I μ x x') :
    ∃ vs : Array Value, (Builtin.firstCells s n x').run E.P w = .ok vs w ∧ VsRel G.I μ l vs.toList ∧ l.length = n * s := by
  unfold elemsA at h
  split at h
  · split at h
    · cases h; cases hx; exact ⟨#[], rfl, .nil, by simp⟩
    · cases h
  · rename_i b o len cap exact s'
    cases hb : Nat.ble n len with
    | false => rw [hb] at h; cases h
    | true =>
      cases hs : Nat.beq s s' with
      | false => rw [hb, hs] at h; cases h
      | true =>
        rw [hb, hs] at h
        have hle := Nat.le_of_ble_eq_true hb
        cases hx with
        | slice _ _ _ _ _ _ c m off cap' hm hl hc he hb' =>
          have ho : n * s = 0 ∨ off = o := by
            rcases hb' with hb' | ⟨hb', _⟩
            · left
              have : n = 0 := by omega
              simp [this]
            · right; exact hb'
          obtain ⟨vs, hr, hv, hlen⟩ := orow_run (E := E) hw h hm off ho
          exact ⟨vs, hr, hv, hlen⟩
  · rename_i l0
    split at h
    · rename_i l1 hl1
      cases hs : Nat.beq s 1 with
      | false => rw [hs] at h; cases h
      | true =>
        rw [hs] at h
        have := Nat.eq_of_beq_eq_true hs
        subst this
        cases h
        cases hx with
        | str _ b hb =>
          simp only [Interp.den] at hb
          subst hb
          obtain ⟨hle, rfl⟩ := takeN_some hl1
          rw [bytesOf_length] at hle
          refine ⟨_, rfl, ?_, by rw [mapL_eq]; simp [bytesOf_length]; omega⟩
          rw [mapL_eq]
          simp only [bytesOf, mapL_eq, Array.toList_map, ByteArray.data_extract, Array.toList_extract, List.extract_eq_take_drop, List.drop_zero, Nat.sub_zero, ← List.map_take, List.map_map]
          exact VsRel.map fun b _ => u8_rel b
    · cases h
  · cases h

theorem lenOfA_run {x : AVal} {x' : Value} {n : Nat} (h : lenOfA x = some n) (hx : VRel G.I μ x x') (w : World) : (Builtin.lenOf x').run E.P w = .ok n w := by
  unfold lenOfA at h
  split at h <;> cases h
  · cases hx; rfl
  · cases hx; rfl
  · cases hx with
    | str _ b hb =>
      simp only [Interp.den] at hb
      subst hb
      rw [lenL_eq, bytesOf_length]
      rfl

theorem growBy_le (newLen : Nat) : ∀ (k c : Nat), c < newLen → Builtin.growBy newLen k c ≤ 2 * newLen + 1000 := by
  intro k
  induction k with
  | zero => intro c h; simp only [Builtin.growBy]; omega
  | succ k ih =>
    intro c h
    simp only [Builtin.growBy]
    split
    · omega
    · by_cases h2 : c + (c + 768) / 4 < newLen
      · exact ih _ h2
      · cases k with
        | zero => simp only [Builtin.growBy]; omega
        | succ k => simp only [Builtin.growBy]; rw [if_pos (by omega)]; omega

theorem nextslicecap_le {need c : Nat} (h : c < need) : Builtin.nextslicecap need c ≤ 2 * need + 1000 := by
  unfold Builtin.nextslicecap
  split
  · omega
  · split
    · omega
    · exact growBy_le need 4 c h

/-- 'append' behind the reading of its arguments' kinds -/
def appendTail (elem size : Nat) (zeros : Bool) (base : Option Addr) (sLen sCap n : Nat) (x : Value) (appended : Sem (Array Value)) : Sem Value := do
  let need := sLen + n
  if need ≤ sCap then
    let new ← appended
    if let some a := base then storeCells (a.add (sLen * size)) new.toList
    pure (.slice base need sCap)
  else
    if (need : Int) > IntKind.i64.max ∧ (zeros ∨ (← typeInfo elem).bytes = 0) then runtimePanic (.error "growslice: len out of range")
    if Builtin.nextslicecap need sCap * (← typeInfo elem).bytes > 2 ^ 48 then (if zeros then runtimePanic (.error "growslice: len out of range") else do
      if !(← Builtin.mayShare size sLen n base x) then mark .noRoom
      unsupported (.resourceLimit "append: a slice or a string whose bytes no memory bears"))
    let newCap ← choose (.appendCap need sCap elem)
    askRoom (newCap * (← typeInfo elem).bytes)
    let old ← Builtin.firstCells size sLen (.slice base sLen sCap)
    let new ← appended
    let rest := Builtin.zeroCells (← zeroValue elem).cells (newCap - need)
    pure (.slice (some (← newRow elem (old ++ new ++ rest))) need newCap)

theorem roomy_some {need bs : Nat} (h : roomy need bs = true) : need ≤ 1152921504606846976 ∧ (2 * need + 1000) * bs ≤ 140737488355328 := by
  unfold roomy at h
  cases hb : Nat.ble need 1152921504606846976 with
  | false => rw [hb] at h; cases h
  | true =>
    rw [hb] at h
    exact ⟨Nat.le_of_ble_eq_true hb, Nat.le_of_ble_eq_true h⟩

/-- a new row for the whole -/
theorem appendTail_new {elem size : Nat} {i : TypeInfo} (hi : E.P.info? elem = some i) {zeros : Bool} {base : Option Addr} {sLen sCap n : Nat} {x : Value} {appended : Sem (Array Value)}
    (hgt : sCap < sLen + n) (hroom : roomy (sLen + n) i.bytes = true) {old new zc : Array Value} (ho : ∀ w', w'.heap = w.heap → (Builtin.firstCells size sLen (.slice base sLen sCap)).run E.P w' = .ok old w')
    (hn : ∀ w', w'.heap = w.heap → appended.run E.P w' = .ok new w') {zv : Value} (hz : ∀ w', (zeroValue elem).run E.P w' = .ok zv w') (hzc : zv.cells = zc) (hol : old.size = sLen * size) (hnl : new.size = n * size) (hzl : zc.size = size) :
    ∃ (newCap : Nat) (row : Array Value) (w' : World), (appendTail elem size zeros base sLen sCap n x appended).run E.P w = .ok (.slice (some ⟨w.heap.size, 0, none⟩) (sLen + n) newCap) w' ∧ sLen + n ≤ newCap ∧ row.size = newCap * size ∧
      (∃ rest, row.toList = old.toList ++ new.toList ++ rest) ∧ w'.heap = w.heap.push (.cells row elem) ∧ w'.os = w.os ∧ w'.output = w.output := by
  obtain ⟨h1, h2⟩ := roomy_some hroom
  have hcap := nextslicecap_le hgt
  have hcb : Builtin.nextslicecap (sLen + n) sCap * i.bytes ≤ 140737488355328 := Nat.le_trans (Nat.mul_le_mul_right _ hcap) h2
  have hbig : ¬ (((sLen + n : Nat) : Int) > IntKind.i64.max) := by
    simp only [IntKind.max, IntKind.signed, IntKind.bits]
    omega
  have hbig2 : ¬ (Builtin.nextslicecap (sLen + n) sCap * i.bytes > 2 ^ 48) := by
    have : (2 : Nat) ^ 48 = 281474976710656 := by decide
    omega
  let w1 : World := { w with drawn := w.drawn + 1 }
  let cut := (Question.appendCap (sLen + n) sCap elem).cut (w.tape w.drawn (.appendCap (sLen + n) sCap elem))
  have hcut : sLen + n ≤ cut := by show sLen + n ≤ (sLen + n) + _ % _; omega
  refine ⟨cut, old ++ new ++ Builtin.zeroCells zc (cut - (sLen + n)), { w1 with heap := w1.heap.push (.cells (old ++ new ++ Builtin.zeroCells zc (cut - (sLen + n))) elem) }, ?_, hcut, ?_, ⟨_, by simp only [Array.toList_append]; rfl⟩, rfl, rfl, rfl⟩
  · have o1 := ho w1 rfl
    have n1 := hn w1 rfl
    have z1 := hz w1
    simp only [appendTail]
    rw [Sem.run_ite, if_neg (by omega)]
    simp only [Sem.run_bind, run_info hi, Result.andThen_ok, Sem.run_ite, hbig, false_and, if_false, hbig2, run_choose, Question.forced, Bool.false_eq_true, Sem.run_pure]
    show ((askRoom (cut * i.bytes)).run E.P w1).andThen _ = _
    simp only [run_askRoom, Result.andThen_ok, o1, n1, z1, hzc]
    rfl
  · simp only [Array.size_append, hol, hnl, Builtin.zeroCells, Array.size_map, Array.size_range, hzl]
    rw [← Nat.add_mul, ← Nat.add_mul]
    congr 1
    omega

/-- room is there -/
theorem appendTail_room {elem size : Nat} {zeros : Bool} {c off sLen sCap n : Nat} {x : Value} {appended : Sem (Array Value)} (hle : sLen + n ≤ sCap) {new' : Array Value} {H' : AHeap}
    (hn : appended.run E.P w = .ok new' w) (hst : ∃ w', (storeCells ⟨c, off + sLen * size, none⟩ new'.toList 0).run E.P w = .ok () w' ∧ Nxt G μ H w μ H' w') :
    ∃ w', (appendTail elem size zeros (some ⟨c, off, none⟩) sLen sCap n x appended).run E.P w = .ok (.slice (some ⟨c, off, none⟩) (sLen + n) sCap) w' ∧ Nxt G μ H w μ H' w' := by
  obtain ⟨w', hr, hx⟩ := hst
  refine ⟨w', ?_, hx⟩
  simp only [appendTail]
  rw [Sem.run_ite, if_pos hle]
  simp only [Sem.run_bind, hn, Result.andThen_ok, add_plain, hr, Sem.run_pure]

theorem WRel.of_heap {w' : World} (h : WRel G μ H w) (hh : w'.heap = w.heap) : WRel G μ H w' :=
  { live := fun b o hb => by rw [hh]; exact h.live b o hb, inj := h.inj, dom := h.dom, glob := h.glob, globNext := h.globNext, base := by rw [hh]; exact h.base }

theorem appendC_run (hw : WRel G μ H w) {e s n bs : Nat} {i : TypeInfo} (hi : E.P.info? e = some i) (hib : i.bytes = bs) {z : List AVal} (hz : zeroCellsA E e = some z) (hs : szOf E e = some s)
    {x v : AVal} {new : List AVal} {H' : AHeap} (h : appendC e s bs x n new H = some (v, H')) {base : Option Addr} {sLen sCap : Nat} (hx : VRel G.I μ x (.slice base sLen sCap))
    {zeros : Bool} {y : Value} {appended : Sem (Array Value)} {new' : Array Value} (hn : ∀ w', w'.heap = w.heap → appended.run E.P w' = .ok new' w') (hv : VsRel G.I μ new new'.toList) (hl : new.length = n * s) :
    ∃ v' w' μ', (appendTail e s zeros base sLen sCap n y appended).run E.P w = .ok v' w' ∧ Nxt G μ H w μ' H' w' ∧ VRel G.I μ' v v' := by
  subst hib
  have hnl : new'.size = n * s := by have := hv.length; simp at this; omega
  obtain ⟨z', _, hzv, hzs⟩ := zeroCells_run (G := G) (μ := μ) hz w
  have hzr : ∀ w', (zeroValue e).run E.P w' = .ok z' w' := fun w' => by
    obtain ⟨z2, hr2, _⟩ := zeroCells_run (G := G) (μ := μ) hz w'
    obtain ⟨z1, hr1, _⟩ := zeroCells_run (G := G) (μ := μ) hz w
    have hza : (zeroValue e).run E.P w = .ok z' w := by assumption
    unfold zeroValue at hza hr2 ⊢
    simp only [Sem.run_bind, run_info hi, Result.andThen_ok] at hza hr2 ⊢
    cases hzo : i.zero with
    | none => rw [hzo] at hza; simp at hza
    | some zz =>
      rw [hzo] at hza
      simp at hza
      subst hza
      rfl
  have hzl : z'.cells.size = s := by
    have h1 := hzv.length
    rw [hs] at hzs
    cases hzs
    simpa using h1.symm
  -- a new row
  have fresh (old : List AVal) (old' : Array Value) (ho : ∀ w', w'.heap = w.heap → (Builtin.firstCells s sLen (.slice base sLen sCap)).run E.P w' = .ok old' w') (hov : VsRel G.I μ old old'.toList) (hol : old.length = sLen * s)
      (hgt : sCap < sLen + n) (hr : roomy (sLen + n) i.bytes = true) (K : AHeap) (hK : WRel G μ K w) (hK2 : ∀ {μ' : Map} {K' : AHeap} {w' : World}, Nxt G μ K w μ' K' w' → Nxt G μ H w μ' K' w') (hKn : K.next = H.next) (fz : Frz) (hfz : fz ≠ .ro) :
      ∃ v' w' μ', (appendTail e s zeros base sLen sCap n y appended).run E.P w = .ok v' w' ∧ Nxt G μ H w μ' (K.alloc (.cells (old ++ new) e fz)) w' ∧ VRel G.I μ' (.slice H.next 0 (sLen + n) (sLen + n) false s) v' := by
    have holn : old'.size = sLen * s := by have := hov.length; simp at this; omega
    obtain ⟨newCap, row, w', hrun, hc, hsz, ⟨rest, hrow⟩, hh, h1, h2⟩ := appendTail_new (zeros := zeros) (x := y) (w := w) hi hgt hr ho hn hzr rfl holn hnl hzl
    have hrel : PRel G.I μ (old ++ new) row := by
      refine ⟨?_, ?_⟩
      · rw [hsz, List.length_append, hol, hl, ← Nat.add_mul]; exact Nat.mul_le_mul_right _ hc
      · rw [hrow]
        have hlen : (old ++ new).length = (old'.toList ++ new'.toList).length := by
          have := hov.length
          have := hv.length
          simp only [List.length_append] at *
          omega
        rw [hlen, List.take_left]
        exact hov.append hv
    have hzrel : ZRel fz ((0, 0) : Nat × Nat) row.size := by cases fz <;> simp [ZRel]
    have hnx : Nxt G μ K w (μ.add K.next (w.heap.size, row.size)) (K.alloc (.cells (old ++ new) e fz)) w' :=
      Nxt.alloc hK (.cells _ _ _ _ _ (0, 0) rfl (hrel.mono (Map.le_add hK _)) hzrel) hh h1 h2
    refine ⟨_, w', _, hrun, hK2 hnx, ?_⟩
    rw [← hKn]
    exact .slice _ _ _ _ _ _ w.heap.size row.size 0 newCap (Map.add_self _ _ _) hc hc (fun e => by cases e) (.inr ⟨rfl, by omega⟩)
  unfold appendC at h
  split at h
  · cases hx
    split at h
    · cases h
      have : new = [] := List.eq_nil_of_length_eq_zero (by simpa using hl)
      subst this
      refine ⟨.slice none 0 0, w, μ, ?_, Nxt.refl hw, .nilslice⟩
      simp only [appendTail]
      rw [Sem.run_ite, if_pos (Nat.le_refl _)]
      simp only [Sem.run_bind, hn w rfl, Result.andThen_ok, Sem.run_pure]
    · rename_i n
      unfold appendNew at h
      cases hr : roomy (n + 1) i.bytes with
      | false => rw [hr] at h; cases h
      | true =>
        rw [hr] at h
        cases h
        have hr' : roomy (0 + (n + 1)) i.bytes = true := by rw [Nat.zero_add]; exact hr
        have := fresh [] #[] (fun w' _ => rfl) .nil (by simp) (by omega) hr' H hw (fun h => h) rfl .free (by simp)
        simpa using this
  · rename_i b o sl cap exact s0
    cases hb0 : Nat.beq s0 s with
    | false => rw [hb0] at h; cases h
    | true =>
      rw [hb0] at h
      have hss := Nat.eq_of_beq_eq_true hb0
      subst hss
      simp only [cond_true] at h
      have hx0 := hx
      cases hx with
      | slice _ _ _ _ _ _ c m off cap' hm hl' hc he hbb =>
        cases hr1 : Nat.ble (Nat.add sLen n) cap with
        | true =>
          rw [hr1] at h
          simp only [cond_true] at h
          have hle : sLen + n ≤ cap := Nat.le_of_ble_eq_true hr1
          split at h
          · rename_i H2 hg
            cases h
            have hfit : new = [] ∨ o + sLen * s0 + new.length ≤ m := by
              by_cases h0 : new = []
              · exact .inl h0
              · right
                rcases hbb with hbb | ⟨_, hbb⟩
                · exfalso
                  have hn0 : n = 0 := by omega
                  rw [hn0] at hl
                  exact h0 (List.eq_nil_of_length_eq_zero (by simpa using hl))
                · rw [hl, Nat.add_assoc, ← Nat.add_mul]
                  have : (sLen + n) * s0 ≤ sCap * s0 := Nat.mul_le_mul_right _ (by omega)
                  omega
            have hst : ∃ w', (storeCells ⟨c, off + sLen * s0, none⟩ new'.toList 0).run E.P w = .ok () w' ∧ Nxt G μ H w μ H' w' := by
              by_cases h0 : new = []
              · subst h0
                have : new'.toList = [] := List.eq_nil_of_length_eq_zero hv.length.symm
                rw [this]
                unfold AHeap.grow at hg
                cases hg
                exact ⟨w, rfl, Nxt.refl hw⟩
              · have hoff : off = o := by
                  rcases hbb with hbb | ⟨hbb, _⟩
                  · exfalso
                    have hn0 : n = 0 := by omega
                    rw [hn0] at hl
                    exact h0 (List.eq_nil_of_length_eq_zero (by simpa using hl))
                  · exact hbb
                subst hoff
                exact grow_run hw hg hm hv hfit
            obtain ⟨w', hrun, hnx⟩ := appendTail_room (zeros := zeros) (elem := e) (x := y) (sCap := sCap) (Nat.le_trans hle hc) (hn w rfl) hst
            exact ⟨_, w', μ, hrun, hnx, .slice _ _ _ _ _ _ c m off sCap hm (Nat.le_trans hle hc) hc he hbb⟩
          · cases h
        | false =>
          rw [hr1] at h
          simp only [cond_false] at h
          have hgt0 : cap < sLen + n := by
            rcases Nat.lt_or_ge cap (sLen + n) with g | g
            · exact g
            · have : Nat.ble (Nat.add sLen n) cap = true := Nat.ble_eq_true_of_le g
              rw [this] at hr1; cases hr1
          split at h
          · cases h
          · rename_i old hold
            have holdrun : ∃ vs : Array Value, (∀ w', w'.heap = w.heap → (Builtin.firstCells s0 sLen (.slice (some ⟨c, off, none⟩) sLen sCap)).run E.P w' = .ok vs w') ∧ VsRel G.I μ old vs.toList ∧ old.length = sLen * s0 := by
              obtain ⟨vs, hr, hvv, hlen⟩ := elemsA_run (E := E) hw hold hx0
              refine ⟨vs, fun w' hh => ?_, hvv, hlen⟩
              obtain ⟨vs', hr', hvv', _⟩ := elemsA_run (E := E) (hw.of_heap hh) hold hx0
              rw [hr']
              congr 1
              simp only [Builtin.firstCells] at hr hr'
              by_cases h0 : sLen * s0 = 0
              · rw [h0] at hr hr'
                simp [loadCells, loadCellsFrom] at hr hr'
                have : vs' = vs := by
                  have h1 : vs.toList = vs'.toList := by
                    first
                      | (rw [← hr, ← hr'])
                      | (rw [hr, hr'])
                      | simp_all
                  exact (Array.ext' h1).symm
                rw [this]
              · have hoff : off = o := by
                  rcases hbb with hbb | ⟨hbb, _⟩
                  · exfalso; have : sLen = 0 := by omega
                    simp [this] at h0
                  · exact hbb
                subst hoff
                have hcell : ∃ (c' : Array Value) (e' : Nat) (fr : Nat × Nat), w.heap[c]? = some (.cells c' e' fr) ∧ off + sLen * s0 ≤ c'.size := by
                  unfold elemsA at hold
                  have h1 : Nat.ble sLen sLen = true := Nat.ble_eq_true_of_le (Nat.le_refl _)
                  have h2 : Nat.beq s0 s0 = true := Nat.beq_refl _
                  simp only [h1, h2, cond_true] at hold
                  obtain ⟨k, hk⟩ : ∃ k, Nat.mul sLen s0 = k + 1 := ⟨sLen * s0 - 1, by show sLen * s0 = _; omega⟩
                  rw [hk] at hold
                  simp only [orow, AHeap.row] at hold
                  split at hold
                  · rename_i cs e' fz hg
                    obtain ⟨c', fr, hcc, hnn, hpp, _⟩ := block_of_cells hw hg hm
                    rw [dropN_eq] at hold
                    obtain ⟨hle, _⟩ := takeN_some hold
                    simp only [List.length_drop] at hle
                    have := hpp.1
                    refine ⟨c', e', fr, hcc, ?_⟩
                    have : sLen * s0 = k + 1 := hk
                    omega
                  · cases hold

                obtain ⟨c', e', fr, hcc, hfit⟩ := hcell
                rw [run_loadCells hcc off _ hfit] at hr
                rw [run_loadCells (w := w') (by rw [hh]; exact hcc) off _ hfit] at hr'
                cases hr; cases hr'; rfl
            obtain ⟨old', ho, hov, hol⟩ := holdrun
            cases exact with
            | true =>
              simp only [cond_true] at h
              unfold appendNew at h
              cases hr : roomy (Nat.add sLen n) i.bytes with
              | false => rw [hr] at h; cases h
              | true =>
                rw [hr] at h
                cases h
                rw [appL_eq]
                exact fresh old old' ho hov hol (by rw [he rfl]; exact hgt0) hr H hw (fun h => h) rfl .free (by simp)
            | false =>
              simp only [cond_false] at h
              split at h
              · unfold appendMaybe at h
                cases hr : roomy (Nat.add sLen n) i.bytes with
                | false => rw [hr] at h; cases h
                | true =>
                  cases hcell : allL isCell new with
                  | false => rw [hr, hcell] at h; cases h
                  | true =>
                    rw [hr, hcell] at h
                    simp only [cond_true] at h
                    split at h
                    · rename_i cs e' fz hg
                      cases hee : Nat.beq e e' with
                      | false => rw [hee] at h; cases h
                      | true =>
                        cases hlt : fz.lets (Nat.mul sLen s0) with
                        | false => rw [hee, hlt] at h; cases h
                        | true =>
                          rw [hee, hlt] at h
                          have hee' := Nat.eq_of_beq_eq_true hee
                          subst hee'
                          cases h
                          rw [appL_eq]
                          rcases Nat.lt_or_ge sCap (sLen + n) with hcc | hcc
                          · exact fresh old old' ho hov hol hcc hr (H.kill b) (Nxt.kill hw b).rel (fun h => (Nxt.kill hw b).trans h) rfl fz (by intro e; subst e; simp [Frz.lets] at hlt)
                          · -- in place
                            have hb2 : off = 0 ∧ 0 + sCap * s0 ≤ m := by rcases hbb with hbb | hbb; · omega
                                                                         · exact hbb
                            obtain ⟨hoff, hfit⟩ := hb2
                            subst hoff
                            obtain ⟨c', fr, hcb, hcn, hcp, hcz⟩ := block_of_cells hw hg hm
                            have hmul : sLen * s0 + n * s0 ≤ sCap * s0 := by rw [← Nat.add_mul]; exact Nat.mul_le_mul_right _ hcc
                            obtain ⟨w', hrun, hheap, h1, h2⟩ := run_storeCells (P := E.P) (0 + sLen * s0) new'.toList 0 w c' hcb (allL_isCell hcell hv) (by simp; omega) (lets_free (by rw [Nat.zero_add]; exact hlt) hcz (by simp; omega))
                            have hrow : PRel G.I μ (old ++ new) (setRange c' (0 + sLen * s0 + 0) new'.toList) := by
                              have hot : old' = c'.extract 0 (sLen * s0) := by
                                have := ho w rfl
                                simp only [Builtin.firstCells] at this
                                rw [run_loadCells hcb 0 _ (by omega)] at this
                                cases this
                                simp
                              rw [hot] at hov
                              refine ⟨by rw [setRange_size]; simp; omega, ?_⟩
                              rw [setRange_toList _ _ _ (by simp; omega)]
                              have hlen : (old ++ new).length = (c'.toList.take (0 + sLen * s0 + 0) ++ new'.toList).length := by
                                simp only [List.length_append, List.length_take, Array.length_toList]
                                have := hv.length
                                simp at this
                                omega
                              rw [hlen, List.take_left]
                              refine VsRel.append ?_ hv
                              rw [Array.toList_extract, List.extract_eq_take_drop] at hov
                              simpa using hov
                            have hnx : Nxt G μ H w (μ.add H.next (c, m)) ((H.kill b).alloc (.cells (old ++ new) e fz)) w' :=
                              Nxt.rename hw hg (not_ro hlt) hm (.cells _ _ _ _ _ fr (by rw [setRange_size]; exact hcn) hrow hcz) hheap h1 h2
                            refine ⟨.slice (some ⟨c, 0, none⟩) (sLen + n) sCap, w', _, ?_, hnx, .slice _ _ _ _ _ _ c m 0 sCap (Map.add_self _ _ _) hcc hcc (fun e => by cases e) (.inr ⟨rfl, hfit⟩)⟩
                            simp only [appendTail]
                            rw [Sem.run_ite, if_pos hcc]
                            simp only [Sem.run_bind, hn w rfl, Result.andThen_ok, add_plain, hrun, Sem.run_pure]
                    · cases h
              · cases h
  · cases h

end Go.Ab
/- Soundness of single operations, 9: appends with their arguments' types, copies, clear. -/
namespace Go.Ab

variable {E : Env} {G : Ground} {μ : Map} {H : AHeap} {w : World}

theorem vsrel_two {x y : AVal} {l' : List Value} (h : VsRel G.I μ [x, y] l') : ∃ x' y', l' = [x', y'] ∧ VRel G.I μ x x' ∧ VRel G.I μ y y' := by
  cases h with
  | cons hx hs => cases hs with
    | cons hy hn => cases hn; exact ⟨_, _, rfl, hx, hy⟩

theorem two0 {α : Type} (a b : α) : (#[a, b] : Array α)[0]? = some a := rfl
theorem two1 {α : Type} (a b : α) : (#[a, b] : Array α)[1]? = some b := rfl

theorem row_run2 (hw : WRel G μ H w) {b o n c m : Nat} {l : List AVal} (h : H.row b o n = some l) (hm : μ b = some (c, m)) :
    ∃ vs : Array Value, (∀ w' : World, w'.heap = w.heap → (loadCells ⟨c, o, none⟩ n).run E.P w' = .ok vs w') ∧ VsRel G.I μ l vs.toList ∧ l.length = n := by
  unfold AHeap.row at h
  split at h
  · rename_i cs e fz hb
    obtain ⟨c', fr, hc, hn, hp, hz⟩ := block_of_cells hw hb hm
    rw [dropN_eq] at h
    obtain ⟨hle, rfl⟩ := takeN_some h
    simp only [List.length_drop] at hle
    have hle' := hp.1
    by_cases h0 : n = 0
    · subst h0
      exact ⟨#[], fun _ _ => by simp [loadCells, loadCellsFrom], by simp; exact .nil, by simp⟩
    refine ⟨_, fun w' hh => run_loadCells (w := w') (by rw [hh]; exact hc) o n (by omega), ?_, by simp; omega⟩
    have h2 := (hp.2.drop o).take n
    rw [Array.toList_extract, List.extract_eq_take_drop, show o + n - o = n from by omega]
    have : List.take n (List.drop o (List.take cs.length c'.toList)) = List.take n (List.drop o c'.toList) := by
      rw [List.drop_take, List.take_take, show min n (cs.length - o) = n from by omega]
    rwa [this] at h2
  · cases h

theorem orow_run2 (hw : WRel G μ H w) {b o n c m : Nat} {l : List AVal} (h : orow H b o n = some l) (hm : μ b = some (c, m)) (off : Nat) (ho : n = 0 ∨ off = o) :
    ∃ vs : Array Value, (∀ w' : World, w'.heap = w.heap → (loadCells ⟨c, off, none⟩ n).run E.P w' = .ok vs w') ∧ VsRel G.I μ l vs.toList ∧ l.length = n := by
  cases n with
  | zero =>
    simp only [orow] at h
    cases h
    exact ⟨#[], fun _ _ => rfl, .nil, rfl⟩
  | succ n =>
    have : off = o := by rcases ho with ho | ho; · cases ho
                         · exact ho
    subst this
    exact row_run2 hw h hm

/-- what is appended or copied -/
theorem elemsA_run2 (hw : WRel G μ H w) {s n : Nat} {x : AVal} {x' : Value} {l : List AVal} (h : elemsA s n x H = some l) (hx : VRel G.I μ x x') :
    ∃ vs : Array Value, (∀ w' : World, w'.heap = w.heap → (Builtin.firstCells s n x').run E.P w' = .ok vs w') ∧ VsRel G.I μ l vs.toList ∧ l.length = n * s := by
  unfold elemsA at h
  split at h
  · split at h
    · cases h; cases hx; exact ⟨#[], fun _ _ => rfl, .nil, by simp⟩
    · cases h
  · rename_i b o len cap exact s'
    cases hb : Nat.ble n len with
    | false => rw [hb] at h; cases h
    | true =>
      cases hs : Nat.beq s s' with
      | false => rw [hb, hs] at h; cases h
      | true =>
        rw [hb, hs] at h
        have hle := Nat.le_of_ble_eq_true hb
        cases hx with
        | slice _ _ _ _ _ _ c m off cap' hm hl hc he hb' =>
          have ho : n * s = 0 ∨ off = o := by
            rcases hb' with hb' | ⟨hb', _⟩
            · left
              have : n = 0 := by omega
              simp [this]
            · right; exact hb'
          obtain ⟨vs, hr, hv, hlen⟩ := orow_run2 (E := E) hw h hm off ho
          exact ⟨vs, hr, hv, hlen⟩
  · rename_i l0
    split at h
    · rename_i l1 hl1
      cases hs : Nat.beq s 1 with
      | false => rw [hs] at h; cases h
      | true =>
        rw [hs] at h
        have := Nat.eq_of_beq_eq_true hs
        subst this
        cases h
        cases hx with
        | str _ b hb =>
          simp only [Interp.den] at hb
          subst hb
          obtain ⟨hle, rfl⟩ := takeN_some hl1
          rw [bytesOf_length] at hle
          refine ⟨_, fun _ _ => rfl, ?_, by rw [mapL_eq]; simp [bytesOf_length]; omega⟩
          rw [mapL_eq]
          simp only [bytesOf, mapL_eq, Array.toList_map, ByteArray.data_extract, Array.toList_extract, List.extract_eq_take_drop, List.drop_zero, Nat.sub_zero, ← List.map_take, List.map_map]
          exact VsRel.map fun b _ => u8_rel b
    · cases h
  · cases h

theorem append_nz {ts : Array Nat} {ty a b e s : Nat} {dx : TypeDesc} {base : Option Addr} {sLen sCap n : Nat} {y : Value} (ht : ts[0]? = some a) (ht1 : ts[1]? = some b) (hu : under E a = some (.slice e))
    (hd : under E b = some dx) (hs : szOf E e = some s) (hnz : ∀ k, dx ≠ .int k) (hn : (Builtin.lenOf y).run E.P w = .ok n w) :
    (Builtin.append_ ts ty #[.slice base sLen sCap, y]).run E.P w = (appendTail e s false base sLen sCap n y (Builtin.firstCells s n y)).run E.P w := by
  have hft : (False ∨ (0 : Nat) = 0) = True := by simp
  have hz2 : (dx matches .int _) = false := by
    cases dx <;> first | rfl | (rename_i k; exact absurd rfl (hnz k))
  unfold Builtin.append_
  simp only [ht, ht1, two0, two1, Sem.run_bind, run_under hu, Result.andThen_ok, run_size hs, run_under hd, Sem.run_pure]
  cases dx <;> first | exact absurd rfl (hnz _) | (unfold appendTail; simp only [Sem.run_bind, Bool.false_eq_true, if_false, hn, Result.andThen_ok, Bool.not_false, if_true]; cases base <;> rfl)

theorem append_zs {ts : Array Nat} {ty a b e s : Nat} {k : IntKind} {base : Option Addr} {sLen sCap n : Nat} {i : TypeInfo} (ht : ts[0]? = some a) (ht1 : ts[1]? = some b) (hu : under E a = some (.slice e))
    (hd : under E b = some (.int k)) (hs : szOf E e = some s) (hi : E.P.info? e = some i) (hn : n ≤ 1000000000) (hb : i.bytes * n ≤ 281474976710656) :
    (Builtin.append_ ts ty #[.slice base sLen sCap, .int .i64 (Int.ofNat n)]).run E.P w =
      (appendTail e s true base sLen sCap n (.int .i64 (Int.ofNat n)) (if n * s = 0 then pure #[] else do pure (Builtin.zeroCells (← zeroValue e).cells n))).run E.P w := by
  have wl : IntKind.i64.wrap (Int.ofNat n) = Int.ofNat n := by rw [← wrapI_eq]; simp only [wrapI]; rw [Nat.ble_eq_true_of_le (by omega)]; rfl
  have g4 : ((i.bytes * n : Nat) : Int) ≤ ((281474976710656 : Nat) : Int) := Int.ofNat_le.2 hb
  rw [Int.natCast_mul] at g4
  have g5 : ¬ (Int.ofNat n * (i.bytes : Int) > 2 ^ 48) := by
    rw [Int.mul_comm]
    exact Int.not_lt.2 (Int.le_trans g4 (by decide))
  have g6 : ¬ (Int.ofNat n < 0) := by simp
  have g7 : (Int.ofNat n).toNat = n := rfl
  unfold Builtin.append_
  unfold appendTail
  simp only [ht, ht1, two0, two1, Sem.run_bind, run_under hu, Result.andThen_ok, run_size hs, run_under hd, Sem.run_pure, if_true, asInt, asIntOf, wl, g6, if_false, run_info hi, g5, g7, Bool.not_true, Bool.false_eq_true, true_or, and_true]
  cases base <;> rfl

theorem appendA_run (hw : WRel G μ H w) {ts : Array Nat} {ty a b : Nat} {x y v : AVal} {x' y' : Value} {H' : AHeap} (ht : ts[0]? = some a) (ht1 : ts[1]? = some b) (h : appendA E a b x y H = some (v, H'))
    (hx : VRel G.I μ x x') (hy : VRel G.I μ y y') :
    ∃ v' w' μ', (Builtin.append_ ts ty #[x', y']).run E.P w = .ok v' w' ∧ Nxt G μ H w μ' H' w' ∧ VRel G.I μ' v v' := by
  unfold appendA at h
  split at h
  · rename_i e hu
    split at h
    · rename_i s0 bs z dx hs hbs hz hdx
      split at h
      · cases h
      · rename_i n new had
        obtain ⟨i, hi, hib⟩ := bytesT_info hbs
        obtain ⟨base, sLen, sCap, hx'⟩ : ∃ base sLen sCap, x' = .slice base sLen sCap := by
          unfold appendC at h
          split at h
          · cases hx; exact ⟨_, _, _, rfl⟩
          · cases hx; exact ⟨_, _, _, rfl⟩
          · cases h
        subst hx'
        by_cases hint : ∃ k, dx = .int k
        · obtain ⟨k, rfl⟩ := hint
          simp only [addedA] at had
          split at had
          · rename_i n'
            cases h1 : Nat.ble n' 1000000000 with
            | false => rw [h1] at had; cases had
            | true =>
            cases h2 : Nat.ble (Nat.mul bs n') 281474976710656 with
            | false => rw [h1, h2] at had; cases had
            | true =>
            rw [h1, h2] at had
            simp only [cond_true] at had
            cases had
            cases hy
            have g1 := Nat.le_of_ble_eq_true h1
            have g3 : bs * n ≤ 281474976710656 := Nat.le_of_ble_eq_true h2
            have wl : IntKind.i64.wrap (Int.ofNat n) = Int.ofNat n := by rw [← wrapI_eq]; simp only [wrapI]; rw [Nat.ble_eq_true_of_le (by omega)]; rfl
            obtain ⟨z', hzr, hzv, hzs⟩ := zeroCells_run (G := G) (μ := μ) hz w
            have hzr2 : ∀ w', (zeroValue e).run E.P w' = .ok z' w' := fun w' => by
              unfold zeroValue at hzr ⊢
              simp only [Sem.run_bind, run_info hi, Result.andThen_ok] at hzr ⊢
              cases hzo : i.zero with
              | none => rw [hzo] at hzr; simp at hzr
              | some zz =>
                rw [hzo] at hzr
                simp at hzr
                subst hzr
                rfl
            rw [hs] at hzs
            have hzl : z.length = s0 + 1 := (Option.some.inj hzs).symm
            let ap : Sem (Array Value) := if n * (s0 + 1) = 0 then pure #[] else do pure (Builtin.zeroCells (← zeroValue e).cells n)
            have hap : ∀ w', w'.heap = w.heap → ap.run E.P w' = .ok (Builtin.zeroCells z'.cells n) w' := fun w' _ => by
              show ((if n * (s0 + 1) = 0 then pure #[] else do pure (Builtin.zeroCells (← zeroValue e).cells n) : Sem (Array Value)).run E.P w') = _
              rw [Sem.run_ite]
              have hz0 : z'.cells.size = s0 + 1 := by have := hzv.length; simp at this; omega
              split
              · rename_i h0
                simp [Sem.run_pure, Builtin.zeroCells, hz0, h0]
              · simp only [Sem.run_bind, hzr2 w', Result.andThen_ok, Sem.run_pure]
            have hzrel : VsRel G.I μ (copies n z) (Builtin.zeroCells z'.cells n).toList := by
              have := zeros_rel hzv n
              have hlen : z.length = z'.cells.size := by have := hzv.length; simpa using this
              simp only [Builtin.zeroCells, ← hlen]
              rw [hlen] at this ⊢
              exact this
            obtain ⟨v', w', μ', hr, hnx, hv⟩ := appendC_run hw hi hib hz hs h hx (zeros := true) (y := .int .i64 (Int.ofNat n)) hap hzrel (by rw [copies_length, hzl])
            refine ⟨v', w', μ', ?_, hnx, hv⟩
            rw [append_zs ht ht1 hu hdx hs hi g1 (by rw [hib]; exact g3)]
            exact hr
          · cases had
        · have had2 : (match lenOfA y with
              | some n => match elemsA (s0 + 1) n y H with
                | some l => some (n, l)
                | none => none
              | none => none) = some (n, new) := by
            unfold addedA at had
            split at had
            · exact absurd ⟨_, rfl⟩ hint
            · exact had
          split at had2
          · rename_i n1 hn1
            split at had2
            · rename_i l hl
              cases had2
              obtain ⟨vs, hvr2, hvs, hvl⟩ := elemsA_run2 (E := E) hw hl hy
              obtain ⟨v', w', μ', hr, hnx, hv⟩ := appendC_run hw hi hib hz hs h hx (zeros := false) (y := y') hvr2 hvs hvl
              refine ⟨v', w', μ', ?_, hnx, hv⟩
              rw [append_nz ht ht1 hu hdx hs (fun k hk => hint ⟨k, hk⟩) (lenOfA_run hn1 hy w)]
              exact hr
            · cases had2
          · cases had2
    · cases h
  · cases h

theorem elemsA_nil {s n : Nat} {_x : AVal} {l : List AVal} (hl : l.length = n * s) (h0 : n = 0) : l = [] := by
  subst h0
  exact List.eq_nil_of_length_eq_zero (by simpa using hl)

theorem copyA_run (hw : WRel G μ H w) {ts : Array Nat} {ty a : Nat} {x y v : AVal} {x' y' : Value} {H' : AHeap} (ht : ts[0]? = some a) (h : copyA E a x y H = some (v, H'))
    (hx : VRel G.I μ x x') (hy : VRel G.I μ y y') :
    ∃ v' w', (Builtin.copy_ ts ty #[x', y']).run E.P w = .ok v' w' ∧ Nxt G μ H w μ H' w' ∧ VRel G.I μ v v' := by
  unfold copyA at h
  split at h
  · rename_i e hu
    split at h
    · rename_i s dn sn hs hdn hsn
      split at h
      · rename_i new b o d1 d2 d3 d4 hel
        cases hx with
        | slice _ _ _ _ _ _ c m off cap' hm hl hc he hb =>
          have hd : d1 = dn := by simpa [lenOfA] using hdn
          subst hd
          obtain ⟨vs, hvr, hvs, hvl⟩ := elemsA_run (E := E) hw hel hy
          split at h
          · rename_i H2 hst
            cases h
            have hst2 : ∃ w', (storeCells ⟨c, off, none⟩ vs.toList 0).run E.P w = .ok () w' ∧ Nxt G μ H w μ H' w' := by
              by_cases h0 : new = []
              · subst h0
                have : vs.toList = [] := List.eq_nil_of_length_eq_zero hvs.length.symm
                rw [this]
                unfold AHeap.store at hst
                cases hst
                exact ⟨w, rfl, Nxt.refl hw⟩
              · have hoff : off = o := by
                  rcases hb with hb | ⟨hb, _⟩
                  · exfalso
                    have : d1 = 0 := by omega
                    subst this
                    exact h0 (List.eq_nil_of_length_eq_zero (by rw [hvl]; simp))
                  · exact hb
                subst hoff
                exact store_run hw hst hm hvs
            obtain ⟨w', hr, hnx⟩ := hst2
            refine ⟨goInt (Nat.min sn d1), w', ?_, hnx, .int _ _⟩
            unfold Builtin.copy_
            simp only [ht, two0, two1, Sem.run_bind, run_under hu, Result.andThen_ok, lenOfA_run hsn hy, run_size hs, hvr, hr, Sem.run_pure]
          · cases h
      · rename_i el hel
        cases h
        cases hx
        have hd : dn = 0 := by simpa [lenOfA] using hdn.symm
        subst hd
        obtain ⟨vs, hvr, hvs, hvl⟩ := elemsA_run (E := E) hw hel hy
        have hmin : Nat.min sn 0 = 0 := Nat.min_zero _
        rw [hmin] at hvr
        refine ⟨goInt (Nat.min sn 0), w, ?_, Nxt.refl hw, by rw [hmin]; exact .int _ _⟩
        unfold Builtin.copy_
        simp only [ht, two0, two1, Sem.run_bind, run_under hu, Result.andThen_ok, lenOfA_run hsn hy, run_size hs, hmin, hvr, Sem.run_pure]
      · cases h
    · cases h
  · cases h

theorem clearA_run (hw : WRel G μ H w) {ts : Array Nat} {ty a : Nat} {x : AVal} {x' : Value} {H' : AHeap} (ht : ts[0]? = some a) (h : clearA E a x H = some H')
    (hx : VRel G.I μ x x') :
    ∃ w', (Builtin.clear_ ts ty #[x']).run E.P w = .ok (.tuple #[]) w' ∧ Nxt G μ H w μ H' w' := by
  unfold clearA at h
  split at h
  · rename_i e hu
    split at h
    · cases h
      cases hx
      refine ⟨w, ?_, Nxt.refl hw⟩
      unfold Builtin.clear_
      simp [ht, run_under hu]
    · cases h
      cases hx with
      | slice _ _ _ _ _ _ c m off cap' hm hl hc he hb =>
      refine ⟨w, ?_, Nxt.refl hw⟩
      unfold Builtin.clear_
      simp [ht, run_under hu]
    · rename_i b o n d2 d3 d4 hn
      split at h
      · rename_i z hz
        cases hx with
        | slice _ _ _ _ _ _ c m off cap' hm hl hc he hb =>
        have hn0 : n ≠ 0 := fun e => by subst e; exact hn rfl
        have hoff : off = o := by
          rcases hb with hb | ⟨hb, _⟩
          · omega
          · exact hb
        subst hoff
        obtain ⟨z', hzr, hzv, hzs⟩ := zeroCells_run (G := G) (μ := μ) hz w
        have hzrel : VsRel G.I μ (copies n z) (Builtin.zeroCells z'.cells n).toList := by
          have := zeros_rel hzv n
          have hlen : z.length = z'.cells.size := by have := hzv.length; simpa using this
          simp only [Builtin.zeroCells, ← hlen]
          rw [hlen] at this ⊢
          exact this
        obtain ⟨w', hr, hnx⟩ := store_run (E := E) hw h hm hzrel
        refine ⟨w', ?_, hnx⟩
        unfold Builtin.clear_
        obtain ⟨n, rfl⟩ : ∃ k, n = k + 1 := ⟨n - 1, by omega⟩
        simp [ht, run_under hu, hzr, hr]
      · cases h
    · cases h
  · cases h

end Go.Ab
/- Soundness of single operations, 10: maps. -/
namespace Go.Ab

variable {E : Env} {G : Ground} {μ : Map} {H : AHeap} {w : World}

theorem sameKey1_eq {a b : AVal} (h : sameKey1 a b = true) : a = b := by
  unfold sameKey1 at h
  split at h
  · rw [boolBeq_eq] at h
    simp at h
    rw [h]
  · rename_i k a j b
    cases hk : kindBeq k j with
    | false => rw [hk] at h; cases h
    | true =>
      rw [hk] at h
      have := kindBeq_eq hk
      subst this
      simp only [cond_true, intBeq_eq] at h
      simp at h
      rw [h]
  · rw [strBeq_eq _ _ h]
  · cases h

theorem sameKeys_eq : ∀ {a b : List AVal}, sameKeys a b = true → a = b := by
  intro a
  induction a with
  | nil => intro b h; cases b with
    | nil => rfl
    | cons y ys => cases h
  | cons x xs ih => intro b h; cases b with
    | nil => cases h
    | cons y ys =>
      simp only [sameKeys] at h
      cases hx : sameKey1 x y with
      | false => rw [hx] at h; cases h
      | true => rw [hx] at h; rw [sameKey1_eq hx, ih h]

theorem sameKey_eq {a b : AVal} (h : sameKey a b = true) : a = b := by
  unfold sameKey at h
  split at h
  · rw [sameKeys_eq h]
  · exact sameKey1_eq h

theorem flatT_agg {t : Nat} (h : flatT E t = true) (w : World) : (isAgg t).run E.P w = .ok false w ∧ ∃ d, under E t = some d ∧ (d = .bool ∨ (∃ k, d = .int k) ∨ d = .string) := by
  unfold flatT at h
  split at h
  · rename_i hu; exact ⟨run_isAgg (by simp [aggB, hu]) w, _, hu, .inl rfl⟩
  · rename_i k hu; exact ⟨run_isAgg (by simp [aggB, hu]) w, _, hu, .inr (.inl ⟨_, rfl⟩)⟩
  · rename_i hu; exact ⟨run_isAgg (by simp [aggB, hu]) w, _, hu, .inr (.inr rfl)⟩
  · cases h

theorem checkKey_flat {t : Nat} (h : flatT E t = true) (b : Bool) (n : Nat) (v : Value) (w : World) : (Instr.checkKey b (n + 1) t v).run E.P w = .ok () w := by
  obtain ⟨_, d, hu, hd⟩ := flatT_agg h w
  unfold Instr.checkKey
  simp only [Sem.run_bind, run_under hu, Result.andThen_ok]
  rcases hd with rfl | ⟨k, rfl⟩ | rfl <;> simp

theorem run_part_flat {t : Nat} (h : flatT E t = true) {cs : Array Value} {o : Nat} {v : Value} (hc : cs[o]? = some v) (w : World) : (part t cs o).run E.P w = .ok v w := by
  unfold part
  simp [(flatT_agg h w).1, hc]

theorem forIn_units {α : Type} {P : Program} {f : α → PUnit → Sem (ForInStep PUnit)} (w : World) : ∀ (l : List α), (∀ x ∈ l, (f x ⟨⟩).run P w = .ok (.yield ⟨⟩) w) → (forIn l PUnit.unit f).run P w = .ok ⟨⟩ w := by
  intro l
  induction l with
  | nil => intro _; simp
  | cons x xs ih =>
    intro h
    simp only [List.forIn_cons, Sem.run_bind, h x (by simp), Result.andThen_ok]
    exact ih fun y hy => h y (by simp [hy])

theorem flatFields_some {cs : List AVal} : ∀ {fs : List Field}, flatFields E cs fs = true → ∀ f ∈ fs, flatT E f.type = true ∧ ∃ v, cs[f.offset]? = some v := by
  intro fs
  induction fs with
  | nil => intro _ f hf; simp at hf
  | cons g fs ih =>
    intro h f hf
    simp only [flatFields] at h
    cases hg : flatT E g.type with
    | false => rw [hg] at h; cases h
    | true =>
      rw [hg] at h
      simp only [cond_true] at h
      split at h
      · rename_i v hv
        rcases List.mem_cons.1 hf with rfl | hf
        · exact ⟨hg, v, by rw [← nth_eq]; exact hv⟩
        · exact ih h f hf
      · cases h

/-- the check of a plain key -/
theorem plainKey_run {t : Nat} {k : AVal} {k' : Value} (h : plainKey E t k = true) (hk : VRel G.I μ k k') (b : Bool) (w : World) : (Instr.checkKey b 10000 t k').run E.P w = .ok () w := by
  unfold plainKey at h
  split at h
  · rename_i hu
    exact checkKey_flat (by simp [flatT, hu]) b 9999 k' w
  · rename_i hu
    exact checkKey_flat (by simp [flatT, hu]) b 9999 k' w
  · rename_i hu
    exact checkKey_flat (by simp [flatT, hu]) b 9999 k' w
  · rename_i n e hu
    cases hf : flatT E e with
    | false => rw [hf] at h; cases h
    | true =>
      rw [hf] at h
      simp only [cond_true] at h
      split at h
      · rename_i cs hs
        have hle := Nat.le_of_ble_eq_true h
        cases hk with
        | agg _ cs' hcs =>
        rw [lenL_eq, hcs.length] at hle
        show (Instr.checkKey b (9999 + 1) t _).run E.P w = _
        unfold Instr.checkKey
        simp only [Sem.run_bind, run_under hu, Result.andThen_ok]
        rw [Std.Legacy.Range.forIn_eq_forIn_range']
        simp only [Std.Legacy.Range.size]
        refine (congrArg (fun r => Result.andThen r _) (forIn_units w _ fun i hi => ?_)).trans rfl
        have hin : i < n := by
          rw [List.mem_range'] at hi
          obtain ⟨j, hj, rfl⟩ := hi
          omega
        obtain ⟨v, hv⟩ : ∃ v, cs'[i]? = some v := ⟨cs'[i]'(by simp at hle; omega), by simp⟩
        simp only [Sem.run_bind, run_size hs, Result.andThen_ok, Nat.mul_one, run_part_flat hf hv]
        have := checkKey_flat hf b 9998 v w
        simp only [this, Result.andThen_ok, Sem.run_pure]
      · cases h
  · rename_i fs hu
    split at h
    · cases hk with
      | agg _ cs' hcs =>
      show (Instr.checkKey b (9999 + 1) t _).run E.P w = _
      unfold Instr.checkKey
      simp only [Sem.run_bind, run_under hu, Result.andThen_ok]
      rw [← Array.forIn_toList]
      refine (congrArg (fun r => Result.andThen r _) (forIn_units w _ fun f hf => ?_)).trans rfl
      obtain ⟨hft, v, hv⟩ := flatFields_some h f hf
      obtain ⟨v', hv', _⟩ := hcs.get hv
      split
      · have := checkKey_flat hft b 9998 v' w
        simp only [Sem.run_bind, run_part_flat hft (by simpa using hv'), Result.andThen_ok, this, Sem.run_pure]
      · simp only [Sem.run_pure]
    · cases h
  · cases h

/-- the search that asks -/
theorem findA_run (hE : EnvOk E G) {t : Nat} {k : AVal} {k' : Value} (hk : VRel G.I μ k k') : ∀ {es : List (AVal × AVal × Nat)} {es' : List MapEntry} {i : Nat} {r : Option (Nat × AVal × Nat)},
    findA E t k es i = some r → EsRel G.I μ es es' → ∀ w,
      (r = none ∧ (Instr.findAsking t k' es' i).run E.P w = .ok none w) ∨
      ∃ j ko v b e', r = some (i + j, v, b) ∧ es[j]? = some (ko, v, b) ∧ es'[j]? = some e' ∧ VRel G.I μ ko e'.key ∧ VRel G.I μ v e'.val ∧ e'.born = b ∧ (Instr.findAsking t k' es' i).run E.P w = .ok (some (i + j, e'.val)) w := by
  intro es
  induction es with
  | nil =>
    intro es' i r h he w
    cases he
    cases h
    exact .inl ⟨rfl, rfl⟩
  | cons x es ih =>
    intro es' i r h he w
    cases he with
    | cons hko hv hb hes =>
    rename_i ko v b e' es'
    simp only [findA] at h
    split at h
    · rename_i hq
      cases h
      refine .inr ⟨0, _, _, _, _, rfl, rfl, rfl, hko, hv, hb, ?_⟩
      simp only [Instr.findAsking, Op.equal, Sem.run_bind, eqA_run hE 40 t k _ k' _ true hq hk hko Op.maxDepth w (by decide), Result.andThen_ok, if_true, Sem.run_pure]
      rfl
    · rename_i hq
      have hrun : (Instr.findAsking t k' (e' :: es') i).run E.P w = (Instr.findAsking t k' es' (i + 1)).run E.P w := by
        simp only [Instr.findAsking, Op.equal, Sem.run_bind, eqA_run hE 40 t k _ k' _ false hq hk hko Op.maxDepth w (by decide), Result.andThen_ok, Bool.false_eq_true, if_false]
      rw [hrun]
      rcases ih h hes w with ⟨h1, h2⟩ | ⟨j, ko, v, b, e2, h1, h2, h3, h4, h5, h6, h7⟩
      · exact .inl ⟨h1, h2⟩
      · refine .inr ⟨j + 1, ko, v, b, e2, ?_, by simpa using h2, by simpa using h3, h4, h5, h6, ?_⟩
        · rw [h1]; congr 2; omega
        · rw [h7]; congr 3; omega
    · cases h

theorem sameNow_run {t : Nat} {d : TypeDesc} {x y : Value} {b : Bool} (hu : under E t = some d) (h : Instr.sameNow d x y = some b) (w : World) : (Op.equal t x y).run E.P w = .ok b w := by
  obtain ⟨dd, hdd⟩ : ∃ dd, Op.maxDepth = dd + 1 := ⟨9999, rfl⟩
  unfold Op.equal
  rw [hdd]
  unfold Instr.sameNow at h
  simp only [Op.equalIn, Sem.run_bind, run_under hu, Result.andThen_ok]
  split at h
  · rename_i k a k' b'
    by_cases hk : k = k'
    · simp only [hk, if_true] at h ⊢
      cases h
      simp only [Sem.run_pure]
    · simp only [hk, if_false] at h
      cases h
  · cases h
    simp only [Sem.run_pure]
  · cases h
    simp only [Sem.run_pure]
  · cases h

theorem findNow_run {t : Nat} {d : TypeDesc} {k : Value} (hu : under E t = some d) : ∀ {es : List MapEntry} {i : Nat} {r : Option (Nat × Value)}, Instr.findNow d k es i = some r → ∀ w, (Instr.findAsking t k es i).run E.P w = .ok r w := by
  intro es
  induction es with
  | nil => intro i r h w; cases h; rfl
  | cons e es ih =>
    intro i r h w
    simp only [Instr.findNow] at h
    split at h
    · rename_i hs
      cases h
      simp only [Instr.findAsking, Sem.run_bind, sameNow_run hu hs, Result.andThen_ok, if_true, Sem.run_pure]
    · rename_i hs
      simp only [Instr.findAsking, Sem.run_bind, sameNow_run hu hs, Result.andThen_ok, Bool.false_eq_true, if_false]
      exact ih h w
    · cases h

theorem findKey_run {t : Nat} {k : Value} {es : List MapEntry} {r : Option (Nat × Value)} (hu : ∃ d, under E t = some d) {w : World} (h : (Instr.findAsking t k es 0).run E.P w = .ok r w) : (Instr.findKey t k es).run E.P w = .ok r w := by
  obtain ⟨d, hu⟩ := hu
  unfold Instr.findKey
  simp only [Sem.run_bind, run_under hu, Result.andThen_ok]
  cases hn : Instr.findNow d k es 0 with
  | none => exact h
  | some r' =>
    have := findNow_run (E := E) hu hn w
    rw [this] at h
    simp only [Sem.run_pure]
    exact h

theorem plainKey_under {t : Nat} {k : AVal} (h : plainKey E t k = true) : ∃ d, under E t = some d := by
  unfold plainKey at h
  cases hu : under E t with
  | none => rw [hu] at h; cases h
  | some d => exact ⟨d, rfl⟩

theorem modify_rel {I : Interp} {μ : Map} {ko v : AVal} {key val : Value} (hk : VRel I μ ko key) (hv : VRel I μ v val) : ∀ {es : List (AVal × AVal × Nat)} {es' : List MapEntry} {i : Nat} {v0 : AVal} {b : Nat}, EsRel I μ es es' → es[i]? = some (ko, v0, b) →
    EsRel I μ (setVal es i v) (es'.modify i fun e => { e with key := key, val := val }) := by
  intro es
  induction es with
  | nil => intro es' i v0 b h hi; simp at hi
  | cons x es ih =>
    intro es' i v0 b h hi
    cases h with
    | cons hk1 hv1 hb1 hes =>
    cases i with
    | zero =>
      simp at hi
      obtain ⟨rfl, rfl, rfl⟩ := hi
      exact .cons hk hv hb1 hes
    | succ i =>
      exact .cons hk1 hv1 hb1 (ih hes (by simpa using hi))

theorem EsRel.append {I : Interp} {μ : Map} {ka va : AVal} {b : Nat} {e : MapEntry} (hk : VRel I μ ka e.key) (hv : VRel I μ va e.val) (hb : e.born = b) : ∀ {es : List (AVal × AVal × Nat)} {es' : List MapEntry}, EsRel I μ es es' →
    EsRel I μ (es ++ [(ka, va, b)]) (es' ++ [e]) := by
  intro es
  induction es with
  | nil => intro es' h; cases h; exact .cons hk hv hb .nil
  | cons x es ih => intro es' h; cases h with
    | cons hk1 hv1 hb1 hes => exact .cons hk1 hv1 hb1 (ih hes)

theorem map_set_run (hw : WRel G μ H w) {r c n clock clock' : Nat} {es es2 : List (AVal × AVal × Nat)} {es' es2' : Array MapEntry} (hb : H.get r = some (.map es clock)) (hm : μ r = some (c, n)) (hc : w.heap[c]? = some (.map es' clock))
    (he : EsRel G.I μ es2 es2'.toList) : ∃ w', (setObj c (.map es2' clock')).run E.P w = .ok () w' ∧ Nxt G μ H w μ (H.put r (.map es2 clock')) w' := by
  refine ⟨{ w with heap := w.heap.set! c (.map es2' clock') }, ?_, Nxt.put hw hb rfl hm (.map _ _ _ _ he) rfl rfl rfl⟩
  simp only [setObj, Sem.run, hc]
  rfl

theorem keyThatStays_run {old new : Value} (w : World) : ∃ w' k, (Instr.keyThatStays old new).run E.P w = .ok k w' ∧ w'.heap = w.heap ∧ w'.os = w.os ∧ w'.output = w.output ∧ (k = old ∨ k = new) := by
  unfold Instr.keyThatStays
  by_cases h : Instr.sameBits 10000 old new = true
  · exact ⟨w, new, by simp [h], rfl, rfl, rfl, .inr rfl⟩
  · simp only [h, Bool.false_eq_true, if_false, Sem.run_bind, run_choose]
    split
    · simp only [Result.andThen_ok, Sem.run_pure]
      refine ⟨_, _, rfl, rfl, rfl, rfl, ?_⟩
      split
      · exact .inr rfl
      · exact .inl rfl
    · simp only [Result.andThen_ok, Sem.run_pure]
      refine ⟨_, _, rfl, rfl, rfl, rfl, ?_⟩
      split
      · exact .inr rfl
      · exact .inl rfl

theorem lookupA_run (hE : EnvOk E G) (hw : WRel G μ H w) {t : Nat} {x k v : AVal} {x' k' : Value} {ok : Bool} (h : lookupA E t x k ok H = some v) (hx : VRel G.I μ x x') (hk : VRel G.I μ k k') :
    ∃ v', (Instr.lookup t x' k' ok).run E.P w = .ok v' w ∧ VRel G.I μ v v' := by
  unfold lookupA at h
  split at h
  · rename_i kt et hu
    cases hp : plainKey E kt k with
    | false => rw [hp] at h; cases h
    | true =>
      rw [hp] at h
      simp only [cond_true] at h
      split at h
      · cases h
      · rename_i es hes
        obtain ⟨es', hr, he⟩ : ∃ es' : Array MapEntry, ((x' = .map none ∧ es' = #[]) ∨ (∃ c clock, x' = .map (some c) ∧ w.heap[c]? = some (.map es' clock))) ∧ EsRel G.I μ es es'.toList := by
          unfold entriesA at hes
          split at hes
          · cases hes; cases hx; exact ⟨#[], .inl ⟨rfl, rfl⟩, .nil⟩
          · split at hes
            · rename_i r es2 clock hg
              cases hes
              cases hx with
              | map _ c n hm =>
                obtain ⟨es', hc, he⟩ := map_of_get hw hg hm
                exact ⟨es', .inr ⟨c, _, rfl, hc⟩, he⟩
            · cases hes
          · cases hes
        have hck := plainKey_run hp hk es'.isEmpty w
        split at h
        · rename_i i v0 b hf
          cases h
          rcases findA_run hE hk hf he w with ⟨h1, _⟩ | ⟨j, ko, v1, b1, e1, h1, h2, h3, h4, h5, h6, h7⟩
          · cases h1
          · cases h1
            refine ⟨if ok then .tuple #[e1.val, .bool true] else e1.val, ?_, ?_⟩
            · unfold Instr.lookup
              rcases hr with ⟨rfl, rfl⟩ | ⟨c, clock, rfl, hc⟩
              · simp only [Sem.run_bind, run_under hu, Sem.run_pure, Result.andThen_ok, hck, findKey_run (plainKey_under hp) h7]
              · simp only [Sem.run_bind, run_under hu, Sem.run_pure, run_getObj_map hc, Result.andThen_ok, hck, findKey_run (plainKey_under hp) h7]
            · cases ok
              · exact h5
              · exact .tuple _ _ (.cons h5 (.cons (.bool _) .nil))
        · rename_i hf
          split at h
          · rename_i z hz
            cases h
            rcases findA_run hE hk hf he w with ⟨_, h7⟩ | ⟨j, ko, v1, b1, e1, h1, _⟩
            · obtain ⟨z', hzr, hzv⟩ := zeroA_run (G := G) (μ := μ) hz w
              refine ⟨if ok then .tuple #[z', .bool false] else z', ?_, ?_⟩
              · unfold Instr.lookup
                rcases hr with ⟨rfl, rfl⟩ | ⟨c, clock, rfl, hc⟩
                · simp only [Sem.run_bind, run_under hu, Sem.run_pure, Result.andThen_ok, hck, findKey_run (plainKey_under hp) h7, hzr]
                · simp only [Sem.run_bind, run_under hu, Sem.run_pure, run_getObj_map hc, Result.andThen_ok, hck, findKey_run (plainKey_under hp) h7, hzr]
              · cases ok
                · exact hzv
                · exact .tuple _ _ (.cons hzv (.cons (.bool _) .nil))
            · cases h1
          · cases h
        · cases h
  · cases h

theorem Nxt.heapSame {w1 w' : World} {H' : AHeap} {μ' : Map} (hh : w1.heap = w.heap) (h1 : w1.os = w.os) (h2 : w1.output = w.output) (h : Nxt G μ H w1 μ' H' w') : Nxt G μ H w μ' H' w' :=
  { le := h.le, rel := h.rel, size := by rw [← hh]; exact h.size, frame := by rw [← hh]; exact h.frame, new := by rw [← hh]; exact h.new, next := h.next, os := h.os.trans h1, output := h.output.trans h2, keep := h.keep }

theorem mapSetC_run (hE : EnvOk E G) (hw : WRel G μ H w) {t kt et r c n : Nat} {k v : AVal} {k' v' : Value} {H' : AHeap} (hu : under E t = some (.map kt et)) (h : mapSetC E kt r k v H = some H') (hp : plainKey E kt k = true)
    (hm : μ r = some (c, n)) (hk : VRel G.I μ k k') (hv : VRel G.I μ v v') :
    ∃ w', (Instr.mapUpdate t (.map (some c)) k' v').run E.P w = .ok () w' ∧ Nxt G μ H w μ H' w' := by
  unfold mapSetC at h
  split at h
  · rename_i es clock hg
    obtain ⟨es', hc, he⟩ := map_of_get hw hg hm
    have hck := plainKey_run hp hk false w
    split at h
    · rename_i i v0 hf
      rcases findA_run hE hk hf he w with ⟨h1, _⟩ | ⟨j, ko, v1, b1, e1, h1, h2, h3, h4, h5, h6, h7⟩
      · cases h1
      · cases h1
        rw [nth_eq] at h
        simp only [Nat.zero_add] at h h7
        rw [h2] at h
        simp only at h
        cases hs : sameKey ko k with
        | false => rw [hs] at h; cases h
        | true =>
          rw [hs] at h
          cases h
          have := sameKey_eq hs
          subst this
          obtain ⟨w1, kk, hkr, hh, ho1, ho2, hkk⟩ := keyThatStays_run (E := E) (old := ((es'[j]?).map (·.key)).getD k') (new := k') w
          have h3' : es'[j]? = some e1 := by rw [← Array.getElem?_toList]; exact h3
          have hkrel : VRel G.I μ ko kk := by
            rcases hkk with rfl | rfl
            · rw [h3']; exact h4
            · exact hk
          have hm2 := modify_rel hkrel hv he h2
          have hm3 : EsRel G.I μ (setVal es j v) (es'.modify j fun e => { e with key := kk, val := v' }).toList := by
            rw [Array.toList_modify]; exact hm2
          obtain ⟨w2, hr2, hn2⟩ := map_set_run (E := E) (hw.of_heap hh) hg hm (by rw [hh]; exact hc) hm3
          refine ⟨w2, ?_, hn2.heapSame hh ho1 ho2⟩
          unfold Instr.mapUpdate
          simp only [Sem.run_bind, run_under hu, Result.andThen_ok, run_getObj_map hc, hck, findKey_run (plainKey_under hp) h7, hkr]
          exact hr2
    · rename_i hf
      cases h
      rcases findA_run hE hk hf he w with ⟨_, h7⟩ | ⟨j, ko, v1, b1, e1, h1, _⟩
      · have hm3 : EsRel G.I μ (appL es [(k, v, clock)]) (es'.push { key := k', val := v', born := clock }).toList := by
          rw [appL_eq, Array.toList_push]; exact EsRel.append (e := { key := k', val := v', born := clock }) hk hv rfl he
        obtain ⟨w2, hr2, hn2⟩ := map_set_run (E := E) (clock' := clock + 1) hw hg hm hc hm3
        refine ⟨w2, ?_, hn2⟩
        unfold Instr.mapUpdate
        simp only [Sem.run_bind, run_under hu, Result.andThen_ok, run_getObj_map hc, hck, findKey_run (plainKey_under hp) h7]
        exact hr2
      · cases h1
    · cases h
  · cases h

theorem mapSetA_run (hE : EnvOk E G) (hw : WRel G μ H w) {t : Nat} {x k v : AVal} {x' k' v' : Value} {H' : AHeap} (h : mapSetA E t x k v H = some H') (hx : VRel G.I μ x x') (hk : VRel G.I μ k k') (hv : VRel G.I μ v v') :
    ∃ w', (Instr.mapUpdate t x' k' v').run E.P w = .ok () w' ∧ Nxt G μ H w μ H' w' := by
  unfold mapSetA at h
  split at h
  · rename_i kt et r hu
    cases hp : plainKey E kt k with
    | false => rw [hp] at h; cases h
    | true =>
      rw [hp] at h
      cases hx with
      | map _ c n hm => exact mapSetC_run hE hw hu h hp hm hk hv
  · cases h

theorem setVal_same : ∀ {es : List (AVal × AVal × Nat)} {i : Nat} {k v : AVal} {b : Nat}, es[i]? = some (k, v, b) → setVal es i v = es := by
  intro es
  induction es with
  | nil => intro i k v b h; simp at h
  | cons x es ih =>
    intro i k v b h
    cases i with
    | zero => simp at h; subst h; rfl
    | succ i =>
      simp only [setVal]
      rw [ih (by simpa using h)]

theorem run_setObj_map' {P : Program} {c clock : Nat} {es : Array MapEntry} {w : World} (o : Obj) (hc : w.heap[c]? = some (.map es clock)) : (setObj c o).run P w = .ok () { w with heap := w.heap.setIfInBounds c o } := by
  simp only [setObj, Sem.run, hc]

theorem WRel.congr {K : AHeap} (h : WRel G μ H w) (hg : ∀ j, K.get j = H.get j) (hn : K.next = H.next) : WRel G μ K w where
  live := fun b o hb => by rw [hn]; exact h.live b o (by rw [← hg]; exact hb)
  inj := fun b b' o o' c n n' h1 h2 => h.inj b b' o o' c n n' (by rw [← hg]; exact h1) (by rw [← hg]; exact h2)
  dom := fun b hb => h.dom b (by rw [← hn]; exact hb)
  glob := h.glob
  globNext := by rw [hn]; exact h.globNext
  base := h.base

theorem Nxt.congr {w' : World} {μ' : Map} {H' K : AHeap} (h : Nxt G μ H w μ' H' w') (hg : ∀ j, K.get j = H'.get j) (hn : K.next = H'.next) : Nxt G μ H w μ' K w' :=
  { le := h.le, rel := h.rel.congr hg hn, size := h.size, frame := h.frame, new := fun b o c n hb => h.new b o c n (by rw [← hg]; exact hb), next := by rw [hn]; exact h.next, os := h.os, output := h.output, keep := h.keep }

/-- an object is written again as it is -/
theorem Nxt.rewrite (hw : WRel G μ H w) {r c n clock : Nat} {es : List (AVal × AVal × Nat)} {es2' : Array MapEntry} {w2 : World} (hb : H.get r = some (.map es clock)) (hm : μ r = some (c, n))
    (he : EsRel G.I μ es es2'.toList) (hh : w2.heap = w.heap.setIfInBounds c (.map es2' clock)) (h1 : w2.os = w.os) (h2 : w2.output = w.output) : Nxt G μ H w μ H w2 :=
  (Nxt.put hw hb rfl hm (.map _ _ _ _ he) hh h1 h2).congr (fun j => by
    rw [AHeap.get_put]
    split
    · rename_i e; rw [e]; exact hb
    · rfl) rfl

theorem modifyKey_rel {I : Interp} {μ : Map} {ko : AVal} {key : Value} (hk : VRel I μ ko key) : ∀ {es : List (AVal × AVal × Nat)} {es' : List MapEntry} {i : Nat} {v0 : AVal} {b : Nat}, EsRel I μ es es' → es[i]? = some (ko, v0, b) →
    EsRel I μ es (es'.modify i fun e => { e with key := key }) := by
  intro es
  induction es with
  | nil => intro es' i v0 b h hi; simp at hi
  | cons x es ih =>
    intro es' i v0 b h hi
    cases h with
    | cons hk1 hv1 hb1 hes =>
    cases i with
    | zero =>
      simp at hi
      obtain ⟨rfl, rfl, rfl⟩ := hi
      exact .cons hk hv1 hb1 hes
    | succ i =>
      exact .cons hk1 hv1 hb1 (ih hes (by simpa using hi))

theorem mapEntryA_run (hE : EnvOk E G) (hw : WRel G μ H w) {t : Nat} {x k v : AVal} {x' k' : Value} {H' : AHeap} (h : mapEntryA E t x k H = some (v, H')) (hx : VRel G.I μ x x') (hk : VRel G.I μ k k') :
    ∃ v' w', (Instr.mapEntry t x' k').run E.P w = .ok v' w' ∧ Nxt G μ H w μ H' w' ∧ VRel G.I μ v v' := by
  unfold mapEntryA at h
  split at h
  · rename_i kt et r hu
    cases hp : plainKey E kt k with
    | false => rw [hp] at h; cases h
    | true =>
      rw [hp] at h
      simp only [cond_true] at h
      cases hx with
      | map _ c n hm =>
      split at h
      · rename_i es clock hg
        obtain ⟨es', hc, he⟩ := map_of_get hw hg hm
        have hck := plainKey_run hp hk false w
        split at h
        · rename_i i v0 b0 hf
          rcases findA_run hE hk hf he w with ⟨h1, _⟩ | ⟨j, ko, v1, b1, e1, h1, h2, h3, h4, h5, h6, h7⟩
          · cases h1
          · cases h1
            rw [nth_eq] at h
            simp only [Nat.zero_add] at h h7
            rw [h2] at h
            simp only at h
            cases hs : sameKey ko k with
            | false => rw [hs] at h; cases h
            | true =>
              rw [hs] at h
              cases h
              have := sameKey_eq hs
              subst this
              obtain ⟨w1, kk, hkr, hh, ho1, ho2, hkk⟩ := keyThatStays_run (E := E) (old := ((es'[j]?).map (·.key)).getD k') (new := k') w
              have h3' : es'[j]? = some e1 := by rw [← Array.getElem?_toList]; exact h3
              have hkrel : VRel G.I μ ko kk := by
                rcases hkk with rfl | rfl
                · rw [h3']; exact h4
                · exact hk
              have hm3 : EsRel G.I μ es (es'.modify j fun e => { e with key := kk }).toList := by
                rw [Array.toList_modify]
                exact modifyKey_rel hkrel he h2
              refine ⟨.tuple #[e1.val, goInt (((es'[j]?).map (·.born)).getD 0)], { w1 with heap := w1.heap.setIfInBounds c (.map (es'.modify j fun e => { e with key := kk }) clock) }, ?_, Nxt.rewrite hw hg hm hm3 (by rw [← hh]) ho1 ho2, ?_⟩
              · unfold Instr.mapEntry
                have hc1 : w1.heap[c]? = some (.map es' clock) := by rw [hh]; exact hc
                simp only [Sem.run_bind, run_under hu, Result.andThen_ok, run_getObj_map hc, hck, findKey_run (plainKey_under hp) h7, hkr, run_setObj_map' _ hc1, Sem.run_pure]
              · rw [h3']
                simp only [Option.map_some, Option.getD_some, h6]
                exact .tuple _ _ (.cons h5 (.cons (.int _ _) .nil))
        · rename_i hf
          split at h
          · rename_i z hz
            cases h
            rcases findA_run hE hk hf he w with ⟨_, h7⟩ | ⟨j, ko, v1, b1, e1, h1, _⟩
            · obtain ⟨z', hzr, hzv⟩ := zeroA_run (G := G) (μ := μ) hz w
              have hm3 : EsRel G.I μ (appL es [(k, z, clock)]) (es'.push { key := k', val := z', born := clock }).toList := by
                rw [appL_eq, Array.toList_push]; exact EsRel.append (e := { key := k', val := z', born := clock }) hk hzv rfl he
              obtain ⟨w2, hr2, hn2⟩ := map_set_run (E := E) (clock' := clock + 1) hw hg hm hc hm3
              refine ⟨.tuple #[z', goInt clock], w2, ?_, hn2, .tuple _ _ (.cons hzv (.cons (.int _ _) .nil))⟩
              unfold Instr.mapEntry
              simp only [Sem.run_bind, run_under hu, Result.andThen_ok, run_getObj_map hc, hck, findKey_run (plainKey_under hp) h7, hzr, hr2, Sem.run_pure]
            · cases h1
          · cases h
        · cases h
      · cases h
  · cases h

theorem stampAt_spec {b : Nat} : ∀ {es : List (AVal × AVal × Nat)} {i j : Nat}, stampAt b es i = some j → ∃ k, j = i + k ∧ (∃ ko v, es[k]? = some (ko, v, b)) ∧ ∀ m x, m < k → es[m]? = some x → x.2.2 ≠ b := by
  intro es
  induction es with
  | nil => intro i j h; cases h
  | cons x es ih =>
    obtain ⟨ko, v, c⟩ := x
    intro i j h
    simp only [stampAt] at h
    cases hc : Nat.beq c b with
    | true =>
      rw [hc] at h
      cases h
      have := Nat.eq_of_beq_eq_true hc
      subst this
      exact ⟨0, rfl, ⟨ko, v, rfl⟩, fun m x hm => by omega⟩
    | false =>
      rw [hc] at h
      obtain ⟨k, rfl, ⟨ko', v', h2⟩, h3⟩ := ih h
      refine ⟨k + 1, by omega, ⟨ko', v', by simpa using h2⟩, fun m x hm hx => ?_⟩
      cases m with
      | zero =>
        simp at hx
        subst hx
        intro e
        simp only at e
        subst e
        rw [Nat.beq_refl] at hc
        cases hc
      | succ m => exact h3 m x (by omega) (by simpa using hx)

theorem EsRel.get {I : Interp} {μ : Map} : ∀ {es : List (AVal × AVal × Nat)} {es' : List MapEntry} {i : Nat} {k v : AVal} {b : Nat}, EsRel I μ es es' → es[i]? = some (k, v, b) → ∃ e, es'[i]? = some e ∧ VRel I μ k e.key ∧ VRel I μ v e.val ∧ e.born = b := by
  intro es
  induction es with
  | nil => intro es' i k v b _ h; simp at h
  | cons x es ih =>
    intro es' i k v b h hi
    cases h with
    | cons hk hv hb hes =>
    cases i with
    | zero => simp at hi; obtain ⟨rfl, rfl, rfl⟩ := hi; exact ⟨_, rfl, hk, hv, hb⟩
    | succ i =>
      obtain ⟨e, h1, h2⟩ := ih (i := i) hes (by simpa using hi)
      exact ⟨e, by simpa using h1, h2⟩

theorem modify_rel' {I : Interp} {μ : Map} {f : MapEntry → MapEntry} {ko v : AVal} : ∀ {es : List (AVal × AVal × Nat)} {es' : List MapEntry} {i : Nat} {v0 : AVal} {b : Nat}, EsRel I μ es es' → es[i]? = some (ko, v0, b) →
    (∀ e, es'[i]? = some e → VRel I μ ko (f e).key ∧ VRel I μ v (f e).val ∧ (f e).born = e.born) → EsRel I μ (setVal es i v) (es'.modify i f) := by
  intro es
  induction es with
  | nil => intro es' i v0 b h hi; simp at hi
  | cons x es ih =>
    intro es' i v0 b h hi hf
    cases h with
    | cons hk1 hv1 hb1 hes =>
    cases i with
    | zero =>
      simp at hi
      obtain ⟨rfl, rfl, rfl⟩ := hi
      obtain ⟨g1, g2, g3⟩ := hf _ rfl
      exact .cons g1 g2 (g3.trans hb1) hes
    | succ i =>
      exact .cons hk1 hv1 hb1 (ih hes (by simpa using hi) fun e he => hf e (by simpa using he))

theorem entryStoreA_run (hw : WRel G μ H w) {t : Nat} {x st v : AVal} {x' st' v' : Value} {H' : AHeap} (h : entryStoreA x st v H = some H') (hx : VRel G.I μ x x') (hst : VRel G.I μ st st') (hv : VRel G.I μ v v') :
    ∃ w', (Instr.entryStore t x' st' v').run E.P w = .ok () w' ∧ Nxt G μ H w μ H' w' := by
  unfold entryStoreA at h
  split at h
  · rename_i r kk b
    cases hx with
    | map _ c n hm =>
    cases hst
    split at h
    · rename_i es clock hg
      split at h
      · rename_i i hi
        cases h
        obtain ⟨es', hc, he⟩ := map_of_get hw hg hm
        obtain ⟨k, hk0, ⟨ko, v0, hk⟩, hlt⟩ := stampAt_spec hi
        have hik : i = k := by omega
        subst hik
        obtain ⟨e, h1, h2, h3, h4⟩ := he.get hk
        have hfi : es'.findIdx? (fun e => (e.born : Int) == (Int.ofNat b)) = some i := by
          rw [Array.findIdx?_eq_some_iff_getElem]
          obtain ⟨hl, hv2⟩ := Array.getElem?_eq_some_iff.1 (by rw [← Array.getElem?_toList]; exact h1 : es'[i]? = some e)
          refine ⟨hl, ?_, fun m hm => ?_⟩
          · rw [hv2, h4]; simp
          · obtain ⟨x, hx⟩ : ∃ x, es[m]? = some x := ⟨es[m]'(by have := he.length; simp only [Array.length_toList] at this; omega), by simp⟩
            obtain ⟨k1, v1, b1⟩ := x
            obtain ⟨e2, g1, _, _, g4⟩ := he.get hx
            have := hlt m _ hm hx
            obtain ⟨hl2, hv3⟩ := Array.getElem?_eq_some_iff.1 (by rw [← Array.getElem?_toList]; exact g1 : es'[m]? = some e2)
            rw [hv3]
            simp only [beq_iff_eq]
            simp only at this
            rw [g4]
            simp
            omega
        have hm3 : EsRel G.I μ (setVal es i v) (es'.modify i fun x => { x with val := v' }).toList := by
          rw [Array.toList_modify]
          refine modify_rel' he hk fun e1 he1 => ?_
          rw [h1] at he1
          cases he1
          exact ⟨h2, hv, rfl⟩
        obtain ⟨w2, hr2, hn2⟩ := map_set_run (E := E) hw hg hm hc hm3
        refine ⟨w2, ?_, hn2⟩
        unfold Instr.entryStore
        simp only [Sem.run_bind, run_getObj_map hc, Result.andThen_ok, asInt, asIntOf, Sem.run_pure, hfi]
        exact hr2
      · cases h
    · cases h
  · cases h

theorem rangeA_run (hw : WRel G μ H w) {t : Nat} {x v : AVal} {x' : Value} {H' : AHeap} (h : rangeA E t x H = some (v, H')) (hx : VRel G.I μ x x') :
    ∃ v' w' μ', (Instr.range t x').run E.P w = .ok v' w' ∧ Nxt G μ H w μ' H' w' ∧ VRel G.I μ' v v' := by
  unfold rangeA at h
  split at h
  · rename_i kt et hu
    cases h
    cases hx
    refine ⟨.pointer (some ⟨w.heap.size, 0, none⟩), { w with heap := w.heap.push (.mapIter none 0 #[] 0) }, μ.add H.next (w.heap.size, 0), ?_, Nxt.alloc hw (.iterNil _ _ _ _ _ _ _) rfl rfl rfl, .ptr _ _ _ _ (Map.add_self _ _ _)⟩
    unfold Instr.range
    simp only [Sem.run_bind, run_under hu, Result.andThen_ok, Sem.run_pure, run_newObj]
  · rename_i kt et m hu
    split at h
    · rename_i es clock hg
      cases h
      cases hx with
      | map _ c n hm =>
      obtain ⟨es', hc, he⟩ := map_of_get hw hg hm
      refine ⟨.pointer (some ⟨w.heap.size, 0, none⟩), { w with heap := w.heap.push (.mapIter (some c) clock #[] clock) }, μ.add H.next (w.heap.size, 0), ?_, Nxt.alloc hw (.iter _ _ _ _ _ _ n _ rfl (Map.le_add hw _ _ _ hm)) rfl rfl rfl, .ptr _ _ _ _ (Map.add_self _ _ _)⟩
      unfold Instr.range
      simp only [Sem.run_bind, run_under hu, Result.andThen_ok, Sem.run_pure, run_getObj_map hc, run_newObj]
    · cases h
  · cases h

theorem memN_eq (x : Nat) (l : List Nat) : memN x l = l.contains x := by
  induction l with
  | nil => rfl
  | cons y l ih =>
    simp only [memN, List.contains_cons, ih]
    cases h : Nat.beq x y with
    | true => have := Nat.eq_of_beq_eq_true h; subst this; simp
    | false =>
      have : ¬ x = y := fun e => by subst e; rw [Nat.beq_refl] at h; cases h
      simp [this]

theorem leftA_rel {I : Interp} {μ : Map} {seen : List Nat} : ∀ {es : List (AVal × AVal × Nat)} {es' : List MapEntry}, EsRel I μ es es' → EsRel I μ (leftA seen es) (es'.filter fun e => !seen.contains e.born) := by
  intro es
  induction es with
  | nil => intro es' h; cases h; exact .nil
  | cons x es ih =>
    intro es' h
    cases h with
    | cons hk hv hb hes =>
    subst hb
    simp only [leftA, memN_eq, List.filter_cons]
    cases hc : seen.contains _ with
    | true => simp only [cond_true, Bool.not_true, Bool.false_eq_true, if_false]; exact ih hes
    | false => simp only [cond_false, Bool.not_false, if_true]; exact .cons hk hv rfl (ih hes)

theorem allNew_eq {I : Interp} {μ : Map} {last : Nat} : ∀ {es : List (AVal × AVal × Nat)} {es' : List MapEntry}, EsRel I μ es es' → allNew last es = es'.all fun e => decide (e.born ≥ last) := by
  intro es
  induction es with
  | nil => intro es' h; cases h; rfl
  | cons x es ih =>
    intro es' h
    cases h with
    | cons hk hv hb hes =>
    subst hb
    simp only [allNew, List.all_cons, ih hes]
    rename_i e' es'
    cases hc : Nat.ble last e'.born with
    | true => have := Nat.le_of_ble_eq_true hc; simp [this]
    | false =>
      have : ¬ last ≤ e'.born := fun h => by have := Nat.ble_eq_true_of_le h; rw [this] at hc; cases hc
      simp [this]

/-- the step of an iterator over a map, behind its readings -/
def nextTail (r m since : Nat) (seen : Array Nat) (es : Array MapEntry) (clock : Nat) : Sem Value := do
  let left := es.filter fun e => !seen.contains e.born
  let old := left.filter (·.born < since)
  let new := left.filter (·.born ≥ since)
  let candidates := (if old.isEmpty then #[none] else #[]) ++ (old ++ new).map some
  match candidates[← choose (.mapNext candidates.size)]? with
  | some (some e) =>
    setObj r (.mapIter (some m) since (seen.push e.born) clock)
    pure (.tuple #[.bool true, e.key, e.val])
  | some none => pure (.tuple #[.bool false])
  | none => stuck "Next: no such candidate"

theorem run_setObj_iter {P : Program} {c : Nat} {m : Option Nat} {since last : Nat} {seen : Array Nat} {w : World} (o : Obj) (hc : w.heap[c]? = some (.mapIter m since seen last)) : (setObj c o).run P w = .ok () { w with heap := w.heap.setIfInBounds c o } := by
  simp only [setObj, Sem.run, hc]

theorem nextL_run (hw : WRel G μ H w) {r m since last clock c n cm k : Nat} {seen : List Nat} {seen' : Array Nat} {v : AVal} {H' : AHeap} {es : List (AVal × AVal × Nat)} {es' : Array MapEntry}
    (hs : seen'.toList = seen) (he : EsRel G.I μ es es'.toList) (hg : H.get r = some (.mapIter (some m) since seen last)) (hm : μ r = some (c, n)) (hmm : μ m = some (cm, k)) (hc : w.heap[c]? = some (.mapIter (some cm) since seen' last))
    (h : nextL m since seen clock (leftA seen es) H (H.put r) = some (v, H')) :
    ∃ v' w', (nextTail c cm since seen' es' clock).run E.P w = .ok v' w' ∧ Nxt G μ H w μ H' w' ∧ VRel G.I μ v v' := by
  have hleft := leftA_rel (seen := seen) he
  have hfil : (es'.filter fun e => !seen'.contains e.born).toList = es'.toList.filter fun e => !seen.contains e.born := by
    rw [Array.toList_filter]
    congr 1
    funext e
    rw [← hs, Array.contains_toList]
  rw [← hfil] at hleft
  unfold nextTail
  generalize es'.filter (fun e => !seen'.contains e.born) = left at *
  generalize leftA seen es = la at *
  unfold nextL at h
  split at h
  · cases h
    have : left = #[] := by
      rw [← Array.toList_eq_nil_iff]
      exact List.eq_nil_of_length_eq_zero hleft.length.symm
    subst this
    refine ⟨_, w, ?_, Nxt.refl hw, .tuple _ _ (.cons (.bool _) .nil)⟩
    simp [Question.forced]
  · rename_i k0 v0 b
    cases hb : Nat.ble (Nat.succ b) since with
    | false => rw [hb] at h; cases h
    | true =>
      rw [hb] at h
      cases h
      have hlt : b < since := Nat.le_of_ble_eq_true hb
      generalize hll : left.toList = ll at hleft
      cases hleft with
      | cons hk hv hb hes =>
      rename_i e es2
      cases hes
      have : left = #[e] := by rw [← Array.toList_inj, hll]
      subst this
      subst hb
      refine ⟨.tuple #[.bool true, e.key, e.val], { w with heap := w.heap.setIfInBounds c (.mapIter (some cm) since (seen'.push e.born) clock) }, ?_,
        Nxt.put hw hg rfl hm (.iter _ _ _ _ _ _ k _ (by simp [hs]) hmm) rfl rfl rfl, .tuple _ _ (.cons (.bool _) (.cons hk (.cons hv .nil)))⟩
      have h1 : (#[e].filter fun x => decide (x.born < since)) = #[e] := by simp [hlt]
      have h2 : (#[e].filter fun x => decide (x.born ≥ since)) = #[] := by simp; omega
      simp only [Sem.run_bind, h1, h2]
      simp [Question.forced, run_setObj_iter _ hc]
  · cases h

theorem nextA_run (hw : WRel G μ H w) {ty : Nat} {x v : AVal} {x' : Value} {H' : AHeap} (h : nextA x H = some (v, H')) (hx : VRel G.I μ x x') :
    ∃ v' w', (Instr.next x' false ty).run E.P w = .ok v' w' ∧ Nxt G μ H w μ H' w' ∧ VRel G.I μ v v' := by
  unfold nextA at h
  split at h
  · rename_i r
    cases hx with
    | ptr _ _ c n hm =>
    split at h
    · rename_i d1 d2 d3 hg
      cases h
      obtain ⟨_, c', n', o', hm', hc, ho, _⟩ := hw.live _ _ hg
      rw [hm] at hm'
      cases hm'
      cases ho
      refine ⟨_, w, ?_, Nxt.refl hw, .tuple _ _ (.cons (.bool _) .nil)⟩
      unfold Instr.next
      rename_i s1 s2 s3
      have hgo : (getObj c).run E.P w = .ok (.mapIter none s1 s3 s2) w := by simp only [getObj, Sem.run, hc]
      simp only [Sem.run_bind, hgo, Result.andThen_ok, Sem.run_pure]
    · rename_i m since seen last hg
      obtain ⟨_, c', n', o', hm', hc, ho, _⟩ := hw.live _ _ hg
      rw [hm] at hm'
      cases hm'
      cases ho with
      | iter _ _ _ _ _ cm k seen' hs hmm =>
      unfold nextC at h
      split at h
      · rename_i es clock hgm
        obtain ⟨es', hcm, he⟩ := map_of_get hw hgm hmm
        have key : ∃ h1 : (!seen'.isEmpty && !es'.isEmpty && es'.all fun e => decide (e.born ≥ last)) = false, nextL m since seen clock (leftA seen es) H (H.put r) = some (v, H') := by
          split at h
          · rename_i x1 l1 y1 y2
            cases ha : allNew last _ with
            | true => rw [ha] at h; cases h
            | false =>
              rw [ha] at h
              refine ⟨?_, h⟩
              rw [allNew_eq he] at ha
              rw [← Array.all_toList, ha]
              simp
          · rename_i hno
            refine ⟨?_, h⟩
            cases hse : seen with
            | nil =>
              have : seen' = #[] := by rw [← Array.toList_eq_nil_iff, hs, hse]
              simp [this]
            | cons x l =>
              cases hes : es with
              | nil =>
                subst hes
                have : es' = #[] := by
                  rw [← Array.toList_eq_nil_iff]
                  exact List.eq_nil_of_length_eq_zero he.length.symm
                simp [this]
              | cons y l2 => exact absurd hes (hno _ _ _ _ hse)
        obtain ⟨h1, h2⟩ := key
        obtain ⟨v', w', hr, hn, hv⟩ := nextL_run (E := E) hw hs he hg hm hmm hc h2
        refine ⟨v', w', ?_, hn, hv⟩
        rw [← hr]
        unfold Instr.next nextTail
        have hgo : (getObj c).run E.P w = .ok (.mapIter (some cm) since seen' last) w := by simp [getObj, Sem.run, hc]
        simp only [Sem.run_bind, hgo, Result.andThen_ok, run_getObj_map hcm, h1, Bool.false_eq_true, if_false]
        rfl
      · cases h
    · cases h
  · cases h

end Go.Ab
