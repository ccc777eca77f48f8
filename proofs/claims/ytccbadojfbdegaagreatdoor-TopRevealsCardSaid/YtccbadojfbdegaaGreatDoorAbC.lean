/- Single operations of the evaluator are those of the model, first part. -/
import Derived.Test.YtccbadojfbdegaaGreatDoorAbB
/- Soundness of single operations, 3: texts, equality, binary and unary operations. -/
namespace Go.Ab

variable {E : Env} {G : Ground} {μ : Map} {H : AHeap} {w : World}

theorem toNat_inj_list : ∀ {a b : List UInt8}, a.map UInt8.toNat = b.map UInt8.toNat → a = b := by
  intro a
  induction a with
  | nil => intro b h; cases b <;> simp_all
  | cons x a ih =>
    intro b h
    cases b with
    | nil => simp at h
    | cons y b =>
      simp only [List.map_cons, List.cons.injEq] at h
      rw [ih h.2, UInt8.toNat_inj.1 h.1]

theorem bytesOf_eq (s : ByteArray) : bytesOf s = s.toList.map UInt8.toNat := by
  unfold bytesOf
  rw [mapL_eq, ByteArray.toList_eq]

theorem bytesOf_length (s : ByteArray) : (bytesOf s).length = s.size := by
  unfold bytesOf
  rw [mapL_eq]; simp

theorem beq_bytes {a b : List Nat} {s t : ByteArray} (ha : a = bytesOf s) (hb : b = bytesOf t) : (s.toList == t.toList) = decide (a = b) := by
  subst ha hb
  rw [bytesOf_eq, bytesOf_eq]
  by_cases h : s.toList = t.toList
  · simp [h]
  · have : ¬ s.toList.map UInt8.toNat = t.toList.map UInt8.toNat := fun e => h (toNat_inj_list e)
    simp [h, this]

theorem natsLess_eq : ∀ (a b : List UInt8), natsLess (a.map UInt8.toNat) (b.map UInt8.toNat) = Op.bytesLess a b := by
  intro a
  induction a with
  | nil => intro b; cases b <;> rfl
  | cons x a ih =>
    intro b
    cases b with
    | nil => rfl
    | cons y b =>
      simp only [List.map_cons, natsLess, Op.bytesLess, ih]
      by_cases h : x < y
      · have : Nat.ble (Nat.succ x.toNat) y.toNat = true := Nat.ble_eq_true_of_le (UInt8.lt_iff_toNat_lt.1 h)
        simp [this, h]
      · have h' : Nat.ble (Nat.succ x.toNat) y.toNat = false := by
          rw [← Bool.not_eq_true]; exact fun e => h (UInt8.lt_iff_toNat_lt.2 (Nat.le_of_ble_eq_true e))
        rw [h']
        by_cases e : x = y
        · subst e; simp
        · have : Nat.beq x.toNat y.toNat = false := by rw [← Bool.not_eq_true, Nat.beq_eq]; exact fun e' => e (UInt8.toNat_inj.1 e')
          rw [this]
          simp [h, e]

theorem strCmp_eq (hE : EnvOk E G) {x y : AStr} {r : Bool} (h : strCmp E x y = some r) : decide (G.I.den x = G.I.den y) = r := by
  unfold strCmp at h
  split at h
  · rename_i a b
    cases h
    rw [natsBeq_eq]
    exact decide_eq_decide.2 Iff.rfl
  · rename_i hne
    cases hb : strBeq x y with
    | true =>
      rw [hb] at h
      cases h
      rw [strBeq_eq x y hb]; simp
    | false =>
      rw [hb] at h
      exact hE.eqs x y r h

theorem obool_some {o : Option Bool} {v : AVal} (h : obool o = some v) : ∃ b, o = some b ∧ v = .bool b := by
  cases o with
  | none => cases h
  | some b => cases h; exact ⟨b, rfl, rfl⟩

theorem onot_some {o : Option Bool} {v : AVal} (h : onot o = some v) : ∃ b, o = some b ∧ v = .bool (!b) := by
  cases o with
  | none => cases h
  | some b => cases h; exact ⟨b, rfl, by rw [negB_eq]⟩

theorem bytesOf_append (s t : ByteArray) : bytesOf (s ++ t) = bytesOf s ++ bytesOf t := by
  simp [bytesOf, mapL_eq]

theorem strOp_run (hE : EnvOk E G) {op : BinOp} {x y : AStr} {s t : ByteArray} {v : AVal} (h : strOp E op x y = some v) (hx : G.I.den x = bytesOf s) (hy : G.I.den y = bytesOf t) (T : TypeId) (w : World) :
    ∃ v', (binOp op T (.string s) (.string t)).run E.P w = .ok v' w ∧ VRel G.I μ v v' := by
  have hrun : (binOp op T (.string s) (.string t)).run E.P w = (Op.stringOp op s t).run E.P w := by cases op <;> rfl
  rw [hrun]
  unfold strOp at h
  split at h
  · obtain ⟨b, hb, rfl⟩ := obool_some h
    refine ⟨_, rfl, ?_⟩
    rw [beq_bytes hx hy, strCmp_eq hE hb]
    exact .bool _
  · obtain ⟨b, hb, rfl⟩ := onot_some h
    refine ⟨_, rfl, ?_⟩
    rw [beq_bytes hx hy, strCmp_eq hE hb]
    exact .bool _
  · split at h
    · rename_i a b
      simp only [Interp.den] at hx hy
      have hlt : natsLess a b = Op.bytesLess s.toList t.toList := by rw [hx, hy, bytesOf_eq, bytesOf_eq, natsLess_eq]
      have heq : natsBeq a b = (s.toList == t.toList) := by rw [natsBeq_eq, beq_bytes hx hy]
      cases op <;> simp only [reduceCtorEq] at h
      case add =>
        cases hl : Nat.ble (lenL a + lenL b) 1000000000 with
        | false => rw [hl] at h; cases h
        | true =>
          rw [hl] at h
          cases h
          have := Nat.le_of_ble_eq_true hl
          rw [lenL_eq, lenL_eq, hx, hy, bytesOf_length, bytesOf_length] at this
          refine ⟨.string (s ++ t), ?_, .str _ _ ?_⟩
          · unfold Op.stringOp
            simp only []
            rw [if_neg]
            · rfl
            · simp only [IntKind.max, IntKind.signed, IntKind.bits]; omega
          · simp only [Interp.den, appL_eq, bytesOf_append, hx, hy]
      case lss => cases h; exact ⟨_, rfl, by rw [hlt]; exact .bool _⟩
      case leq =>
        cases h
        refine ⟨_, rfl, ?_⟩
        rw [hlt, heq]
        cases Op.bytesLess s.toList t.toList <;> exact .bool _
      case gtr =>
        cases h
        refine ⟨_, rfl, ?_⟩
        rw [negB_eq, hlt, heq]
        cases Op.bytesLess s.toList t.toList <;> exact .bool _
      case geq =>
        cases h
        refine ⟨_, rfl, ?_⟩
        rw [negB_eq, hlt]
        exact .bool _
      all_goals cases h
    · split at h
      · cases hz : E.cat x y with
        | none => rw [hz] at h; cases h
        | some z =>
          rw [hz] at h
          cases h
          obtain ⟨h1, h2⟩ := hE.cats _ _ _ hz
          rw [hx, hy, bytesOf_length, bytesOf_length] at h1
          refine ⟨.string (s ++ t), ?_, .str _ _ ?_⟩
          · unfold Op.stringOp
            simp only []
            rw [if_neg]
            · rfl
            · simp only [IntKind.max, IntKind.signed, IntKind.bits]; omega
          · rw [h2, bytesOf_append, hx, hy]
      · cases h

/-! ### equality -/

/-- the elements' comparisons, one after the other -/
def eqEls (d e s : Nat) (xs ys : Array Value) : Nat → Nat → Sem Bool
  | 0, _ => pure true
  | n + 1, i => do
    let a ← part e xs (i * s)
    let b ← part e ys (i * s)
    let r ← Op.equalIn d e a b
    if (!r) = true then pure false else eqEls d e s xs ys n (i + 1)

theorem run_equalIn_array {d : Nat} {t n e s : Nat} {xs ys : Array Value} (ht : E.P.underlying t = some (.array n e)) (hs : szOf E e = some s) (w : World) :
    (Op.equalIn (d + 1) t (.agg xs) (.agg ys)).run E.P w = (eqEls d e s xs ys n 0).run E.P w := by
  simp only [Op.equalIn, Sem.run_bind, run_underlying ht, Result.andThen_ok, run_size hs]
  rw [Std.Legacy.Range.forIn_eq_forIn_range']
  simp only [Std.Legacy.Range.size]
  rw [show (n - 0 + 1 - 1) / 1 = n from by omega]
  generalize (0 : Nat) = i
  clear ht hs
  induction n generalizing w i with
  | zero => simp [eqEls]
  | succ n ih =>
    simp only [List.range'_succ, List.forIn_cons, eqEls, Sem.run_bind]
    generalize (part e xs (i * s)).run E.P w = r1
    cases r1 with
    | halt x w1 => simp [Result.andThen]
    | ok a w1 =>
      simp only [Result.andThen_ok]
      generalize (part e ys (i * s)).run E.P w1 = r2
      cases r2 with
      | halt x w2 => simp [Result.andThen]
      | ok b w2 =>
        simp only [Result.andThen_ok]
        generalize (Op.equalIn d e a b).run E.P w2 = r3
        cases r3 with
        | halt x w3 => simp [Result.andThen]
        | ok r w3 =>
          cases r
          · simp only [Result.andThen_ok, Bool.not_false, if_true, Sem.run_pure]
          · simp only [Result.andThen_ok, Bool.not_true, Bool.false_eq_true, if_false, Sem.run_pure]
            exact ih w3 (i + 1)

theorem fieldsOf_eq {t : Nat} {fs : Array Field} (h : E.P.underlying t = some (.struct fs)) : E.P.underlying t = some (.struct (E.P.fieldsOf t)) ∧ E.P.fieldsOf t = fs := by
  have : E.P.fieldsOf t = fs := by simp [Program.fieldsOf, h]
  rw [this]; exact ⟨h, rfl⟩

mutual
theorem eqA_run (hE : EnvOk E G) : ∀ (d t : Nat) (x y : AVal) (x' y' : Value) (r : Bool), eqA E d t x y = some r → VRel G.I μ x x' → VRel G.I μ y y' → ∀ d' w, d ≤ d' → (Op.equalIn d' t x' y').run E.P w = .ok r w
  | 0, t, x, y, x', y', r, h, _, _, _, _, _ => by simp [eqA] at h
  | d + 1, t, x, y, x', y', r, h, hx, hy, d', w, hd => by
    obtain ⟨d', rfl⟩ : ∃ k, d' = k + 1 := ⟨d' - 1, by omega⟩
    unfold eqA at h
    split at h <;> (try (cases h; done)) <;> rename_i hu <;> have hu' : E.P.underlying t = some _ := hu
    · cases hx; cases hy; cases h
      rw [boolBeq_eq]; exact run_equalIn_bool' w d' t _ _ hu'
    · rename_i k a k' b
      cases hb : kindBeq k k' with
      | false => rw [hb] at h; cases h
      | true =>
        rw [hb] at h
        have hk := kindBeq_eq hb
        subst hk
        cases h
        cases hx; cases hy
        rw [intBeq_eq]; exact run_equalIn_int w d' t _ _ _ _ hu'
    · cases hx with
      | str _ s hs => cases hy with
        | str _ s' hs' =>
          rw [run_equalIn_string w d' t _ _ hu', beq_bytes hs hs', strCmp_eq hE h]
    · cases hx; cases hy; cases h
      simp [Op.equalIn, run_underlying hu']
    · cases hx; cases hy; cases h
      simp [Op.equalIn, run_underlying hu']
    · cases hx; cases hy; cases h
      simp [Op.equalIn, run_underlying hu']
    · rename_i e a o b o'
      split at h
      · rename_i k hk
        cases hb : Nat.beq a b with
        | false => rw [hb] at h; cases h
        | true =>
          rw [hb] at h
          have hab := Nat.eq_of_beq_eq_true hb
          subst hab
          cases h
          cases hx with
          | ptr _ _ c n hm => cases hy with
            | ptr _ _ c' n' hm' =>
              rw [hm] at hm'
              cases hm'
              have : (decide (o = o')) = Nat.beq o o' := by
                by_cases e : o = o'
                · subst e; simp
                · have : Nat.beq o o' = false := by rw [← Bool.not_eq_true, Nat.beq_eq]; exact e
                  rw [this]; simpa using e
              simp [Op.equalIn, run_underlying hu', run_size hk, sameAddr]
              rw [← this]
              by_cases e : o = o' <;> simp [e]
      · cases h
    · cases hx; cases hy; cases h
      simp [Op.equalIn, run_underlying hu']
    · cases hx; cases hy; cases h
      simp [Op.equalIn, run_underlying hu']
    · cases hx; cases hy; cases h
      simp [Op.equalIn, run_underlying hu']
    · rename_i fs xs ys
      cases hs : E.P.stoodInHeld t with
      | true => rw [hs] at h; cases h
      | false =>
        rw [hs] at h
        cases hx with
        | agg _ xs' hxs => cases hy with
          | agg _ ys' hys =>
            obtain ⟨h1, h2⟩ := fieldsOf_eq hu'
            rw [run_equalIn_agg w d' t _ _ h1 hs, h2]
            exact eqFields_run hE d fs.toList xs ys xs' ys' r h (PRel.whole hxs) (PRel.whole hys) d' w (by omega)
    · rename_i n e xs ys
      split at h
      · rename_i s hs
        cases hx with
        | agg _ xs' hxs => cases hy with
          | agg _ ys' hys =>
            rw [run_equalIn_array hu' hs]
            exact eqElems_run hE d e s n 0 xs ys xs' ys' r h (PRel.whole hxs) (PRel.whole hys) d' w (by omega)
      · cases h
    · cases hx; cases hy; cases h
      simp [Op.equalIn, run_underlying hu']
    · cases hx; cases hy; cases h
      simp [Op.equalIn, run_underlying hu']
    · cases hx; cases hy; cases h
      simp [Op.equalIn, run_underlying hu']
    · cases hx; cases hy; cases h
      simp [Op.equalIn, run_underlying hu']
    · cases hx; cases hy; cases h
      simp [Op.equalIn, run_underlying hu']
    · cases hx; cases hy; cases h
      simp [Op.equalIn, run_underlying hu']
    · cases hx; cases hy; cases h
      simp [Op.equalIn, run_underlying hu']
    · cases hx; cases hy; cases h
      simp [Op.equalIn, run_underlying hu']
    · cases hx; cases hy; cases h
      simp [Op.equalIn, run_underlying hu']
theorem eqFields_run (hE : EnvOk E G) : ∀ (d : Nat) (fs : List Field) (xs ys : List AVal) (xs' ys' : Array Value) (r : Bool), eqFields E d fs xs ys = some r → PRel G.I μ xs xs' → PRel G.I μ ys ys' →
    ∀ d' w, d ≤ d' → (Op.eqFields d' xs' ys' fs).run E.P w = .ok r w
  | 0, _, _, _, _, _, _, h, _, _, _, _, _ => by simp [eqFields] at h
  | d + 1, [], _, _, _, _, r, h, _, _, d', w, _ => by
    simp [eqFields] at h; subst h; rfl
  | d + 1, f :: fs, xs, ys, xs', ys', r, h, hx, hy, d', w, hd => by
    simp only [eqFields] at h
    split at h
    · rename_i a b hn ha hb
      obtain ⟨va, hra, hva⟩ := partA_run ha hx w
      obtain ⟨vb, hrb, hvb⟩ := partA_run hb hy w
      have hne : f.name ≠ "_" := by simpa using hn
      simp only [Op.eqFields, Sem.run_ite, hne, ne_eq, not_false_eq_true, if_true, Sem.run_bind, hra, hrb, Result.andThen_ok]
      split at h
      · rename_i he
        rw [eqA_run hE d f.type a b va vb true he hva hvb d' w (by omega)]
        simp only [Result.andThen_ok, Bool.not_true, Bool.false_eq_true, if_false]
        exact eqFields_run hE d fs xs ys xs' ys' r h hx hy d' w (by omega)
      · rename_i hnt
        cases r with
        | true => exact absurd h hnt
        | false =>
          rw [eqA_run hE d f.type a b va vb false h hva hvb d' w (by omega)]
          simp
    · cases h
theorem eqElems_run (hE : EnvOk E G) : ∀ (d e s n i : Nat) (xs ys : List AVal) (xs' ys' : Array Value) (r : Bool), eqElems E d e s n i xs ys = some r → PRel G.I μ xs xs' → PRel G.I μ ys ys' →
    ∀ d' w, d ≤ d' → (eqEls d' e s xs' ys' n i).run E.P w = .ok r w
  | 0, _, _, _, _, _, _, _, _, _, h, _, _, _, _, _ => by simp [eqElems] at h
  | d + 1, _, _, 0, _, _, _, _, _, r, h, _, _, d', w, _ => by
    simp [eqElems] at h; subst h; rfl
  | d + 1, e, s, n + 1, i, xs, ys, xs', ys', r, h, hx, hy, d', w, hd => by
    simp only [eqElems] at h
    split at h
    · rename_i a b ha hb
      obtain ⟨va, hra, hva⟩ := partA_run ha hx w
      obtain ⟨vb, hrb, hvb⟩ := partA_run hb hy w
      simp only [eqEls, Sem.run_bind, hra, hrb, Result.andThen_ok]
      split at h
      · rename_i he
        rw [eqA_run hE d e a b va vb true he hva hvb d' w (by omega)]
        simp only [Result.andThen_ok, Bool.not_true, Bool.false_eq_true, if_false]
        exact eqElems_run hE d e s n (i + 1) xs ys xs' ys' r h hx hy d' w (by omega)
      · rename_i hnt
        cases r with
        | true => exact absurd h hnt
        | false =>
          rw [eqA_run hE d e a b va vb false h hva hvb d' w (by omega)]
          simp
    · cases h
end

end Go.Ab
/- Soundness of single operations, 4: binary and unary operations. -/
namespace Go.Ab

variable {E : Env} {G : Ground} {μ : Map} {H : AHeap} {w : World}

/-- values at which '==' is asked of Op.equal -/
def askEq : Value → Value → Bool
  | .int .., _ => false
  | .float .., _ => false
  | .complex .., _ => false
  | .string _, .string _ => false
  | _, _ => true

theorem binOp_eq_run {t : Nat} {x' y' : Value} (hp : askEq x' y' = true) (op : BinOp) (w : World) :
    (binOp op t x' y').run E.P w = match op with
      | .eql => ((Op.equal t x' y').run E.P w).andThen fun b w' => .ok (.bool b) w'
      | .neq => ((Op.equal t x' y').run E.P w).andThen fun b w' => .ok (.bool (!b)) w'
      | _ => (binOp op t x' y').run E.P w := by
  cases op <;> first | rfl | (cases x' <;> cases y' <;> first | (simp [askEq] at hp; done) | (simp [binOp]; done) | (simp only [binOp, Sem.run_bind, Sem.run_pure]))

theorem eqOp_run (hE : EnvOk E G) {op : BinOp} {t : Nat} {x y v : AVal} {x' y' : Value} (h : eqOp E op t x y = some v) (hx : VRel G.I μ x x') (hy : VRel G.I μ y y')
    (hp : askEq x' y' = true) (w : World) : ∃ v', (binOp op t x' y').run E.P w = .ok v' w ∧ VRel G.I μ v v' := by
  have hb := binOp_eq_run (E := E) (t := t) hp op w
  unfold eqOp at h
  split at h
  · obtain ⟨b, hb', rfl⟩ := obool_some h
    simp only at hb
    rw [hb, show (Op.equal t x' y').run E.P w = .ok b w from eqA_run hE 40 t x y x' y' b hb' hx hy 10000 w (by omega)]
    exact ⟨_, rfl, .bool b⟩
  · obtain ⟨b, hb', rfl⟩ := onot_some h
    simp only at hb
    rw [hb, show (Op.equal t x' y').run E.P w = .ok b w from eqA_run hE 40 t x y x' y' b hb' hx hy 10000 w (by omega)]
    exact ⟨_, rfl, .bool _⟩
  · cases h

theorem eqOp_some {op : BinOp} {t : Nat} {x y v : AVal} (h : eqOp E op t x y = some v) : ∃ b, eqA E 40 t x y = some b := by
  unfold eqOp at h
  split at h
  · obtain ⟨b, hb, _⟩ := obool_some h; exact ⟨b, hb⟩
  · obtain ⟨b, hb, _⟩ := onot_some h; exact ⟨b, hb⟩
  · cases h

/-- what '==' is asked of, by the evaluator's values -/
theorem eqA_ask {d t : Nat} {x y : AVal} {x' y' : Value} {b : Bool} (h : eqA E d t x y = some b) (hx : VRel G.I μ x x') (hy : VRel G.I μ y y')
    (h1 : ∀ k a k' b, x = .int k a → y = .int k' b → False) (h2 : ∀ a b, x = .str a → y = .str b → False) : askEq x' y' = true := by
  cases d with
  | zero => simp [eqA] at h
  | succ d =>
    unfold eqA at h
    split at h <;> first
      | (cases h; done)
      | exact (h1 _ _ _ _ rfl rfl).elim
      | exact (h2 _ _ rfl rfl).elim
      | (cases hx; cases hy; rfl)

theorem eqGuard_run {op : BinOp} {t : Nat} {x' y' : Value} (x y : Operand) (w : World) (h1 : x' = .nilIface → y' = .nilIface → (x matches .const _) || (y matches .const _))
    (h2 : ∀ a b, x' = .agg a → y' = .agg b → E.P.eqGuardType E.P.depth t = false) : (eqGuard op t x y x' y').run E.P w = .ok () w := by
  have key (op : BinOp) (hop : op = .eql ∨ op = .neq) : (eqGuard op t x y x' y').run E.P w = .ok () w := by
    have e : ∀ s : Sem Unit, (if (!true) = true then pure () else s : Sem Unit) = s := fun s => rfl
    rcases hop with rfl | rfl <;>
    · simp only [eqGuard, e]
      cases x' <;> cases y' <;> first
        | rfl
        | exact Eq.trans (congrArg (fun s : Sem Unit => s.run E.P w) (if_pos (h1 rfl rfl))) rfl
        | (simp only [Sem.run_bind, run_program, Result.andThen_ok, h2 _ _ rfl rfl]; rfl)
  cases op <;> first
    | exact key _ (.inl rfl)
    | exact key _ (.inr rfl)
    | rfl

theorem isConst_eq (x : Operand) : isConst x = (x matches .const _) := by cases x <;> rfl

theorem shift_run {op : BinOp} {k k' : IntKind} {x y : Int} {v : AVal} (h : shiftA op k x y = some v) (hop : op = .shl ∨ op = .shr) (t : TypeId) (w : World) :
    ∃ v', (binOp op t (.int k x) (.int k' y)).run E.P w = .ok v' w ∧ VRel G.I μ v v' := by
  unfold shiftA at h
  split at h
  · cases h
  · rename_i n
    rcases hop with rfl | rfl
    · cases h
      refine ⟨_, ?_, .int _ _⟩
      simp only [binOp, Op.shift]
      rw [if_neg (by simp)]
      rfl
    · cases h
      refine ⟨_, ?_, .int _ _⟩
      simp only [binOp, Op.shift]
      rw [if_neg (by simp)]
      rfl

theorem binA_run (hE : EnvOk E G) {op : BinOp} {t : Nat} {x y v : AVal} {x' y' : Value} {ox oy : Operand} (h : binA E op t (bif isConst ox then true else isConst oy) x y = some v)
    (hx : VRel G.I μ x x') (hy : VRel G.I μ y y') (w : World) :
    ∃ v', ((do eqGuard op t ox oy x' y'; binOp op t x' y' : Sem Value)).run E.P w = .ok v' w ∧ VRel G.I μ v v' := by
  have step (hg : (eqGuard op t ox oy x' y').run E.P w = .ok () w) (hb : ∃ v', (binOp op t x' y').run E.P w = .ok v' w ∧ VRel G.I μ v v') :
      ∃ v', ((do eqGuard op t ox oy x' y'; binOp op t x' y' : Sem Value)).run E.P w = .ok v' w ∧ VRel G.I μ v v' := by
    obtain ⟨v', hv, hr⟩ := hb
    exact ⟨v', by rw [Sem.run_bind, hg]; exact hv, hr⟩
  unfold binA at h
  split at h
  · rename_i k a k' b
    cases hx; cases hy
    refine step (eqGuard_run _ _ _ (by simp) (by simp)) ?_
    split at h
    · exact shift_run h (.inl rfl) t w
    · exact shift_run h (.inr rfl) t w
    · cases hk : kindBeq k k' with
      | false => rw [hk] at h; cases h
      | true =>
        rw [hk] at h
        have := kindBeq_eq hk
        subst this
        exact arith_run h t w
  · rename_i a b
    cases hx with
    | str _ s hs => cases hy with
      | str _ s' hs' => exact step (eqGuard_run _ _ _ (by simp) (by simp)) (strOp_run hE h hs hs' t w)
  · rename_i s b
    cases hx; cases hy
    refine step (eqGuard_run _ _ _ (by simp) (by simp)) ?_
    obtain ⟨r, hr, rfl⟩ := obool_some h
    exact arith_run (hE.cmps op s b r hr) t w
  · cases hx; cases hy
    cases hc : (bif isConst ox then true else isConst oy) with
    | false => rw [hc] at h; cases h
    | true =>
      rw [hc] at h
      refine step (eqGuard_run _ _ _ (fun _ _ => ?_) (by simp)) (eqOp_run hE h .nilIface .nilIface rfl w)
      rw [← isConst_eq, ← isConst_eq]
      cases h1 : isConst ox with
      | true => rfl
      | false => rw [h1] at hc; simpa using hc
  · rename_i a b
    cases hg : E.P.eqGuardType E.P.depth t with
    | true => rw [hg] at h; cases h
    | false =>
      rw [hg] at h
      have hx0 := hx
      have hy0 := hy
      cases hx with
      | agg _ a' ha => cases hy with
        | agg _ b' hb => exact step (eqGuard_run _ _ _ (by simp) (fun _ _ _ _ => hg)) (eqOp_run hE h hx0 hy0 rfl w)
  · rename_i n1 n2 n3 n4 n5
    obtain ⟨b, hb⟩ := eqOp_some h
    have hask := eqA_ask hb hx hy (fun k a k' b e1 e2 => by first | exact n1 k a k' b e1 e2 | exact n2 k a k' b e1 e2 | exact n3 k a k' b e1 e2 | exact n4 k a k' b e1 e2 | exact n5 k a k' b e1 e2)
      (fun a b e1 e2 => by first | exact n1 a b e1 e2 | exact n2 a b e1 e2 | exact n3 a b e1 e2 | exact n4 a b e1 e2 | exact n5 a b e1 e2)
    refine step (eqGuard_run _ _ _ (fun e1 e2 => ?_) (fun a' b' e1 e2 => ?_)) (eqOp_run hE h hx hy hask w)
    · subst e1 e2
      exfalso
      have hx1 : x = .nilIface := by
        cases hx with
        | top => exfalso; unfold eqA at hb; split at hb <;> first | (cases hb; done) | simp_all
        | nilIface => rfl
      have hy1 : y = .nilIface := by
        cases hy with
        | top => exfalso; subst hx1; unfold eqA at hb; split at hb <;> first | (cases hb; done) | simp_all
        | nilIface => rfl
      first | exact n1 hx1 hy1 | exact n2 hx1 hy1 | exact n3 hx1 hy1 | exact n4 hx1 hy1 | exact n5 hx1 hy1
    · subst e1 e2
      exfalso
      have hx1 : ∃ a, x = .agg a := by
        cases hx with
        | top => exfalso; unfold eqA at hb; split at hb <;> first | (cases hb; done) | simp_all
        | agg a _ _ => exact ⟨a, rfl⟩
      obtain ⟨a, hx1⟩ := hx1
      have hy1 : ∃ b, y = .agg b := by
        cases hy with
        | top => exfalso; subst hx1; unfold eqA at hb; split at hb <;> first | (cases hb; done) | simp_all
        | agg a _ _ => exact ⟨a, rfl⟩
      obtain ⟨b, hy1⟩ := hy1
      first | exact n1 a b hx1 hy1 | exact n2 a b hx1 hy1 | exact n3 a b hx1 hy1 | exact n4 a b hx1 hy1 | exact n5 a b hx1 hy1

theorem unA_run {op : UnOp} {x v : AVal} {x' : Value} (h : unA op x = some v) (hx : VRel G.I μ x x') (w : World) : ∃ v', (Op.unary op x').run E.P w = .ok v' w ∧ VRel G.I μ v v' := by
  unfold unA at h
  split at h <;> (try (cases h; done)) <;> cases hx <;> cases h
  · refine ⟨_, rfl, ?_⟩
    rw [wrapI_eq]; exact .int _ _
  · exact ⟨_, rfl, .int _ _⟩
  · refine ⟨_, rfl, ?_⟩
    rw [negB_eq]; exact .bool _

end Go.Ab
/- Soundness of single operations, 5: aggregates, addresses, slices. -/
namespace Go.Ab

variable {E : Env} {G : Ground} {μ : Map} {H : AHeap} {w : World}

/-! ### aggregates -/

inductive PsRel (I : Interp) (μ : Map) : List (Nat × AVal) → List (Nat × Value) → Prop where
  | nil : PsRel I μ [] []
  | cons {i : Nat} {v : AVal} {v' : Value} {l : List (Nat × AVal)} {l' : List (Nat × Value)} (h : VRel I μ v v') (hs : PsRel I μ l l') : PsRel I μ ((i, v) :: l) ((i, v') :: l')

theorem foldl_set (off : Nat) : ∀ (l : List Value) (k : Nat) (cs : Array Value), off + k + l.length ≤ cs.size →
    (l.zipIdx k).foldl (fun cs (c, j) => cs.setIfInBounds (off + j) c) cs = setRange cs (off + k) l := by
  intro l
  induction l with
  | nil => intro k cs _; rfl
  | cons v l ih =>
    intro k cs h
    simp only [List.length_cons] at h
    simp only [List.zipIdx_cons, List.foldl_cons, setRange]
    rw [ih (k + 1) _ (by simp; omega)]
    rfl

theorem fillA_run {place : Nat → Option (Nat × Nat)} {place' : Nat → Option (Nat × Nat)} (hp : ∀ i x, place i = some x → place' i = some x) : ∀ {l : List (Nat × AVal)} {l' : List (Nat × Value)} {cells r : List AVal} {cells' : Array Value},
    fillA place cells l = some r → PsRel G.I μ l l' → VsRel G.I μ cells cells'.toList → ∃ r', Instr.fill place' cells' l' = some r' ∧ VsRel G.I μ r r'.toList := by
  intro l
  induction l with
  | nil => intro l' cells r cells' h hl hc; cases hl; cases h; exact ⟨cells', rfl, hc⟩
  | cons p l ih =>
    intro l' cells r cells' h hl hc
    cases hl with
    | cons hv hs =>
      rename_i i v v' l''
      simp only [fillA] at h
      split at h
      · rename_i off size vl hpl hcl
        cases hb : Nat.beq (lenL vl) size with
        | false => rw [hb] at h; cases h
        | true =>
          rw [hb] at h
          simp only [cond_true] at h
          have hsz := Nat.eq_of_beq_eq_true hb
          rw [lenL_eq] at hsz
          split at h
          · rename_i cells2 hov
            obtain ⟨hle, hc2⟩ := overwrite_some hov
            have hrv := cellsO_rel hcl hv
            have hlen := hrv.length
            have hcl' := hc.length
            have hfit : off + v'.cells.toList.length ≤ cells'.size := by simp at *; omega
            have hrel : VsRel G.I μ cells2 (setRange cells' off v'.cells.toList).toList := by
              have h1 := prel_replace (PRel.whole hc) hrv (by omega) hfit hc2
              have h2 := h1.2
              have h3 : cells2.length = (setRange cells' off v'.cells.toList).size := by
                rw [setRange_size, hc2]; simp at *; omega
              rwa [h3, List.take_of_length_le (by simp)] at h2
            obtain ⟨r', hr, hrr⟩ := ih h hs hrel
            refine ⟨r', ?_, hrr⟩
            simp only [Instr.fill, hp _ _ hpl]
            rw [if_neg]
            · have : (v'.cells.zipIdx.foldl (fun cs (x : Value × Nat) => match x with | (c, j) => cs.setIfInBounds (off + j) c) cells') = setRange cells' off v'.cells.toList := by
                rw [← Array.foldl_toList, Array.toList_zipIdx]
                have := foldl_set off v'.cells.toList 0 cells' (by simpa using hfit)
                simpa using this
              rw [this]
              exact hr
            · simp at *
              omega
          · cases h
      · cases h

theorem fieldsPlaces_run : ∀ {fs : List Field} {l : List (Nat × Nat)}, fieldsPlaces E fs = some l → ∀ w, (fs.mapM (fun f => do pure (f.offset, ← sizeOf f.type) : Field → Sem (Nat × Nat))).run E.P w = .ok l w := by
  intro fs
  induction fs with
  | nil => intro l h w; cases h; rfl
  | cons f fs ih =>
    intro l h w
    simp only [fieldsPlaces] at h
    split at h
    · rename_i s hs
      split at h
      · rename_i l' hl
        cases h
        simp only [List.mapM_cons, Sem.run_bind, run_size hs, Result.andThen_ok, Sem.run_pure, ih hl w]
      · cases h
    · cases h

theorem toList_mapM_run {α β : Type} (f : α → Sem β) (a : Array α) (l : List β) (w : World) (h : (a.toList.mapM f).run E.P w = .ok l w) : (a.mapM f).run E.P w = .ok l.toArray w := by
  rw [Array.mapM_eq_mapM_toList]
  simp [h]

theorem buildA_run {t : Nat} {parts : List (Nat × AVal)} {parts' : Array (Nat × Value)} {v : AVal} (h : buildA E t parts = some v) (hp : PsRel G.I μ parts parts'.toList) (w : World) :
    ∃ v', (Instr.build t parts').run E.P w = .ok v' w ∧ VRel G.I μ v v' := by
  unfold buildA at h
  split at h
  · cases h
  · rename_i z hz
    obtain ⟨z', hzr, hzv, _⟩ := zeroCells_run (G := G) (μ := μ) hz w
    split at h
    · rename_i fs hu
      split at h
      · rename_i l hl
        obtain ⟨r, hr, rfl⟩ := asAgg_some h
        obtain ⟨r', hr', hrr⟩ := fillA_run (place' := (l.toArray[·]?)) (fun i x e => by rw [nth_eq] at e; simpa using e) hr hp hzv
        refine ⟨.agg r', ?_, .agg _ _ hrr⟩
        have hm := toList_mapM_run (E := E) _ fs l w (fieldsPlaces_run hl w)
        simp only [Instr.build, Sem.run_bind, hzr, Result.andThen_ok, run_under hu, hm, hr']
        rfl
      · cases h
    · rename_i n e hu
      split at h
      · rename_i s hs
        obtain ⟨r, hr, rfl⟩ := asAgg_some h
        obtain ⟨r', hr', hrr⟩ := fillA_run (place' := fun i => some (i * s, s)) (fun i x e => e) hr hp hzv
        refine ⟨.agg r', ?_, .agg _ _ hrr⟩
        simp only [Instr.build, Sem.run_bind, hzr, Result.andThen_ok, run_under hu, run_size hs, hr']
        rfl
      · cases h
    · cases h

theorem copies_length (n : Nat) (z : List AVal) : (copies n z).length = n * z.length := by
  induction n with
  | zero => show ([] : List AVal).length = _; simp
  | succ n ih =>
    show (appL z (copies n z)).length = _
    rw [appL_eq, List.length_append, ih, Nat.succ_mul]
    omega

theorem copies_get (z : List AVal) : ∀ (n i : Nat), i < n * z.length → (copies n z)[i]? = z[i % z.length]? := by
  intro n
  induction n with
  | zero => intro i h; simp at h
  | succ n ih =>
    intro i h
    have e : copies (n + 1) z = z ++ copies n z := by
      show appL z (copies n z) = _
      rw [appL_eq]
    rw [e]
    by_cases hi : i < z.length
    · rw [List.getElem?_append_left hi, Nat.mod_eq_of_lt hi]
    · rw [List.getElem?_append_right (by omega), ih (i - z.length) (by rw [Nat.succ_mul] at h; omega)]
      rw [← Nat.mod_eq_sub_mod (by omega)]

/-- rows of zero values -/
theorem zeros_rel {z : List AVal} {zc : Array Value} (h : VsRel G.I μ z zc.toList) (n : Nat) : VsRel G.I μ (copies n z) ((Array.range (n * z.length)).map (zc[· % zc.size]!)).toList := by
  have hl := h.length
  have hs : zc.size = z.length := by simpa using hl.symm
  refine VsRel.of_get (by rw [copies_length]; simp) fun i x y hx hy => ?_
  have hi : i < n * z.length := by
    rcases Nat.lt_or_ge i (n * z.length) with h | h
    · exact h
    · rw [List.getElem?_eq_none (by rw [copies_length]; exact h)] at hx; cases hx
  have hz : 0 < z.length := by
    rcases Nat.eq_zero_or_pos z.length with e | e
    · rw [e] at hi; simp at hi
    · exact e
  rw [copies_get z n i hi] at hx
  obtain ⟨y', hy', hr⟩ := h.get hx
  have : y = y' := by
    have hlt : i % zc.size < zc.size := Nat.mod_lt _ (by omega)
    simp [hi] at hy
    rw [← hy]
    rw [Array.getElem?_toList] at hy'
    obtain ⟨h1, h2⟩ := Array.getElem?_eq_some_iff.1 hy'
    rw [hs, getElem!_pos zc _ h1]
    exact h2
  rw [this]; exact hr

/-- an operation that lays a new block and does nothing else -/
def NewOk (E : Env) (G : Ground) (μ : Map) (w : World) (s : Sem Value) (o : AObj) (nv : NewV) : Prop :=
  ∃ v' o' n, s.run E.P w = .ok v' { w with heap := w.heap.push o' } ∧ ORel G.I μ o n o' ∧ ∀ (μ' : Map) (b : Nat), μ' b = some (w.heap.size, n) → VRel G.I μ' (nv.at b) v'

theorem buildSliceA_run {t len : Nat} {parts : List (Nat × AVal)} {parts' : Array (Nat × Value)} {o : AObj} {nv : NewV} (h : buildSliceA E t len parts = some (o, nv)) (hp : PsRel G.I μ parts parts'.toList) (w : World) :
    NewOk E G μ w (Instr.buildSlice t len parts') o nv := by
  unfold buildSliceA at h
  split at h
  · rename_i e hu
    split at h
    · rename_i s hs
      split at h
      · rename_i z hz
        unfold buildSliceC at h
        cases hb : Nat.ble (Nat.mul len s) 16777216 with
        | false => rw [hb] at h; cases h
        | true =>
          rw [hb] at h
          simp only [cond_true] at h
          split at h
          · rename_i cs hcs
            cases h
            obtain ⟨z', hzr, hzv, hzs⟩ := zeroCells_run (G := G) (μ := μ) hz w
            rw [hs] at hzs
            cases hzs
            have hrow : VsRel G.I μ (copies len z) ((Array.range (len * z.length)).map ((if len * z.length = 0 then (#[] : Array Value) else z'.cells)[· % (if len * z.length = 0 then (#[] : Array Value) else z'.cells).size]!)).toList := by
              by_cases h0 : len * z.length = 0
              · have : copies len z = [] := List.eq_nil_of_length_eq_zero (by rw [copies_length]; exact h0)
                rw [this, h0]
                simp
                exact .nil
              · simp only [h0, if_false]
                exact zeros_rel hzv len
            obtain ⟨r', hr', hrr⟩ := fillA_run (place' := fun i => some (i * z.length, z.length)) (fun i x e => e) hcs hp hrow
            have hle := Nat.le_of_ble_eq_true hb
            have hlen : cs.length = r'.size := by simpa using hrr.length
            have hcl : r'.size = len * z.length := by
              have : ∀ {l : List (Nat × Value)} {c r : Array Value}, Instr.fill (fun i => some (i * z.length, z.length)) c l = some r → r.size = c.size := by
                intro l
                induction l with
                | nil => intro c r h; cases h; rfl
                | cons p l ih =>
                  intro c r h
                  obtain ⟨i, v⟩ := p
                  simp only [Instr.fill] at h
                  split at h
                  · cases h
                  · rw [ih h]
                    have : ∀ (l : List (Value × Nat)) (off : Nat) (c : Array Value), (l.foldl (fun cs x => cs.setIfInBounds (off + x.2) x.1) c).size = c.size := by
                      intro l off
                      induction l with
                      | nil => intro c; rfl
                      | cons x l ih => intro c; simp [ih]
                    rw [← Array.foldl_toList]
                    exact this _ _ _
              rw [this hr']
              simp
            refine ⟨.slice (some ⟨w.heap.size, 0, none⟩) len len, .cells r' e, r'.size, ?_, .cells _ _ _ _ _ (0, 0) rfl (PRel.whole hrr) rfl,
              fun μ' b hb => .slice _ _ _ _ _ _ w.heap.size r'.size 0 len hb (Nat.le_refl _) (Nat.le_refl _) (fun _ => rfl) (.inr ⟨rfl, by omega⟩)⟩
            simp only [Instr.buildSlice, Sem.run_bind, run_under hu, Result.andThen_ok, run_size hs, Sem.run_ite]
            rw [if_neg (by show ¬ (len * z.length > 2 ^ 24); have : len * z.length ≤ 16777216 := hle; omega)]
            by_cases h0 : len * z.length = 0
            · simp only [h0, if_true] at hr' ⊢
              simp only [Sem.run_pure, Result.andThen_ok]
              rw [hr']
              rfl
            · simp only [h0, if_false] at hr' ⊢
              simp only [hzr, Result.andThen_ok, Sem.run_pure]
              rw [hr']
              rfl
          · cases h
      · cases h
    · cases h
  · cases h

end Go.Ab
/- Soundness of single operations, 6: addresses, slices, lengths. -/
namespace Go.Ab

variable {E : Env} {G : Ground} {μ : Map} {H : AHeap} {w : World}

theorem fieldAddrA_run {t i : Nat} {x v : AVal} {x' : Value} (h : fieldAddrA E t x i = some v) (hx : VRel G.I μ x x') (w : World) :
    ∃ v', (Instr.fieldAt t x' i).run E.P w = .ok v' w ∧ VRel G.I μ v v' := by
  unfold fieldAddrA at h
  split at h
  · rename_i b o
    split at h
    · rename_i fs hu
      split at h
      · rename_i f hf
        split at h
        · rename_i n hn
          cases h
          cases hx with
          | ptr _ _ c m hm =>
            refine ⟨.pointer (some ⟨c, o + f.offset, none⟩), ?_, .ptr _ _ _ _ hm⟩
            simp [Instr.fieldAt, run_under hu, hf, Instr.sureAddr, fieldPlace, run_size hn, add_plain]
        · cases h
      · cases h
    · cases h
  · cases h

theorem fieldA_run {t i : Nat} {x v : AVal} {x' : Value} (h : fieldA E t x i = some v) (hx : VRel G.I μ x x') (w : World) :
    ∃ v', (Instr.field t x' i).run E.P w = .ok v' w ∧ VRel G.I μ v v' := by
  unfold fieldA at h
  split at h
  · rename_i cs
    split at h
    · rename_i fs hu
      split at h
      · rename_i f hf
        cases hx with
        | agg _ cs' hc =>
          obtain ⟨v', hr, hv⟩ := partA_run h (PRel.whole hc) w
          refine ⟨v', ?_, hv⟩
          simp [Instr.field, run_under hu, hf, asAgg, hr]
      · cases h
    · cases h
  · cases h

theorem ptrAt_some {b o s n : Nat} {i : Int} {v : AVal} (h : ptrAt b o s n i = some v) : 0 ≤ i ∧ i < n ∧ v = .ptr b (o + i.toNat * s) := by
  unfold ptrAt at h
  split at h
  · rename_i m
    cases hb : Nat.ble (Nat.succ m) n with
    | false => rw [hb] at h; cases h
    | true =>
      rw [hb] at h
      cases h
      have := Nat.le_of_ble_eq_true hb
      refine ⟨by simp, by simp; omega, rfl⟩
  · cases h

theorem indexAddrA_run {t : Nat} {x i v : AVal} {x' i' : Value} (h : indexAddrA E t x i = some v) (hx : VRel G.I μ x x') (hi : VRel G.I μ i i') (w : World) :
    ∃ v', (Instr.indexAt t x' i').run E.P w = .ok v' w ∧ VRel G.I μ v v' := by
  unfold indexAddrA at h
  split at h
  · rename_i b o k i
    split at h
    · rename_i n e hu
      split at h
      · rename_i s hs
        obtain ⟨h1, h2, rfl⟩ := ptrAt_some h
        cases hi
        cases hx with
        | ptr _ _ c m hm =>
          refine ⟨.pointer (some ⟨c, o + i.toNat * s, none⟩), ?_, .ptr _ _ _ _ hm⟩
          simp only [Instr.indexAt, asIntOf, Sem.run_bind, Sem.run_pure, Result.andThen_ok, run_under hu, Instr.sureAddr, Sem.run_ite, h1, h2, and_self, if_true, run_size hs, add_plain]
      · cases h
    · cases h
  · rename_i b o n cap exact esz k i
    split at h
    · rename_i e hu
      split at h
      · rename_i s hs
        obtain ⟨h1, h2, rfl⟩ := ptrAt_some h
        cases hi
        cases hx with
        | slice _ _ _ _ _ _ c m off cap' hm hl hc he hb =>
          have hoff : off = o := by rcases hb with hb | hb <;> omega
          subst hoff
          refine ⟨.pointer (some ⟨c, off + i.toNat * s, none⟩), ?_, .ptr _ _ _ _ hm⟩
          simp only [Instr.indexAt, asIntOf, Sem.run_bind, Sem.run_pure, Result.andThen_ok, run_under hu, Sem.run_ite, h1, h2, and_self, if_true, run_size hs, add_plain]
      · cases h
    · cases h
  · cases h

theorem bytesOf_get {s : ByteArray} {i c : Nat} (h : (bytesOf s)[i]? = some c) : ∃ b : UInt8, s[i]? = some b ∧ b.toNat = c := by
  unfold bytesOf at h
  rw [mapL_eq, List.getElem?_map] at h
  cases hb : s.data.toList[i]? with
  | none => rw [hb] at h; cases h
  | some b =>
    rw [hb] at h
    refine ⟨b, ?_, by simpa using h⟩
    rw [Array.getElem?_toList] at hb
    obtain ⟨h1, h2⟩ := Array.getElem?_eq_some_iff.1 hb
    have h1' : i < s.size := h1
    rw [getElem?_pos s i h1']
    exact congrArg some h2

theorem indexA_run {t : Nat} {x i v : AVal} {x' i' : Value} (h : indexA E t x i = some v) (hx : VRel G.I μ x x') (hi : VRel G.I μ i i') (w : World) :
    ∃ v', (Instr.index t x' i').run E.P w = .ok v' w ∧ VRel G.I μ v v' := by
  unfold indexA at h
  split at h
  · rename_i cs k i
    split at h
    · rename_i n e hu
      split at h
      · rename_i s hs
        cases hb : Nat.ble (Nat.succ i) n with
        | false => rw [hb] at h; cases h
        | true =>
          rw [hb] at h
          have := Nat.le_of_ble_eq_true hb
          cases hi
          cases hx with
          | agg _ cs' hc =>
            obtain ⟨v', hr, hv⟩ := partA_run h (PRel.whole hc) w
            refine ⟨v', ?_, hv⟩
            have h1 : (0 : Int) ≤ Int.ofNat i ∧ Int.ofNat i < (n : Int) := ⟨by simp, by simp; omega⟩
            simp only [Instr.index, asIntOf, Sem.run_bind, Sem.run_pure, Result.andThen_ok, run_under hu, Sem.run_ite, h1, and_self, if_true, run_size hs]
            exact hr
      · cases h
    · cases h
  · rename_i l k i
    split at h
    · rename_i hu
      split at h
      · rename_i c hc
        cases h
        cases hi
        cases hx with
        | str _ s hs =>
          simp only [Interp.den] at hs
          subst hs
          rw [nth_eq] at hc
          obtain ⟨b, hb, rfl⟩ := bytesOf_get hc
          refine ⟨.int .u8 b.toNat, ?_, .int _ _⟩
          have h1 : (0 : Int) ≤ Int.ofNat i := by simp
          simp only [Instr.index, asIntOf, Sem.run_bind, Sem.run_pure, Result.andThen_ok, run_under hu, h1, if_true]
          rw [show (Int.ofNat i).toNat = i from rfl, hb]
          rfl
      · cases h
    · cases h
  · cases h

/-! ### slice expressions -/

inductive BRel (I : Interp) (μ : Map) : Option AVal → Option Value → Prop where
  | none : BRel I μ none none
  | some {v : AVal} {v' : Value} (h : VRel I μ v v') : BRel I μ (some v) (some v')

theorem boundA_int {x : AVal} {d m n : Nat} (h : boundA (some x) d m = some n) : ∃ k, x = .int k (.ofNat n) ∧ n ≤ m := by
  unfold boundA at h
  split at h
  · rename_i e; cases e
  · rename_i k i e
    cases hb : Nat.ble i m with
    | false => rw [hb] at h; cases h
    | true =>
      rw [hb] at h
      cases h
      exact ⟨k, by cases e; rfl, Nat.le_of_ble_eq_true hb⟩
  · cases h

theorem sliceBound_run {k : IntKind} {n m : Nat} (h : n ≤ m) (c : BoundsCode) (w : World) : (Instr.sliceBound (.int k (.ofNat n)) m c).run E.P w = .ok n w := by
  have h1 : (0 : Int) ≤ Int.ofNat n ∧ Int.ofNat n ≤ (m : Int) := ⟨by simp, by simp; omega⟩
  simp only [Instr.sliceBound, asIntOf, Sem.run_bind, Sem.run_pure, Result.andThen_ok, Sem.run_ite, h1, and_self, if_true]
  rfl

theorem slicePair_some {lo hi : Option AVal} {len most l h : Nat} (e : slicePair lo hi len most = some (l, h)) : boundA hi len most = some h ∧ boundA lo 0 h = some l := by
  unfold slicePair at e
  split at e
  · rename_i h' hh
    split at e
    · rename_i l' hl; cases e; exact ⟨hh, hl⟩
    · cases e
  · cases e

/-- the two bounds, where no third is written -/
theorem bounds2_run {lo hi : Option AVal} {lo' hi' : Option Value} (rl : BRel G.I μ lo lo') (rh : BRel G.I μ hi hi') {isSlice : Bool} {len most most' l h : Nat} (hm : most ≤ most')
    (e : slicePair lo hi len most = some (l, h)) (w : World) : (Instr.sliceBounds isSlice len most' lo' hi' none).run E.P w = .ok (l, h, most') w ∧ l ≤ h ∧ (hi = none → h = len) ∧ (hi ≠ none → h ≤ most) := by
  obtain ⟨eh, el⟩ := slicePair_some e
  have key : (hi = none → h = len) ∧ (hi ≠ none → h ≤ most) := by
    cases hi with
    | none => simp only [boundA] at eh; cases eh; exact ⟨fun _ => rfl, fun c => absurd rfl c⟩
    | some x => obtain ⟨k, _, hle⟩ := boundA_int eh; exact ⟨fun c => (by cases c), fun _ => hle⟩
  have kl : l ≤ h := by
    cases lo with
    | none => simp only [boundA] at el; cases el; omega
    | some x => obtain ⟨k, _, hle⟩ := boundA_int el; exact hle
  refine ⟨?_, kl, key.1, key.2⟩
  cases rh with
  | none =>
    simp only [boundA] at eh; cases eh
    cases rl with
    | none => simp only [boundA] at el; cases el; rfl
    | some hv =>
      obtain ⟨k, rfl, hle⟩ := boundA_int el
      cases hv
      simp only [Instr.sliceBounds, Sem.run_bind, Sem.run_pure, Result.andThen_ok, sliceBound_run hle]
  | some hv =>
    obtain ⟨k, rfl, hle⟩ := boundA_int eh
    cases hv
    cases rl with
    | none =>
      simp only [boundA] at el; cases el
      simp only [Instr.sliceBounds, Sem.run_bind, Sem.run_pure, Result.andThen_ok, sliceBound_run (Nat.le_trans hle hm)]
    | some hv =>
      obtain ⟨k', rfl, hle'⟩ := boundA_int el
      cases hv
      simp only [Instr.sliceBounds, Sem.run_bind, Sem.run_pure, Result.andThen_ok, sliceBound_run (Nat.le_trans hle hm), sliceBound_run hle']

/-- three bounds -/
theorem bounds3_run {lo : Option AVal} {hi mx : AVal} {lo' : Option Value} {hi' mx' : Value} (rl : BRel G.I μ lo lo') (rh : VRel G.I μ hi hi') (rm : VRel G.I μ mx mx') {isSlice : Bool} {len cap cap' m l h : Nat} (hc : cap ≤ cap')
    (em : boundA (some mx) 0 cap = some m) (e : slicePair lo (some hi) 0 m = some (l, h)) (w : World) :
    (Instr.sliceBounds isSlice len cap' lo' (some hi') (some mx')).run E.P w = .ok (l, h, m) w ∧ l ≤ h ∧ h ≤ m ∧ m ≤ cap := by
  obtain ⟨km, rfl, hm⟩ := boundA_int em
  obtain ⟨eh, el⟩ := slicePair_some e
  obtain ⟨kh, rfl, hh⟩ := boundA_int eh
  cases rm
  cases rh
  cases rl with
  | none =>
    simp only [boundA] at el; cases el
    refine ⟨?_, by omega, hh, hm⟩
    simp only [Instr.sliceBounds, Sem.run_bind, Sem.run_pure, Result.andThen_ok, sliceBound_run (Nat.le_trans hm hc), sliceBound_run hh]
  | some hv =>
    obtain ⟨k', rfl, hle'⟩ := boundA_int el
    cases hv
    refine ⟨?_, hle', hh, hm⟩
    simp only [Instr.sliceBounds, Sem.run_bind, Sem.run_pure, Result.andThen_ok, sliceBound_run (Nat.le_trans hm hc), sliceBound_run hh, sliceBound_run hle']

/-- the slice that an expression makes -/
theorem slice_rel {b o cap : Nat} {exact : Bool} {s c n off cap' l h m : Nat} (hm : μ b = some (c, n)) (hl : l ≤ h) (hh : h ≤ m) (hcm : cap - l ≤ m - l) (he : exact = true → m - l = cap - l)
    (hmc : m ≤ cap') (hb : cap' = 0 ∨ (off = o ∧ o + cap' * s ≤ n)) :
    VRel G.I μ (.slice b (o + l * s) (h - l) (cap - l) exact s) (.slice (if m = l then some ⟨c, off, none⟩ else (some ⟨c, off, none⟩ : Option Addr).map (·.add (l * s))) (h - l) (m - l)) := by
  by_cases e : m = l
  · rw [if_pos e]
    exact .slice _ _ _ _ _ _ c n off _ hm (by omega) hcm he (.inl (by omega))
  · rw [if_neg e]
    simp only [Option.map_some, add_plain]
    refine .slice _ _ _ _ _ _ c n _ _ hm (by omega) hcm he ?_
    rcases hb with hb | ⟨rfl, hb⟩
    · left; omega
    · right
      refine ⟨rfl, ?_⟩
      have : l * s + (m - l) * s = m * s := by rw [← Nat.add_mul]; congr 1; omega
      have : m * s ≤ cap' * s := Nat.mul_le_mul_right s hmc
      omega

theorem extract_bytes (s : ByteArray) (l h : Nat) : bytesOf (s.extract l h) = ((bytesOf s).drop l).take (h - l) := by
  simp only [bytesOf, mapL_eq, ByteArray.data_extract, Array.toList_extract, List.extract_eq_take_drop, List.map_take, List.map_drop]

theorem sliceA_run (hw : WRel G μ H w) {t : Nat} {x v : AVal} {x' : Value} {lo hi mx : Option AVal} {lo' hi' mx' : Option Value} (h : sliceA E t x lo hi mx H = some v) (hx : VRel G.I μ x x')
    (rl : BRel G.I μ lo lo') (rh : BRel G.I μ hi hi') (rm : BRel G.I μ mx mx') : ∃ v', (Instr.sliceAt t x' lo' hi' mx').run E.P w = .ok v' w ∧ VRel G.I μ v v' := by
  unfold sliceA at h
  split at h
  · rename_i l
    split at h
    · rename_i hu
      cases rm
      cases hx with
      | str _ s hs =>
        simp only [Interp.den] at hs
        subst hs
        unfold sliceStr at h
        split at h
        · rename_i hh ehh
          split at h
          · rename_i ll ell
            split at h
            · rename_i l' hl'
              cases h
              have hp : slicePair lo hi (lenL (bytesOf s)) (lenL (bytesOf s)) = some (ll, hh) := by simp only [slicePair, ehh, ell]
              rw [lenL_eq, bytesOf_length] at hp
              obtain ⟨hr, h1, h2, h3⟩ := bounds2_run (E := E) (isSlice := false) rl rh (Nat.le_refl _) hp w
              rw [dropN_eq] at hl'
              obtain ⟨_, rfl⟩ := takeN_some hl'
              refine ⟨.string (s.extract ll hh), ?_, .str _ _ ?_⟩
              · simp only [Instr.sliceAt, Sem.run_bind, run_under hu, Result.andThen_ok, Instr.slice, Option.isSome_none, Bool.false_eq_true, if_false, hr, Sem.run_pure]
              · simp only [Interp.den, extract_bytes]
                rfl
            · cases h
          · cases h
        · cases h
    · cases h
  · split at h
    · rename_i e hu
      split at h
      · rename_i s hs
        cases hx
        unfold sliceNil at h
        split at h
        · cases rm
          split at h
          · rename_i p hp
            obtain ⟨l, hh⟩ := p
            cases h
            obtain ⟨hr, h1, h2, h3⟩ := bounds2_run (E := E) (isSlice := true) rl rh (Nat.le_refl 0) hp w
            have e1 : hh = 0 := by cases hi with | none => exact h2 rfl | some x => have := h3 (by simp); omega
            have e2 : l = 0 := by omega
            subst e1 e2
            refine ⟨.slice none 0 0, ?_, .nilslice⟩
            simp only [Instr.sliceAt, Sem.run_bind, run_under hu, Result.andThen_ok, Instr.slice, hr, run_size hs, Sem.run_pure]
            rfl
          · cases h
        · cases rm with
          | some hmv =>
            split at h
            · rename_i m hm
              split at h
              · rename_i hh
                split at h
                · rename_i p hp
                  obtain ⟨l, hh'⟩ := p
                  cases h
                  cases rh with
                  | some hhv =>
                    obtain ⟨hr, h1, h2, h3⟩ := bounds3_run (E := E) (isSlice := true) (len := 0) rl hhv hmv (Nat.le_refl 0) hm hp w
                    have e1 : m = 0 := by omega
                    have e2 : hh' = 0 := by omega
                    have e3 : l = 0 := by omega
                    subst e1 e2 e3
                    refine ⟨.slice none 0 0, ?_, .nilslice⟩
                    simp only [Instr.sliceAt, Sem.run_bind, run_under hu, Result.andThen_ok, Instr.slice, hr, run_size hs, Sem.run_pure]
                    rfl
                · cases h
              · cases h
            · cases h
      · cases h
    · cases h
  · rename_i b o len cap exact s
    split at h
    · rename_i e hu
      split at h
      · rename_i s' hs
        cases hbs : Nat.beq s s' with
        | false => rw [hbs] at h; cases h
        | true =>
          rw [hbs] at h
          have := Nat.eq_of_beq_eq_true hbs
          subst this
          cases hx with
          | slice _ _ _ _ _ _ c n off cap' hm hl hc he hb =>
            unfold sliceSl at h
            simp only [cond_true] at h
            split at h
            · cases rm
              split at h
              · rename_i l hh hp
                cases h
                obtain ⟨hr, h1, h2, h3⟩ := bounds2_run (E := E) (isSlice := true) rl rh hc hp w
                have hhc : hh ≤ cap' := by cases hi with | none => rw [h2 rfl]; exact hl | some x => have := h3 (by simp); omega
                refine ⟨_, ?_, slice_rel (m := cap') hm h1 hhc (by omega) (fun ee => by rw [he ee]) (Nat.le_refl _) hb⟩
                simp only [Instr.sliceAt, Sem.run_bind, run_under hu, Result.andThen_ok, Instr.slice, hr, run_size hs, Sem.run_pure]
              · cases h
            · cases rm with
              | some hmv =>
                split at h
                · rename_i m hmm
                  split at h
                  · rename_i hh
                    split at h
                    · rename_i l hh' hp
                      cases h
                      cases rh with
                      | some hhv =>
                        obtain ⟨hr, h1, h2, h3⟩ := bounds3_run (E := E) (isSlice := true) (len := len) rl hhv hmv hc hmm hp w
                        refine ⟨_, ?_, slice_rel (cap := m) (m := m) (cap' := cap') (exact := true) hm h1 h2 (Nat.le_refl _) (fun _ => rfl) (by omega) hb⟩
                        simp only [Instr.sliceAt, Sem.run_bind, run_under hu, Result.andThen_ok, Instr.slice, hr, run_size hs, Sem.run_pure]
                    · cases h
                  · cases h
                · cases h
      · cases h
    · cases h
  · rename_i b o
    split at h
    · rename_i n e hu
      cases rm
      split at h
      · rename_i s hs
        unfold sliceArr at h
        cases hk : knownTo H b (Nat.add o (Nat.mul n s)) with
        | false => rw [hk] at h; cases h
        | true =>
          rw [hk] at h
          simp only [cond_true] at h
          split at h
          · rename_i l hh hp
            cases h
            cases hx with
            | ptr _ _ c m hm =>
              obtain ⟨hr, h1, h2, h3⟩ := bounds2_run (E := E) (isSlice := false) rl rh (Nat.le_refl _) hp w
              have hhn : hh ≤ n := by cases hi with | none => rw [h2 rfl]; exact Nat.le_refl _ | some x => exact h3 (by simp)
              have hfit : o + n * s ≤ m := by
                unfold knownTo at hk
                split at hk
                · rename_i cs e' fz hg
                  obtain ⟨c', fr, _, hn, hp', _⟩ := block_of_cells hw hg hm
                  have := Nat.le_of_ble_eq_true hk
                  rw [lenL_eq] at this
                  have h5 := hp'.1
                  have : o + n * s ≤ cs.length := this
                  omega
                · cases hk
              refine ⟨_, ?_, slice_rel (cap := n) (m := n) (cap' := n) (exact := true) hm h1 hhn (Nat.le_refl _) (fun _ => rfl) (Nat.le_refl _) (.inr ⟨rfl, hfit⟩)⟩
              simp only [Instr.sliceAt, Sem.run_bind, run_under hu, Result.andThen_ok, Instr.sureAddr, hr, run_size hs, Sem.run_pure]
              by_cases e : n = l
              · simp [e]
              · simp [e]
          · cases h
      · cases h
    · cases h
  · cases h

end Go.Ab
/- Soundness of single operations, 7: lengths, makes, appends, copies. -/
namespace Go.Ab

variable {E : Env} {G : Ground} {μ : Map} {H : AHeap} {w : World}

theorem EsRel.length {es : List (AVal × AVal × Nat)} {es' : List MapEntry} (h : EsRel G.I μ es es') : es.length = es'.length := by
  induction h with
  | nil => rfl
  | cons _ _ _ _ ih => simp [ih]

theorem map_of_get (hw : WRel G μ H w) {r : Nat} {es : List (AVal × AVal × Nat)} {clock : Nat} (hb : H.get r = some (.map es clock)) {c n : Nat} (hm : μ r = some (c, n)) :
    ∃ es' : Array MapEntry, w.heap[c]? = some (.map es' clock) ∧ EsRel G.I μ es es'.toList := by
  obtain ⟨_, c₁, n₁, o', hm', hc, ho, _⟩ := hw.live r _ hb
  rw [hm] at hm'
  cases hm'
  cases ho with
  | map _ _ _ es' he => exact ⟨es', hc, he⟩

theorem run_getObj_map {es : Array MapEntry} {clock c : Nat} (h : w.heap[c]? = some (.map es clock)) : (getObj c).run E.P w = .ok (.map es clock) w := by
  simp [getObj, Sem.run, h]

theorem lenA_run (hw : WRel G μ H w) {t : Nat} {x v : AVal} {x' : Value} {ts : Array Nat} {ty : Nat} (h : lenA E t x H = some v) (ht : ts[0]? = some t) (hx : VRel G.I μ x x') :
    ∃ v', (Builtin.len_ ts ty #[x']).run E.P w = .ok v' w ∧ VRel G.I μ v v' := by
  unfold lenA at h
  split at h
  · rename_i hu
    split at h
    · cases h
      cases hx with
      | str _ s hs =>
        simp only [Interp.den] at hs
        subst hs
        refine ⟨goInt s.size, by simp [Builtin.len_, ht, run_under hu], ?_⟩
        rw [lenL_eq, bytesOf_length]; exact .int _ _
    · cases h
      cases hx with
      | str _ s hs =>
        refine ⟨goInt s.size, by simp [Builtin.len_, ht, run_under hu], ?_⟩
        rw [← bytesOf_length, ← hs]; exact .isym _
    · cases h
  · rename_i n e hu
    cases h
    exact ⟨goInt n, by simp [Builtin.len_, ht, run_under hu], .int _ _⟩
  · rename_i e hu
    split at h
    · cases h; cases hx
      exact ⟨goInt 0, by simp [Builtin.len_, ht, run_under hu], .int _ _⟩
    · cases h
      cases hx
      rename_i b o n cap exact s c m off cap' hm hl hc he hb
      exact ⟨goInt n, by simp [Builtin.len_, ht, run_under hu], .int _ _⟩
    · cases h
  · rename_i k e hu
    split at h
    · cases h; cases hx
      exact ⟨goInt 0, by simp [Builtin.len_, ht, run_under hu], .int _ _⟩
    · split at h
      · rename_i es clock hg
        cases h
        cases hx with
        | map _ c n hm =>
          obtain ⟨es', hc, he⟩ := map_of_get hw hg hm
          refine ⟨goInt es'.size, by simp [Builtin.len_, ht, run_under hu, run_getObj_map hc], ?_⟩
          rw [lenL_eq, he.length]
          have : es'.toList.length = es'.size := by simp
          rw [this]; exact .int _ _
      · cases h
    · cases h
  · cases h

theorem capA_run {t : Nat} {x v : AVal} {x' : Value} {ts : Array Nat} {ty : Nat} (h : capA E t x = some v) (ht : ts[0]? = some t) (hx : VRel G.I μ x x') (w : World) :
    ∃ v', (Builtin.cap_ ts ty #[x']).run E.P w = .ok v' w ∧ VRel G.I μ v v' := by
  unfold capA at h
  split at h
  · rename_i e hu
    split at h
    · cases h; cases hx
      exact ⟨goInt 0, by simp [Builtin.cap_, ht, run_under hu], .int _ _⟩
    · cases h
      cases hx with
      | slice _ _ _ _ _ _ c n off cap' hm hl hc he hb =>
        exact ⟨goInt cap', by simp [Builtin.cap_, ht, run_under hu], by rw [he rfl]; exact .int _ _⟩
    · cases h
  · cases h

theorem minmax_run {isMax : Bool} : ∀ {l : List AVal} {x v : AVal} {x' : Value} {l' : List Value}, minmaxA isMax x l = some v → VRel G.I μ x x' → VsRel G.I μ l l' → ∀ w,
    ∃ v', (l'.foldlM (if isMax then Builtin.max2 else Builtin.min2) x').run E.P w = .ok v' w ∧ VRel G.I μ v v' := by
  intro l
  induction l with
  | nil => intro x v x' l' h hx hl w; cases hl; simp only [minmaxA] at h; cases h; exact ⟨x', rfl, hx⟩
  | cons y l ih =>
    intro x v x' l' h hx hl w
    cases hl with
    | cons hy hs =>
      unfold minmaxA at h
      split at h
      · rename_i e; cases e
      · rename_i k x kk y' rest e
        cases e
        cases hx; cases hy
        obtain ⟨v', hr, hv⟩ := ih h (.int _ _) hs w
        refine ⟨v', ?_, hv⟩
        rw [List.foldlM_cons, Sem.run_bind]
        cases isMax with
        | true =>
          simp only [if_true] at hr ⊢
          have : (Builtin.max2 (.int k x) (.int kk y')).run E.P w = .ok (.int k (bif true then (bif intLt x y' then y' else x) else (bif intLt y' x then y' else x))) w := by
            simp only [Builtin.max2, cond_true, intLt_eq, Sem.run_pure]
            congr 2
            by_cases hc : x < y' <;> simp [hc, GT.gt]
          rw [this]
          exact hr
        | false =>
          simp only [if_false, Bool.false_eq_true] at hr ⊢
          have : (Builtin.min2 (.int k x) (.int kk y')).run E.P w = .ok (.int k (bif false then (bif intLt x y' then y' else x) else (bif intLt y' x then y' else x))) w := by
            simp only [Builtin.min2, cond_false, intLt_eq, Sem.run_pure]
            congr 2
            by_cases hc : y' < x <;> simp [hc]
          rw [this]
          exact hr
      · cases h

theorem makeSliceA_run {t : Nat} {l c : AVal} {l' c' : Value} {o : AObj} {nv : NewV} (h : makeSliceA E t l c = some (o, nv)) (hl : VRel G.I μ l l') (hc : VRel G.I μ c c') (w : World) :
    NewOk E G μ w (Instr.makeSlice t l' c') o nv := by
  unfold makeSliceA at h
  split at h
  · rename_i l c
    split at h
    · rename_i e hu
      split at h
      · rename_i s bs z hs hbs hz
        cases hl; cases hc
        unfold makeSliceC at h
        cases h1 : Nat.ble l c with
        | false => rw [h1] at h; cases h
        | true =>
        cases h2 : Nat.ble c 1000000000 with
        | false => rw [h1, h2] at h; cases h
        | true =>
        cases h3 : Nat.ble (Nat.mul bs c) 281474976710656 with
        | false => rw [h1, h2, h3] at h; cases h
        | true =>
        rw [h1, h2, h3] at h
        cases h
        have g1 := Nat.le_of_ble_eq_true h1
        have g2 := Nat.le_of_ble_eq_true h2
        have g3 : bs * c ≤ 281474976710656 := Nat.le_of_ble_eq_true h3
        obtain ⟨z', hzr, hzv, hzs⟩ := zeroCells_run (G := G) (μ := μ) hz w
        rw [hs] at hzs
        cases hzs
        obtain ⟨i, hi, hib⟩ := bytesT_info hbs
        have wl : IntKind.i64.wrap (Int.ofNat l) = Int.ofNat l := by rw [← wrapI_eq]; simp only [wrapI]; rw [Nat.ble_eq_true_of_le (by omega)]; rfl
        have wc : IntKind.i64.wrap (Int.ofNat c) = Int.ofNat c := by rw [← wrapI_eq]; simp only [wrapI]; rw [Nat.ble_eq_true_of_le (by omega)]; rfl
        have hrow : VsRel G.I μ (copies c z) ((Array.range (c * z.length)).map ((if c * z.length = 0 then (#[] : Array Value) else z'.cells)[· % (if c * z.length = 0 then (#[] : Array Value) else z'.cells).size]!)).toList := by
          by_cases h0 : c * z.length = 0
          · have : copies c z = [] := List.eq_nil_of_length_eq_zero (by rw [copies_length]; exact h0)
            rw [this, h0]
            simp
            exact .nil
          · simp only [h0, if_false]
            exact zeros_rel hzv c
        refine ⟨.slice (some ⟨w.heap.size, 0, none⟩) l c, .cells ((Array.range (c * z.length)).map ((if c * z.length = 0 then (#[] : Array Value) else z'.cells)[· % (if c * z.length = 0 then (#[] : Array Value) else z'.cells).size]!)) e, c * z.length, ?_,
          .cells _ _ _ _ _ (0, 0) (by simp) (PRel.whole hrow) rfl, fun μ' b hb => .slice _ _ _ _ _ _ w.heap.size (c * z.length) 0 c hb g1 (Nat.le_refl _) (fun _ => rfl) (.inr ⟨rfl, by omega⟩)⟩
        have ht1 : (decide ((Int.ofNat c) < 0) || decide ((i.bytes : Int) * Int.ofNat c > 2 ^ 48)) = false := by
          rw [hib]
          have g4 : ((bs * c : Nat) : Int) ≤ ((281474976710656 : Nat) : Int) := Int.ofNat_le.2 g3
          rw [Int.natCast_mul] at g4
          have g5 : ¬ ((bs : Int) * Int.ofNat c > 2 ^ 48) := Int.not_lt.2 (Int.le_trans g4 (by decide))
          rw [decide_eq_false g5, decide_eq_false (by simp)]
          rfl
        have ht2 : (decide ((Int.ofNat l) < 0) : Bool) = false := by simp
        have ht3 : (decide ((Int.ofNat l) > Int.ofNat c) : Bool) = false := by simp; omega
        have hto : (Int.ofNat c).toNat = c := rfl
        have hto' : (Int.ofNat l).toNat = l := rfl
        simp only [Instr.makeSlice, Sem.run_bind, run_under hu, Result.andThen_ok, asInt, asIntOf, Sem.run_pure, run_info hi, wl, wc, ht1, ht2, ht3, Bool.false_or, Bool.false_eq_true, if_false, run_askRoom, run_size hs, hto, hto', Bool.or_false]
        by_cases h0 : c * z.length = 0
        · simp only [h0, if_true]
          rfl
        · simp only [h0, if_false, Sem.run_bind, hzr, Result.andThen_ok, Sem.run_pure]
          rfl
      · cases h
    · cases h
  · cases h

end Go.Ab
