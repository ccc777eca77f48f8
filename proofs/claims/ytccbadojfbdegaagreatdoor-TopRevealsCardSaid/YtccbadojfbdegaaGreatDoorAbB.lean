/- The evaluator and the model: the relations of values and memories; the memory steps. -/
import Derived.RangeFuncLeaves
import Derived.RecoverIn
import Derived.OrdersIn
import Derived.Laws.StructEq
import Derived.Test.YtccbadojfbdegaaGreatDoorAbA
/- Lemmas on the evaluator's tries and rows. -/
namespace Go.Ab

namespace Tr
variable {α : Type}

theorem get_nil (k : Nat) : (Tr.nil : Tr α).get k = none := rfl

theorem get_node (v : Option α) (l r : Tr α) (k : Nat) :
    (Tr.node v l r).get k = if k = 0 then v else if k % 2 = 1 then l.get (k / 2) else r.get (k / 2 - 1) := by
  show @Bool.rec (fun _ => Option α) (@Bool.rec (fun _ => Option α) (r.get (Nat.pred (Nat.div k 2))) (l.get (Nat.div k 2)) (Nat.beq (Nat.mod k 2) 1)) v (Nat.beq k 0) = _
  by_cases h : k = 0
  · subst h; rfl
  · have h0 : Nat.beq k 0 = false := by rw [← Bool.not_eq_true, Nat.beq_eq]; exact h
    rw [h0, if_neg h]
    by_cases h1 : k % 2 = 1
    · have : Nat.beq (Nat.mod k 2) 1 = true := by rw [Nat.beq_eq]; exact h1
      rw [this, if_pos h1]; rfl
    · have : Nat.beq (Nat.mod k 2) 1 = false := by rw [← Bool.not_eq_true, Nat.beq_eq]; exact h1
      rw [this, if_neg h1]; rfl

theorem set_nil (x : Option α) (n k : Nat) :
    Tr.set x (n + 1) .nil k = if k = 0 then .node x .nil .nil else if k % 2 = 1 then .node none (Tr.set x n .nil (k / 2)) .nil else .node none .nil (Tr.set x n .nil (k / 2 - 1)) := by
  show @Bool.rec (fun _ => Tr α) (@Bool.rec (fun _ => Tr α) (Tr.node none .nil (Tr.set x n .nil (Nat.pred (Nat.div k 2)))) (Tr.node none (Tr.set x n .nil (Nat.div k 2)) .nil) (Nat.beq (Nat.mod k 2) 1)) (Tr.node x .nil .nil) (Nat.beq k 0) = _
  by_cases h : k = 0
  · subst h; rfl
  · have h0 : Nat.beq k 0 = false := by rw [← Bool.not_eq_true, Nat.beq_eq]; exact h
    rw [h0, if_neg h]
    by_cases h1 : k % 2 = 1
    · have : Nat.beq (Nat.mod k 2) 1 = true := by rw [Nat.beq_eq]; exact h1
      rw [this, if_pos h1]; rfl
    · have : Nat.beq (Nat.mod k 2) 1 = false := by rw [← Bool.not_eq_true, Nat.beq_eq]; exact h1
      rw [this, if_neg h1]; rfl

theorem set_node (x : Option α) (n k : Nat) (v : Option α) (l r : Tr α) :
    Tr.set x (n + 1) (.node v l r) k = if k = 0 then .node x l r else if k % 2 = 1 then .node v (Tr.set x n l (k / 2)) r else .node v l (Tr.set x n r (k / 2 - 1)) := by
  show @Bool.rec (fun _ => Tr α) (@Bool.rec (fun _ => Tr α) (Tr.node v l (Tr.set x n r (Nat.pred (Nat.div k 2)))) (Tr.node v (Tr.set x n l (Nat.div k 2)) r) (Nat.beq (Nat.mod k 2) 1)) (Tr.node x l r) (Nat.beq k 0) = _
  by_cases h : k = 0
  · subst h; rfl
  · have h0 : Nat.beq k 0 = false := by rw [← Bool.not_eq_true, Nat.beq_eq]; exact h
    rw [h0, if_neg h]
    by_cases h1 : k % 2 = 1
    · have : Nat.beq (Nat.mod k 2) 1 = true := by rw [Nat.beq_eq]; exact h1
      rw [this, if_pos h1]; rfl
    · have : Nat.beq (Nat.mod k 2) 1 = false := by rw [← Bool.not_eq_true, Nat.beq_eq]; exact h1
      rw [this, if_neg h1]; rfl

theorem get_set_aux (x : Option α) : ∀ (n : Nat) (t : Tr α) (k j : Nat), k < n → (Tr.set x n t k).get j = if j = k then x else t.get j := by
  intro n
  induction n with
  | zero => intro t k j h; omega
  | succ n ih =>
    intro t k j hk
    have split (a b : Tr α) (v : Option α) (ha : k % 2 = 1 → k ≠ 0 → ∀ j', (Tr.set x n a (k / 2)).get j' = if j' = k / 2 then x else a.get j')
        (hb : k % 2 ≠ 1 → k ≠ 0 → ∀ j', (Tr.set x n b (k / 2 - 1)).get j' = if j' = k / 2 - 1 then x else b.get j') :
        (if k = 0 then Tr.node x a b else if k % 2 = 1 then Tr.node v (Tr.set x n a (k / 2)) b else Tr.node v a (Tr.set x n b (k / 2 - 1))).get j = if j = k then x else (Tr.node v a b).get j := by
      by_cases h0 : k = 0
      · subst h0
        rw [if_pos rfl, get_node, get_node]
        by_cases hj : j = 0 <;> simp [hj]
      · rw [if_neg h0]
        by_cases h1 : k % 2 = 1
        · rw [if_pos h1, get_node, get_node, ha h1 h0]
          by_cases hj : j = 0
          · rw [if_pos hj, if_neg (by omega), if_pos hj]
          · rw [if_neg hj, if_neg hj]
            by_cases hj1 : j % 2 = 1
            · rw [if_pos hj1, if_pos hj1]
              by_cases e : j = k
              · rw [if_pos e, if_pos (by omega)]
              · rw [if_neg e, if_neg (by omega)]
            · rw [if_neg hj1, if_neg hj1, if_neg (by omega)]
        · rw [if_neg h1, get_node, get_node, hb h1 h0]
          by_cases hj : j = 0
          · rw [if_pos hj, if_neg (by omega), if_pos hj]
          · rw [if_neg hj, if_neg hj]
            by_cases hj1 : j % 2 = 1
            · rw [if_pos hj1, if_pos hj1, if_neg (by omega)]
            · rw [if_neg hj1, if_neg hj1]
              by_cases e : j = k
              · rw [if_pos e, if_pos (by omega)]
              · rw [if_neg e, if_neg (by omega)]
    cases t with
    | nil =>
      rw [set_nil, split .nil .nil none (fun h1 h0 j' => ih .nil _ _ (by omega)) (fun h1 h0 j' => ih .nil _ _ (by omega)), get_node]
      by_cases e : j = k
      · rw [if_pos e, if_pos e]
      · rw [if_neg e, if_neg e]
        by_cases hj : j = 0
        · simp [hj, get_nil]
        · by_cases hj1 : j % 2 = 1 <;> simp [hj, hj1, get_nil]
    | node v l r =>
      rw [set_node, split l r v (fun h1 h0 j' => ih l _ _ (by omega)) (fun h1 h0 j' => ih r _ _ (by omega))]

theorem get_set (x : Option α) (t : Tr α) (k j : Nat) : (Tr.set x (Nat.succ k) t k).get j = if j = k then x else t.get j :=
  get_set_aux x (k + 1) t k j (by omega)

end Tr

/-! ### rows -/
section
variable {α β : Type}

theorem nth_eq (l : List α) : ∀ k, nth l k = l[k]? := by
  induction l with
  | nil => intro k; simp [nth]
  | cons x l ih => intro k; cases k with
    | zero => rfl
    | succ k => simpa [nth] using ih k

theorem takeN_eq (n : Nat) : ∀ l : List α, takeN n l = if n ≤ l.length then some (l.take n) else none := by
  induction n with
  | zero => intro l; rw [if_pos (Nat.zero_le _), List.take_zero]; rfl
  | succ n ih =>
    intro l
    cases l with
    | nil => rw [if_neg (by simp)]; rfl
    | cons x l =>
      show @Option.rec _ (fun _ => Option (List α)) none (fun ys => some (x :: ys)) (takeN n l) = _
      rw [ih]
      by_cases h : n ≤ l.length <;> simp [h]

theorem takeN_some {n : Nat} {l r : List α} (h : takeN n l = some r) : n ≤ l.length ∧ r = l.take n := by
  rw [takeN_eq] at h
  split at h
  · cases h; exact ⟨by assumption, rfl⟩
  · cases h

theorem dropN_eq (n : Nat) : ∀ l : List α, dropN n l = l.drop n := by
  induction n with
  | zero => intro l; rfl
  | succ n ih => intro l; cases l with
    | nil => rfl
    | cons x l => simpa [dropN] using ih l

theorem lenL_eq (l : List α) : lenL l = l.length := by
  induction l with
  | nil => rfl
  | cons x l ih => show Nat.succ (lenL l) = _; rw [ih]; rfl

theorem mapL_eq (f : α → β) (l : List α) : mapL f l = l.map f := by
  induction l with
  | nil => rfl
  | cons x l ih => show f x :: mapL f l = _; rw [ih]; rfl

theorem appL_eq (l m : List α) : appL l m = l ++ m := by
  induction l with
  | nil => rfl
  | cons x l ih => show x :: appL l m = _; rw [ih]; rfl

theorem allL_eq (p : α → Bool) (l : List α) : allL p l = l.all p := by
  induction l with
  | nil => rfl
  | cons x l ih =>
    show @Bool.rec (fun _ => Bool) false (allL p l) (p x) = _
    rw [ih, List.all_cons]
    cases p x <;> rfl

theorem overwrite_eq (cs : List α) : ∀ (o : Nat) (vs : List α),
    overwrite cs o vs = if o + vs.length ≤ cs.length then some (cs.take o ++ vs ++ cs.drop (o + vs.length)) else none := by
  induction cs with
  | nil =>
    intro o vs
    cases o with
    | zero => cases vs with
      | nil => rfl
      | cons v vs => rw [if_neg (by simp)]; rfl
    | succ o => rw [if_neg (by simp)]; rfl
  | cons c cs ih =>
    intro o vs
    cases o with
    | zero =>
      cases vs with
      | nil => rw [if_pos (by simp)]; simp; rfl
      | cons v vs =>
        show @Option.rec _ (fun _ => Option (List α)) none (fun l => some (v :: l)) (overwrite cs 0 vs) = _
        rw [ih]
        by_cases h : vs.length ≤ cs.length <;> simp [h]
    | succ o =>
      show @Option.rec _ (fun _ => Option (List α)) none (fun l => some (c :: l)) (overwrite cs o vs) = _
      rw [ih]
      by_cases h : o + vs.length ≤ cs.length
      · have : o + 1 + vs.length ≤ (c :: cs).length := by simp; omega
        rw [if_pos h, if_pos this]
        simp [show o + 1 + vs.length = (o + vs.length) + 1 from by omega]
      · have : ¬ o + 1 + vs.length ≤ (c :: cs).length := by simp; omega
        rw [if_neg h, if_neg this]

theorem overwrite_some {cs r : List α} {o : Nat} {vs : List α} (h : overwrite cs o vs = some r) :
    o + vs.length ≤ cs.length ∧ r = cs.take o ++ vs ++ cs.drop (o + vs.length) := by
  rw [overwrite_eq] at h
  split at h
  · cases h; exact ⟨by assumption, rfl⟩
  · cases h

theorem extend_some (cs : List α) : ∀ {o : Nat} {vs r : List α}, vs ≠ [] → extend cs o vs = some r →
    o ≤ cs.length ∧ r = cs.take o ++ vs ++ cs.drop (o + vs.length) := by
  induction cs with
  | nil =>
    intro o vs r hv h
    cases o with
    | zero =>
      have : some vs = some r := h
      cases this
      simp
    | succ o => cases vs with
      | nil => exact absurd rfl hv
      | cons v vs => cases (h : none = some r)
  | cons c cs ih =>
    intro o vs r hv h
    cases o with
    | zero =>
      cases vs with
      | nil => exact absurd rfl hv
      | cons v vs =>
        have h : @Option.rec _ (fun _ => Option (List α)) none (fun l => some (v :: l)) (extend cs 0 vs) = some r := h
        cases hx : extend cs 0 vs with
        | none => rw [hx] at h; cases h
        | some l =>
          rw [hx] at h
          cases h
          cases vs with
          | nil =>
            have : extend cs 0 [] = some cs := by cases cs <;> rfl
            rw [this] at hx; cases hx
            simp
          | cons v' vs' =>
            obtain ⟨_, rfl⟩ := ih (by simp) hx
            simp
    | succ o =>
      have h : @Option.rec _ (fun _ => Option (List α)) none (fun l => some (c :: l)) (extend cs o vs) = some r := h
      cases hx : extend cs o vs with
      | none => rw [hx] at h; cases h
      | some l =>
        rw [hx] at h
        cases h
        obtain ⟨h1, rfl⟩ := ih hv hx
        refine ⟨by simp; omega, ?_⟩
        simp [show o + 1 + vs.length = (o + vs.length) + 1 from by omega]
end

end Go.Ab
/- What the evaluator's values and memory say of the model's. -/
namespace Go.Ab

/-- what the hidden texts are -/
structure Interp where
  at_ : Nat → List Nat
  fn : Nat → List (List Nat) → List Nat

mutual
def Interp.den (I : Interp) : AStr → List Nat
  | .lit l => l
  | .atom i => I.at_ i
  | .app f args => I.fn f (I.dens args)
def Interp.dens (I : Interp) : List AStr → List (List Nat)
  | [] => []
  | x :: xs => I.den x :: I.dens xs
end

abbrev Map := Nat → Option (Nat × Nat)

inductive FRel (μ : Map) : Fn → Fn → Prop where
  | func (f : FuncId) : FRel μ (.func f) (.func f)
  | yield {l c n : Nat} (h : μ l = some (c, n)) : FRel μ (.yield l) (.yield c)

mutual
inductive VRel (I : Interp) (μ : Map) : AVal → Value → Prop where
  | top (v : Value) : VRel I μ (.tuple []) v
  | undef : VRel I μ (.tuple [.tuple []]) undef
  | bool (b : Bool) : VRel I μ (.bool b) (.bool b)
  | int (k : IntKind) (n : Int) : VRel I μ (.int k n) (.int k n)
  | isym (s : AStr) : VRel I μ (.isym s) (.int .i64 (I.den s).length)
  | str (s : AStr) (b : ByteArray) (h : I.den s = bytesOf b) : VRel I μ (.str s) (.string b)
  | nilptr : VRel I μ .nilptr (.pointer none)
  | ptr (b o c n : Nat) (h : μ b = some (c, n)) : VRel I μ (.ptr b o) (.pointer (some ⟨c, o, none⟩))
  | nilslice : VRel I μ .nilslice (.slice none 0 0)
  | slice (b o len cap : Nat) (exact : Bool) (esz c n off cap' : Nat) (h : μ b = some (c, n)) (hl : len ≤ cap') (hc : cap ≤ cap') (he : exact = true → cap' = cap)
      (hb : cap' = 0 ∨ (off = o ∧ o + cap' * esz ≤ n)) : VRel I μ (.slice b o len cap exact esz) (.slice (some ⟨c, off, none⟩) len cap')
  | nilmap : VRel I μ .nilmap (.map none)
  | map (r c n : Nat) (h : μ r = some (c, n)) : VRel I μ (.map r) (.map (some c))
  | func (fn fn' : Fn) (a b : List AVal) (a' b' : Array Value) (hf : FRel μ fn fn') (ha : VsRel I μ a a'.toList) (hb : VsRel I μ b b'.toList) : VRel I μ (.func fn a b) (.func fn' a' b')
  | nilFunc : VRel I μ .nilFunc .nilFunc
  | iface (t : Nat) (v : AVal) (v' : Value) (h : VRel I μ v v') : VRel I μ (.iface t v) (.iface t v')
  | nilIface : VRel I μ .nilIface .nilIface
  | agg (a : List AVal) (a' : Array Value) (h : VsRel I μ a a'.toList) : VRel I μ (.agg a) (.agg a')
  | tuple (a : List AVal) (a' : Array Value) (h : VsRel I μ a a'.toList) : VRel I μ (.tuple a) (.tuple a')
inductive VsRel (I : Interp) (μ : Map) : List AVal → List Value → Prop where
  | nil : VsRel I μ [] []
  | cons {x : AVal} {y : Value} {xs : List AVal} {ys : List Value} (h : VRel I μ x y) (hs : VsRel I μ xs ys) : VsRel I μ (x :: xs) (y :: ys)
end

def Map.le (μ μ' : Map) : Prop := ∀ (b : Nat) (x : Nat × Nat), μ b = some x → μ' b = some x

theorem Map.le_refl (μ : Map) : μ.le μ := fun _ _ h => h
theorem Map.le_trans {a b c : Map} (h : a.le b) (h' : b.le c) : a.le c := fun _ _ e => h' _ _ (h _ _ e)

theorem FRel.mono {μ μ' : Map} (h : μ.le μ') {f f' : Fn} (r : FRel μ f f') : FRel μ' f f' := by
  cases r with
  | func f => exact .func f
  | yield e => exact .yield (h _ _ e)

section
variable {I : Interp} {μ μ' : Map}

mutual
theorem VRel.mono (h : μ.le μ') {v : AVal} {v' : Value} (r : VRel I μ v v') : VRel I μ' v v' := by
  cases r with
  | top => exact .top _
  | undef => exact .undef
  | bool b => exact .bool b
  | int k n => exact .int k n
  | isym s => exact .isym s
  | str s b e => exact .str s b e
  | nilptr => exact .nilptr
  | ptr b o c n e => exact .ptr b o c n (h _ _ e)
  | nilslice => exact .nilslice
  | slice b o len cap exact esz c n off cap' e hl hc he hb => exact .slice b o len cap exact esz c n off cap' (h _ _ e) hl hc he hb
  | nilmap => exact .nilmap
  | map r c n e => exact .map r c n (h _ _ e)
  | func fn fn' a b a' b' hf ha hb => exact .func fn fn' a b a' b' (hf.mono h) (VsRel.mono h ha) (VsRel.mono h hb)
  | nilFunc => exact .nilFunc
  | iface t v v' e => exact .iface t v v' (VRel.mono h e)
  | nilIface => exact .nilIface
  | agg a a' e => exact .agg a a' (VsRel.mono h e)
  | tuple a a' e => exact .tuple a a' (VsRel.mono h e)
theorem VsRel.mono (h : μ.le μ') {v : List AVal} {v' : List Value} (r : VsRel I μ v v') : VsRel I μ' v v' := by
  cases r with
  | nil => exact .nil
  | cons e es => exact .cons (VRel.mono h e) (VsRel.mono h es)
end

theorem VsRel.length {xs : List AVal} : ∀ {ys : List Value}, VsRel I μ xs ys → xs.length = ys.length := by
  induction xs with
  | nil => intro ys h; cases h; rfl
  | cons x xs ih => intro ys h; cases h with | cons h hs => simp [ih hs]

theorem VsRel.get {xs : List AVal} : ∀ {ys : List Value}, VsRel I μ xs ys → ∀ {i : Nat} {x : AVal}, xs[i]? = some x → ∃ y, ys[i]? = some y ∧ VRel I μ x y := by
  induction xs with
  | nil => intro ys h i x e; simp at e
  | cons x xs ih =>
    intro ys h i x' e
    cases h with
    | cons h hs =>
      cases i with
      | zero => simp at e; subst e; exact ⟨_, rfl, h⟩
      | succ i => simpa using ih hs (by simpa using e)

theorem VsRel.of_get {xs : List AVal} : ∀ {ys : List Value}, xs.length = ys.length → (∀ (i : Nat) (x : AVal) (y : Value), xs[i]? = some x → ys[i]? = some y → VRel I μ x y) → VsRel I μ xs ys := by
  induction xs with
  | nil => intro ys h _; cases ys with | nil => exact .nil | cons y ys => simp at h
  | cons x xs ih =>
    intro ys h hg
    cases ys with
    | nil => simp at h
    | cons y ys =>
      exact .cons (hg 0 x y rfl rfl) (ih (by simpa using h) fun i x' y' e e' => hg (i + 1) x' y' (by simpa using e) (by simpa using e'))

theorem VsRel.append {a b : List AVal} : ∀ {a' b' : List Value}, VsRel I μ a a' → VsRel I μ b b' → VsRel I μ (a ++ b) (a' ++ b') := by
  induction a with
  | nil => intro a' b' h h'; cases h; exact h'
  | cons x a ih => intro a' b' h h'; cases h with | cons h hs => exact .cons h (ih hs h')

theorem VsRel.take {a : List AVal} : ∀ {a' : List Value}, VsRel I μ a a' → ∀ n, VsRel I μ (a.take n) (a'.take n) := by
  induction a with
  | nil => intro a' h n; cases h; simp; exact .nil
  | cons x a ih => intro a' h n; cases h with | cons h hs => cases n with
    | zero => exact .nil
    | succ n => exact .cons h (ih hs n)

theorem VsRel.drop {a : List AVal} : ∀ {a' : List Value}, VsRel I μ a a' → ∀ n, VsRel I μ (a.drop n) (a'.drop n) := by
  induction a with
  | nil => intro a' h n; cases h; simp; exact .nil
  | cons x a ih => intro a' h n; cases h with | cons h hs => cases n with
    | zero => exact .cons h hs
    | succ n => exact ih hs n

theorem VsRel.map {α : Type} {f : α → AVal} {g : α → Value} {l : List α} (h : ∀ x ∈ l, VRel I μ (f x) (g x)) : VsRel I μ (l.map f) (l.map g) := by
  induction l with
  | nil => exact .nil
  | cons x l ih => exact .cons (h x (by simp)) (ih fun y hy => h y (by simp [hy]))

/-- the first cells of a row -/
def PRel (I : Interp) (μ : Map) (cs : List AVal) (c : Array Value) : Prop := cs.length ≤ c.size ∧ VsRel I μ cs (c.toList.take cs.length)

theorem PRel.get {cs : List AVal} {c : Array Value} (h : PRel I μ cs c) {i : Nat} {x : AVal} (e : cs[i]? = some x) : ∃ y, c[i]? = some y ∧ VRel I μ x y := by
  obtain ⟨y, hy, hr⟩ := h.2.get e
  have hi : i < cs.length := by
    rcases Nat.lt_or_ge i cs.length with h | h
    · exact h
    · simp [List.getElem?_eq_none h] at e
  rw [List.getElem?_take, if_pos hi, Array.getElem?_toList] at hy
  exact ⟨y, hy, hr⟩

theorem PRel.of_get {cs : List AVal} {c : Array Value} (hl : cs.length ≤ c.size) (h : ∀ (i : Nat) (x : AVal) (y : Value), cs[i]? = some x → c[i]? = some y → VRel I μ x y) : PRel I μ cs c := by
  refine ⟨hl, VsRel.of_get (by simp; omega) fun i x y e e' => h i x y e ?_⟩
  have hi : i < cs.length := by
    rcases Nat.lt_or_ge i cs.length with h | h
    · exact h
    · simp [List.getElem?_eq_none h] at e
  rwa [List.getElem?_take, if_pos hi, Array.getElem?_toList] at e'

theorem PRel.mono (h : μ.le μ') {cs : List AVal} {c : Array Value} (r : PRel I μ cs c) : PRel I μ' cs c := ⟨r.1, r.2.mono h⟩

theorem PRel.whole {cs : List AVal} {c : Array Value} (r : VsRel I μ cs c.toList) : PRel I μ cs c := by
  have := r.length
  refine ⟨by simp at this; omega, ?_⟩
  rw [this, List.take_of_length_le (by simp)]
  exact r
end

/-- which cells a row's marks may cover -/
def ZRel (fz : Frz) (fr : Nat × Nat) (n : Nat) : Prop :=
  match fz with
  | .free => fr.1 = fr.2
  | .upto h => fr.1 = 0 ∧ fr.2 ≤ h
  | .marked => fr = (n, n + 1) ∨ fr.1 = fr.2
  | .ro => True

def TRel (I : Interp) (μ : Map) (τ : Tr AVal) (t : Array Value) : Prop := ∀ k v, τ.get k = some v → VRel I μ v (t.getD k undef)

theorem TRel.mono {I : Interp} {μ μ' : Map} (h : μ.le μ') {τ : Tr AVal} {t : Array Value} (r : TRel I μ τ t) : TRel I μ' τ t := fun k v e => (r k v e).mono h

/-! ### what every region writes lies among the activation's temporaries -/

def opsIn (n : Nat) : List Oper → Bool
  | [] => true
  | o :: l => (match o.dst with | some d => Nat.ble (Nat.succ d) n | none => true) && opsIn n l

def tmpsIn (n : Nat) : List Tmp → Bool
  | [] => true
  | t :: l => Nat.ble (Nat.succ t) n && tmpsIn n l

def codeIn (n : Nat) : Code → Bool
  | .region _ ops _ => opsIn n ops.toList
  | .seq a b => codeIn n a && codeIn n b
  | .cond _ a b => codeIn n a && codeIn n b
  | .block _ b => codeIn n b
  | .loop b => codeIn n b
  | .scope b => codeIn n b
  | .rangeFunc _ ps a b => tmpsIn n ps.toList && codeIn n a && codeIn n b
  | _ => true

structure LRel (I : Interp) (μ : Map) (l : ALoop) (L : Loop) : Prop where
  state : L.state = l.state
  pending : L.pending = l.pending
  pendingIn : ∀ c n, l.pending = some c → codeIn n c = true
  tmps : TRel I μ l.tmps L.tmps
  params : L.params.toList = l.params
  paramsIn : tmpsIn L.tmps.size l.params = true
  assign : L.assign = l.assign
  body : L.body = l.body
  assignIn : codeIn L.tmps.size l.assign = true
  bodyIn : codeIn L.tmps.size l.body = true
  defers : ∃ n, μ l.defers = some (L.defers, n)

inductive EsRel (I : Interp) (μ : Map) : List (AVal × AVal × Nat) → List MapEntry → Prop where
  | nil : EsRel I μ [] []
  | cons {k v : AVal} {b : Nat} {e : MapEntry} {es : List (AVal × AVal × Nat)} {es' : List MapEntry} (hk : VRel I μ k e.key) (hv : VRel I μ v e.val) (hb : e.born = b) (h : EsRel I μ es es') :
      EsRel I μ ((k, v, b) :: es) (e :: es')

theorem EsRel.mono {I : Interp} {μ μ' : Map} (h : μ.le μ') {es : List (AVal × AVal × Nat)} {es' : List MapEntry} (r : EsRel I μ es es') : EsRel I μ' es es' := by
  induction r with
  | nil => exact .nil
  | cons hk hv hb _ ih => exact .cons (hk.mono h) (hv.mono h) hb ih

/-- an object of the evaluator's memory and one of the model's; n: how many cells the model's row has -/
inductive ORel (I : Interp) (μ : Map) : AObj → Nat → Obj → Prop where
  | cells (cs : List AVal) (e : Nat) (fz : Frz) (n : Nat) (c : Array Value) (fr : Nat × Nat) (hn : c.size = n) (h : PRel I μ cs c) (hz : ZRel fz fr n) : ORel I μ (.cells cs e fz) n (.cells c e fr)
  | map (es : List (AVal × AVal × Nat)) (clock n : Nat) (es' : Array MapEntry) (h : EsRel I μ es es'.toList) : ORel I μ (.map es clock) n (.map es' clock)
  | iterNil (since : Nat) (seen : List Nat) (last n since' last' : Nat) (seen' : Array Nat) : ORel I μ (.mapIter none since seen last) n (.mapIter none since' seen' last')
  | iter (m since : Nat) (seen : List Nat) (last n c k : Nat) (seen' : Array Nat) (hs : seen'.toList = seen) (h : μ m = some (c, k)) : ORel I μ (.mapIter (some m) since seen last) n (.mapIter (some c) since seen' last)
  | loop (l : ALoop) (n : Nat) (L : Loop) (h : LRel I μ l L) : ORel I μ (.loop l) n (.loop L)
  | deferred (shut : Bool) (n : Nat) : ORel I μ (.deferred shut) n (.deferred (if shut then none else some []))

theorem ORel.mono {I : Interp} {μ μ' : Map} (h : μ.le μ') {o : AObj} {n : Nat} {o' : Obj} (r : ORel I μ o n o') : ORel I μ' o n o' := by
  cases r with
  | cells cs e fz n c fr hn hp hz => exact .cells cs e fz n c fr hn (hp.mono h) hz
  | map es clock n es' he => exact .map es clock n es' (he.mono h)
  | iterNil since seen last n since' last' seen' => exact .iterNil since seen last n since' last' seen'
  | iter m since seen last n c k seen' hs e => exact .iter m since seen last n c k seen' hs (h _ _ e)
  | loop l n L hl => exact .loop l n L { hl with tmps := hl.tmps.mono h, defers := hl.defers.imp fun _ e => h _ _ e }
  | deferred shut n => exact .deferred shut n

def AObj.isRo : AObj → Bool
  | .cells _ _ .ro => true
  | _ => false

theorem AHeap.get_put (H : AHeap) (b : Nat) (o : AObj) (j : Nat) : (H.put b o).get j = if j = b then some o else H.get j := Tr.get_set _ _ _ _
theorem AHeap.get_kill (H : AHeap) (b j : Nat) : (H.kill b).get j = if j = b then none else H.get j := Tr.get_set _ _ _ _
theorem AHeap.get_alloc (H : AHeap) (o : AObj) (j : Nat) : (H.alloc o).get j = if j = H.next then some o else H.get j := Tr.get_set _ _ _ _
theorem AHeap.next_put (H : AHeap) (b : Nat) (o : AObj) : (H.put b o).next = H.next := rfl
theorem AHeap.next_kill (H : AHeap) (b : Nat) : (H.kill b).next = H.next := rfl
theorem AHeap.next_alloc (H : AHeap) (o : AObj) : (H.alloc o).next = H.next + 1 := rfl

/-- what the evaluator is told of the world in which it stands: what the hidden texts are; blocks below 'base' are never written; 'globals' variables lie at their own numbers -/
structure Ground where
  I : Interp
  base : Nat
  globals : Nat

/-- the evaluator's memory and the model's -/
structure WRel (G : Ground) (μ : Map) (H : AHeap) (w : World) : Prop where
  live : ∀ b o, H.get b = some o → b < H.next ∧ ∃ c n o', μ b = some (c, n) ∧ w.heap[c]? = some o' ∧ ORel G.I μ o n o' ∧ (o.isRo = true ∨ G.base ≤ c)
  inj : ∀ b b' o o' c n n', H.get b = some o → H.get b' = some o' → μ b = some (c, n) → μ b' = some (c, n') → b = b'
  dom : ∀ b, H.next ≤ b → μ b = none
  glob : ∀ g, g < G.globals → ∃ n, μ g = some (g, n)
  globNext : G.globals ≤ H.next
  base : G.base ≤ w.heap.size

/-- from one memory to a later one -/
structure Nxt0 (G : Ground) (μ : Map) (H : AHeap) (w : World) (μ' : Map) (H' : AHeap) (w' : World) : Prop where
  le : μ.le μ'
  rel : WRel G μ' H' w'
  size : w.heap.size ≤ w'.heap.size
  frame : ∀ c, c < w.heap.size → (∀ b o n, H.get b = some o → μ b = some (c, n) → o.isRo = true) → w'.heap[c]? = w.heap[c]?
  new : ∀ b o c n, H'.get b = some o → μ' b = some (c, n) → w.heap.size ≤ c ∨ ∃ b₀ o₀ n₀, H.get b₀ = some o₀ ∧ μ b₀ = some (c, n₀) ∧ (o₀.isRo = true → o.isRo = true)
  next : H.next ≤ H'.next
  os : w'.os = w.os
  output : w'.output = w.output

/-- and no number that was given is given anew -/
structure Nxt (G : Ground) (μ : Map) (H : AHeap) (w : World) (μ' : Map) (H' : AHeap) (w' : World) : Prop extends Nxt0 G μ H w μ' H' w' where
  keep : ∀ b, b < H.next → μ' b = μ b

theorem Nxt.refl {G : Ground} {μ : Map} {H : AHeap} {w : World} (h : WRel G μ H w) : Nxt G μ H w μ H w where
  le := Map.le_refl μ
  rel := h
  size := Nat.le_refl _
  frame := fun _ _ _ => rfl
  new := fun b o _c n hb hc => .inr ⟨b, o, n, hb, hc, id⟩
  next := Nat.le_refl _
  os := rfl
  output := rfl
  keep := fun _ _ => rfl

theorem Nxt0.trans {G : Ground} {μ μ' μ'' : Map} {H H' H'' : AHeap} {w w' w'' : World} (h : Nxt0 G μ H w μ' H' w') (h' : Nxt0 G μ' H' w' μ'' H'' w'') : Nxt0 G μ H w μ'' H'' w'' where
  le := Map.le_trans h.le h'.le
  rel := h'.rel
  size := Nat.le_trans h.size h'.size
  frame := fun c hc hn => by
    rw [h'.frame c (Nat.lt_of_lt_of_le hc h.size), h.frame c hc hn]
    intro b o n hb hm
    rcases h.new b o c n hb hm with hr | ⟨b₀, o₀, n₀, hb₀, hm₀, hr⟩
    · omega
    · exact hr (hn b₀ o₀ n₀ hb₀ hm₀)
  new := fun b o c n hb hm => by
    rcases h'.new b o c n hb hm with hr | ⟨b₀, o₀, n₀, hb₀, hm₀, hr⟩
    · exact .inl (Nat.le_trans h.size hr)
    · rcases h.new b₀ o₀ c n₀ hb₀ hm₀ with hr' | ⟨b₁, o₁, n₁, hb₁, hm₁, hr'⟩
      · exact .inl hr'
      · exact .inr ⟨b₁, o₁, n₁, hb₁, hm₁, fun e => hr (hr' e)⟩
  next := Nat.le_trans h.next h'.next
  os := h'.os.trans h.os
  output := h'.output.trans h.output

theorem Nxt.trans {G : Ground} {μ μ' μ'' : Map} {H H' H'' : AHeap} {w w' w'' : World} (h : Nxt G μ H w μ' H' w') (h' : Nxt G μ' H' w' μ'' H'' w'') : Nxt G μ H w μ'' H'' w'' :=
  { h.toNxt0.trans h'.toNxt0 with keep := fun b hb => (h'.keep b (Nat.lt_of_lt_of_le hb h.next)).trans (h.keep b hb) }

/-- the blocks below 'base' lie as they lay -/
theorem Nxt.below {G : Ground} {μ μ' : Map} {H H' : AHeap} {w w' : World} (hw : WRel G μ H w) (h : Nxt G μ H w μ' H' w') {c : Nat} (hc : c < G.base) : w'.heap[c]? = w.heap[c]? := by
  refine h.frame c (Nat.lt_of_lt_of_le hc hw.base) fun b o n hb hm => ?_
  obtain ⟨_, c', n', o', hm', _, _, hr⟩ := hw.live b o hb
  rw [hm] at hm'
  cases hm'
  rcases hr with hr | hr
  · exact hr
  · omega

end Go.Ab
/- Steps of the memory: runs of the model's loads and stores, and what they are in the evaluator's memory. -/
namespace Go.Ab

theorem add_plain (b o n : Nat) : (⟨b, o, none⟩ : Addr).add n = ⟨b, o + n, none⟩ := by
  unfold Addr.add
  split
  · subst_vars; rfl
  · rfl

theorem cell_of_block {w : World} {b : Nat} {c : Array Value} {e : Nat} {fr : Nat × Nat} (h : w.heap[b]? = some (.cells c e fr)) (o : Nat) : w.cell? ⟨b, o, none⟩ = c[o]? := by
  simp [World.cell?, h]

theorem frozen_of_block {w : World} {b : Nat} {c : Array Value} {e : Nat} {fr : Nat × Nat} (h : w.heap[b]? = some (.cells c e fr)) (o : Nat) :
    w.frozen? ⟨b, o, none⟩ = (decide (fr.1 ≤ o) && decide (o < fr.2)) := by
  simp [World.frozen?, h]

section
variable {P : Program}

theorem run_loadCellsFrom {w : World} {b : Nat} {c : Array Value} {e : Nat} {fr : Nat × Nat} (h : w.heap[b]? = some (.cells c e fr)) (o : Nat) :
    ∀ (n i : Nat) (acc : Array Value), o + i + n ≤ c.size → (loadCellsFrom ⟨b, o, none⟩ i n acc).run P w = .ok (acc ++ c.extract (o + i) (o + i + n)) w := by
  intro n
  induction n with
  | zero => intro i acc _; simp [loadCellsFrom]; omega
  | succ n ih =>
    intro i acc hn
    have hlt : o + i < c.size := by omega
    unfold loadCellsFrom
    rw [Sem.run_bind, add_plain, run_load, cell_of_block h, Array.getElem?_eq_getElem hlt]
    simp only [Result.andThen_ok]
    rw [ih (i + 1) _ (by omega)]
    congr 1
    apply Array.ext'
    simp only [Array.toList_append, Array.toList_push, Array.toList_extract, List.append_assoc]
    congr 1
    rw [show o + i + (n + 1) = o + (i + 1) + n from by omega, show o + (i + 1) = (o + i) + 1 from by omega]
    rw [List.extract_eq_take_drop, List.extract_eq_take_drop]
    rw [show o + i + 1 + n - (o + i) = n + 1 from by omega, show o + i + 1 + n - (o + i + 1) = n from by omega]
    have hd : c.toList.drop (o + i) = c.toList[o + i]'(by simpa using hlt) :: c.toList.drop (o + i + 1) := List.drop_eq_getElem_cons (by simpa using hlt)
    rw [hd]
    simp

theorem run_loadCells {w : World} {b : Nat} {c : Array Value} {e : Nat} {fr : Nat × Nat} (h : w.heap[b]? = some (.cells c e fr)) (o n : Nat) (hn : o + n ≤ c.size) :
    (loadCells ⟨b, o, none⟩ n).run P w = .ok (c.extract o (o + n)) w := by
  unfold loadCells
  rw [run_loadCellsFrom h o n 0 #[] (by omega)]
  simp

/-- cells from o on replaced -/
def setRange (c : Array Value) : Nat → List Value → Array Value
  | _, [] => c
  | o, v :: vs => setRange (c.setIfInBounds o v) (o + 1) vs

theorem setRange_size (vs : List Value) : ∀ (c : Array Value) (o : Nat), (setRange c o vs).size = c.size := by
  induction vs with
  | nil => intro c o; rfl
  | cons v vs ih => intro c o; simp [setRange, ih]

theorem setRange_toList (vs : List Value) : ∀ (c : Array Value) (o : Nat), o + vs.length ≤ c.size → (setRange c o vs).toList = c.toList.take o ++ vs ++ c.toList.drop (o + vs.length) := by
  induction vs with
  | nil => intro c o h; simp [setRange]
  | cons v vs ih =>
    intro c o h
    simp only [List.length_cons] at h
    rw [setRange, ih _ _ (by simpa using by omega)]
    have hl : o < c.toList.length := by simpa using by omega
    simp only [Array.toList_setIfInBounds, List.length_cons]
    rw [List.take_set, List.drop_set_of_lt (by omega)]
    rw [show o + (vs.length + 1) = o + 1 + vs.length from by omega]
    congr 1
    rw [List.append_cons]
    congr 1
    rw [List.take_add_one]
    simp [List.set_append]
    rw [if_neg (by omega)]
    simp [show o - min o c.size = 0 from by omega, Array.getElem?_eq_getElem (show o < c.size by omega)]

/-- what 'store' leaves of a heap -/
theorem run_storeCells {b : Nat} {e : Nat} {fr : Nat × Nat} (o : Nat) :
    ∀ (vs : List Value) (i : Nat) (w : World) (c : Array Value), w.heap[b]? = some (.cells c e fr) → (∀ v ∈ vs, v.oneCell' = true) → o + i + vs.length ≤ c.size →
      (∀ j, o + i ≤ j → j < o + i + vs.length → ¬ (fr.1 ≤ j ∧ j < fr.2)) →
      ∃ w', (storeCells ⟨b, o, none⟩ vs i).run P w = .ok () w' ∧ w'.heap = w.heap.setIfInBounds b (.cells (setRange c (o + i) vs) e fr) ∧ w'.os = w.os ∧ w'.output = w.output := by
  intro vs
  induction vs with
  | nil =>
    intro i w c h _ _ _
    refine ⟨w, rfl, ?_, rfl, rfl⟩
    obtain ⟨hlt, hx⟩ := Array.getElem?_eq_some_iff.1 h
    rw [setRange, ← hx]
    simp [Array.setIfInBounds, hlt]
  | cons v vs ih =>
    intro i w c h hv hl hz
    simp only [List.length_cons] at hl
    have hlt : o + i < c.size := by omega
    obtain ⟨hb, hx⟩ := Array.getElem?_eq_some_iff.1 h
    have hw1 : (w.setCell ⟨b, o + i, none⟩ v).heap = w.heap.setIfInBounds b (.cells (c.setIfInBounds (o + i) v) e fr) := by
      simp only [World.setCell]
      apply Array.ext_getElem?
      intro j
      rw [Array.getElem?_modify, Array.getElem?_setIfInBounds]
      by_cases hj : b = j
      · subst hj; simp [hb, hx]
      · simp [hj]
    have h1 : (w.setCell ⟨b, o + i, none⟩ v).heap[b]? = some (.cells (c.setIfInBounds (o + i) v) e fr) := by
      rw [hw1, Array.getElem?_setIfInBounds]; simp [hb]
    have hz1 := hz (o + i) (Nat.le_refl _) (by simp only [List.length_cons]; omega)
    obtain ⟨w', hr, hh, h2, h3⟩ := ih (i + 1) _ _ h1 (fun v' hv' => hv v' (by simp [hv'])) (by simpa using by omega) (fun j hj1 hj2 => hz j (by omega) (by simp only [List.length_cons]; omega))
    refine ⟨w', ?_, ?_, h2, h3⟩
    · unfold storeCells
      rw [Sem.run_bind, add_plain, run_store P w _ v .plain (hv v (by simp)), cell_of_block h, Array.getElem?_eq_getElem hlt]
      simp only [frozen_of_block h]
      have : (decide (fr.1 ≤ o + i) && decide (o + i < fr.2)) = false := by
        rw [← Bool.not_eq_true]; simpa using hz1
      rw [this]
      simpa using hr
    · rw [hh, hw1]
      apply Array.ext_getElem?
      intro j
      simp only [Array.getElem?_setIfInBounds, Array.size_setIfInBounds]
      by_cases hj : b = j
      · subst hj; simp [hb, setRange, Nat.add_assoc]
      · simp [hj]
end

/-! ### steps -/
section
variable {G : Ground} {μ : Map} {H : AHeap} {w w' : World}

/-- a draw, a mark: the memory is as it was -/
theorem Nxt.same (h : WRel G μ H w) (hh : w'.heap = w.heap) (ho : w'.os = w.os) (hp : w'.output = w.output) : Nxt G μ H w μ H w' where
  le := Map.le_refl μ
  rel := { live := fun b o hb => by rw [hh]; exact h.live b o hb, inj := h.inj, dom := h.dom, glob := h.glob, globNext := h.globNext, base := by rw [hh]; exact h.base }
  size := by rw [hh]; exact Nat.le_refl _
  frame := fun c _ _ => by rw [hh]
  new := (Nxt.refl h).new
  next := Nat.le_refl _
  os := ho
  output := hp
  keep := fun _ _ => rfl

def Map.add (μ : Map) (b : Nat) (x : Nat × Nat) : Map := fun j => if j = b then some x else μ j

theorem Map.le_add (h : WRel G μ H w) (x : Nat × Nat) : μ.le (μ.add H.next x) := fun b y e => by
  unfold Map.add
  split
  · subst_vars; rw [h.dom _ (Nat.le_refl _)] at e; cases e
  · exact e

theorem Map.add_self (μ : Map) (b : Nat) (x : Nat × Nat) : μ.add b x b = some x := by simp [Map.add]

theorem lt_of_get (h : WRel G μ H w) {b : Nat} {o : AObj} (hb : H.get b = some o) : b < H.next := (h.live b o hb).1

/-- a new block -/
theorem Nxt.alloc (h : WRel G μ H w) {o : AObj} {n : Nat} {o' : Obj} (ho : ORel G.I (μ.add H.next (w.heap.size, n)) o n o')
    (hh : w'.heap = w.heap.push o') (h1 : w'.os = w.os) (h2 : w'.output = w.output) : Nxt G μ H w (μ.add H.next (w.heap.size, n)) (H.alloc o) w' := by
  have hle := Map.le_add h (w.heap.size, n)
  have old : ∀ b o₁, b ≠ H.next → (H.alloc o).get b = some o₁ → H.get b = some o₁ := fun b o₁ hb e => by rwa [AHeap.get_alloc, if_neg hb] at e
  refine { le := hle, rel := ?_, size := by rw [hh]; simp, frame := ?_, new := ?_, next := by rw [AHeap.next_alloc]; omega, os := h1, output := h2, keep := fun j hj => by simp only [Map.add]; rw [if_neg (by omega)] }
  · refine { live := ?_, inj := ?_, dom := ?_, glob := ?_, globNext := by rw [AHeap.next_alloc]; have := h.globNext; omega, base := by rw [hh]; have := h.base; simp; omega }
    · intro b o₁ hb
      by_cases hbn : b = H.next
      · subst hbn
        rw [AHeap.get_alloc, if_pos rfl] at hb
        cases hb
        exact ⟨by rw [AHeap.next_alloc]; omega, _, _, o', Map.add_self _ _ _, by rw [hh]; simp, ho, .inr h.base⟩
      · obtain ⟨hlt, c, n₁, o₂, hm, hc, hr, hb'⟩ := h.live b o₁ (old b o₁ hbn hb)
        refine ⟨by rw [AHeap.next_alloc]; omega, c, n₁, o₂, hle _ _ hm, ?_, hr.mono hle, hb'⟩
        have hlt' := (Array.getElem?_eq_some_iff.1 hc).1
        rw [hh, Array.getElem?_push_lt hlt', ← Array.getElem?_eq_getElem hlt']; exact hc
    · intro b b' o₁ o₂ c n₁ n₂ hb hb' hm hm'
      by_cases e : b = H.next
      · by_cases e' : b' = H.next
        · rw [e, e']
        · have hb2 := old b' o₂ e' hb'
          obtain ⟨_, c', n', o₃, hm2, hc, _⟩ := h.live b' o₂ hb2
          rw [hle _ _ hm2] at hm'
          cases hm'
          subst e
          rw [Map.add_self] at hm
          cases hm
          have := (Array.getElem?_eq_some_iff.1 hc).1
          omega
      · by_cases e' : b' = H.next
        · have hb2 := old b o₁ e hb
          obtain ⟨_, c', n', o₃, hm2, hc, _⟩ := h.live b o₁ hb2
          rw [hle _ _ hm2] at hm
          cases hm
          subst e'
          rw [Map.add_self] at hm'
          cases hm'
          have := (Array.getElem?_eq_some_iff.1 hc).1
          omega
        · have g1 := old b o₁ e hb
          have g2 := old b' o₂ e' hb'
          unfold Map.add at hm hm'
          rw [if_neg e] at hm
          rw [if_neg e'] at hm'
          exact h.inj b b' o₁ o₂ c n₁ n₂ g1 g2 hm hm'
    · intro b hb
      rw [AHeap.next_alloc] at hb
      unfold Map.add
      rw [if_neg (by omega)]
      exact h.dom b (by omega)
    · intro g hg
      obtain ⟨n₁, hn⟩ := h.glob g hg
      exact ⟨n₁, hle _ _ hn⟩
  · intro c hc _
    rw [hh, Array.getElem?_push_lt hc, Array.getElem?_eq_getElem hc]
  · intro b o₁ c n₁ hb hm
    by_cases e : b = H.next
    · subst e
      rw [Map.add_self] at hm
      cases hm
      exact .inl (Nat.le_refl _)
    · unfold Map.add at hm
      rw [if_neg e] at hm
      exact .inr ⟨b, o₁, n₁, old b o₁ e hb, hm, id⟩

/-- a block is written -/
theorem Nxt.put (h : WRel G μ H w) {b : Nat} {o₀ o : AObj} {c n : Nat} {o' : Obj} (hb : H.get b = some o₀) (hr : o₀.isRo = false) (hm : μ b = some (c, n)) (ho : ORel G.I μ o n o')
    (hh : w'.heap = w.heap.setIfInBounds c o') (h1 : w'.os = w.os) (h2 : w'.output = w.output) : Nxt G μ H w μ (H.put b o) w' := by
  obtain ⟨hlt, c', n', o₁, hm', hc, _, hbase⟩ := h.live b o₀ hb
  rw [hm] at hm'
  cases hm'
  have hcl := (Array.getElem?_eq_some_iff.1 hc).1
  have hB : G.base ≤ c := by rcases hbase with e | e; · rw [hr] at e; cases e
                             · exact e
  have other : ∀ b₁ o₁ c₁ n₁, b₁ ≠ b → H.get b₁ = some o₁ → μ b₁ = some (c₁, n₁) → c₁ ≠ c := fun b₁ o₁ c₁ n₁ hne g1 g2 e => by
    subst e; exact hne (h.inj b₁ b o₁ o₀ c₁ n₁ n g1 hb g2 hm)
  refine { le := Map.le_refl μ, rel := ?_, size := by rw [hh]; simp, frame := ?_, new := ?_, next := Nat.le_refl _, os := h1, output := h2, keep := fun _ _ => rfl }
  · refine { live := ?_, inj := ?_, dom := h.dom, glob := h.glob, globNext := h.globNext, base := by rw [hh]; simpa using h.base }
    · intro b₁ o₂ hb₁
      rw [AHeap.get_put] at hb₁
      by_cases e : b₁ = b
      · subst e
        rw [if_pos rfl] at hb₁
        cases hb₁
        exact ⟨hlt, c, n, o', hm, by rw [hh, Array.getElem?_setIfInBounds]; simp [hcl], ho, .inr hB⟩
      · rw [if_neg e] at hb₁
        obtain ⟨hl, c₁, n₁, o₃, g1, g2, g3, g4⟩ := h.live b₁ o₂ hb₁
        refine ⟨hl, c₁, n₁, o₃, g1, ?_, g3, g4⟩
        rw [hh, Array.getElem?_setIfInBounds, if_neg (fun e' => other b₁ o₂ c₁ n₁ e hb₁ g1 e'.symm)]
        exact g2
    · intro b₁ b₂ o₁ o₂ c₁ n₁ n₂ g1 g2 g3 g4
      rw [AHeap.get_put] at g1 g2
      by_cases e1 : b₁ = b
      · by_cases e2 : b₂ = b
        · rw [e1, e2]
        · rw [if_neg e2] at g2
          subst e1
          exact h.inj _ _ _ _ _ _ _ hb g2 g3 g4
      · rw [if_neg e1] at g1
        by_cases e2 : b₂ = b
        · subst e2
          exact h.inj _ _ _ _ _ _ _ g1 hb g3 g4
        · rw [if_neg e2] at g2
          exact h.inj _ _ _ _ _ _ _ g1 g2 g3 g4
  · intro c₁ hc₁ hn
    rw [hh, Array.getElem?_setIfInBounds, if_neg]
    intro e
    subst e
    have := hn b o₀ n hb hm
    rw [hr] at this; cases this
  · intro b₁ o₁ c₁ n₁ g1 g2
    rw [AHeap.get_put] at g1
    by_cases e : b₁ = b
    · subst e
      rw [hm] at g2
      cases g2
      exact .inr ⟨b₁, o₀, n, hb, hm, fun e => by rw [hr] at e; cases e⟩
    · rw [if_neg e] at g1
      exact .inr ⟨b₁, o₁, n₁, g1, g2, id⟩

/-- a block is forgotten -/
theorem Nxt.kill (h : WRel G μ H w) (b : Nat) : Nxt G μ H w μ (H.kill b) w := by
  have old : ∀ b₁ o₁, (H.kill b).get b₁ = some o₁ → H.get b₁ = some o₁ := fun b₁ o₁ e => by
    rw [AHeap.get_kill] at e
    split at e
    · cases e
    · exact e
  exact {
    le := Map.le_refl μ
    rel := { live := fun b₁ o₁ hb => h.live b₁ o₁ (old _ _ hb), inj := fun b₁ b₂ o₁ o₂ c n₁ n₂ g1 g2 => h.inj b₁ b₂ o₁ o₂ c n₁ n₂ (old _ _ g1) (old _ _ g2), dom := h.dom, glob := h.glob, globNext := h.globNext, base := h.base }
    size := Nat.le_refl _
    frame := fun _ _ _ => rfl
    new := fun b₁ o₁ c n g1 g2 => (Nxt.refl h).new b₁ o₁ c n (old _ _ g1) g2
    next := Nat.le_refl _
    os := rfl
    output := rfl
    keep := fun _ _ => rfl }

/-- a block is written and has a new number from then on; the old one is forgotten -/
theorem Nxt.rename (h : WRel G μ H w) {b : Nat} {o₀ o : AObj} {c n : Nat} {o' : Obj} (hb : H.get b = some o₀) (hr : o₀.isRo = false) (hm : μ b = some (c, n)) (ho : ORel G.I μ o n o')
    (hh : w'.heap = w.heap.setIfInBounds c o') (h1 : w'.os = w.os) (h2 : w'.output = w.output) : Nxt G μ H w (μ.add H.next (c, n)) ((H.kill b).alloc o) w' := by
  have hle := Map.le_add h (c, n)
  obtain ⟨hlt, c', n', o₁, hm', hc, _, hbase⟩ := h.live b o₀ hb
  rw [hm] at hm'
  cases hm'
  have hcl := (Array.getElem?_eq_some_iff.1 hc).1
  have hB : G.base ≤ c := by rcases hbase with e | e; · rw [hr] at e; cases e
                             · exact e
  have other : ∀ b₁ o₁ c₁ n₁, b₁ ≠ b → H.get b₁ = some o₁ → μ b₁ = some (c₁, n₁) → c₁ ≠ c := fun b₁ o₁ c₁ n₁ hne g1 g2 e => by
    subst e; exact hne (h.inj b₁ b o₁ o₀ c₁ n₁ n g1 hb g2 hm)
  have hget : ∀ b₁, ((H.kill b).alloc o).get b₁ = if b₁ = H.next then some o else if b₁ = b then none else H.get b₁ := fun b₁ => by
    rw [AHeap.get_alloc, AHeap.next_kill, AHeap.get_kill]
  have old : ∀ b₁ o₁, b₁ ≠ H.next → ((H.kill b).alloc o).get b₁ = some o₁ → b₁ ≠ b ∧ H.get b₁ = some o₁ := fun b₁ o₁ e g => by
    rw [hget, if_neg e] at g
    split at g
    · cases g
    · exact ⟨by assumption, g⟩
  refine { le := hle, rel := ?_, size := by rw [hh]; simp, frame := ?_, new := ?_, next := by rw [AHeap.next_alloc, AHeap.next_kill]; omega, os := h1, output := h2, keep := fun j hj => by simp only [Map.add]; rw [if_neg (by omega)] }
  · refine { live := ?_, inj := ?_, dom := ?_, glob := fun g hg => (h.glob g hg).imp fun _ e => hle _ _ e, globNext := by rw [AHeap.next_alloc, AHeap.next_kill]; have := h.globNext; omega, base := by rw [hh]; simpa using h.base }
    · intro b₁ o₂ hb₁
      by_cases e : b₁ = H.next
      · subst e
        rw [hget, if_pos rfl] at hb₁
        cases hb₁
        exact ⟨by rw [AHeap.next_alloc, AHeap.next_kill]; omega, c, n, o', Map.add_self _ _ _, by rw [hh, Array.getElem?_setIfInBounds]; simp [hcl], ho.mono hle, .inr hB⟩
      · obtain ⟨e1, g⟩ := old b₁ o₂ e hb₁
        obtain ⟨hl, c₁, n₁, o₃, g1, g2, g3, g4⟩ := h.live b₁ o₂ g
        refine ⟨by rw [AHeap.next_alloc, AHeap.next_kill]; omega, c₁, n₁, o₃, hle _ _ g1, ?_, g3.mono hle, g4⟩
        rw [hh, Array.getElem?_setIfInBounds, if_neg (fun e' => other b₁ o₂ c₁ n₁ e1 g g1 e'.symm)]
        exact g2
    · intro b₁ b₂ o₁ o₂ c₁ n₁ n₂ g1 g2 g3 g4
      by_cases e1 : b₁ = H.next
      · by_cases e2 : b₂ = H.next
        · rw [e1, e2]
        · obtain ⟨k1, k2⟩ := old b₂ o₂ e2 g2
          subst e1
          rw [Map.add_self] at g3
          cases g3
          unfold Map.add at g4
          rw [if_neg e2] at g4
          exact absurd rfl (other b₂ o₂ c n₂ k1 k2 g4)
      · obtain ⟨k1, k2⟩ := old b₁ o₁ e1 g1
        unfold Map.add at g3
        rw [if_neg e1] at g3
        by_cases e2 : b₂ = H.next
        · subst e2
          rw [Map.add_self] at g4
          cases g4
          exact absurd rfl (other b₁ o₁ c n₁ k1 k2 g3)
        · obtain ⟨k3, k4⟩ := old b₂ o₂ e2 g2
          unfold Map.add at g4
          rw [if_neg e2] at g4
          exact h.inj _ _ _ _ _ _ _ k2 k4 g3 g4
    · intro b₁ hb₁
      rw [AHeap.next_alloc, AHeap.next_kill] at hb₁
      unfold Map.add
      rw [if_neg (by omega)]
      exact h.dom b₁ (by omega)
  · intro c₁ hc₁ hn
    rw [hh, Array.getElem?_setIfInBounds, if_neg]
    intro e
    subst e
    have := hn b o₀ n hb hm
    rw [hr] at this; cases this
  · intro b₁ o₁ c₁ n₁ g1 g2
    by_cases e : b₁ = H.next
    · subst e
      rw [Map.add_self] at g2
      cases g2
      exact .inr ⟨b, o₀, n, hb, hm, fun e => by rw [hr] at e; cases e⟩
    · obtain ⟨k1, k2⟩ := old b₁ o₁ e g1
      unfold Map.add at g2
      rw [if_neg e] at g2
      exact .inr ⟨b₁, o₁, n₁, k2, g2, id⟩
end

end Go.Ab
/- Soundness of single operations, 1: types, constants, parts, loads, stores. -/
namespace Go.Ab

variable {E : Env} {G : Ground} {μ : Map} {H : AHeap} {w : World}

theorem run_under {t : Nat} {d : TypeDesc} (h : under E t = some d) (w : World) : (underlying t).run E.P w = .ok d w := by
  unfold under at h
  simp [underlying, h]

theorem run_info {t : Nat} {i : TypeInfo} (h : E.P.info? t = some i) (w : World) : (typeInfo t).run E.P w = .ok i w := by
  simp [typeInfo, h]

theorem szOf_info {t n : Nat} (h : szOf E t = some n) : ∃ i, E.P.info? t = some i ∧ i.size = n := by
  unfold szOf at h
  split at h
  · rename_i i hi; cases h; exact ⟨i, hi, rfl⟩
  · cases h

theorem bytesT_info {t n : Nat} (h : bytesT E t = some n) : ∃ i, E.P.info? t = some i ∧ i.bytes = n := by
  unfold bytesT at h
  split at h
  · rename_i i hi; cases h; exact ⟨i, hi, rfl⟩
  · cases h

theorem run_size {t n : Nat} (h : szOf E t = some n) (w : World) : (sizeOf t).run E.P w = .ok n w := by
  obtain ⟨i, hi, rfl⟩ := szOf_info h
  simp [sizeOf, run_info hi]

theorem run_bytes {t n : Nat} (h : bytesT E t = some n) (w : World) : ∃ i : TypeInfo, (typeInfo t).run E.P w = .ok i w ∧ i.bytes = n := by
  obtain ⟨i, hi, rfl⟩ := bytesT_info h
  exact ⟨i, run_info hi w, rfl⟩

theorem run_isAgg {t : Nat} {b : Bool} (h : aggB E t = some b) (w : World) : (isAgg t).run E.P w = .ok b w := by
  unfold aggB at h
  split at h <;> cases h <;> rename_i hu <;> simp only [isAgg, Sem.run_bind, run_under hu, Result.andThen_ok] <;> first | rfl | (split <;> first | rfl | simp_all)

/-! ### constants -/

theorem absScalar_rel {v : Value} {x : AVal} (h : absScalar v = some x) : VRel G.I μ x v := by
  unfold absScalar at h
  split at h <;> cases h
  · exact .bool _
  · exact .int _ _
  · exact .str _ _ rfl
  · exact .nilptr
  · exact .nilslice
  · exact .nilmap
  · exact .func _ _ _ _ _ _ (.func _) .nil .nil
  · exact .nilFunc
  · exact .nilIface

theorem absScalars_rel : ∀ {vs : List Value} {xs : List AVal}, absScalars vs = some xs → VsRel G.I μ xs vs := by
  intro vs
  induction vs with
  | nil => intro xs h; cases h; exact .nil
  | cons v vs ih =>
    intro xs h
    unfold absScalars at h
    split at h
    · rename_i x hx
      split at h
      · rename_i l hl; cases h; exact .cons (absScalar_rel hx) (ih hl)
      · cases h
    · cases h

theorem absV_rel {v : Value} {x : AVal} (h : absV v = some x) : VRel G.I μ x v := by
  unfold absV at h
  split at h
  · split at h
    · rename_i l hl; cases h; exact .agg _ _ (absScalars_rel hl)
    · cases h
  · split at h
    · rename_i l hl; cases h; exact .tuple _ _ (absScalars_rel hl)
    · cases h
  · exact absScalar_rel h

theorem orUndef_rel {o : Option AVal} {v : Value} (h : ∀ x, o = some x → VRel G.I μ x v) : VRel G.I μ (orUndef o) v := by
  cases o with
  | none => exact .top _
  | some x => exact h x rfl

/-- the operands -/
theorem aeval_rel (hG : E.globals = G.globals) (hw : WRel G μ H w) {τ : Tr AVal} {a : Act} (ht : TRel G.I μ τ a.tmps) (x : Operand) : VRel G.I μ (aeval E τ x) (a.eval x) := by
  cases x with
  | tmp t => exact orUndef_rel fun v e => ht t v e
  | const v => exact orUndef_rel fun x e => absV_rel e
  | global g =>
    show VRel G.I μ (cond (Nat.ble (Nat.succ g) E.globals) (.ptr g 0) aundef) (.pointer (some ⟨g, 0, none⟩))
    cases hb : Nat.ble (Nat.succ g) E.globals with
    | false => exact .top _
    | true =>
      have : g < G.globals := by rw [← hG]; exact Nat.le_of_ble_eq_true hb
      obtain ⟨n, hn⟩ := hw.glob g this
      exact .ptr g 0 g n hn
  | func f => exact .func _ _ _ _ _ _ (.func f) .nil .nil

/-! ### the cells of values -/

theorem cellsO_rel {v : AVal} {v' : Value} {l : List AVal} (h : cellsO v = some l) (r : VRel G.I μ v v') : VsRel G.I μ l v'.cells.toList := by
  have r0 := r
  cases r <;> simp only [cellsO, Option.some.injEq, reduceCtorEq] at h <;> first
    | (subst h; exact .cons r0 .nil)
    | (subst h; assumption)

theorem isCell_one {v : AVal} {v' : Value} (h : isCell v = true) (r : VRel G.I μ v v') : v'.oneCell' = true := by
  unfold isCell at h
  cases r <;> first | rfl | simp_all

theorem zeroA_run {t : Nat} {z : AVal} (h : zeroA E t = some z) (w : World) : ∃ z', (zeroValue t).run E.P w = .ok z' w ∧ VRel G.I μ z z' := by
  unfold zeroA at h
  split at h
  · rename_i i hi
    split at h
    · rename_i v hv
      exact ⟨v, by simp [zeroValue, run_info hi, hv], absV_rel h⟩
    · cases h
  · cases h

theorem zeroCells_run {t : Nat} {l : List AVal} (h : zeroCellsA E t = some l) (w : World) :
    ∃ z', (zeroValue t).run E.P w = .ok z' w ∧ VsRel G.I μ l z'.cells.toList ∧ szOf E t = some l.length := by
  unfold zeroCellsA at h
  split at h
  · rename_i z hz
    split at h
    · rename_i l' hl
      split at h
      · rename_i s hs
        cases hb : Nat.beq (lenL l') s with
        | false => rw [hb] at h; cases h
        | true =>
          rw [hb] at h
          cases h
          obtain ⟨z', hr, hv⟩ := zeroA_run (G := G) (μ := μ) hz w
          exact ⟨z', hr, cellsO_rel hl hv, by rw [hs, ← Nat.eq_of_beq_eq_true hb, lenL_eq]⟩
      · cases h
    · cases h
  · cases h

/-! ### parts -/

theorem asAgg_some {o : Option (List AVal)} {v : AVal} (h : asAggA o = some v) : ∃ l, o = some l ∧ v = .agg l := by
  cases o with
  | none => cases h
  | some l => cases h; exact ⟨l, rfl, rfl⟩

theorem partA_run {t : Nat} {cs : List AVal} {cs' : Array Value} {off : Nat} {v : AVal} (h : partA E t cs off = some v) (r : PRel G.I μ cs cs') (w : World) :
    ∃ v', (part t cs' off).run E.P w = .ok v' w ∧ VRel G.I μ v v' := by
  unfold partA at h
  split at h
  · rename_i ha
    split at h
    · rename_i n hn
      obtain ⟨l, hl, rfl⟩ := asAgg_some h
      rw [dropN_eq] at hl
      obtain ⟨hle, rfl⟩ := takeN_some hl
      refine ⟨.agg (cs'.extract off (off + n)), ?_, .agg _ _ ?_⟩
      · simp [part, run_isAgg ha, run_size hn]
      · have h2 := (r.2.drop off).take n
        simp only [List.length_drop] at hle
        rw [Array.toList_extract, List.extract_eq_take_drop, show off + n - off = n from by omega]
        have : List.take n (List.drop off (List.take cs.length cs'.toList)) = List.take n (List.drop off cs'.toList) := by
          rw [List.drop_take, List.take_take, show min n (cs.length - off) = n from by omega]
        rwa [this] at h2
    · cases h
  · rename_i ha
    rw [nth_eq] at h
    obtain ⟨y, hy, hr⟩ := r.get h
    exact ⟨y, by simp [part, run_isAgg ha, hy], hr⟩
  · cases h

/-! ### loads and stores -/

theorem block_of_cells (hw : WRel G μ H w) {b : Nat} {cs : List AVal} {e : Nat} {fz : Frz} (hb : H.get b = some (.cells cs e fz)) {c n : Nat} (hm : μ b = some (c, n)) :
    ∃ (c' : Array Value) (fr : Nat × Nat), w.heap[c]? = some (.cells c' e fr) ∧ c'.size = n ∧ PRel G.I μ cs c' ∧ ZRel fz fr n := by
  obtain ⟨_, c₁, n₁, o', hm', hc, ho, _⟩ := hw.live b _ hb
  rw [hm] at hm'
  cases hm'
  cases ho with
  | cells _ _ _ _ c' fr hn hp hz => exact ⟨c', fr, hc, hn, hp, hz⟩

theorem row_run (hw : WRel G μ H w) {b o n c m : Nat} {l : List AVal} (h : H.row b o n = some l) (hm : μ b = some (c, m)) :
    ∃ vs : Array Value, (loadCells ⟨c, o, none⟩ n).run E.P w = .ok vs w ∧ VsRel G.I μ l vs.toList ∧ l.length = n := by
  unfold AHeap.row at h
  split at h
  · rename_i cs e fz hb
    obtain ⟨c', fr, hc, hn, hp, hz⟩ := block_of_cells hw hb hm
    rw [dropN_eq] at h
    obtain ⟨hle, rfl⟩ := takeN_some h
    simp only [List.length_drop] at hle
    have hle' := hp.1
    by_cases h0 : n = 0
    · subst h0
      exact ⟨#[], by simp [loadCells, loadCellsFrom], by simp; exact .nil, by simp⟩
    refine ⟨_, run_loadCells hc o n (by omega), ?_, by simp; omega⟩
    have h2 := (hp.2.drop o).take n
    rw [Array.toList_extract, List.extract_eq_take_drop, show o + n - o = n from by omega]
    have : List.take n (List.drop o (List.take cs.length c'.toList)) = List.take n (List.drop o c'.toList) := by
      rw [List.drop_take, List.take_take, show min n (cs.length - o) = n from by omega]
    rwa [this] at h2
  · cases h

theorem cell_run (hw : WRel G μ H w) {b o c m : Nat} {v : AVal} (h : H.cell b o = some v) (hm : μ b = some (c, m)) : ∃ v', w.cell? ⟨c, o, none⟩ = some v' ∧ VRel G.I μ v v' := by
  unfold AHeap.cell at h
  split at h
  · rename_i cs e fz hb
    obtain ⟨c', fr, hc, hn, hp, hz⟩ := block_of_cells hw hb hm
    rw [nth_eq] at h
    obtain ⟨y, hy, hr⟩ := hp.get h
    exact ⟨y, by rw [cell_of_block hc]; exact hy, hr⟩
  · cases h

theorem loadA_run (hw : WRel G μ H w) {t b o c m : Nat} {v : AVal} (h : loadA E t H b o = some v) (hm : μ b = some (c, m)) :
    ∃ v', (loadVar t ⟨c, o, none⟩).run E.P w = .ok v' w ∧ VRel G.I μ v v' := by
  unfold loadA at h
  split at h
  · rename_i ha
    split at h
    · rename_i n hn
      obtain ⟨l, hl, rfl⟩ := asAgg_some h
      obtain ⟨vs, hr, hv, _⟩ := row_run (E := E) hw hl hm
      exact ⟨.agg vs, by simp [loadVar, run_isAgg ha, run_size hn, hr], .agg _ _ hv⟩
    · cases h
  · rename_i ha
    obtain ⟨v', hc, hr⟩ := cell_run hw h hm
    exact ⟨v', by simp [loadVar, run_isAgg ha, hc], hr⟩
  · cases h

theorem lets_free {fz : Frz} {fr : Nat × Nat} {n o k : Nat} (hl : fz.lets o = true) (hz : ZRel fz fr n) (hk : o + k ≤ n) : ∀ j, o ≤ j → j < o + k → ¬ (fr.1 ≤ j ∧ j < fr.2) := by
  intro j h1 h2 h3
  cases fz with
  | free => simp only [ZRel] at hz; omega
  | upto h => simp only [ZRel] at hz; have := Nat.le_of_ble_eq_true hl; omega
  | marked =>
    simp only [ZRel] at hz
    rcases hz with hz | hz
    · subst hz; simp at h3; omega
    · omega
  | ro => simp [Frz.lets] at hl

theorem not_ro {cs : List AVal} {e : Nat} {fz : Frz} {o : Nat} (hl : fz.lets o = true) : (AObj.cells cs e fz).isRo = false := by
  cases fz <;> first | rfl | simp [Frz.lets] at hl

theorem allL_isCell {vs : List AVal} {vs' : List Value} (h : allL isCell vs = true) (r : VsRel G.I μ vs vs') : ∀ v ∈ vs', v.oneCell' = true := by
  rw [allL_eq] at h
  intro v hv
  obtain ⟨i, hi⟩ := List.getElem?_of_mem hv
  have hlt : i < vs'.length := by
    rcases Nat.lt_or_ge i vs'.length with h | h
    · exact h
    · simp [List.getElem?_eq_none h] at hi
  have hlt2 : i < vs.length := by rw [r.length]; exact hlt
  have hx : vs[i]? = some vs[i] := List.getElem?_eq_getElem hlt2
  obtain ⟨y, hy, hr⟩ := r.get hx
  rw [hi] at hy
  cases hy
  exact isCell_one (List.all_eq_true.1 h _ (List.getElem_mem _)) hr

/-- a row of the model with a piece replaced, against the evaluator's -/
theorem prel_replace {cs vs cs' : List AVal} {c : Array Value} {vs' : List Value} {o : Nat} (hp : PRel G.I μ cs c) (hv : VsRel G.I μ vs vs') (ho : o ≤ cs.length) (hfit : o + vs'.length ≤ c.size)
    (he : cs' = cs.take o ++ vs ++ cs.drop (o + vs.length)) : PRel G.I μ cs' (setRange c o vs') := by
  subst he
  have hlen := hv.length
  have hle := hp.1
  have hsz := setRange_size vs' c o
  have htl := setRange_toList vs' c o hfit
  refine ⟨by rw [hsz]; simp; omega, ?_⟩
  rw [htl]
  have h1 : VsRel G.I μ (cs.take o) (c.toList.take o) := by
    have := hp.2.take o
    rwa [List.take_take, Nat.min_eq_left ho] at this
  have h2 : VsRel G.I μ (cs.drop (o + vs.length)) ((c.toList.take cs.length).drop (o + vs.length)) := hp.2.drop _
  have h3 := (h1.append hv).append h2
  have hL : (cs.take o ++ vs ++ cs.drop (o + vs.length)).length = max cs.length (o + vs.length) := by simp; omega
  rw [hL]
  have : (c.toList.take o ++ vs' ++ c.toList.drop (o + vs'.length)).take (max cs.length (o + vs.length)) = c.toList.take o ++ vs' ++ (c.toList.take cs.length).drop (o + vs.length) := by
    have hl2 : (c.toList.take o ++ vs').length = o + vs.length := by simp; omega
    rw [List.take_append, hl2, List.take_of_length_le (by rw [hl2]; omega)]
    congr 1
    rw [List.drop_take, hlen]
    congr 1
    omega
  rwa [this]

theorem storeN_run (hw : WRel G μ H w) {b o c m : Nat} {vs : List AVal} {vs' : List Value} {H' : AHeap} (h : H.storeN b o vs = some H') (hm : μ b = some (c, m)) (hv : VsRel G.I μ vs vs') :
    ∃ w', (storeCells ⟨c, o, none⟩ vs' 0).run E.P w = .ok () w' ∧ Nxt G μ H w μ H' w' := by
  unfold AHeap.storeN at h
  split at h
  · rename_i cs e fz hb
    obtain ⟨c', fr, hc, hn, hp, hz⟩ := block_of_cells hw hb hm
    cases hl : fz.lets o with
    | false => rw [hl] at h; cases h
    | true =>
      cases ha : allL isCell vs with
      | false => rw [hl, ha] at h; cases h
      | true =>
        rw [hl, ha] at h
        simp only [cond_true] at h
        split at h
        · rename_i cs' hov
          cases h
          obtain ⟨hle, hcs⟩ := overwrite_some hov
          have hlen := hv.length
          have hp1 := hp.1
          obtain ⟨w', hr, hh, h1, h2⟩ := run_storeCells (P := E.P) o vs' 0 w c' hc (allL_isCell ha hv) (by omega) (lets_free hl hz (by omega))
          refine ⟨w', hr, Nxt.put hw hb (not_ro hl) hm (.cells _ _ _ _ _ _ ?_ (prel_replace hp hv (by omega) (by omega) hcs) hz) hh h1 h2⟩
          rw [setRange_size]; exact hn
        · cases h
  · cases h

theorem store_run (hw : WRel G μ H w) {b o c m : Nat} {vs : List AVal} {vs' : List Value} {H' : AHeap} (h : H.store b o vs = some H') (hm : μ b = some (c, m)) (hv : VsRel G.I μ vs vs') :
    ∃ w', (storeCells ⟨c, o, none⟩ vs' 0).run E.P w = .ok () w' ∧ Nxt G μ H w μ H' w' := by
  unfold AHeap.store at h
  split at h
  · cases h; cases hv; exact ⟨w, rfl, Nxt.refl hw⟩
  · exact storeN_run hw h hm hv

theorem growN_run (hw : WRel G μ H w) {b o c m : Nat} {vs : List AVal} {vs' : List Value} {H' : AHeap} (h : H.growN b o vs = some H') (h0 : vs ≠ []) (hm : μ b = some (c, m)) (hv : VsRel G.I μ vs vs')
    (hfit : o + vs.length ≤ m) : ∃ w', (storeCells ⟨c, o, none⟩ vs' 0).run E.P w = .ok () w' ∧ Nxt G μ H w μ H' w' := by
  unfold AHeap.growN at h
  split at h
  · rename_i cs e fz hb
    obtain ⟨c', fr, hc, hn, hp, hz⟩ := block_of_cells hw hb hm
    cases hl : fz.lets o with
    | false => rw [hl] at h; cases h
    | true =>
      cases ha : allL isCell vs with
      | false => rw [hl, ha] at h; cases h
      | true =>
        rw [hl, ha] at h
        simp only [cond_true] at h
        split at h
        · rename_i cs' hov
          cases h
          obtain ⟨hle, hcs⟩ := extend_some _ h0 hov
          have hlen := hv.length
          obtain ⟨w', hr, hh, h1, h2⟩ := run_storeCells (P := E.P) o vs' 0 w c' hc (allL_isCell ha hv) (by omega) (lets_free hl hz (by omega))
          refine ⟨w', hr, Nxt.put hw hb (not_ro hl) hm (.cells _ _ _ _ _ _ ?_ (prel_replace hp hv hle (by omega) hcs) hz) hh h1 h2⟩
          rw [setRange_size]; exact hn
        · cases h
  · cases h

theorem grow_run (hw : WRel G μ H w) {b o c m : Nat} {vs : List AVal} {vs' : List Value} {H' : AHeap} (h : H.grow b o vs = some H') (hm : μ b = some (c, m)) (hv : VsRel G.I μ vs vs')
    (hfit : vs = [] ∨ o + vs.length ≤ m) : ∃ w', (storeCells ⟨c, o, none⟩ vs' 0).run E.P w = .ok () w' ∧ Nxt G μ H w μ H' w' := by
  unfold AHeap.grow at h
  split at h
  · cases h; cases hv; exact ⟨w, rfl, Nxt.refl hw⟩
  · exact growN_run hw h (by simp) hm hv (by rcases hfit with e | e; · cases e
                                             · exact e)

theorem storeA_run (hw : WRel G μ H w) {t b o c m : Nat} {v : AVal} {v' : Value} {H' : AHeap} (h : storeA E t H b o v = some H') (hm : μ b = some (c, m)) (hv : VRel G.I μ v v') :
    ∃ w', (storeVar t ⟨c, o, none⟩ v').run E.P w = .ok () w' ∧ Nxt G μ H w μ H' w' := by
  unfold storeA at h
  split at h
  · rename_i n l hn hl
    cases hb : Nat.beq (lenL l) n with
    | false => rw [hb] at h; cases h
    | true =>
      rw [hb] at h
      have hr := cellsO_rel hl hv
      obtain ⟨w', h1, h2⟩ := store_run (E := E) hw h hm hr
      refine ⟨w', ?_, h2⟩
      have hs : v'.cells.size = n := by
        have := hr.length
        have := Nat.eq_of_beq_eq_true hb
        rw [lenL_eq] at this
        simp at *
        omega
      simp [storeVar, run_size hn, hs, h1]
  · cases h

end Go.Ab
/- Soundness of single operations, 2: numbers, texts, equality. -/
namespace Go.Ab

/-- what the evaluator was told is true -/
structure EnvOk (E : Env) (G : Ground) : Prop where
  globals : E.globals = G.globals
  eqs : ∀ x y r, E.eqs x y = some r → decide (G.I.den x = G.I.den y) = r
  cmps : ∀ op s n r, E.cmps op s n = some r → arith op .i64 ((G.I.den s).length : Int) n = some (.bool r)
  cats : ∀ x y z, E.cat x y = some z → (G.I.den x).length + (G.I.den y).length ≤ 1000000000 ∧ G.I.den z = G.I.den x ++ G.I.den y

theorem natsBeq_eq : ∀ a b : List Nat, natsBeq a b = decide (a = b) := by
  intro a
  induction a with
  | nil => intro b; cases b <;> simp [natsBeq]
  | cons x a ih =>
    intro b
    cases b with
    | nil => simp [natsBeq]
    | cons y b =>
      simp only [natsBeq, ih]
      by_cases h : x = y
      · subst h; simp
      · have : Nat.beq x y = false := by rw [← Bool.not_eq_true, Nat.beq_eq]; exact h
        simp [this, h]

mutual
theorem strBeq_eq : ∀ a b : AStr, strBeq a b = true → a = b
  | .lit a, .lit b, h => by
    simp only [strBeq, natsBeq_eq, decide_eq_true_eq] at h
    rw [h]
  | .atom a, .atom b, h => by
    simp only [strBeq] at h
    rw [Nat.eq_of_beq_eq_true h]
  | .app f a, .app g b, h => by
    simp only [strBeq] at h
    cases hb : Nat.beq f g with
    | false => rw [hb] at h; cases h
    | true =>
      rw [hb] at h
      rw [Nat.eq_of_beq_eq_true hb, strsBeq_eq a b h]
  | .lit _, .atom _, h => by simp [strBeq] at h
  | .lit _, .app _ _, h => by simp [strBeq] at h
  | .atom _, .lit _, h => by simp [strBeq] at h
  | .atom _, .app _ _, h => by simp [strBeq] at h
  | .app _ _, .lit _, h => by simp [strBeq] at h
  | .app _ _, .atom _, h => by simp [strBeq] at h
theorem strsBeq_eq : ∀ a b : List AStr, strsBeq a b = true → a = b
  | [], [], _ => rfl
  | x :: xs, y :: ys, h => by
    simp only [strsBeq] at h
    cases hb : strBeq x y with
    | false => rw [hb] at h; cases h
    | true =>
      rw [hb] at h
      rw [strBeq_eq x y hb, strsBeq_eq xs ys h]
  | [], _ :: _, h => by simp [strsBeq] at h
  | _ :: _, [], h => by simp [strsBeq] at h
end

theorem intBeq_eq (a b : Int) : intBeq a b = (a == b) := by
  cases a with
  | ofNat a => cases b with
    | ofNat b =>
      show Nat.beq a b = _
      by_cases h : a = b
      · subst h; simp
      · have : Nat.beq a b = false := by rw [← Bool.not_eq_true, Nat.beq_eq]; exact h
        rw [this]; symm; simp; omega
    | negSucc b => rfl
  | negSucc a => cases b with
    | ofNat b => rfl
    | negSucc b =>
      show Nat.beq a b = _
      by_cases h : a = b
      · subst h; simp
      · have : Nat.beq a b = false := by rw [← Bool.not_eq_true, Nat.beq_eq]; exact h
        rw [this]; symm; simp; omega

theorem kindBeq_eq {a b : IntKind} (h : kindBeq a b = true) : a = b := by
  cases a <;> cases b <;> first | rfl | simp [kindBeq] at h

theorem boolBeq_eq (a b : Bool) : boolBeq a b = (a == b) := by cases a <;> cases b <;> rfl

theorem negB_eq (a : Bool) : negB a = !a := by cases a <;> rfl

theorem intLt_eq (a b : Int) : intLt a b = decide (a < b) := by
  cases a with
  | ofNat a => cases b with
    | ofNat b =>
      show Nat.ble (Nat.succ a) b = _
      by_cases h : a < b
      · rw [Nat.ble_eq_true_of_le h]; symm; simp; omega
      · have : Nat.ble (Nat.succ a) b = false := by rw [← Bool.not_eq_true]; exact fun e => h (Nat.le_of_ble_eq_true e)
        rw [this]; symm; simp; omega
    | negSucc b => show false = _; symm; simp; omega
  | negSucc a => cases b with
    | ofNat b => show true = _; symm; simp; omega
    | negSucc b =>
      show Nat.ble (Nat.succ b) a = _
      by_cases h : b < a
      · rw [Nat.ble_eq_true_of_le h]; symm; simp; omega
      · have : Nat.ble (Nat.succ b) a = false := by rw [← Bool.not_eq_true]; exact fun e => h (Nat.le_of_ble_eq_true e)
        rw [this]; symm; simp; omega

theorem wrapI_eq (k : IntKind) (n : Int) : wrapI k n = k.wrap n := by
  unfold wrapI
  split
  · rename_i m
    cases h : Nat.ble m 9223372036854775807 with
    | false => rfl
    | true =>
      have := Nat.le_of_ble_eq_true h
      have e1 : (Int.ofNat m) % (2 ^ IntKind.i64.bits : Int) = Int.ofNat m := by
        show (Int.ofNat m) % (2 ^ 64 : Int) = Int.ofNat m
        simp only [Int.ofNat_eq_natCast]; omega
      have e2 : ¬ (Int.ofNat m ≥ (2 ^ (IntKind.i64.bits - 1) : Int)) := by
        show ¬ (Int.ofNat m ≥ (2 ^ 63 : Int))
        simp only [Int.ofNat_eq_natCast]; omega
      simp only [cond_true, IntKind.wrap, e1, e2, decide_false, Bool.and_false, Bool.false_eq_true, if_false]
  · rename_i m
    cases h : Nat.ble m 18446744073709551615 with
    | false => rfl
    | true =>
      have := Nat.le_of_ble_eq_true h
      have e1 : (Int.ofNat m) % (2 ^ IntKind.u64.bits : Int) = Int.ofNat m := by
        show (Int.ofNat m) % (2 ^ 64 : Int) = Int.ofNat m
        simp only [Int.ofNat_eq_natCast]; omega
      simp only [cond_true, IntKind.wrap, e1, IntKind.signed, Bool.false_and, Bool.false_eq_true, if_false]
  · rfl

theorem isZero_eq (y : Int) : isZero y = decide (y = 0) := by
  unfold isZero
  split
  · simp
  · rename_i h
    symm
    simp only [decide_eq_false_iff_not]
    intro e
    subst e
    exact h rfl

section
variable {E : Env} {G : Ground} {μ : Map} {H : AHeap} {w : World}

theorem arith_run {op : BinOp} {k : IntKind} {x y : Int} {v : AVal} (h : arith op k x y = some v) (t : TypeId) (w : World) :
    ∃ v', (binOp op t (.int k x) (.int k y)).run E.P w = .ok v' w ∧ VRel G.I μ v v' := by
  cases op <;> simp only [arith] at h <;> (try cases h) <;>
    (try (refine ⟨_, by simp only [binOp, ne_eq, not_true_eq_false, if_false]; exact rfl, ?_⟩)) <;>
    (try (simp only [wrapI_eq, intBeq_eq, intLt_eq, negB_eq]))
  case add => exact .int _ _
  case sub => exact .int _ _
  case mul => exact .int _ _
  case quo =>
    rw [isZero_eq] at h
    by_cases h0 : y = 0
    · simp [h0] at h
    · simp only [h0, decide_false, cond_false, Option.some.injEq] at h
      subst h
      exact ⟨.int k (k.wrap (x.tdiv y)), by simp [binOp, Op.intDiv, h0], by rw [wrapI_eq]; exact .int _ _⟩
  case rem =>
    rw [isZero_eq] at h
    by_cases h0 : y = 0
    · simp [h0] at h
    · simp only [h0, decide_false, cond_false, Option.some.injEq] at h
      subst h
      exact ⟨.int k (x.tmod y), by simp [binOp, Op.intDiv, h0], .int _ _⟩
  case and => exact .int _ _
  case or => exact .int _ _
  case xor => exact .int _ _
  case andNot => exact .int _ _
  case eql => exact .bool _
  case neq => exact .bool _
  case lss => exact .bool _
  case leq =>
    have : (!decide (y < x)) = decide (x ≤ y) := by rw [Bool.eq_iff_iff]; simp
    rw [this]; exact .bool _
  case gtr => exact .bool _
  case geq =>
    have : (!decide (x < y)) = decide (y ≤ x) := by rw [Bool.eq_iff_iff]; simp
    rw [this]; exact .bool _

end
end Go.Ab
