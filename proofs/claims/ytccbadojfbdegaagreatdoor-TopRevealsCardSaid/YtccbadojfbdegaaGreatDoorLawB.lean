/- TopReveals, whatever its texts: it returns true, and what was there lies as it lay. -/
import Derived.Test.YtccbadojfbdegaaGreatDoorLawA
/- TopReveals, whatever its texts: it returns true, and what was there lies as it lay. -/
namespace Go.Rev
open Go.Ab Go.Proofs Go.RowKit

/-- the variables' rows, as the call begins -/
structure Vars (w : World) : Prop where
  hex : ∃ fr, w.heap[0]? = some (.cells (hexL.map (Value.int .u8)).toArray 156 fr)
  pow : ∃ fr, w.heap[1]? = some (.cells (Lib.pow10Tab.map (Value.int .u64)).toArray 325 fr)
  size : 9 ≤ w.heap.size

def cellsN (w : World) (b : Nat) : Nat := match w.heap[b]? with
  | some (.cells c _ _) => c.size
  | _ => 0

theorem prel_hex {I : Interp} {μ : Map} : PRel I μ hexRow (hexL.map (Value.int .u8)).toArray := by
  refine .whole ?_
  show VsRel I μ [.int .u8 48, .int .u8 49, .int .u8 50, .int .u8 51, .int .u8 52, .int .u8 53, .int .u8 54, .int .u8 55, .int .u8 56, .int .u8 57, .int .u8 97, .int .u8 98, .int .u8 99, .int .u8 100, .int .u8 101, .int .u8 102] _
  exact .cons (.int _ _) (.cons (.int _ _) (.cons (.int _ _) (.cons (.int _ _) (.cons (.int _ _) (.cons (.int _ _) (.cons (.int _ _) (.cons (.int _ _) (.cons (.int _ _) (.cons (.int _ _) (.cons (.int _ _) (.cons (.int _ _) (.cons (.int _ _) (.cons (.int _ _) (.cons (.int _ _) (.cons (.int _ _) .nil)))))))))))))))

theorem vsRel_ints {I : Interp} {μ : Map} {k : IntKind} : ∀ l : List Int, VsRel I μ (l.map (AVal.int k)) (l.map (Value.int k))
  | [] => .nil
  | n :: l => .cons (.int k n) (vsRel_ints l)

theorem powRow_eq : powRow = Lib.pow10Tab.map (AVal.int .u64) := rfl

theorem prel_pow {I : Interp} {μ : Map} : PRel I μ powRow (Lib.pow10Tab.map (Value.int .u64)).toArray := by
  refine .whole ?_
  rw [powRow_eq]
  exact vsRel_ints _

noncomputable def μ0 (w : World) (b : Nat) : Option (Nat × Nat) := if b < 9 then some (b, cellsN w b) else none

theorem wrel_start {I : Interp} {w : World} (v : Vars w) : WRel ⟨I, w.heap.size, 9⟩ (μ0 w) H0 w := by
  refine ⟨?_, ?_, ?_, ?_, Nat.le_refl 9, Nat.le_refl _⟩
  · intro b o hb
    rw [H0_get] at hb
    split at hb
    · rename_i e; subst e; cases hb
      obtain ⟨fr, hp⟩ := v.pow
      refine ⟨by decide, 1, _, _, rfl, hp, ?_, .inl rfl⟩
      exact .cells _ _ _ _ _ _ (by unfold cellsN; rw [hp]) prel_pow trivial
    · split at hb
      · rename_i e; subst e; cases hb
        obtain ⟨fr, hp⟩ := v.hex
        refine ⟨by decide, 0, _, _, rfl, hp, ?_, .inl rfl⟩
        exact .cells _ _ _ _ _ _ (by unfold cellsN; rw [hp]) prel_hex trivial
      · cases hb
  · intro b b' o o' c m m' _ _ h h'
    unfold μ0 at h h'
    split at h
    · split at h'
      · cases h; cases h'; rfl
      · cases h'
    · cases h
  · intro b hb
    have hb : 9 ≤ b := hb
    unfold μ0
    rw [if_neg (by omega)]
  · intro g hg
    have hg : g < 9 := hg
    exact ⟨_, if_pos hg⟩

theorem known_H0 : known H0 = true := by kernel_rfl

theorem isTrue_ok {r : Option Out} (h : isTrue r = true) : ∃ H, r = some (.val (.bool true) H) := by
  unfold isTrue at h
  split at h
  · subst h; exact ⟨_, rfl⟩
  · cases h

/-- what the evaluator says of the law is what it does -/
theorem top_of_ev {E : Env} {I : Interp} {w : World} {n : Nat} (v : Vars w) (hP : E.P = Tryz.prog) (hT : Ab.Told E ⟨I, w.heap.size, 9⟩) (h : isTrue (ev E n (.call 3 topArgs H0)) = true)
    {one two other : ByteArray} (h0 : I.at_ 0 = bytesOf one) (h1 : I.at_ 1 = bytesOf two) (h2 : I.at_ 2 = bytesOf other) :
    Calls Tryz.prog 3 #[.string one, .string two, .string other] w fun e w' => e = .returned (.bool true) ∧ Kept w.heap.size w w' := by
  obtain ⟨H1, hev⟩ := isTrue_ok h
  have hs : CallSound E _ 3 topArgs H0 (.val (.bool true) H1) := ev_sound hT (by rw [hP]; exact follows_mixed) n _ _ hev
  have hc := hs (μ0 w) w #[.string one, .string two, .string other] (wrel_start v) (.cons (.str _ _ h0) (.cons (.str _ _ h1) (.cons (.str _ _ h2) .nil)))
  rw [hP] at hc
  refine calls_of_ok Tryz.func3 rfl rfl (hc.mono fun e w' hp => ?_)
  cases e with
  | returned v' =>
    obtain ⟨μ', hx, hv⟩ := hp
    refine ⟨by cases hv; rfl, ⟨hx.os, hx.output, hx.size, fun c hc => hx.frame c hc fun b o m hb hm => ?_⟩⟩
    obtain ⟨_, cs, e, fz, rfl, _⟩ := H0_known known_H0 b o hb
    rfl
  | panicked _ => exact hp.elim
  | _ => exact hp.elim

/-- what is known of the variables alone, whatever the texts are -/
theorem wrel_vars {G : Ab.Ground} {μ : Map} {H : AHeap} {w : World} (hg : G.globals = 9) (hw : WRel G μ H w) (hk : known H = true) {I : Interp} : WRel ⟨I, G.base, 9⟩ (fun b => if b < 9 then μ b else none) H0 w := by
  have hb9 : ∀ b x, b < 9 → μ b = some x → (fun b => if b < 9 then μ b else none) b = some x := fun b x hb hx => by simp [hb, hx]
  refine ⟨?_, ?_, ?_, ?_, Nat.le_refl 9, hw.base⟩
  · intro b o hb
    obtain ⟨cs, e, rfl, hi⟩ := H0_ints hb
    obtain ⟨hlt, cs', e', fz, he, hcl, hH⟩ := H0_known hk b _ hb
    cases he
    obtain ⟨_, c, m, o', hm, hc, ho, _⟩ := hw.live _ _ hH
    rw [renVs_id] at ho
    refine ⟨hlt, c, m, o', hb9 _ _ hlt hm, hc, ?_, .inl rfl⟩
    cases ho with
    | cells _ _ _ _ c' fr hn hp hz => exact .cells cs e .ro m c' fr hn ⟨hp.1, VsRel.ints hi hp.2⟩ trivial
  · intro b b' o o' c m m' hb hb' hm hm'
    obtain ⟨hlt, _, _, _, _, _, hH⟩ := H0_known hk b o hb
    obtain ⟨hlt', _, _, _, _, _, hH'⟩ := H0_known hk b' o' hb'
    have hlt : b < 9 := hlt
    have hlt' : b' < 9 := hlt'
    simp only [hlt, hlt', if_true] at hm hm'
    exact hw.inj _ _ _ _ _ _ _ hH hH' hm hm'
  · intro b hb
    have hb : 9 ≤ b := hb
    show (if b < 9 then μ b else none) = none
    rw [if_neg (by omega)]
  · intro g hg'
    have hg' : g < 9 := hg'
    obtain ⟨m, hm⟩ := hw.glob g (by rw [hg]; exact hg')
    exact ⟨m, hb9 _ _ hg' hm⟩

/-- the example, in whatever memory -/
theorem drawn_any {G : Ab.Ground} {μ : Map} {H : AHeap} {w : World} (hg : G.globals = 9) (hb9 : 9 ≤ G.base) (hw : WRel G μ H w) (hk : known H = true) : Calls Tryz.prog 4 #[] w fun e w' => e = .returned (.bool true) ∧ Kept w.heap.size w w' := by
  have hG : GOk ⟨⟨fun _ => [0], fnR⟩, G.base, 9⟩ := ⟨⟨rfl, fun _ => by show [0].length ≤ 100; decide⟩, fun _ => by show [0] ≠ []; decide, rfl, hb9⟩
  have h := kDrawn_ok hG 4 [] H0 (.bool true) ⟨Nat.add H0.next (Nat.sub 7231 9), H0.objs⟩ (by kernel_rfl) _ w #[] (wrel_vars hg hw hk) .nil
  refine calls_of_ok Tryz.func4 rfl rfl (h.mono fun e w' hp => ?_)
  cases e with
  | returned v' =>
    obtain ⟨μ', hx, hv⟩ := hp
    refine ⟨by cases hv; rfl, ⟨hx.os, hx.output, hx.size, fun c hc => hx.frame c hc fun b o m hb hm => ?_⟩⟩
    obtain ⟨_, cs, e, fz, rfl, _⟩ := H0_known known_H0 b o hb
    rfl
  | panicked _ => exact hp.elim
  | _ => exact hp.elim

/-! ### texts out of the law's bounds -/

theorem told_A {G : Ab.Ground} {l e : Nat → Bool} {d : Bool} (hg : G.globals = 9) (hb9 : 9 ≤ G.base) (hl : ∀ i, l i = decide (100 < (G.I.at_ i).length)) (he : ∀ i, e i = decide (G.I.at_ i = [])) (hd : d = decide (G.I.at_ 2 = G.I.at_ 1)) : Ab.Told (envA l e d) G where
  globals := hg.symm
  eqs := by
    intro x y b h
    have h : eqsA e d x y = some b := h
    unfold eqsA at h
    split at h
    · cases h; exact (he _).symm
    · cases h; exact hd.symm
    · cases h
  cmps := by
    intro op s n r h
    have h : cmpsA l op s n = some r := h
    unfold cmpsA at h
    split at h
    · rename_i i _
      have h := Option.some.inj h
      subst h
      show some (AVal.bool (intLt (Int.ofNat 100) ((G.I.at_ i).length : Int))) = some (AVal.bool (l i))
      rw [intLt_eq, hl]
      congr 2
      exact decide_eq_decide.2 (by simp only [Int.ofNat_eq_natCast]; omega)
    · cases h
  cats := fun _ _ _ h => by cases h
  orc := by
    intro f args H v H' h μ w args' hw ha
    have h : (bif Nat.beq f 4 then orcDrawn args H else none) = some (some (v, H')) := h
    cases hf : Nat.beq f 4 with
    | false => rw [hf] at h; cases h
    | true =>
      rw [hf] at h
      have hf := Nat.eq_of_beq_eq_true hf
      subst hf
      have h : orcDrawn args H = some (some (v, H')) := h
      unfold orcDrawn at h
      split at h
      · cases hk : known H with
        | false => rw [hk] at h; cases h
        | true =>
          rw [hk] at h
          obtain ⟨rfl, rfl⟩ := answer_eq h
          have e : args' = #[] := by
            obtain ⟨rs⟩ := args'
            cases ha
            rfl
          subst e
          exact fin_ok Tryz.func4 rfl rfl hw (drawn_any hg hb9 hw hk) (.bool true)
      · cases h
  funcs := codes_in

theorem bytesOf_nil {b : ByteArray} : bytesOf b = [] ↔ b.size = 0 := by
  rw [← List.length_eq_zero_iff, bytesOf_length]

theorem bytesOf_inj {a b : ByteArray} (h : bytesOf a = bytesOf b) : a = b := by rw [← toB_bytesOf a, ← toB_bytesOf b, h]

theorem bytesOf_lt (b : ByteArray) : ∀ n ∈ bytesOf b, n < 256 := by
  intro n hn
  rw [bytesOf_data] at hn
  unfold bl at hn
  obtain ⟨c, _, rfl⟩ := List.mem_map.1 hn
  exact c.toNat_lt

/-- the three texts -/
noncomputable def textsI (one two other : ByteArray) : Interp := ⟨fun i => if i = 0 then bytesOf one else if i = 1 then bytesOf two else if i = 2 then bytesOf other else [0], fnR⟩

theorem or_of (l0 l1 l2 e0 e1 e2 d : Bool) (h : ¬ (l0 || l1 || l2 || e0 || e1 || e2 || d) = true) : l0 = false ∧ l1 = false ∧ l2 = false ∧ e0 = false ∧ e1 = false ∧ e2 = false ∧ d = false := by
  cases l0 <;> cases l1 <;> cases l2 <;> cases e0 <;> cases e1 <;> cases e2 <;> cases d <;> simp at h ⊢

/-- ████ TopReveals: whatever its texts, it returns true -/
theorem top_any (one two other : ByteArray) {w : World} (v : Vars w) : Calls Tryz.prog 3 #[.string one, .string two, .string other] w fun e w' => e = .returned (.bool true) ∧ Kept w.heap.size w w' := by
  have a0 : (textsI one two other).at_ 0 = bytesOf one := rfl
  have a1 : (textsI one two other).at_ 1 = bytesOf two := rfl
  have a2 : (textsI one two other).at_ 2 = bytesOf other := rfl
  by_cases hA : (decide (100 < (bytesOf one).length) || decide (100 < (bytesOf two).length) || decide (100 < (bytesOf other).length) || decide (bytesOf one = []) || decide (bytesOf two = []) || decide (bytesOf other = []) || decide (bytesOf other = bytesOf two)) = true
  · let I : Interp := ⟨three (bytesOf one) (bytesOf two) (bytesOf other), fnR⟩
    refine top_of_ev (I := I) v rfl (told_A (l := three (decide (100 < (bytesOf one).length)) (decide (100 < (bytesOf two).length)) (decide (100 < (bytesOf other).length))) (e := three (decide (bytesOf one = [])) (decide (bytesOf two = [])) (decide (bytesOf other = []))) (d := decide (bytesOf other = bytesOf two)) rfl v.size ?_ ?_ rfl) (envA_ev _ _ _ _ _ _ _ hA) rfl rfl rfl
    · intro i
      show three _ _ _ i = decide (100 < (three (bytesOf one) (bytesOf two) (bytesOf other) i).length)
      unfold three
      cases Nat.beq i 0 <;> cases Nat.beq i 1 <;> rfl
    · intro i
      show three _ _ _ i = decide (three (bytesOf one) (bytesOf two) (bytesOf other) i = [])
      unfold three
      cases Nat.beq i 0 <;> cases Nat.beq i 1 <;> rfl
  · obtain ⟨l0, l1, l2, e0, e1, e2, d⟩ := or_of _ _ _ _ _ _ _ hA
    have l0 := of_decide_eq_false l0
    have l1 := of_decide_eq_false l1
    have l2 := of_decide_eq_false l2
    have e0 := of_decide_eq_false e0
    have e1 := of_decide_eq_false e1
    have e2 := of_decide_eq_false e2
    have d := of_decide_eq_false d
    have hstd : Std (textsI one two other) := ⟨rfl, fun i => by
      show (if i = 0 then bytesOf one else if i = 1 then bytesOf two else if i = 2 then bytesOf other else [0]).length ≤ 100
      split
      · omega
      · split
        · omega
        · split
          · omega
          · decide⟩
    have hG : GOk ⟨textsI one two other, w.heap.size, 9⟩ := ⟨hstd, fun i => by
      show (if i = 0 then bytesOf one else if i = 1 then bytesOf two else if i = 2 then bytesOf other else [0]) ≠ []
      split
      · exact e0
      · split
        · exact e1
        · split
          · exact e2
          · decide, rfl, v.size⟩
    have hc : ∀ x y, RuleOk (textsI one two other) (x, y, decide ((textsI one two other).den x = (textsI one two other).den y)) := fun x y => rfl
    have hrules : ∀ r ∈ rulesT (decide ((textsI one two other).den (yT (.atom 1)) = (textsI one two other).den (yT (.atom 2)))) (decide ((textsI one two other).den (yT (.atom 1)) = (textsI one two other).den (yT (.lit []))))
        (decide ((textsI one two other).den (xsT (.atom 0) (.atom 1)) = (textsI one two other).den (xsT (.atom 0) (.atom 2)))), RuleOk (textsI one two other) r := by
      intro r hr
      unfold rulesT at hr
      rcases List.mem_cons.1 hr with rfl | hr
      · exact payRule_ok hstd
      rcases List.mem_cons.1 hr with rfl | hr
      · exact decide_eq_false d
      rcases List.mem_cons.1 hr with rfl | hr
      · exact hc _ _
      rcases List.mem_cons.1 hr with rfl | hr
      · exact hc _ _
      rcases List.mem_cons.1 hr with rfl | hr
      · exact hc _ _
      rw [List.mem_singleton.1 hr]
      exact jsT_ne hstd (fun e => d e.symm) (bytesOf_lt two) (bytesOf_lt other)
    exact top_of_ev (I := textsI one two other) v rfl (told_R hG hrules (bit_is rfl rfl) (mTop_ok hG (hc _ _) (hc _ _) rfl)) (top_ev _ _ _ _) a0 a1 a2
end Go.Rev
