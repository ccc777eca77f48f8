/- All that the law calls. -/
import Derived.Test.YtccbadojfbdegaaGreatDoorTold
import Derived.Test.YtccbadojfbdegaaGreatDoorEnv
import Derived.Test.YtccbadojfbdegaaGreatDoorEvM
import Derived.Test.YtccbadojfbdegaaGreatDoorEvA
import Derived.Test.YtccbadojfbdegaaGreatDoorEvB
import Derived.Test.YtccbadojfbdegaaGreatDoorEvC
import Derived.Test.YtccbadojfbdegaaGreatDoorEvD
import Derived.Test.YtccbadojfbdegaaGreatDoorEvE
import Derived.Test.YtccbadojfbdegaaGreatDoorEvF
import Derived.Test.YtccbadojfbdegaaGreatDoorEvG
import Derived.Test.YtccbadojfbdegaaGreatDoorEvH
import Derived.Test.YtccbadojfbdegaaGreatDoorEvI
import Derived.Test.YtccbadojfbdegaaGreatDoorEvJ
import Derived.Test.YtccbadojfbdegaaGreatDoorEvK
import Derived.Test.YtccbadojfbdegaaGreatDoorEvL
/- All that the law calls, as the evaluator is told of it. -/
namespace Go.Rev
open Go.Ab Go.Proofs Go.RowKit

variable {G : Ab.Ground}

theorem no_rules {I : Interp} : ∀ r ∈ ([] : List (AStr × AStr × Bool)), RuleOk I r := fun _ h => by cases h
theorem no_bits {I : Interp} : ∀ r ∈ ([] : List (AStr × Bool)), BitOk I r := fun _ h => by cases h

theorem mClasses_ok (hG : GOk G) : MoreOk mClasses G :=
  orElse_ok (know_ok hG (told_R hG no_rules no_bits (more_none G)) kClasses_good kClasses_ev) (more_none G)
theorem mLex_ok (hG : GOk G) : MoreOk mLex G :=
  orElse_ok (know_ok hG (told_R hG no_rules no_bits (mClasses_ok hG)) kPlan_good kPlan_ev)
    (orElse_ok (know_ok hG (told_R hG no_rules no_bits (mClasses_ok hG)) kRules_good kRules_ev) (more_none G))
theorem mRun_ok (hG : GOk G) : MoreOk mRun G :=
  orElse_ok (know_ok hG (told_R hG no_rules no_bits (mLex_ok hG)) kBuild_good kBuild_ev) (more_none G)

/-- the bit of a seed -/
noncomputable def bitB (I : Interp) (s : AStr) : Bool := decide ((digN (toB (I.den s)) : Int).tmod 2 = 1)

theorem bit_ok {I : Interp} {s : AStr} (h : isDigest s = true) : BitOk I (s, bitB I s) := by
  refine ⟨h, ?_⟩
  show ((digN (toB (I.den s)) : Int).tmod 2) = if bitB I s then 1 else 0
  unfold bitB
  generalize digN (toB (I.den s)) = n
  have e : ((n : Int).tmod 2) = ((n % 2 : Nat) : Int) := rfl
  rw [e]
  have : n % 2 = 0 ∨ n % 2 = 1 := by omega
  rcases this with h | h <;> rw [h] <;> rfl

theorem bit_is {I : Interp} {s : AStr} (h : isDigest s = true) {b : Bool} (e : bitB I s = b) : ∀ r ∈ [(s, b)], BitOk I r := by
  intro r hr
  rw [List.mem_singleton.1 hr, ← e]
  exact bit_ok h

theorem pay_ne : decide (bytesOf (sumB hexL (toB [113])) = bytesOf (sumB hexL (toB [112]))) = false := by kernel_rfl
theorem payRule_ok {I : Interp} (hI : Std I) : RuleOk I payRule := by
  show decide (I.fn 11 [[113]] = I.fn 11 [[112]]) = false
  rw [hI.fn]
  exact pay_ne

theorem rule1 {I : Interp} (hI : Std I) : ∀ r ∈ [payRule], RuleOk I r := by
  intro r hr
  rw [List.mem_singleton.1 hr]
  exact payRule_ok hI

theorem kDrawn_ok (hG : GOk G) : MoreOk (tryK kDrawn) G := by
  cases hb : bitB G.I (seed (.lit [49]) (.lit [50])) with
  | false => exact know_ok hG (told_R hG (rule1 hG.std) (bit_is rfl hb) (mRun_ok hG)) kDrawn_good kDrawn_ev0
  | true => exact know_ok hG (told_R hG (rule1 hG.std) (bit_is rfl hb) (mRun_ok hG)) kDrawn_good kDrawn_ev1

theorem kRunA_ok (hG : GOk G) : MoreOk (tryK kRunA) G := by
  cases hb : bitB G.I (seed (.atom 0) (.atom 1)) with
  | false => exact know_ok hG (told_R hG (rule1 hG.std) (bit_is rfl hb) (mRun_ok hG)) kRunA_good kRunA_ev0
  | true => exact know_ok hG (told_R hG (rule1 hG.std) (bit_is rfl hb) (mRun_ok hG)) kRunA_good kRunA_ev1

theorem rule2 {I : Interp} (hI : Std I) {a : AStr × AStr × Bool} (ha : RuleOk I a) : ∀ r ∈ [payRule, a], RuleOk I r := by
  intro r hr
  rcases List.mem_cons.1 hr with rfl | hr
  · exact payRule_ok hI
  · rw [List.mem_singleton.1 hr]; exact ha

theorem rule3 {I : Interp} (hI : Std I) {a b : AStr × AStr × Bool} (ha : RuleOk I a) (hb : RuleOk I b) : ∀ r ∈ [payRule, a, b], RuleOk I r := by
  intro r hr
  rcases List.mem_cons.1 hr with rfl | hr
  · exact payRule_ok hI
  · rcases List.mem_cons.1 hr with rfl | hr
    · exact ha
    · rw [List.mem_singleton.1 hr]; exact hb

theorem kRunB_ok (hG : GOk G) {c e : Bool} (hc : RuleOk G.I (yT (.atom 1), yT (.atom 2), c)) (he : RuleOk G.I (yT (.atom 1), yT (.lit []), e)) : MoreOk (tryK (kRunB c e)) G := by
  cases c with
  | true =>
    cases hb : bitB G.I (seed (.atom 0) (.atom 2)) with
    | false => exact know_ok hG (told_R hG (rule2 hG.std hc) (bit_is rfl hb) (mRun_ok hG)) kRunB1_good kRunB1_ev0
    | true => exact know_ok hG (told_R hG (rule2 hG.std hc) (bit_is rfl hb) (mRun_ok hG)) kRunB1_good kRunB1_ev1
  | false =>
    cases e with
    | true =>
      cases hb : bitB G.I (seed (.atom 0) (.lit [])) with
      | false => exact know_ok hG (told_R hG (rule3 hG.std hc he) (bit_is rfl hb) (mRun_ok hG)) kRunB2_good kRunB2_ev0
      | true => exact know_ok hG (told_R hG (rule3 hG.std hc he) (bit_is rfl hb) (mRun_ok hG)) kRunB2_good kRunB2_ev1
    | false => exact know_ok hG (told_R hG (rule3 hG.std hc he) no_bits (mRun_ok hG)) kRunB3_good kRunB3_ev

theorem kRunC_ok (hG : GOk G) {d : Bool} (hd : bitB G.I (seed (.atom 0) (.atom 2)) = d) : MoreOk (tryK (kRunC d)) G := by
  cases d with
  | false => exact know_ok hG (told_R hG (rule1 hG.std) (bit_is rfl hd) (mRun_ok hG)) kRunC0_good kRunC_ev0
  | true => exact know_ok hG (told_R hG (rule1 hG.std) (bit_is rfl hd) (mRun_ok hG)) kRunC1_good kRunC_ev1

theorem mTop_ok (hG : GOk G) {c e d : Bool} (hc : RuleOk G.I (yT (.atom 1), yT (.atom 2), c)) (he : RuleOk G.I (yT (.atom 1), yT (.lit []), e)) (hd : bitB G.I (seed (.atom 0) (.atom 2)) = d) : MoreOk (mTop c e d) G :=
  orElse_ok (kDrawn_ok hG) (orElse_ok (kRunA_ok hG) (orElse_ok (kRunB_ok hG hc he) (orElse_ok (kRunC_ok hG hd) (more_none G))))

/-! ### the joined texts are apart -/

theorem nDigits_mono (a b : Nat) (h : a ≤ b) : Lib.nDigits a ≤ Lib.nDigits b := by
  induction b using Nat.strongRecOn generalizing a with
  | ind b ih =>
    unfold Lib.nDigits
    split <;> split
    · omega
    · omega
    · omega
    · have := ih (b / 10) (by omega) (a / 10) (by omega)
      omega

theorem jn1_inj {a b : ByteArray} (h : jn1 a = jn1 b) : a = b := by
  have hl := congrArg List.length h
  have ha : a.data.toList.length = a.size := by simp
  have hb : b.data.toList.length = b.size := by simp
  simp only [jn1, List.length_append, List.length_cons, Lib.decDigits_length, ha, hb] at hl
  have hs : a.size = b.size := by
    rcases Nat.lt_trichotomy a.size b.size with h1 | h1 | h1
    · have := nDigits_mono a.size b.size (by omega); omega
    · exact h1
    · have := nDigits_mono b.size a.size (by omega); omega
  unfold jn1 at h
  rw [hs] at h
  have := List.cons.inj (List.append_cancel_left h)
  have h2 := this.2
  apply ByteArray.ext
  exact Array.toList_inj.1 h2

theorem jsT_ne {I : Interp} (hI : Std I) (h : I.at_ 1 ≠ I.at_ 2) (h1 : ∀ n ∈ I.at_ 1, n < 256) (h2 : ∀ n ∈ I.at_ 2, n < 256) : RuleOk I (jsT (.atom 0) (.atom 1), jsT (.atom 0) (.atom 2), false) := by
  show decide (I.fn 8 _ = I.fn 8 _) = false
  rw [hI.fn]
  refine decide_eq_false fun e => ?_
  have e : bytesOf ⟨(jnL ((I.dens [root, .lit [120], .atom 0, .lit [121], .atom 1]).map toB)).toArray⟩ = bytesOf ⟨(jnL ((I.dens [root, .lit [120], .atom 0, .lit [121], .atom 2]).map toB)).toArray⟩ := e
  rw [bytesOf_bl, bytesOf_bl] at e
  have inj : ∀ {a b : List UInt8}, bl a = bl b → a = b := by
    intro a b hab
    have := congrArg (List.map UInt8.ofNat) hab
    unfold bl at this
    rw [List.map_map, List.map_map] at this
    have hid : (UInt8.ofNat ∘ UInt8.toNat) = id := by funext c; simp
    rw [hid, List.map_id, List.map_id] at this
    exact this
  have e := inj e
  simp only [dens_eq, List.map_cons, List.map_nil, jnL, List.flatMap_cons, List.flatMap_nil, List.append_nil] at e
  have e := List.append_cancel_left (List.append_cancel_left (List.append_cancel_left (List.append_cancel_left e)))
  have e := jn1_inj e
  have e : toB (I.at_ 1) = toB (I.at_ 2) := e
  have back : ∀ l : List Nat, (∀ n ∈ l, n < 256) → bytesOf (toB l) = l := by
    intro l hl
    unfold toB
    rw [bytesOf_bl]
    unfold bl
    rw [List.map_map]
    conv => rhs; rw [← List.map_id l]
    refine List.map_congr_left fun n hn => ?_
    simp [Nat.mod_eq_of_lt (hl n hn)]
  exact h (by rw [← back _ h1, ← back _ h2, e])

end Go.Rev
