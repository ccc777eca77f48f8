/- Walks: foyerref02.Joined. -/
import Derived.Test.YtccbadojfbdegaaGreatDoorWalkC
/- The walk of foyerref02.Decimal. -/
namespace Go.Proofs
open Go.RowKit

def decB (n : Nat) : ByteArray := ⟨(Lib.decDigits n).toArray⟩
def dig1 (n : Nat) : ByteArray := ⟨#[UInt8.ofNat (48 + n % 10)]⟩

theorem slice_digit (n : Nat) (w : World) : (Instr.slice 9 (.string { data := #[48, 49, 50, 51, 52, 53, 54, 55, 56, 57] }) (some (.int .u64 ((n : Int) % 10))) (some (.int .u64 ((n : Int) % 10 + 1))) none).run Tryz.prog w = .ok (.string (dig1 n)) w := by
  have h : n % 10 < 10 := Nat.mod_lt _ (by decide)
  have e : ((n : Int) % 10) = ((n % 10 : Nat) : Int) := by omega
  unfold dig1
  rw [e]
  generalize n % 10 = d at h
  have hd : d = 0 ∨ d = 1 ∨ d = 2 ∨ d = 3 ∨ d = 4 ∨ d = 5 ∨ d = 6 ∨ d = 7 ∨ d = 8 ∨ d = 9 := by omega
  rcases hd with rfl | rfl | rfl | rfl | rfl | rfl | rfl | rfl | rfl | rfl
  all_goals exact Eq.trans (by kernel_rfl) rfl

theorem dig1_size (n : Nat) : (dig1 n).size = 1 := rfl

theorem decDigits_small {n : Nat} (h : n < 10) : Lib.decDigits n = (dig1 n).data.toList := by
  rw [Lib.decDigits, dif_pos h]
  simp [dig1, Nat.mod_eq_of_lt h]
theorem decDigits_big {n : Nat} (h : ¬ n < 10) : Lib.decDigits n = Lib.decDigits (n / 10) ++ (dig1 n).data.toList := by
  rw [Lib.decDigits, dif_neg h]
  simp [dig1]

theorem decB_len (n : Nat) : (Lib.decDigits n).length ≤ n + 1 := by
  rw [Lib.decDigits_length]; exact nDigits_le n

set_option maxRecDepth 100000 in
set_option maxHeartbeats 400000 in
theorem digits_any (n : Nat) (hn : n ≤ 1000) (w : World) :
    Calls Tryz.prog 54 #[.int .u64 n] w fun e w' => e = .returned (.string (decB n)) ∧ w' = w := by
  have h0 := slice_digit n w
  go_enter Tryz.func54, Tryz.ntmps54
  go_wp2
  go_loop [0, 3] (fun v0 v3 => ∃ (m : Nat) (s : ByteArray), v0 = .int .u64 m ∧ v3 = .string s ∧ m ≤ 1000 ∧ Lib.decDigits n = (if m = 0 then [] else Lib.decDigits m) ++ s.data.toList) (fun v0 _ => (intOf v0).toNat)
  case atStart =>
    refine ⟨n / 10, dig1 n, by rw [Int.natCast_ediv]; rfl, rfl, by omega, ?_⟩
    by_cases h : n < 10
    · rw [if_pos (by omega), decDigits_small h]; rfl
    · rw [if_neg (by omega), decDigits_big h]
  case round =>
    obtain ⟨m, s, rfl, rfl, hm, hdec⟩ := hrel
    have hs : s.size ≤ 1001 := by
      have h3 := decB_len n
      have h4 : s.data.toList.length = s.size := by simp
      rw [hdec, List.length_append, h4] at h3
      omega
    have h1 := slice_digit m w
    have h2 := dig1_size m
    go_wp2
    · have hp : 0 < m := by omega
      go_round
      case rel =>
        refine ⟨m / 10, dig1 m ++ s, by rw [Int.natCast_ediv]; rfl, rfl, by omega, ?_⟩
        · rw [hdec, if_neg (by omega)]
          by_cases h : m < 10
          · rw [if_pos (by omega), decDigits_small h]; simp [ByteArray.data_append]
          · rw [if_neg (by omega), decDigits_big h]; simp [ByteArray.data_append]
      case measure => simp [intOf]; omega
    · have hz : m = 0 := by omega
      subst hz
      go_ret
      refine ⟨?_, rfl⟩
      simp only [if_true, List.nil_append] at hdec
      have : s = decB n := by
        unfold decB
        rw [hdec]
      rw [this]
      rfl

set_option maxRecDepth 100000 in
set_option maxHeartbeats 400000 in
theorem decimal_any (n : Nat) (hn : n ≤ 1000) (w : World) :
    Calls Tryz.prog 18 #[.int .i64 n] w fun e w' => e = .returned (.string (decB n)) ∧ w' = w := by
  go_enter Tryz.func18, Tryz.ntmps18
  go_wp2_with (go_at_call 54; refine (digits_any n hn w).mono ?_; rintro e w1 ⟨rfl, rfl⟩)
  go_ret
  exact ⟨rfl, rfl⟩
end Go.Proofs
/- The walk of foyerref02.Joined. -/
namespace Go.Proofs
open Go.RowKit

def jn1 (s : ByteArray) : List UInt8 := Lib.decDigits s.size ++ 58 :: s.data.toList
def jnL (xs : List ByteArray) : List UInt8 := xs.flatMap jn1
def jnS (xs : List ByteArray) : Nat := (xs.map fun s => s.size + 21).sum

theorem jnS_le (xs : List ByteArray) (hx : ∀ x ∈ xs, x.size ≤ 1000) : jnS xs ≤ 1021 * xs.length := by
  induction xs with
  | nil => simp [jnS]
  | cons x xs ih =>
    have := ih fun y hy => hx y (by simp [hy])
    have := hx x (by simp)
    simp only [jnS, List.map_cons, List.sum_cons, List.length_cons] at *
    omega

theorem jnS_take (xs : List ByteArray) (k : Nat) (h : k < xs.length) : jnS (xs.take (k + 1)) = jnS (xs.take k) + (xs[k].size + 21) := by
  unfold jnS
  rw [List.take_succ_eq_append_getElem h, List.map_append, List.sum_append]
  rfl

theorem jnL_take (xs : List ByteArray) (k : Nat) (h : k < xs.length) : jnL (xs.take (k + 1)) = jnL (xs.take k) ++ jn1 xs[k] := by
  unfold jnL
  rw [List.take_succ_eq_append_getElem h, List.flatMap_append]
  simp only [List.flatMap_cons, List.flatMap_nil, List.append_nil]

theorem jn1_len (s : ByteArray) (h : s.size ≤ 1000) : (jn1 s).length ≤ 2002 := by
  have := decB_len s.size
  have e : s.data.toList.length = s.size := by simp
  unfold jn1
  simp only [List.length_append, List.length_cons, e]
  omega

theorem jnL_len (xs : List ByteArray) (hx : ∀ x ∈ xs, x.size ≤ 1000) : (jnL xs).length ≤ 2002 * xs.length := by
  induction xs with
  | nil => simp [jnL]
  | cons x xs ih =>
    have h1 := jn1_len x (hx x (by simp))
    have h2 := ih fun y hy => hx y (by simp [hy])
    simp only [jnL, List.flatMap_cons, List.length_append, List.length_cons] at h2 ⊢
    omega

theorem conv_nil (w : World) : (convert 60 9 (.slice none 0 0)).run Tryz.prog w = .ok (.string ⟨#[]⟩) w := by kernel_rfl

theorem conv_own {base : Nat} {v : Value} {l : List UInt8} {w : World} (h : w.ownsRow base 5 1 v l.length (Lib.byteCells l)) : (convert 60 9 v).run Tryz.prog w = .ok (.string ⟨l.toArray⟩) w := by
  rcases h.2 with ⟨rfl, h0⟩ | ⟨g, cap, cur, rfl, hb, hg, hn, hc, hs, ht⟩
  · have : l = [] := List.eq_nil_of_length_eq_zero h0
    subst this
    exact conv_nil w
  · refine run_convert_bytes_back w 60 9 5 ⟨g, 0, none⟩ cap l Tryz.underlying60 Tryz.underlying5 Tryz.underlying9 fun j hj => ?_
    have := h.cells (g := g) rfl j (.int .u8 (l[j].toNat : Int)) (by simp [Lib.byteCells, hj])
    exact this

set_option maxRecDepth 100000 in
set_option maxHeartbeats 1000000 in
theorem joined_any (bk o c : Nat) (xs : List ByteArray) (w : World) (hx : ∀ x ∈ xs, x.size ≤ 1000) (hn : xs.length ≤ 1000) (hcells : ∀ (j : Nat) x, xs[j]? = some x → w.cell? ⟨bk, o + j, none⟩ = some (.string x)) (hbk : bk < w.heap.size) :
    Calls Tryz.prog 8 #[.slice (some ⟨bk, o, none⟩) xs.length c] w fun e w' => e = .returned (.string ⟨(jnL xs).toArray⟩) ∧ Below w.heap.size w w' := by
  obtain ⟨i0, hi0, hz0, hz1, hz2⟩ := info_parts Tryz.builderExtra.infoByte
  have hi : Tryz.prog.info? 5 = some i0 := hi0
  clear hi0
  have hget : ∀ k, k < xs.length → xs[k]? = some (xs.getD k ⟨#[]⟩) := fun k h => by simp [h]
  go_enter Tryz.func8, Tryz.ntmps8
  go_wp2
  go_loop [3, 4] (fun v3 v4 => ∃ k : Nat, k ≤ xs.length ∧ v4 = .int .i64 k ∧ v3 = .int .i64 (jnS (xs.take k) : Nat)) (fun _ i => xs.length - (intOf i).toNat)
  case atStart => exact ⟨0, by omega, rfl, rfl⟩
  case round =>
    obtain ⟨k, hk, rfl, rfl⟩ := hrel
    have hsum : jnS (xs.take k) ≤ 1021000 := by
      have := jnS_le (xs.take k) fun x hx' => hx x (List.mem_of_mem_take hx')
      have h4 : (xs.take k).length ≤ 1000 := by simp; omega
      omega
    by_cases hlt : k < xs.length
    · have hcx : w.cell? ⟨bk, o + k, none⟩ = some (.string (xs.getD k ⟨#[]⟩)) := hcells k _ (hget k hlt)
      have hsz : xs[k].size ≤ 1000 := hx _ (List.getElem_mem hlt)
      go_wp2
      go_round
      case rel =>
        refine ⟨k + 1, by omega, by go_num, ?_⟩
        rw [jnS_take _ _ hlt]
        congr 1
      case measure => simp [intOf]; omega
    · have hkk : k = xs.length := by omega
      subst hkk
      rw [List.take_length] at hsum ⊢
      go_wp2_with (at_make; refine wpList_make_own _ rfl _ _ 60 rfl w.heap.size 5 i0 (.int .u8 0) 1 Tryz.underlying60 hi hz0 hz1 _ _ _ (jnS xs) rfl rfl (by rfl) ?b2 ?b3 (Nat.le_refl _) ?_)
      case b2 => omega
      case b3 => unfold maxLen; omega
      intro w0 hown0 hgrow0
      go_wp2
      go_loopw [5, 6] (fun v5 v6 wr => ∃ k : Nat, k ≤ xs.length ∧ v6 = .int .i64 k ∧ wr.ownsRow w.heap.size 5 1 v5 (jnL (xs.take k)).length (Lib.byteCells (jnL (xs.take k))) ∧ Below w.heap.size w wr) (fun _ i _ => xs.length - (intOf i).toNat)
      case atStart => exact ⟨0, by omega, rfl, hown0, (Below.refl _ _).grown hgrow0 (Nat.le_refl _) (fun k h => by cases h)⟩
      case round =>
        obtain ⟨k, hk, rfl, hown, hbel⟩ := hrel
        by_cases hlt : k < xs.length
        · have hcx : wr.cell? ⟨bk, o + k, none⟩ = some (.string (xs.getD k ⟨#[]⟩)) := (hbel.cell (by exact hbk)).trans (hcells k _ (hget k hlt))
          have hsz : xs[k].size ≤ 1000 := hx _ (List.getElem_mem hlt)
          have hl1 : (jnL (xs.take k)).length ≤ 2002000 := by
            have := jnL_len (xs.take k) fun x hx' => hx x (List.mem_of_mem_take hx')
            have h4 : (xs.take k).length ≤ 1000 := by simp; omega
            omega
          have hl2 : (decB xs[k].size).size ≤ 1001 := by
            have h4 : (decB xs[k].size).size = (Lib.decDigits xs[k].size).length := List.size_toArray
            have := decB_len xs[k].size
            omega
          go_wp2_with (first
            | (go_at_call 18; refine (decimal_any _ hsz _).mono ?_; rintro e w1 ⟨rfl, rfl⟩)
            | (at_builtin; refine Lib.wpList_append_own_string _ rfl _ _ 60 9 rfl w.heap.size 5 i0 Tryz.underlying60 Tryz.underlying9 hi hz0 hz1 hz2 _ _ _ rfl hown _ rfl ?c3 ?c4 ?c5 ?_))
          case c3 => unfold maxLen; omega
          case c4 => omega
          case c5 => exact hbel.size
          intro v1 w2 hown1 hg1 _
          have hb1 : Below w.heap.size w w2 := hbel.grown hg1 hbel.size (fun j hj => (hown.lt j hj).1)
          go_wp2_with (at_builtin; refine wpList_append_own _ rfl _ _ 60 rfl w.heap.size 5 i0 (.int .u8 0) 1 1 Tryz.underlying60 hi hz0 hz1 hz2 rfl (by decide) _ _ _ rfl (hown1.alloc _) ⟨w2.heap.size, 0, none⟩ 1 1 [.int .u8 58] rfl rfl ?d1 ?d2 ?d3 ?d4 ?d5 ?_)
          case d1 =>
            intro j u hj
            match j, hj with
            | 0, hj => simp at hj; subst hj; simp [Addr.add]
          case d2 => intro u hu; simp at hu; subst hu; rfl
          case d3 => unfold maxLen; omega
          case d4 => omega
          case d5 => have := hb1.size; simp; omega
          intro v2 w3 hown2 hg2 _
          have hb2 : Below w.heap.size w w3 := (hb1.alloc hb1.size _).grown hg2 (by have := hb1.size; simp; omega) (fun j hj => (hown1.lt j hj).1)
          have hcx2 : w3.cell? ⟨bk, o + k, none⟩ = some (.string (xs.getD k ⟨#[]⟩)) := (hb2.cell (by exact hbk)).trans (hcells k _ (hget k hlt))
          go_wp2_with (at_builtin; refine Lib.wpList_append_own_string _ rfl _ _ 60 9 rfl w.heap.size 5 i0 Tryz.underlying60 Tryz.underlying9 hi hz0 hz1 hz2 _ _ _ rfl hown2 _ rfl ?e3 ?e4 ?e5 ?_)
          case e3 => unfold maxLen; omega
          case e4 => omega
          case e5 => exact hb2.size
          intro v3 w4 hown3 hg3 _
          have hb3 : Below w.heap.size w w4 := hb2.grown hg3 hb2.size (fun j hj => (hown2.lt j hj).1)
          go_wp2
          go_roundw
          case rel =>
            refine ⟨k + 1, by omega, by go_num, ?_, hb3⟩
            have e1 : Lib.byteCells (jnL (xs.take (k + 1))) = Lib.byteCells (jnL (xs.take k)) ++ (Lib.strCells (decB xs[k].size) ++ .int .u8 58 :: Lib.strCells xs[k]) := by
              rw [jnL_take _ _ hlt]
              simp [Lib.byteCells, Lib.strCells, jn1, decB]
            have e2 : (jnL (xs.take (k + 1))).length = (jnL (xs.take k)).length + (decB xs[k].size).size + 1 + xs[k].size := by
              have e3 := congrArg List.length e1
              simp only [Lib.byteCells_length, List.length_append, Lib.strCells_length, List.length_cons] at e3
              omega
            rw [e1, e2]
            exact hown3
          case measure => simp [intOf]; omega
        · have hkk : k = xs.length := by omega
          subst hkk
          rw [List.take_length] at hown
          have hcv := conv_own hown
          go_wp2
          go_ret
          exact ⟨rfl, hbel⟩
end Go.Proofs
