/- Walks: digest.Below. -/
import Derived.Lib.ConvBytes
import Derived.Lib.AtoiAllMem
import Derived.Lib.Hide
import Derived.Laws.Strings3
import Derived.BigCall
import Derived.BigGuard
import Derived.Test.YtccbadojfbdegaaGreatDoorWalkB
/- The walk of strconv.ParseUint at fifteen digits of base sixteen. -/
namespace Go.Proofs
open Go.RowKit

def hexV (c : UInt8) : Nat := if c.toNat ≤ 57 then c.toNat - 48 else c.toNat - 87
def hexN (acc : Nat) (l : List UInt8) : Nat := l.foldl (fun a c => a * 16 + hexV c) acc

theorem hexV_lt : ∀ c ∈ hexB, hexV c < 16 := by decide

set_option maxRecDepth 100000 in
set_option maxHeartbeats 4000000 in
theorem parseUint_any (t : ByteArray) (h15 : t.size = 15) (hh : ∀ b ∈ t.data.toList, b ∈ hexB) (w : World) :
    Calls Tryz.prog 393 #[.string t, .int .i64 16, .int .i64 64] w fun e w' => e = .returned (.tuple #[.int .u64 (hexN 0 t.data.toList : Nat), .nilIface]) ∧ Below w.heap.size w w' := by
  have hemp : t.toList.isEmpty = false := by
    rw [← decide_eq_emptyBytes]
    exact decide_eq_false (fun h => by rw [h] at h15; cases h15)
  have hcv := Lib.run_convert_string_bytes (P := Tryz.prog) w 9 60 5 t (u := .string) Tryz.underlying9 Tryz.underlying60 Tryz.underlying5
  have hB : ∀ j, j < t.size → (Lib.bytesWorld w 5 t).cell? ⟨w.heap.size, j, none⟩ = some (.int .u8 (t.data.toList.getD j 0).toNat) := fun j hj => Lib.bytesWorld_cell w 5 t j hj
  have hBel : Below w.heap.size w (Lib.bytesWorld w 5 t) := by
    exact ⟨rfl, rfl, rfl, by rw [Lib.bytesWorld_size]; omega, fun i hi => Lib.bytesWorld_at_old w 5 t i hi⟩
  obtain ⟨W1, hW1⟩ : ∃ W1, W1 = Lib.bytesWorld w 5 t := ⟨_, rfl⟩
  rw [← hW1] at hcv hB hBel
  clear hW1
  obtain ⟨bs, hL⟩ : ∃ bs, bs = t.data.toList := ⟨_, rfl⟩
  have hLn : bs.length = t.size := by rw [hL, Lib.size_eq]
  rw [← hL] at hB hh ⊢
  clear hL
  have hsz : (t.size : Int) = 15 := by rw [h15]; rfl
  have hmv : IntKind.u64.wrap (IntKind.u64.wrap 18446744073709551616 - 1) = 18446744073709551615 := by
    rw [IntKind.wrap_u64, IntKind.wrap_u64]
    decide
  go_enter Tryz.func393, Tryz.ntmps393
  go_wp2
  go_loop [12, 13, 101] (fun vu vn vi => ∃ (k acc : Nat) (a : Int), vu = .bool false ∧ vn = .int .u64 a ∧ vi = .int .i64 k ∧ k ≤ 15 ∧ Hid (a = (acc : Int) ∧ acc < 16 ^ k ∧ hexN 0 bs = hexN acc (bs.drop k)))
    (fun _ _ vi => 15 - (intOf vi).toNat)
  case atStart => exact ⟨0, 0, 0, rfl, rfl, rfl, by omega, rfl, by simp, rfl⟩
  case round =>
    obtain ⟨k, acc, a, rfl, rfl, rfl, hk, hh2⟩ := hrel
    obtain ⟨ha, hacc, hdec⟩ := hh2.out
    clear hh2
    by_cases hkn : k < 15
    · have hp : acc < 16 ^ 14 := Nat.lt_of_lt_of_le hacc (Nat.pow_le_pow_right (by decide) (by omega))
      have a0 : 0 ≤ a := by omega
      have a1 : a < 72057594037927936 := by omega
      have hc := hB k (by omega)
      have hdrop : bs.drop k = bs[k]'(by omega) :: bs.drop (k + 1) := List.drop_eq_getElem_cons (by omega)
      have hget : bs.getD k 0 = bs[k]'(by omega) := by simp [List.getD, List.getElem?_eq_getElem (show k < bs.length by omega)]
      have hmem : bs[k]'(by omega) ∈ hexB := hh _ (List.getElem_mem _)
      rw [hdrop] at hdec
      rw [hget] at hc
      generalize bs[k]'(by omega) = c at hc hdec hmem
      have hv := hexV_lt c hmem
      clear hB hdrop hget hh
      have hacc2 : acc * 16 + hexV c < 16 ^ (k + 1) := by rw [Nat.pow_succ]; omega
      have HN : ∀ x : Int, x = a * 16 + (hexV c : Int) → Hid (x = ((acc * 16 + hexV c : Nat) : Int) ∧ acc * 16 + hexV c < 16 ^ (k + 1) ∧ hexN 0 bs = hexN (acc * 16 + hexV c) (bs.drop (k + 1))) := fun x hx => Lib.hid ⟨by omega, hacc2, hdec⟩
      by_cases hdig : 48 ≤ c.toNat ∧ c.toNat ≤ 57
      · obtain ⟨hd0, hd1⟩ := hdig
        have hcv' : (hexV c : Int) = (c.toNat : Int) - 48 := by unfold hexV; rw [if_pos hd1]; omega
        clear hacc hdec ha hp hmem
        have icut : a < 1152921504606846976 := by omega
        go_wp2
        refine ⟨⟨k + 1, acc * 16 + hexV c, a * 16 + ((c.toNat : Int) - 48), rfl, (by first | rfl | (congr 1; omega)), (by first | rfl | (congr 1; omega)), by omega, HN _ (by omega)⟩, by simp [intOf]; omega⟩
      · have hlet : 97 ≤ c.toNat ∧ c.toNat ≤ 102 := by
          have : ∀ c ∈ hexB, ¬ (48 ≤ c.toNat ∧ c.toNat ≤ 57) → 97 ≤ c.toNat ∧ c.toNat ≤ 102 := by decide
          exact this c hmem hdig
        obtain ⟨hd0, hd1⟩ := hlet
        have hcv' : (hexV c : Int) = (c.toNat : Int) - 87 := by unfold hexV; rw [if_neg (by omega)]; omega
        have hlow : bits .or .u8 (c.toNat : Int) 32 = (c.toNat : Int) := by
          have : ∀ c ∈ hexB, ¬ (48 ≤ c.toNat ∧ c.toNat ≤ 57) → bits .or .u8 (c.toNat : Int) 32 = (c.toNat : Int) := by decide
          exact this c hmem hdig
        have hc57 : (57 : Int) < c.toNat := by omega
        clear hacc hdec ha hp hmem
        have icut : a < 1152921504606846976 := by omega
        go_wp2
        refine ⟨⟨k + 1, acc * 16 + hexV c, a * 16 + ((c.toNat : Int) - 87), rfl, (by first | rfl | (congr 1; omega)), (by first | rfl | (congr 1; omega)), by omega, HN _ (by omega)⟩, by simp [intOf]; omega⟩
    · have hkk : k = 15 := by omega
      subst hkk
      have hF : hexN acc (bs.drop 15) = acc := by rw [List.drop_eq_nil_of_le (by omega)]; rfl
      rw [hF] at hdec
      clear hacc hF
      go_wp2
      go_ret2
      exact ⟨by first | rfl | rw [hdec, ha], hBel⟩
end Go.Proofs
/- The walk of digest.Below at digests. -/
namespace Go.Proofs
open Go.RowKit

theorem hexN_lt (l : List UInt8) (h : ∀ b ∈ l, b ∈ hexB) (acc k : Nat) (ha : acc < 16 ^ k) : hexN acc l < 16 ^ (k + l.length) := by
  induction l generalizing acc k with
  | nil => simpa [hexN] using ha
  | cons c l ih =>
    have hc := hexV_lt c (h c (by simp))
    have := ih (fun b hb => h b (by simp [hb])) (acc * 16 + hexV c) (k + 1) (by rw [Nat.pow_succ]; omega)
    simp only [List.length_cons]
    rw [show k + (l.length + 1) = k + 1 + l.length by omega]
    exact this

set_option maxRecDepth 100000 in
set_option maxHeartbeats 400000 in
theorem parseInt_in (t : ByteArray) (h15 : t.size = 15) (hh : ∀ b ∈ t.data.toList, b ∈ hexB) (w : World) :
    Calls Tryz.prog 297 #[.string t, .int .i64 16, .int .i64 64] w fun e w' => e = .returned (.tuple #[.int .i64 (hexN 0 t.data.toList : Nat), .nilIface]) ∧ Below w.heap.size w w' := by
  have hemp : t.toList.isEmpty = false := by
    rw [← decide_eq_emptyBytes]
    exact decide_eq_false (fun h => by rw [h] at h15; cases h15)
  have hsz : (t.size : Int) = 15 := by rw [h15]; rfl
  have hlen : t.data.toList.length = 15 := by simpa using h15
  have hlt : hexN 0 t.data.toList < 1152921504606846976 := by
    have := hexN_lt t.data.toList hh 0 0 (by decide)
    rw [hlen] at this
    exact this
  obtain ⟨a, ha⟩ : ∃ a : Int, a = (hexN 0 t.data.toList : Nat) := ⟨_, rfl⟩
  have a0 : 0 ≤ a := by omega
  have a1 : a < 9223372036854775808 := by omega
  have hcall := parseUint_any t h15 hh w
  rw [← ha] at hcall ⊢
  clear ha hlt
  have hc0 : (t.data.toList.getD 0 0) ∈ hexB := by
    have : t.data.toList.getD 0 0 = t.data.toList[0]'(by omega) := by simp [List.getD, List.getElem?_eq_getElem (show 0 < t.data.toList.length by omega)]
    rw [this]
    exact hh _ (List.getElem_mem _)
  have hgt : t[0]'(by omega) ∈ hexB := hh _ (by
    have : t[0]'(by omega) = t.data.toList[0]'(by omega) := rfl
    rw [this]
    exact List.getElem_mem _)
  have h43 : (((t[0]'(by omega)).toNat : Int) == 43) = false := by
    have : ∀ c ∈ hexB, ((c.toNat : Int) == 43) = false := by decide
    exact this _ hgt
  have h45 : (((t[0]'(by omega)).toNat : Int) == 45) = false := by
    have : ∀ c ∈ hexB, ((c.toNat : Int) == 45) = false := by decide
    exact this _ hgt
  clear hh hlen hgt hc0
  go_enter Tryz.func297, Tryz.ntmps297
  go_wp2_with (go_at_call 393; refine hcall.mono ?_; rintro e w1 ⟨rfl, hb1⟩)
  go_ret2
  exact ⟨rfl, hb1⟩

set_option maxRecDepth 100000 in
set_option maxHeartbeats 400000 in
theorem parseInt_any (t : ByteArray) (h15 : t.size = 15) (hh : ∀ b ∈ t.data.toList, b ∈ hexB) (w : World) :
    Calls Tryz.prog 197 #[.string t, .int .i64 16, .int .i64 64] w fun e w' => e = .returned (.tuple #[.int .i64 (hexN 0 t.data.toList : Nat), .nilIface]) ∧ Below w.heap.size w w' := by
  obtain ⟨a, ha⟩ : ∃ a : Int, a = (hexN 0 t.data.toList : Nat) := ⟨_, rfl⟩
  have hcall := parseInt_in t h15 hh w
  rw [← ha] at hcall ⊢
  clear ha hh
  go_enter Tryz.func197, Tryz.ntmps197
  go_wp2_with (go_at_call 297; refine hcall.mono ?_; rintro e w1 ⟨rfl, hb1⟩)
  go_ret2
  exact ⟨rfl, hb1⟩

/-- the number that a digest stands for -/
def digN (s : ByteArray) : Nat := hexN 0 (s.data.toList.take 15)

set_option maxRecDepth 100000 in
set_option maxHeartbeats 400000 in
theorem below_any (s : ByteArray) (h : isHex s) (w : World) :
    Calls Tryz.prog 120 #[.string s, .int .i64 2] w fun e w' => e = .returned (.int .i64 ((digN s : Int).tmod 2)) ∧ Below w.heap.size w w' := by
  have h16 : (s.size : Int) = 16 := by rw [h.1]; rfl
  have hl : (s.extract 0 15).data.toList = s.data.toList.take 15 := by simp [ByteArray.data_extract]
  have hs15 : (s.extract 0 15).size = 15 := by
    show (s.extract 0 15).data.size = 15
    have h1 := h.1
    have h2 : s.data.size = 16 := h1
    rw [← Array.length_toList, hl]
    simp [h2]
  have hcall := fun w1 => parseInt_any (s.extract 0 15) hs15 (by rw [hl]; intro b hb; exact h.2 b (List.mem_of_mem_take hb)) w1
  rw [hl] at hcall
  have hd : hexN 0 (s.data.toList.take 15) = digN s := rfl
  rw [hd] at hcall
  have his := is_any s h w
  clear hl hs15 hd
  obtain ⟨a, ha⟩ : ∃ a : Int, a = (digN s : Nat) := ⟨_, rfl⟩
  rw [← ha] at hcall ⊢
  clear ha
  go_enter Tryz.func120, Tryz.ntmps120
  go_wp2_with (first
    | (go_at_call 82; refine his.mono ?_; rintro e w1 ⟨rfl, hb1⟩)
    | (go_at_call 197; refine (hcall _).mono ?_; rintro e w2 ⟨rfl, hb2⟩))
  go_ret
  exact ⟨rfl, hb1.trans (hb2.mono hb1.size)⟩
end Go.Proofs
