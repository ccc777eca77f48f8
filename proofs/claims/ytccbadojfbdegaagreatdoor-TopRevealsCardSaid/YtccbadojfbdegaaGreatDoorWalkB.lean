/- Walks: digest.Sum, digest.List, digest.Is. -/
import Derived.Test.YtccbadojfbdegaaGreatDoorWalkA
/- The walk of digest.Sum. -/
namespace Go.Proofs
open Go.RowKit

def sumInit : Int × Int × Int := (7046029254386353131, 0, 0)
def bytesI (b : ByteArray) : List Int := b.data.toList.map fun c => (c.toNat : Int)
def fin8 : Nat → Int × Int × Int → Int × Int × Int
  | 0, q => q
  | n + 1, q => if 0 < q.2.2 then fin8 n (addF q 0) else q
def sumQ (b : ByteArray) : Int × Int × Int := fin8 8 (addF ((bytesI b).foldl addF sumInit) 1)
noncomputable def sumB (hex : List Int) (b : ByteArray) : ByteArray := textB hex (sumQ b).1

theorem foldl_range (l : List Int) (q : Int × Int × Int) (h : 0 ≤ q.2.2 ∧ q.2.2 ≤ 7) : 0 ≤ (l.foldl addF q).2.2 ∧ (l.foldl addF q).2.2 ≤ 7 := by
  induction l generalizing q with
  | nil => exact h
  | cons c l ih => exact ih _ (addF_range q c h)
theorem sumInit_range : 0 ≤ sumInit.2.2 ∧ sumInit.2.2 ≤ 7 := by decide

theorem addF_next (q : Int × Int × Int) (c : Int) : (addF q c).2.2 = if q.2.2 = 7 then 0 else q.2.2 + 1 := by
  unfold addF; split <;> rfl

theorem fin8_more (m : Nat) (q : Int × Int × Int) (h : 0 ≤ q.2.2 ∧ q.2.2 ≤ 7) (hm : q.2.2 = 0 ∨ 8 - q.2.2 ≤ m) : fin8 (m + 1) q = fin8 m q := by
  induction m generalizing q with
  | zero =>
    have : q.2.2 = 0 := by omega
    simp [fin8, this]
  | succ m ih =>
    rw [fin8]
    split
    · rename_i hp
      conv => rhs; rw [fin8, if_pos hp]
      refine ih _ (addF_range q 0 h) ?_
      rw [addF_next]
      split
      · exact .inl rfl
      · right; omega
    · rename_i hp
      rw [fin8, if_neg hp]

theorem fin8_step (q : Int × Int × Int) (h : 0 ≤ q.2.2 ∧ q.2.2 ≤ 7) (hp : 0 < q.2.2) : fin8 8 (addF q 0) = fin8 8 q := by
  conv => rhs; rw [fin8, if_pos hp]
  refine fin8_more 7 _ (addF_range q 0 h) ?_
  rw [addF_next]
  split
  · exact .inl rfl
  · right; omega

theorem bytesI_take (b : ByteArray) (k : Nat) (h : k < b.size) : (bytesI b).take (k + 1) = (bytesI b).take k ++ [(b[k].toNat : Int)] := by
  have hk : k < (bytesI b).length := by simpa [bytesI] using h
  rw [List.take_succ_eq_append_getElem hk]
  congr 1
  simp [bytesI]
  rfl

theorem bytesI_all (b : ByteArray) : (bytesI b).take b.size = bytesI b := by
  apply List.take_of_length_le
  simp [bytesI]

def leftN (N : Nat) (w : World) : Nat := match w.cell? ⟨N, 0, none⟩ with
  | some (.int _ n) => if n = 0 then 0 else (8 - n).toNat
  | _ => 0

theorem leftN_own {S B N : Nat} {s b n : Int} {w : World} (h : Own3 S B N s b n w) : leftN N w = if n = 0 then 0 else (8 - n).toNat := by
  unfold leftN; rw [h.n]

theorem left_lt {n : Int} (h : 0 < n) (h7 : n ≤ 7) : (if (if n = 7 then 0 else n + 1) = 0 then 0 else (8 - (if n = 7 then 0 else n + 1)).toNat) < (if n = 0 then 0 else (8 - n).toNat) := by
  by_cases e : n = 7
  · subst e; simp
  · simp only [e, if_false]
    rw [if_neg (by omega), if_neg (by omega)]
    omega

set_option maxRecDepth 100000 in
set_option maxHeartbeats 1000000 in
theorem sum_any (b : ByteArray) (hb : b.size ≤ 1000000000) (w : World) (hex : List Int) (hg : ∀ j, j < 16 → w.cell? ⟨0, j, none⟩ = some (.int .u8 (hex.getD j 0))) (hs : 0 < w.heap.size) :
    Calls Tryz.prog 11 #[.string b] w fun e w' => e = .returned (.string (sumB hex b)) ∧ Below w.heap.size w w' := by
  go_enter Tryz.func11, Tryz.ntmps11
  go_wp2
  go_loopw [11] (fun i wr => ∃ k : Nat, k ≤ b.size ∧ i = .int .i64 k ∧ Own3 w.heap.size (w.heap.size + 1) (w.heap.size + 1 + 1) (((bytesI b).take k).foldl addF sumInit).1 (((bytesI b).take k).foldl addF sumInit).2.1 (((bytesI b).take k).foldl addF sumInit).2.2 wr ∧ Below w.heap.size w wr) (fun i _ => b.size - (intOf i).toNat)
  case atStart =>
    refine ⟨0, by omega, rfl, ⟨?_, ?_, ?_, ?_, ?_, ?_, ?_, ?_, ?_⟩, ?_⟩
    all_goals first | (go_simp; done) | (simp [sumInit]; done) | (simp [sumInit]; go_simp; done) | exact (((Below.refl _ w).alloc (Nat.le_refl _) _).alloc (by simp) _).alloc (by simp; omega) _ | trace_state
  case round =>
    obtain ⟨k, hk, rfl, hown, hbel⟩ := hrel
    go_wp2_with (go_at_call 31; refine (add_any (((bytesI b).take k).foldl addF sumInit) _ (foldl_range _ _ sumInit_range) (w.heap.size + 1) (w.heap.size + 1 + 1) w.heap.size _ hown (by omega) (by omega) (by omega) w.heap.size (by omega) (by omega) (by omega)).mono ?_; rintro e w' ⟨rfl, hown', hb'⟩)
    · have hlt : k < b.size := by assumption
      go_roundw
      case rel =>
        refine ⟨k + 1, by omega, by go_num, ?_, hbel.trans hb'⟩
        rw [bytesI_take _ _ hlt, List.foldl_append]
        exact hown'
      case measure => simp [intOf]; omega
    · have hkk : k = b.size := by omega
      subst hkk
      rw [bytesI_all] at hown'
      have hr0 : 0 ≤ (addF ((bytesI b).foldl addF sumInit) 1).2.2 ∧ (addF ((bytesI b).foldl addF sumInit) 1).2.2 ≤ 7 := addF_range _ _ (foldl_range _ _ sumInit_range)
      go_loopw [22] (fun _ wr => ∃ q : Int × Int × Int, Own3 w.heap.size (w.heap.size + 1) (w.heap.size + 1 + 1) q.1 q.2.1 q.2.2 wr ∧ Below w.heap.size w wr ∧ fin8 8 q = sumQ b ∧ 0 ≤ q.2.2 ∧ q.2.2 ≤ 7) (fun _ wr => leftN (w.heap.size + 1 + 1) wr)
      case atStart => exact ⟨_, hown', hbel.trans hb', rfl, hr0.1, hr0.2⟩
      case round =>
        obtain ⟨q, hq, hqb, hqs, hq1, hq2⟩ := hrel
        have hqn := hq.n
        have hqst := hq.s
        go_wp2_with (first
          | (go_at_call 31; refine (add_any q _ ⟨hq1, hq2⟩ (w.heap.size + 1) (w.heap.size + 1 + 1) w.heap.size _ hq (by omega) (by omega) (by omega) w.heap.size (by omega) (by omega) (by omega)).mono ?_; rintro e w2 ⟨rfl, hown2, hb2⟩)
          | (go_at_call 33; refine (text_any q.1 _ hex ?_ ?_).mono ?_; rotate_left 2; rintro e w3 ⟨rfl, rfl⟩))
        · have hp : 0 < q.2.2 := by assumption
          refine ⟨⟨_, hown2, hqb.trans hb2, (fin8_step _ ⟨hq1, hq2⟩ hp).trans hqs, (addF_range q 0 ⟨hq1, hq2⟩).1, (addF_range q 0 ⟨hq1, hq2⟩).2⟩, ?_⟩
          rw [leftN_own hown2, leftN_own hq, addF_next]
          exact left_lt hp hq2
        · have hz : ¬ 0 < q.2.2 := by omega
          have he : q = sumQ b := by
            rw [← hqs, fin8, if_neg hz]
          subst he
          go_ret
          exact ⟨rfl, hqb.alloc hqb.size _⟩
        · intro j hj
          rw [hqb.cell (by exact hs)]
          exact hg j hj
        · exact Nat.lt_of_lt_of_le hs hqb.size
end Go.Proofs
/- The walk of digest.List. -/
namespace Go.Proofs
open Go.RowKit

def hexL : List Int := [48, 49, 50, 51, 52, 53, 54, 55, 56, 57, 97, 98, 99, 100, 101, 102]

/-- what lay below B lies as it lay (the tape may have been read) -/
structure Kept (B : Nat) (w w' : World) : Prop where
  os : w'.os = w.os
  output : w'.output = w.output
  size : w.heap.size ≤ w'.heap.size
  block : ∀ k, k < B → w'.heap[k]? = w.heap[k]?

theorem Kept.refl (B : Nat) (w : World) : Kept B w w := ⟨rfl, rfl, Nat.le_refl _, fun _ _ => rfl⟩
theorem Kept.of {B : Nat} {w w' : World} (h : Below B w w') : Kept B w w' := ⟨h.os, h.output, h.size, h.block⟩
theorem Kept.trans {B : Nat} {a b c : World} (h : Kept B a b) (k : Kept B b c) : Kept B a c :=
  ⟨k.os.trans h.os, k.output.trans h.output, Nat.le_trans h.size k.size, fun i hi => (k.block i hi).trans (h.block i hi)⟩
theorem Kept.mono {B C : Nat} {w w' : World} (h : Kept B w w') (hC : C ≤ B) : Kept C w w' := ⟨h.os, h.output, h.size, fun i hi => h.block i (Nat.lt_of_lt_of_le hi hC)⟩
theorem Kept.cell {B : Nat} {w w' : World} (h : Kept B w w') {b o : Nat} (hb : b < B) : w'.cell? ⟨b, o, none⟩ = w.cell? ⟨b, o, none⟩ :=
  World.cell?_of_block (w := w) (h.block b hb)

/-- what the variables of the program's packages hold -/
structure Gnd (w : World) : Prop where
  hex : ∀ j, j < 16 → w.cell? ⟨0, j, none⟩ = some (.int .u8 (hexL.getD j 0))
  itoa : ∀ n : Nat, n ≤ 100 → ∀ w', Kept w.heap.size w w' → Calls Tryz.prog 14 #[.int .i64 n] w' fun e w'' => e = .returned (.string ⟨(Lib.itoa n).toArray⟩) ∧ Kept w'.heap.size w' w''
  size : 9 ≤ w.heap.size

theorem Gnd.kept {w w' : World} (h : Gnd w) (hb : Kept w.heap.size w w') : Gnd w' where
  hex := fun j hj => by rw [hb.cell (by have := h.size; omega)]; exact h.hex j hj
  itoa := fun n hn w'' hk => h.itoa n hn w'' (hb.trans (hk.mono hb.size))
  size := Nat.le_trans h.size hb.size

def enc1 (s : ByteArray) : List UInt8 := Lib.itoa (s.size : Int) ++ 58 :: s.data.toList
def encL (xs : List ByteArray) : List UInt8 := xs.flatMap enc1

theorem ownsRow_below {B : Nat} {e : TypeId} {k : Nat} {v : Value} {n : Nat} {xs : List Value} {w w' : World} (h : w.ownsRow B e k v n xs) (hb : Below w.heap.size w w') : w'.ownsRow B e k v n xs :=
  h.kept (row := none) ⟨hb.os, hb.tape, hb.output, hb.size, fun j hj _ => hb.block j hj⟩ (by cases hv : v.ownBlock <;> simp)

theorem ownsRow_kept {B : Nat} {e : TypeId} {k : Nat} {v : Value} {n : Nat} {xs : List Value} {w w' : World} (h : w.ownsRow B e k v n xs) (hb : Kept w.heap.size w w') : w'.ownsRow B e k v n xs :=
  ownsRow_below (w' := { w' with tape := w.tape }) h ⟨hb.os, rfl, hb.output, hb.size, hb.block⟩

theorem isBuilder_kept {T e : TypeId} {B b : Nat} {bs : List Value} {w w' : World} (h : Lib.IsBuilder T e B b bs w) (hb : Kept w.heap.size w w') : Lib.IsBuilder T e B b bs w' := by
  have key : ∀ p, Lib.BuilderAt T e B b p bs w → Lib.BuilderAt T e B b p bs w' := by
    intro p hp
    have hlt := hp.lt
    obtain ⟨h1, v, h2, h3, h4⟩ := hp
    exact ⟨h1, v, by rw [hb.block b hlt]; exact h2, ownsRow_kept h3 hb, h4⟩
  exact h.imp (key _) (key _)

theorem nDigits_le (u : Nat) : Lib.nDigits u ≤ u + 1 := by
  induction u using Nat.strongRecOn with
  | ind u ih =>
    unfold Lib.nDigits
    split
    · omega
    · have := ih (u / 10) (by omega)
      omega

theorem itoa_len (n : Nat) (h1 : n ≤ 1000) : (Lib.itoa (n : Int)).length ≤ 1001 := by
  have e : Lib.itoa (n : Int) = Lib.decDigits n := by unfold Lib.itoa; rw [if_neg (by omega)]; simp
  rw [e, Lib.decDigits_length]
  have := nDigits_le n
  omega

theorem enc1_len (s : ByteArray) (h : s.size ≤ 1000) : (enc1 s).length ≤ 2002 := by
  have := itoa_len s.size h
  have e : s.data.toList.length = s.size := by simp
  unfold enc1
  simp only [List.length_append, List.length_cons, e]
  omega

theorem encL_len (xs : List ByteArray) (hx : ∀ x ∈ xs, x.size ≤ 1000) : (encL xs).length ≤ 2002 * xs.length := by
  induction xs with
  | nil => simp [encL]
  | cons x xs ih =>
    have h1 := enc1_len x (hx x (by simp))
    have h2 := ih fun y hy => hx y (by simp [hy])
    simp only [encL, List.flatMap_cons, List.length_append, List.length_cons] at h2 ⊢
    omega

theorem encL_take (xs : List ByteArray) (k : Nat) (h : k < xs.length) : encL (xs.take (k + 1)) = encL (xs.take k) ++ enc1 xs[k] := by
  unfold encL
  rw [List.take_succ_eq_append_getElem h, List.flatMap_append]
  simp only [List.flatMap_cons, List.flatMap_nil, List.append_nil]

theorem enc1_cells (s : ByteArray) : Lib.strCells ((⟨(Lib.itoa (s.size : Int)).toArray⟩ : ByteArray) ++ ⟨#[58]⟩ ++ s) = Lib.byteCells (enc1 s) := by
  simp [Lib.strCells, Lib.byteCells, enc1, ByteArray.data_append]

set_option maxRecDepth 100000 in
set_option maxHeartbeats 1000000 in
theorem list_any (bk o c : Nat) (xs : List ByteArray) (w : World) (hx : ∀ x ∈ xs, x.size ≤ 100) (hn : xs.length ≤ 1000) (hcells : ∀ (j : Nat) x, xs[j]? = some x → w.cell? ⟨bk, o + j, none⟩ = some (.string x)) (hbk : bk < w.heap.size) (g : Gnd w) :
    Calls Tryz.prog 6 #[.slice (some ⟨bk, o, none⟩) xs.length c] w fun e w' => e = .returned (.string (sumB hexL ⟨(encL xs).toArray⟩)) ∧ Kept w.heap.size w w' := by
  have hxk : ∀ x ∈ xs, x.size ≤ 1000 := fun x h => Nat.le_trans (hx x h) (by decide)
  go_enter Tryz.func6, Tryz.ntmps6
  go_wp2
  go_loopw [8] (fun i wr => ∃ k : Nat, k ≤ xs.length ∧ i = .int .i64 k ∧ Lib.IsBuilder 62 5 w.heap.size w.heap.size (Lib.byteCells (encL (xs.take k))) wr ∧ Kept w.heap.size w wr) (fun i _ => xs.length - (intOf i).toNat)
  case atStart =>
    exact ⟨0, by omega, rfl, Lib.fresh_isBuilder 62 5 w, .of ((Below.refl _ w).alloc (Nat.le_refl _) _)⟩
  case round =>
    obtain ⟨k, hk, rfl, hbu, hbel⟩ := hrel
    have hcx : k < xs.length → wr.cell? ⟨bk, o + k, none⟩ = some (.string (xs.getD k ⟨#[]⟩)) := fun h => (hbel.cell (by exact hbk)).trans (hcells k _ (by simp [h]))
    have hgw : Gnd wr := g.kept hbel
    have hsz : ∀ h : k < xs.length, xs[k].size ≤ 1000 := fun h => hxk _ (List.getElem_mem h)
    have hsz1 : ∀ h : k < xs.length, xs[k].size ≤ 100 := fun h => hx _ (List.getElem_mem h)
    go_wp2_with (first
      | (go_at_call 14; refine (hgw.itoa _ ?n0 wr (Kept.refl _ _)).mono ?_; rotate_left; rintro e w1 ⟨rfl, hb1⟩)
      | (go_at_call 13; refine (writeString_any w.heap.size w.heap.size _ _ _ (isBuilder_kept hbu hb1) ?l1 ?l2).mono ?_; rotate_left 2; rintro e w2 ⟨rfl, hbu2, hb2⟩))
    · exfalso
      have := itoa_len _ (hsz (by assumption))
      omega
    · exfalso
      have := itoa_len _ (hsz (by assumption))
      have := hsz (by assumption)
      omega
    · have hlt : k < xs.length := by assumption
      go_roundw
      case rel =>
        refine ⟨k + 1, by omega, by go_num, ?_, (hbel.trans (hb1.mono hbel.size)).trans (.of hb2)⟩
        rw [encL_take _ _ hlt, Lib.byteCells, List.map_append]
        rw [enc1_cells] at hbu2
        exact .inr hbu2
      case measure => simp [intOf]; omega
    · have hlt : k < xs.length := by assumption
      have h1 := itoa_len _ (hsz hlt)
      have h2 := hsz hlt
      have h3 := encL_len (xs.take k) fun x hx' => hxk x (List.mem_of_mem_take hx')
      have h4 : (xs.take k).length ≤ 1000 := by simp; omega
      rw [Lib.byteCells_length]
      simp only [ByteArray.size_append]
      have e1 : (⟨(Lib.itoa (xs[k].size : Int)).toArray⟩ : ByteArray).size = (Lib.itoa (xs[k].size : Int)).length := List.size_toArray
      have e2 : (⟨#[58]⟩ : ByteArray).size = 1 := rfl
      rw [e1, e2]
      omega
    · exact Nat.le_trans hbel.size hb1.size
    · exact hsz1 (by assumption)
    · have hkk : k = xs.length := by omega
      subst hkk
      rw [List.take_length] at hbu
      have hb9 := hbel.size
      have hsz2 : (encL xs).length ≤ 1000000000 := by have := encL_len xs hxk; omega
      go_wp2_with (first
        | (go_at_call 15; refine (string_any w.heap.size w.heap.size _ _ hbu hb9).mono ?_; rintro e w1 ⟨rfl, hb1⟩)
        | (go_at_call 11; refine (sum_any _ ?s1 _ hexL ?s2 ?s3).mono ?_; rotate_left 3; rintro e w2 ⟨rfl, hb2⟩))
      · go_ret
        exact ⟨rfl, (hbel.trans (.of hb1)).trans (.of (hb2.mono (hbel.trans (.of hb1)).size))⟩
      · simpa [ByteArray.size] using hsz2
      · exact (g.kept (hbel.trans (.of hb1))).hex
      · have := (g.kept (hbel.trans (.of hb1))).size
        omega
end Go.Proofs
/- The walk of digest.Is at digests. -/
namespace Go.Proofs
open Go.RowKit

def hexB : List UInt8 := [48, 49, 50, 51, 52, 53, 54, 55, 56, 57, 97, 98, 99, 100, 101, 102]
/-- the form of a digest -/
def isHex (s : ByteArray) : Prop := s.size = 16 ∧ ∀ b ∈ s.data.toList, b ∈ hexB

theorem dropWhile_all {α : Type} (p : α → Bool) (l : List α) (h : ∀ b ∈ l, p b = true) : l.dropWhile p = [] := by
  induction l with
  | nil => rfl
  | cons x l ih => rw [List.dropWhile_cons_of_pos (h x (by simp))]; exact ih fun b hb => h b (by simp [hb])

theorem trimS_all (l cs : List UInt8) (h : ∀ b ∈ l, b ∈ cs) : Lib.trimS l cs = [] := by
  have e : Lib.trimRightS l cs = [] := by
    unfold Lib.trimRightS
    rw [dropWhile_all _ _ fun b hb => by simpa using h b (by simpa using hb)]
    rfl
  unfold Lib.trimS
  rw [e]
  rfl

theorem foldl_push (l : List Int) (acc : ByteArray) : (l.foldl (fun r n => r.push (UInt8.ofNat n.toNat)) acc).data.toList = acc.data.toList ++ l.map fun n => UInt8.ofNat n.toNat := by
  induction l generalizing acc with
  | nil => simp
  | cons n l ih =>
    rw [List.foldl_cons, ih]
    simp [ByteArray.push]

theorem textB_list (hex : List Int) (s : Int) : (textB hex s).data.toList = ((List.range 16).map (dig hex s)).map fun n => UInt8.ofNat n.toNat := by
  unfold textB
  rw [foldl_push]
  rfl

theorem dig_hex (s : Int) (j : Nat) : UInt8.ofNat (dig hexL s j).toNat ∈ hexB := by
  have h := and15 (s / 2 ^ (60 - 4 * j))
  unfold dig
  generalize bits .and .u64 (s / 2 ^ (60 - 4 * j)) 15 = x at h
  have hk : ∀ k : Nat, k < 16 → UInt8.ofNat (hexL.getD k 0).toNat ∈ hexB := by decide
  exact hk _ (by omega)

theorem textB_isHex (s : Int) : isHex (textB hexL s) := by
  constructor
  · show (textB hexL s).data.size = 16
    rw [← Array.length_toList, textB_list]
    simp
  · intro b hb
    rw [textB_list] at hb
    simp only [List.mem_map] at hb
    obtain ⟨n, ⟨j, _, rfl⟩, rfl⟩ := hb
    exact dig_hex s j

theorem sumB_isHex (b : ByteArray) : isHex (sumB hexL b) := textB_isHex _

set_option maxRecDepth 100000 in
set_option maxHeartbeats 1000000 in
theorem is_any (s : ByteArray) (h : isHex s) (w : World) :
    Calls Tryz.prog 82 #[.string s] w fun e w' => e = .returned (.bool true) ∧ Below w.heap.size w w' := by
  have h16 : (s.size : Int) = 16 := by rw [h.1]; rfl
  have htrim : Lib.trimS s.data.toList [48, 49, 50, 51, 52, 53, 54, 55, 56, 57, 97, 98, 99, 100, 101, 102] = [] := trimS_all _ _ h.2
  go_enter Tryz.func82, Tryz.ntmps82
  go_wp2_with (go_at_call 128; refine (trim_any s _ w ?h1 ?h2 ?h3).mono ?_; rotate_left 3; rintro e w1 ⟨rfl, hb1⟩)
  · go_ret
    exact ⟨by first | rfl | simp [htrim], hb1⟩
  · omega
  · decide
  · exact ascii_of_all (by decide)
end Go.Proofs
