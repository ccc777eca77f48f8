/- Walks: the byte replacer at short texts. -/
import Derived.Shelf.Strings.Count
import Derived.Laws.CopyOwn
import Derived.Test.YtccbadojfbdegaaGreatDoorWalkD
/- The walk of the byte replacer of strings, at three bytes. -/
namespace Go.Proofs
open Go.RowKit

def isEsc (c : UInt8) : Bool := c == 92 || c == 34 || c == 10
def escOf (c : UInt8) : UInt8 := if c == 10 then 110 else c
def esc1 (c : UInt8) : List UInt8 := if isEsc c then [92, escOf c] else [c]
def escL (l : List UInt8) : List UInt8 := l.flatMap esc1
def nEsc (l : List UInt8) : Nat := (l.filter isEsc).length

/-- the replacer's tables -/
structure Repl (R : Nat) (w : World) : Prop where
  hR : R < w.heap.size
  plain : ∀ c : UInt8, isEsc c = false → w.cell? ⟨R, c.toNat, none⟩ = some (.slice none 0 0)
  spec : ∀ c : UInt8, isEsc c = true → ∃ B cap, w.cell? ⟨R, c.toNat, none⟩ = some (.slice (some ⟨B, 0, none⟩) 2 cap) ∧ B < w.heap.size ∧ w.cell? ⟨B, 0, none⟩ = some (.int .u8 92) ∧ w.cell? ⟨B, 1, none⟩ = some (.int .u8 (escOf c).toNat)
  list : ∃ B cap, w.cell? ⟨R, 256, none⟩ = some (.slice (some ⟨B, 0, none⟩) 3 cap) ∧ B < w.heap.size ∧ w.cell? ⟨B, 0, none⟩ = some (.string ⟨#[10]⟩) ∧ w.cell? ⟨B, 1, none⟩ = some (.string ⟨#[34]⟩) ∧ w.cell? ⟨B, 2, none⟩ = some (.string ⟨#[92]⟩)

theorem Repl.below {R : Nat} {w w' : World} (h : Repl R w) (hb : Below w.heap.size w w') : Repl R w' where
  hR := Nat.lt_of_lt_of_le h.hR hb.size
  plain := fun c hc => by rw [hb.cell (by exact h.hR)]; exact h.plain c hc
  spec := fun c hc => by
    obtain ⟨B, cap, h1, h2, h3, h4⟩ := h.spec c hc
    exact ⟨B, cap, by rw [hb.cell (by exact h.hR)]; exact h1, Nat.lt_of_lt_of_le h2 hb.size, by rw [hb.cell (by exact h2)]; exact h3, by rw [hb.cell (by exact h2)]; exact h4⟩
  list := by
    obtain ⟨B, cap, h1, h2, h3, h4, h5⟩ := h.list
    exact ⟨B, cap, by rw [hb.cell (by exact h.hR)]; exact h1, Nat.lt_of_lt_of_le h2 hb.size, by rw [hb.cell (by exact h2)]; exact h3, by rw [hb.cell (by exact h2)]; exact h4, by rw [hb.cell (by exact h2)]; exact h5⟩

theorem nEsc_le (l : List UInt8) : nEsc l ≤ l.length := List.length_filter_le _ _

theorem escL_len (l : List UInt8) : (escL l).length = l.length + nEsc l := by
  induction l with
  | nil => rfl
  | cons c l ih =>
    have e : escL (c :: l) = esc1 c ++ escL l := rfl
    rw [e, List.length_append, ih]
    unfold nEsc esc1
    by_cases h : isEsc c <;> simp [h] <;> omega

theorem escL_none (l : List UInt8) (h : nEsc l = 0) : escL l = l := by
  induction l with
  | nil => rfl
  | cons c l ih =>
    have e : escL (c :: l) = esc1 c ++ escL l := rfl
    unfold nEsc at h ih
    by_cases hc : isEsc c
    · simp [hc] at h
    · simp only [List.filter_cons, hc, if_false, Bool.false_eq_true] at h
      rw [e, ih h]
      simp [esc1, hc]

theorem take_succ' (l : List UInt8) (k : Nat) (h : k < l.length) : l.take (k + 1) = l.take k ++ [l[k]] := List.take_succ_eq_append_getElem h
theorem nEsc_take (l : List UInt8) (k : Nat) (h : k < l.length) : nEsc (l.take (k + 1)) = nEsc (l.take k) + (if isEsc l[k] then 1 else 0) := by
  rw [take_succ' l k h]
  unfold nEsc
  rw [List.filter_append, List.length_append]
  by_cases hc : isEsc l[k] <;> simp [hc]
theorem escL_take (l : List UInt8) (k : Nat) (h : k < l.length) : escL (l.take (k + 1)) = escL (l.take k) ++ esc1 l[k] := by
  unfold escL
  rw [take_succ' l k h, List.flatMap_append]
  simp only [List.flatMap_cons, List.flatMap_nil, List.append_nil]

def rowE (e : List UInt8) (N : Nat) : List Value := Lib.byteCells e ++ List.replicate (N - e.length) (.int .u8 0)
def rowC (s : ByteArray) (N k : Nat) : List Value := rowE (escL (s.data.toList.take k)) N

theorem madeCells_zero (N : Nat) : (madeCells #[Value.int .u8 0] N).toList = List.replicate N (.int .u8 0) := by
  unfold madeCells
  apply List.ext_getElem?
  intro i
  by_cases h : i < N
  · simp [h, Nat.mod_one]
  · rw [List.getElem?_eq_none (by simp; omega), List.getElem?_eq_none (by simp; omega)]

theorem setCell_row {w : World} {G j : Nat} {l l' : List Value} {t : TypeId} {v : Value} (h : w.heap[G]? = some (.cells l.toArray t (0, 0))) (e : l.set j v = l') : (w.setCell ⟨G, j, none⟩ v).heap[G]? = some (.cells l'.toArray t (0, 0)) := by
  simp only [World.setCell, Array.getElem?_modify, h]
  rw [← e]
  simp

theorem rowE_len (e : List UInt8) (N : Nat) (h : e.length ≤ N) : (rowE e N).length = N := by
  simp [rowE, Lib.byteCells_length]; omega

theorem rowE_splice (e x : List UInt8) (N : Nat) (h : e.length + x.length ≤ N) : splice (rowE e N) e.length (Lib.byteCells x) = rowE (e ++ x) N := by
  unfold splice rowE
  have h1 : (Lib.byteCells e).length = e.length := Lib.byteCells_length e
  rw [List.take_left' h1, Lib.byteCells_length, List.drop_append, h1]
  have h2 : (Lib.byteCells e).drop (e.length + x.length) = [] := List.drop_eq_nil_of_le (by omega)
  rw [h2, List.nil_append, List.drop_replicate, ← List.append_assoc]
  have h3 : Lib.byteCells e ++ Lib.byteCells x = Lib.byteCells (e ++ x) := by simp [Lib.byteCells]
  rw [h3, List.length_append]
  congr 2
  omega

theorem rowE_at (e : List UInt8) (N : Nat) (h : e.length < N) : (rowE e N)[e.length]? = some (.int .u8 0) := by
  unfold rowE
  have h1 : (Lib.byteCells e).length = e.length := Lib.byteCells_length e
  rw [List.getElem?_append_right (by omega), h1, Nat.sub_self, List.getElem?_replicate, if_pos (by omega)]

theorem rowE_set (e : List UInt8) (c : UInt8) (N : Nat) (h : e.length < N) : (rowE e N).set e.length (.int .u8 c.toNat) = rowE (e ++ [c]) N := by
  unfold rowE
  have h1 : (Lib.byteCells e).length = e.length := Lib.byteCells_length e
  obtain ⟨m, hm⟩ : ∃ m, N - e.length = m + 1 := ⟨N - e.length - 1, by omega⟩
  have hm2 : N - (e ++ [c]).length = m := by simp; omega
  rw [hm, hm2, List.replicate_succ, List.set_append_right _ _ (by omega), h1, Nat.sub_self]
  simp [Lib.byteCells]

theorem escL_mono (l : List UInt8) (k : Nat) : (escL (l.take k)).length ≤ (escL l).length := by
  conv => rhs; rw [← List.take_append_drop k l]
  unfold escL
  rw [List.flatMap_append, List.length_append]
  omega

theorem Hid.mk' {p : Prop} (h : p) : Hid p := h

set_option maxRecDepth 100000 in
set_option maxHeartbeats 1000000 in
/-- the count, byte by byte; what comes behind is told by its own contract -/
theorem replace_any (s : ByteArray) (hs : s.size ≤ 1000) (R : Nat) (w : World) (hr : Repl R w) (hlt24 : ¬ 24 ≤ s.size) :
    Calls Tryz.prog 654 #[.pointer (some ⟨R, 0, none⟩), .string s] w fun e w' => e = .returned (.string ⟨(escL s.data.toList).toArray⟩) ∧ Below w.heap.size w w' := by
  obtain ⟨LB, lcap, hl1, hl2, hl3, hl4, hl5⟩ := hr.list
  have hi24 : decide ((24 : Int) ≤ (s.size : Int)) = false := decide_eq_false (by omega)
  obtain ⟨i0, hi0, hz0, hz1, hz2⟩ := info_parts Tryz.builderExtra.infoByte
  have hi : Tryz.prog.info? 5 = some i0 := hi0
  clear hi0
  go_enter Tryz.func654, Tryz.ntmps654
  go_wp2
  go_loop [5, 6, 10] (fun v5 v6 v10 => ∃ k : Nat, k ≤ s.size ∧ v10 = .int .i64 k ∧ v5 = .int .i64 (s.size + nEsc (s.data.toList.take k) : Nat) ∧ v6 = .bool (decide (0 < nEsc (s.data.toList.take k)))) (fun _ _ i => s.size - (intOf i).toNat)
  case atStart => exact ⟨0, by omega, rfl, rfl, rfl⟩
  case round =>
    obtain ⟨k, hk, rfl, rfl, rfl⟩ := hrel
    have hlen : s.data.toList.length = s.size := by simp
    have hne : nEsc (s.data.toList.take k) ≤ 1000 := by
      have := nEsc_le (s.data.toList.take k)
      simp only [List.length_take] at this
      omega
    by_cases hlt : k < s.size
    · have hget : s.data.toList[k]'(by omega) = s[k] := rfl
      have hstep := nEsc_take s.data.toList k (by omega)
      rw [hget] at hstep
      have h256 : (s[k].toNat : Int) < 256 := by have := s[k].toNat_lt; omega
      by_cases hc : isEsc s[k]
      · obtain ⟨B, cap, hb1, hb2, hb3, hb4⟩ := hr.spec s[k] hc
        rw [if_pos hc] at hstep
        go_wp2
        go_round
        case rel =>
          refine ⟨k + 1, by omega, by go_num, ?_, ?_⟩
          · rw [hstep]; rfl
          · rw [hstep, decide_eq_true (show 0 < nEsc (s.data.toList.take k) + 1 by omega)]
        case measure => first | (simp [intOf]; done) | (simp [intOf]; omega)
      · have hb1 := hr.plain s[k] (by simpa using hc)
        rw [if_neg hc] at hstep
        go_wp2
        go_round
        case rel =>
          refine ⟨k + 1, by omega, by go_num, ?_, ?_⟩
          · rw [hstep]; congr 1
          · rw [hstep]; congr 1
        case measure => first | (simp [intOf]; done) | (simp [intOf]; omega)
    · have hkk : k = s.size := by omega
      subst hkk
      have htk : s.data.toList.take s.size = s.data.toList := List.take_of_length_le (by omega)
      rw [htk] at hne ⊢
      by_cases hz : nEsc s.data.toList = 0
      · have hd : decide (0 < nEsc s.data.toList) = false := decide_eq_false (by omega)
        go_wp2
        go_ret
        refine ⟨?_, Below.refl _ _⟩
        rw [escL_none _ hz]
        rfl
      · have hd : decide (0 < nEsc s.data.toList) = true := decide_eq_true (by omega)
        obtain ⟨N, hN⟩ : ∃ N, N = s.size + nEsc s.data.toList := ⟨_, rfl⟩
        have hNi : (s.size : Int) + (nEsc s.data.toList : Int) = (N : Int) := by omega
        have hNle : N ≤ 2000 := by omega
        have HN : Hid (N = s.size + nEsc s.data.toList) := hN
        clear hN hz
        go_wp2_with (at_make; refine wpList_make_full _ rfl _ _ 60 rfl w.heap.size 5 i0 (.int .u8 0) 1 Tryz.underlying60 hi hz0 hz1 _ _ _ _ N rfl rfl hNi hNi ?b2 ?b3 (Nat.le_refl _) ?_)
        case b2 => omega
        case b3 => unfold maxLen; omega
        intro w0 hown0 hgrow0
        have hG0 : w0.heap[w.heap.size]? = some (.cells (rowC s N 0).toArray 5 (0, 0)) := by
          rcases hown0.2 with ⟨he, _⟩ | ⟨g, cap, cur, he, _, hg, _, _, hsz, hts⟩
          · cases he
          · cases he
            rw [hg]
            have h1 : cur.toList = List.replicate N (.int .u8 0) := by
              rw [List.take_of_length_le (by simp [hsz])] at hts
              rw [hts]
              exact madeCells_zero N
            have h2 : cur = (List.replicate N (.int .u8 0)).toArray := by rw [← h1]
            rw [h2]
            have h3 : rowC s N 0 = List.replicate N (.int .u8 0) := by simp [rowC, rowE, escL, Lib.byteCells]
            rw [h3]
        have hbel0 : Below w.heap.size w w0 := (Below.refl _ _).grown hgrow0 (Nat.le_refl _) (fun k h => by cases h)
        clear hown0 hgrow0
        go_wp2
        go_loopw [13, 14] (fun v13 v14 wr => ∃ k : Nat, k ≤ s.size ∧ v14 = .int .i64 k ∧ v13 = .int .i64 ((escL (s.data.toList.take k)).length : Nat) ∧ Hid (wr.heap[w.heap.size]? = some (.cells (rowC s N k).toArray 5 (0, 0))) ∧ Below w.heap.size w wr) (fun _ i _ => s.size - (intOf i).toNat)
        case atStart => exact ⟨0, by omega, rfl, rfl, hG0, hbel0⟩
        case round =>
          obtain ⟨k, hk, rfl, rfl, hG, hbel⟩ := hrel
          by_cases hlt : k < s.size
          · have hget : s.data.toList[k]'(by omega) = s[k] := rfl
            have h256 : (s[k].toNat : Int) < 256 := by have := s[k].toNat_lt; omega
            have hstep := escL_take s.data.toList k (by omega)
            rw [hget] at hstep
            have hle := escL_mono s.data.toList (k + 1)
            rw [hstep, List.length_append, escL_len s.data.toList, hlen, ← HN.out] at hle
            have hstep := Hid.mk' hstep
            obtain ⟨j, hj⟩ : ∃ j, j = (escL (s.data.toList.take k)).length := ⟨_, rfl⟩
            rw [← hj] at hle ⊢
            have HJ : Hid (j = (escL (s.data.toList.take k)).length) := hj
            clear hj
            by_cases hc : isEsc s[k]
            · obtain ⟨B, cap, hb1, hb2, hb3, hb4⟩ := (hr.below hbel).spec s[k] hc
              have h1e : (esc1 s[k]).length = 2 := by simp [esc1, hc]
              rw [h1e] at hle
              have hjN : (j : Int) < (N : Int) := by omega
              have hne2 : ¬ (N = j) := by omega
              have hjle : j ≤ N := by omega
              have hcs : ∀ j' v, ([.int .u8 92, .int .u8 (escOf s[k]).toNat] : List Value)[j']? = some v → wr.drew.cell? ((⟨B, 0, none⟩ : Addr).add j') = some v := by
                intro j' v hv
                match j', hv with
                | 0, hv => simp at hv; subst hv; exact hb3
                | 1, hv => simp at hv; subst hv; exact hb4
              have hx1 : Hid (([.int .u8 92, .int .u8 (escOf s[k]).toNat] : List Value).length = Nat.min 2 (N - j)) := by
                show 2 = min 2 (N - j)
                omega
              have hx2 : Hid (j + ([.int .u8 92, .int .u8 (escOf s[k]).toNat] : List Value).length ≤ (rowC s N k).length) := by
                show j + 2 ≤ _
                unfold rowC
                rw [rowE_len _ _ (by rw [← HJ.out]; omega)]
                omega
              have hx3 : Hid (∀ v ∈ ([.int .u8 92, .int .u8 (escOf s[k]).toNat] : List Value), v.oneCell' = true) := by
                intro v hv
                simp only [List.mem_cons, List.not_mem_nil, or_false] at hv
                rcases hv with rfl | rfl <;> rfl
              have hcs := Hid.mk' hcs
              go_wp2
              go_region_law (refine step_copy_splice rfl (.tmp 105) (.tmp 111) 60 60 rfl 5 Tryz.underlying60 (by kernel_rfl) (some ⟨w.heap.size, j, none⟩) (some ⟨B, 0, none⟩) (N - j) (N - j) 2 cap (by simp [Act.eval]) (by simp [Act.eval]) w.heap.size j (rowC s N k) 5 hG.out [.int .u8 92, .int .u8 (escOf s[k]).toNat] hx1.out (fun _ => ⟨rfl, _, rfl, hcs.out⟩) hx2.out hx3.out w.heap.size w hbel.drew (Nat.le_refl _) ?_; intro w2 hG2 hbel2)
              go_wp2
              go_roundw
              case rel =>
                refine ⟨k + 1, by omega, by go_num, ?_, ?_, hbel2⟩
                · rw [hstep.out, List.length_append, h1e, ← HJ.out]; rfl
                · have e : rowC s N (k + 1) = splice (rowC s N k) j [.int .u8 92, .int .u8 (escOf s[k]).toNat] := by
                    have := rowE_splice (escL (s.data.toList.take k)) [92, escOf s[k]] N (by rw [← HJ.out]; exact hle)
                    rw [← HJ.out] at this
                    unfold rowC
                    rw [hstep.out]
                    simp only [esc1, hc, if_true]
                    exact this.symm
                  rw [e]
                  exact hG2
              case measure => first | (simp [intOf]; done) | (simp [intOf]; omega)
            · have hb1 := (hr.below hbel).plain s[k] (by simpa using hc)
              have h1e : (esc1 s[k]).length = 1 := by simp [esc1, hc]
              rw [h1e] at hle
              have hGc : wr.cell? ⟨w.heap.size, j, none⟩ = some (.int .u8 0) := by
                rw [Lib.cell_of_heap hG.out]
                have := rowE_at (escL (s.data.toList.take k)) N (by rw [← HJ.out]; omega)
                rw [← HJ.out] at this
                simpa [rowC] using this
              have hGf : wr.frozen? ⟨w.heap.size, j, none⟩ = false := Lib.frozen_of_heap hG.out j
              have hjN : (j : Int) < (N : Int) := by omega
              go_wp2
              go_roundw
              case rel =>
                refine ⟨k + 1, by omega, by go_num, ?_, ?_, ?_⟩
                · rw [hstep.out, List.length_append, h1e, ← HJ.out]; rfl
                · have e : (rowC s N k).set j (.int .u8 s[k].toNat) = rowC s N (k + 1) := by
                    have := rowE_set (escL (s.data.toList.take k)) s[k] N (by rw [← HJ.out]; omega)
                    rw [← HJ.out] at this
                    unfold rowC
                    rw [hstep.out]
                    simp only [esc1, hc, if_false, Bool.false_eq_true]
                    exact this
                  exact setCell_row hG.out e
                · exact hbel.setCell (p := ⟨w.heap.size, j, none⟩) (Nat.le_refl _) _
              case measure => first | (simp [intOf]; done) | (simp [intOf]; omega)
          · have hkk : k = s.size := by omega
            subst hkk
            have hN2 : N = (escL s.data.toList).length := by rw [escL_len, hlen]; exact HN.out
            have hrow : rowC s N s.size = Lib.byteCells (escL s.data.toList) := by
              unfold rowC rowE
              rw [htk, ← hN2, Nat.sub_self]
              simp
            rw [hrow] at hG
            have hcv : (convert 60 9 (.slice (some ⟨w.heap.size, 0, none⟩) N N)).run Tryz.prog wr = .ok (.string ⟨(escL s.data.toList).toArray⟩) wr := by
              have := run_convert_bytes_back (P := Tryz.prog) wr 60 9 5 ⟨w.heap.size, 0, none⟩ N (escL s.data.toList) Tryz.underlying60 Tryz.underlying5 Tryz.underlying9 (fun j hj => by
                rw [show (⟨w.heap.size, 0, none⟩ : Addr).add j = ⟨w.heap.size, j, none⟩ by simp [Addr.add] <;> omega, Lib.cell_of_heap hG.out]
                simp [Lib.byteCells, hj])
              rw [← hN2] at this
              exact this
            clear hN2 hrow
            go_wp2
            go_ret
            exact ⟨rfl, hbel⟩
end Go.Proofs
