/- Walks: the byte replacer at any text. -/
import Derived.Test.YtccbadojfbdegaaGreatDoorWalkE
/- The walk of the byte replacer of strings, at three bytes: longer texts. -/
namespace Go.Proofs
open Go.RowKit

def ctA (l : List UInt8) : Nat → Nat
  | 0 => 0
  | 1 => l.count 10
  | 2 => l.count 10 + l.count 34
  | _ => l.count 10 + l.count 34 + l.count 92

theorem ctA_all (l : List UInt8) : ctA l 3 = nEsc l := by
  induction l with
  | nil => rfl
  | cons c l ih =>
    unfold nEsc at ih ⊢
    simp only [ctA] at ih ⊢
    rw [List.count_cons, List.count_cons, List.count_cons]
    by_cases h1 : c = 10
    · subst h1; simp [isEsc]; omega
    · by_cases h2 : c = 34
      · subst h2; simp [isEsc]; omega
      · by_cases h3 : c = 92
        · subst h3; simp [isEsc]; omega
        · have : isEsc c = false := by simp [isEsc, h1, h2, h3]
          simp [this, h1, h2, h3]; omega

theorem ctA_le (l : List UInt8) (k : Nat) : ctA l k ≤ 3 * l.length := by
  have h1 := List.count_le_length (a := (10 : UInt8)) (l := l)
  have h2 := List.count_le_length (a := (34 : UInt8)) (l := l)
  have h3 := List.count_le_length (a := (92 : UInt8)) (l := l)
  match k with
  | 0 => simp [ctA]
  | 1 => simp only [ctA]; omega
  | 2 => simp only [ctA]; omega
  | k + 3 => simp only [ctA]; omega

set_option maxRecDepth 100000 in
set_option maxHeartbeats 1000000 in
theorem replace_big (s : ByteArray) (hs : s.size ≤ 1000) (R : Nat) (wi : World) (hri : Repl R wi) (hge24 : 24 ≤ s.size) :
    Calls Tryz.prog 654 #[.pointer (some ⟨R, 0, none⟩), .string s] wi fun e w' => e = .returned (.string ⟨(escL s.data.toList).toArray⟩) ∧ Below wi.heap.size wi w' := by
  obtain ⟨LB, lcap, hl1, hl2, hl3, hl4, hl5⟩ := hri.list
  have hi24 : decide ((24 : Int) ≤ (s.size : Int)) = true := decide_eq_true (by omega)
  obtain ⟨i0, hi0, hz0, hz1, hz2⟩ := info_parts Tryz.builderExtra.infoByte
  have hi : Tryz.prog.info? 5 = some i0 := hi0
  clear hi0
  have hlen : s.data.toList.length = s.size := by simp
  go_enter Tryz.func654, Tryz.ntmps654
  go_wp2
  go_loopw [5, 6, 32] (fun v5 v6 v32 wr => ∃ k d : Nat, wr = wi.drewN d ∧ k ≤ 3 ∧ v32 = .int .i64 k ∧ v5 = .int .i64 (s.size + ctA s.data.toList k : Nat) ∧ v6 = .bool (decide (0 < ctA s.data.toList k))) (fun _ _ i _ => 3 - (intOf i).toNat)
  case atStart => exact ⟨0, 0, rfl, by omega, rfl, rfl, rfl⟩
  case round =>
    obtain ⟨k, d, rfl, hk, rfl, rfl, rfl⟩ := hrel
    have hne : ctA s.data.toList k ≤ 3000 := by
      have := ctA_le s.data.toList k
      omega
    by_cases hlt : k < 3
    · obtain ⟨c, hcell, hce, hct⟩ : ∃ c : UInt8, wi.cell? ⟨LB, k, none⟩ = some (.string ⟨#[c]⟩) ∧ isEsc c = true ∧ ctA s.data.toList (k + 1) = ctA s.data.toList k + s.data.toList.count c := by
        have h012 : k = 0 ∨ k = 1 ∨ k = 2 := by omega
        rcases h012 with rfl | rfl | rfl
        · exact ⟨10, hl3, rfl, by simp [ctA]⟩
        · exact ⟨34, hl4, rfl, by simp [ctA]⟩
        · exact ⟨92, hl5, rfl, by simp [ctA]⟩
      obtain ⟨B, cap, hb1, hb2, hb3, hb4⟩ := hri.spec c hce
      have hcx : (⟨#[c]⟩ : ByteArray)[0]'(by show 0 < 1; decide) = c := rfl
      have hcl := List.count_le_length (a := c) (l := s.data.toList)
      have h256 : (c.toNat : Int) < 256 := by have := c.toNat_lt; omega
      obtain ⟨m, hm⟩ : ∃ m, m = s.data.toList.count c := ⟨_, rfl⟩
      rw [← hm] at hct hcl
      have hcount : ∀ w, Calls Tryz.prog 656 #[.string s, .string ⟨#[c]⟩] w fun e w' => e = .returned (.int .i64 m) ∧ w' = w := by
        intro w
        rw [hm]
        exact count_any s c w
      clear hm
      by_cases hm0 : m = 0
      · subst hm0
        go_wp2_with (go_at_call 656; refine (hcount _).mono ?_; rintro e w1 ⟨rfl, rfl⟩)
        go_roundw
        case rel => exact ⟨k + 1, d, rfl, by omega, by go_num, by rw [hct]; rfl, by rw [hct]; rfl⟩
        case measure => first | (simp [intOf]; done) | (simp [intOf]; omega)
      · have hm1 : ((m : Int) == 0) = false := by simp; omega
        go_wp2_with (go_at_call 656; refine (hcount _).mono ?_; rintro e w1 ⟨rfl, rfl⟩)
        go_region
        go_wp2
        go_roundw
        case rel =>
          refine ⟨k + 1, d + 1, rfl, by omega, by go_num, ?_, ?_⟩
          · rw [hct]; congr 1; omega
          · rw [hct, decide_eq_true (by omega)]
        case measure => first | (simp [intOf]; done) | (simp [intOf]; omega)
    · have hkk : k = 3 := by omega
      subst hkk
      rw [ctA_all] at hne ⊢
      have hr : Repl R (wi.drewN d) := ⟨hri.hR, hri.plain, hri.spec, hri.list⟩
      have HB : Hid (∀ w', Below (wi.drewN d).heap.size (wi.drewN d) w' → Below wi.heap.size wi w') := fun w' h => ⟨h.os, h.tape, h.output, h.size, h.block⟩
      have hl1' : (wi.drewN d).cell? ⟨R, 256, none⟩ = some (.slice (some ⟨LB, 0, none⟩) 3 lcap) := hl1
      clear hl1 hl2 hl3 hl4 hl5 hri
      generalize wi.drewN d = w at hr HB hl1' ⊢
      have htk : s.data.toList.take s.size = s.data.toList := List.take_of_length_le (by omega)
      have hne : nEsc s.data.toList ≤ 1000 := by
        have := nEsc_le s.data.toList
        omega
      by_cases hz : nEsc s.data.toList = 0
      · have hd : decide (0 < nEsc s.data.toList) = false := decide_eq_false (by omega)
        go_wp2
        go_ret
        refine ⟨?_, HB.out _ (Below.refl _ _)⟩
        rw [escL_none _ hz]
        rfl
      · have hd : decide (0 < nEsc s.data.toList) = true := decide_eq_true (by omega)
        obtain ⟨N, hN⟩ : ∃ N, N = s.size + nEsc s.data.toList := ⟨_, rfl⟩
        have hNi : (s.size : Int) + (nEsc s.data.toList : Int) = (N : Int) := by omega
        have hNle : N ≤ 2000 := by omega
        have HN : Hid (N = s.size + nEsc s.data.toList) := hN
        clear hN hz
        go_wp2_with (at_make; refine wpList_make_full _ rfl _ _ 60 rfl w.heap.size 5 i0 (.int .u8 0) 1 Tryz.underlying60 hi hz0 hz1 _ _ _ _ N rfl rfl hNi hNi ?b2 ?b3 (Nat.le_refl _) ?_)
        case b2 => first | omega | (rw [hz2]; omega)
        case b3 => unfold maxLen; omega
        intro w0 hown0 hgrow0
        have hG0 : w0.heap[w.heap.size]? = some (.cells (rowC s N 0).toArray 5 (0, 0)) := by
          rcases hown0.2 with ⟨he, _⟩ | ⟨g, cap, cur, he, _, hg, _, _, hsz, hts⟩
          · cases he
          · cases he
            rw [hg]
            have h1 : cur.toList = List.replicate N (.int .u8 0) := by
              rw [List.take_of_length_le (by simp [hsz])] at hts
              rw [hts]
              exact madeCells_zero N
            have h2 : cur = (List.replicate N (.int .u8 0)).toArray := by rw [← h1]
            rw [h2]
            have h3 : rowC s N 0 = List.replicate N (.int .u8 0) := by simp [rowC, rowE, escL, Lib.byteCells]
            rw [h3]
        have hbel0 : Below w.heap.size w w0 := (Below.refl _ _).grown hgrow0 (Nat.le_refl _) (fun k h => by cases h)
        clear hown0 hgrow0
        go_wp2
        go_loopw [13, 14] (fun v13 v14 wr => ∃ k : Nat, k ≤ s.size ∧ v14 = .int .i64 k ∧ v13 = .int .i64 ((escL (s.data.toList.take k)).length : Nat) ∧ Hid (wr.heap[w.heap.size]? = some (.cells (rowC s N k).toArray 5 (0, 0))) ∧ Below w.heap.size w wr) (fun _ i _ => s.size - (intOf i).toNat)
        case atStart => exact ⟨0, by omega, rfl, rfl, hG0, hbel0⟩
        case round =>
          obtain ⟨k, hk, rfl, rfl, hG, hbel⟩ := hrel
          by_cases hlt : k < s.size
          · have hget : s.data.toList[k]'(by omega) = s[k] := rfl
            have h256 : (s[k].toNat : Int) < 256 := by have := s[k].toNat_lt; omega
            have hstep := escL_take s.data.toList k (by omega)
            rw [hget] at hstep
            have hle := escL_mono s.data.toList (k + 1)
            rw [hstep, List.length_append, escL_len s.data.toList, hlen, ← HN.out] at hle
            have hstep := Hid.mk' hstep
            obtain ⟨j, hj⟩ : ∃ j, j = (escL (s.data.toList.take k)).length := ⟨_, rfl⟩
            rw [← hj] at hle ⊢
            have HJ : Hid (j = (escL (s.data.toList.take k)).length) := hj
            clear hj
            by_cases hc : isEsc s[k]
            · obtain ⟨B, cap, hb1, hb2, hb3, hb4⟩ := (hr.below hbel).spec s[k] hc
              have h1e : (esc1 s[k]).length = 2 := by simp [esc1, hc]
              rw [h1e] at hle
              have hjN : (j : Int) < (N : Int) := by omega
              have hne2 : ¬ (N = j) := by omega
              have hjle : j ≤ N := by omega
              have hcs : ∀ j' v, ([.int .u8 92, .int .u8 (escOf s[k]).toNat] : List Value)[j']? = some v → wr.drew.cell? ((⟨B, 0, none⟩ : Addr).add j') = some v := by
                intro j' v hv
                match j', hv with
                | 0, hv => simp at hv; subst hv; exact hb3
                | 1, hv => simp at hv; subst hv; exact hb4
              have hx1 : Hid (([.int .u8 92, .int .u8 (escOf s[k]).toNat] : List Value).length = Nat.min 2 (N - j)) := by
                show 2 = min 2 (N - j)
                omega
              have hx2 : Hid (j + ([.int .u8 92, .int .u8 (escOf s[k]).toNat] : List Value).length ≤ (rowC s N k).length) := by
                show j + 2 ≤ _
                unfold rowC
                rw [rowE_len _ _ (by rw [← HJ.out]; omega)]
                omega
              have hx3 : Hid (∀ v ∈ ([.int .u8 92, .int .u8 (escOf s[k]).toNat] : List Value), v.oneCell' = true) := by
                intro v hv
                simp only [List.mem_cons, List.not_mem_nil, or_false] at hv
                rcases hv with rfl | rfl <;> rfl
              have hcs := Hid.mk' hcs
              go_wp2
              go_region_law (refine step_copy_splice rfl (.tmp 105) (.tmp 111) 60 60 rfl 5 Tryz.underlying60 (by kernel_rfl) (some ⟨w.heap.size, j, none⟩) (some ⟨B, 0, none⟩) (N - j) (N - j) 2 cap (by simp [Act.eval]) (by simp [Act.eval]) w.heap.size j (rowC s N k) 5 hG.out [.int .u8 92, .int .u8 (escOf s[k]).toNat] hx1.out (fun _ => ⟨rfl, _, rfl, hcs.out⟩) hx2.out hx3.out w.heap.size w hbel.drew (Nat.le_refl _) ?_; intro w2 hG2 hbel2)
              go_wp2
              go_roundw
              case rel =>
                refine ⟨k + 1, by omega, by go_num, ?_, ?_, hbel2⟩
                · rw [hstep.out, List.length_append, h1e, ← HJ.out]; rfl
                · have e : rowC s N (k + 1) = splice (rowC s N k) j [.int .u8 92, .int .u8 (escOf s[k]).toNat] := by
                    have := rowE_splice (escL (s.data.toList.take k)) [92, escOf s[k]] N (by rw [← HJ.out]; exact hle)
                    rw [← HJ.out] at this
                    unfold rowC
                    rw [hstep.out]
                    simp only [esc1, hc, if_true]
                    exact this.symm
                  rw [e]
                  exact hG2
              case measure => first | (simp [intOf]; done) | (simp [intOf]; omega)
            · have hb1 := (hr.below hbel).plain s[k] (by simpa using hc)
              have h1e : (esc1 s[k]).length = 1 := by simp [esc1, hc]
              rw [h1e] at hle
              have hGc : wr.cell? ⟨w.heap.size, j, none⟩ = some (.int .u8 0) := by
                rw [Lib.cell_of_heap hG.out]
                have := rowE_at (escL (s.data.toList.take k)) N (by rw [← HJ.out]; omega)
                rw [← HJ.out] at this
                simpa [rowC] using this
              have hGf : wr.frozen? ⟨w.heap.size, j, none⟩ = false := Lib.frozen_of_heap hG.out j
              have hjN : (j : Int) < (N : Int) := by omega
              go_wp2
              go_roundw
              case rel =>
                refine ⟨k + 1, by omega, by go_num, ?_, ?_, ?_⟩
                · rw [hstep.out, List.length_append, h1e, ← HJ.out]; rfl
                · have e : (rowC s N k).set j (.int .u8 s[k].toNat) = rowC s N (k + 1) := by
                    have := rowE_set (escL (s.data.toList.take k)) s[k] N (by rw [← HJ.out]; omega)
                    rw [← HJ.out] at this
                    unfold rowC
                    rw [hstep.out]
                    simp only [esc1, hc, if_false, Bool.false_eq_true]
                    exact this
                  exact setCell_row hG.out e
                · exact hbel.setCell (p := ⟨w.heap.size, j, none⟩) (Nat.le_refl _) _
              case measure => first | (simp [intOf]; done) | (simp [intOf]; omega)
          · have hkk : k = s.size := by omega
            subst hkk
            have hN2 : N = (escL s.data.toList).length := by rw [escL_len, hlen]; exact HN.out
            have hrow : rowC s N s.size = Lib.byteCells (escL s.data.toList) := by
              unfold rowC rowE
              rw [htk, ← hN2, Nat.sub_self]
              simp
            rw [hrow] at hG
            have hcv : (convert 60 9 (.slice (some ⟨w.heap.size, 0, none⟩) N N)).run Tryz.prog wr = .ok (.string ⟨(escL s.data.toList).toArray⟩) wr := by
              have := run_convert_bytes_back (P := Tryz.prog) wr 60 9 5 ⟨w.heap.size, 0, none⟩ N (escL s.data.toList) Tryz.underlying60 Tryz.underlying5 Tryz.underlying9 (fun j hj => by
                rw [show (⟨w.heap.size, 0, none⟩ : Addr).add j = ⟨w.heap.size, j, none⟩ by simp [Addr.add] <;> omega, Lib.cell_of_heap hG.out]
                simp [Lib.byteCells, hj])
              rw [← hN2] at this
              exact this
            clear hN2 hrow
            go_wp2
            go_ret
            exact ⟨rfl, HB.out _ hbel⟩
theorem repl_any (s : ByteArray) (hs : s.size ≤ 1000) (R : Nat) (w : World) (hr : Repl R w) :
    Calls Tryz.prog 654 #[.pointer (some ⟨R, 0, none⟩), .string s] w fun e w' => e = .returned (.string ⟨(escL s.data.toList).toArray⟩) ∧ Below w.heap.size w w' := by
  by_cases h : 24 ≤ s.size
  · exact replace_big s hs R w hr h
  · exact replace_any s hs R w hr h
end Go.Proofs
