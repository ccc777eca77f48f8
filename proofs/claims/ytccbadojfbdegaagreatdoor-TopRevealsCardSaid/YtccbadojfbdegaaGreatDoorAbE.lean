/- Single operations, the end; regions in the order of the text. -/
import Derived.Lib.UnsafeStr
import Derived.Laws.BytesString
import Derived.LoopNIn
import Derived.Test.YtccbadojfbdegaaGreatDoorAbD
/- Soundness of single operations, 11: conversions, interfaces, new variables. -/
namespace Go.Ab

variable {E : Env} {G : Ground} {μ : Map} {H : AHeap} {w : World}

theorem ifaceA_run {t : Nat} {x v : AVal} {x' : Value} (h : ifaceA E t x = some v) (hx : VRel G.I μ x x') (w : World) : (Instr.makeInterface t x').run E.P w = .ok (.iface t x') w ∧ VRel G.I μ v (.iface t x') := by
  unfold ifaceA at h
  cases hu : under E t with
  | none => rw [hu] at h; cases h
  | some d =>
    rw [hu] at h
    refine ⟨?_, ?_⟩
    · unfold Instr.makeInterface
      simp only [Sem.run_bind, run_under hu, Result.andThen_ok]
      cases d <;> first | rfl | cases h
    · cases d <;> first | (cases h; exact .iface _ _ _ hx) | cases h

theorem okPair_rel {ok b : Bool} {v : AVal} {v' : Value} (hv : VRel G.I μ v v') : VRel G.I μ (okPair ok v b) (if ok then .tuple #[v', .bool b] else v') := by
  cases ok
  · exact hv
  · exact .tuple _ _ (.cons hv (.cons (.bool _) .nil))

theorem assertC_run {t : Nat} {ok : Bool} {v : AVal} (h : assertC E t ok = some v) (w : World) : ok = true ∧ ∃ z', (zeroValue t).run E.P w = .ok z' w ∧ VRel G.I μ v (.tuple #[z', .bool false]) := by
  unfold assertC at h
  cases ok with
  | false => cases h
  | true =>
    simp only [cond_true] at h
    split at h
    · rename_i z hz
      cases h
      obtain ⟨z', hr, hv⟩ := zeroA_run (G := G) (μ := μ) hz w
      exact ⟨rfl, z', hr, .tuple _ _ (.cons hv (.cons (.bool _) .nil))⟩
    · cases h

theorem assertA_run {x v : AVal} {x' : Value} {t xt : Nat} {ok : Bool} (h : assertA E x t ok = some v) (hx : VRel G.I μ x x') (w : World) :
    ∃ v', (Instr.typeAssert x' xt t ok).run E.P w = .ok v' w ∧ VRel G.I μ v v' := by
  unfold assertA at h
  cases hu : under E t with
  | none => rw [hu] at h; cases h
  | some d =>
    rw [hu] at h
    have hd : ∀ ms, d ≠ .interface ms := fun ms e => by subst e; cases h
    have h' : assertV E x t ok = some v := by
      cases d with
      | interface ms => exact absurd rfl (hd ms)
      | _ => exact h
    clear h
    unfold assertV at h'
    split at h'
    · rename_i u v0
      cases hx with
      | iface _ _ v0' hv0 =>
      cases hb : Nat.beq u t with
      | true =>
        rw [hb] at h'
        cases h'
        have := Nat.eq_of_beq_eq_true hb
        subst this
        refine ⟨if ok then .tuple #[v0', .bool true] else v0', ?_, okPair_rel hv0⟩
        unfold Instr.typeAssert
        simp only [Sem.run_bind, run_under hu, Result.andThen_ok]
        cases d with | interface ms => exact absurd rfl (hd ms) | _ => simp only [if_true, Sem.run_pure]
      | false =>
        rw [hb] at h'
        simp only [cond_false] at h'
        have hne : ¬ u = t := fun e => by subst e; rw [Nat.beq_refl] at hb; cases hb
        obtain ⟨rfl, z', hr, hv⟩ := assertC_run (G := G) (μ := μ) h' w
        refine ⟨_, ?_, hv⟩
        unfold Instr.typeAssert
        simp only [Sem.run_bind, run_under hu, Result.andThen_ok]
        cases d with | interface ms => exact absurd rfl (hd ms) | _ => simp only [hne, if_false, if_true, Sem.run_bind, hr, Result.andThen_ok, Sem.run_pure]
    · cases hx
      obtain ⟨rfl, z', hr, hv⟩ := assertC_run (G := G) (μ := μ) h' w
      refine ⟨_, ?_, hv⟩
      unfold Instr.typeAssert
      simp only [Sem.run_bind, run_under hu, Result.andThen_ok]
      cases d with | interface ms => exact absurd rfl (hd ms) | _ => simp only [if_true, Sem.run_bind, hr, Result.andThen_ok, Sem.run_pure]
    · cases h'

theorem extractA_run {x v : AVal} {x' : Value} {i : Nat} (h : extractA x i = some v) (hx : VRel G.I μ x x') (w : World) : ∃ v', (Instr.extract x' i).run E.P w = .ok v' w ∧ VRel G.I μ v v' := by
  unfold extractA at h
  split at h
  · cases h
  · rename_i vs hne
    rw [nth_eq] at h
    cases hx with
    | top => simp at h
    | undef => exact absurd rfl hne
    | tuple _ a' ha =>
      obtain ⟨y, hy, hv⟩ := ha.get h
      rw [Array.getElem?_toList] at hy
      exact ⟨y, by simp [Instr.extract, hy], hv⟩
  · cases h

theorem allocA_run {t : Nat} {o : AObj} {nv : NewV} {old : Value} (h : allocA E t = some (o, nv)) (w : World) : NewOk E G μ w (Instr.alloc t true old) o nv := by
  unfold allocA at h
  split at h
  · rename_i z hz
    cases h
    obtain ⟨z', hr, hv, hs⟩ := zeroCells_run (G := G) (μ := μ) hz w
    refine ⟨.pointer (some ⟨w.heap.size, 0, none⟩), .cells z'.cells t, z'.cells.size, ?_, .cells _ _ _ _ _ (0, 0) rfl (PRel.whole hv) rfl, fun μ' b hb => .ptr _ _ _ _ hb⟩
    simp only [Instr.alloc, Sem.run_bind, hr, Result.andThen_ok, newVar, newRow, run_newObj, Sem.run_pure]
  · cases h

theorem boxA_run {t : Nat} {x : AVal} {x' : Value} {o : AObj} {nv : NewV} (h : boxA t x = some (o, nv)) (hx : VRel G.I μ x x') (w : World) : NewOk E G μ w (Instr.box t x') o nv := by
  unfold boxA at h
  split at h
  · rename_i l hl
    cases h
    have hv := cellsO_rel hl hx
    refine ⟨.pointer (some ⟨w.heap.size, 0, none⟩), .cells x'.cells t, x'.cells.size, ?_, .cells _ _ _ _ _ (0, 0) rfl (PRel.whole hv) rfl, fun μ' b hb => .ptr _ _ _ _ hb⟩
    simp only [Instr.box, Sem.run_bind, Result.andThen_ok, newVar, newRow, run_newObj, Sem.run_pure]
  · cases h

theorem makeMap_run {t : Nat} (w : World) : NewOk E G μ w (Instr.makeMap t none) (.map [] 0) .map := by
  refine ⟨.map (some w.heap.size), .map #[] 0, 0, ?_, .map _ _ _ _ .nil, fun μ' b hb => .map _ _ _ hb⟩
  unfold Instr.makeMap
  simp only [Sem.run_bind, run_newObj, Result.andThen_ok, Sem.run_pure]

theorem pickA_run {c a b v : AVal} {c' a' b' : Value} (h : pickA c a b = some v) (hc : VRel G.I μ c c') (ha : VRel G.I μ a a') (hb : VRel G.I μ b b') (w : World) :
    ∃ q, (asBool c').run E.P w = .ok q w ∧ VRel G.I μ v (if q then a' else b') := by
  unfold pickA at h
  split at h
  · cases h; cases hc; exact ⟨true, rfl, ha⟩
  · cases h; cases hc; exact ⟨false, rfl, hb⟩
  · cases h

theorem loadOp_run (hw : WRel G μ H w) {t b o : Nat} {v : AVal} {x' : Value} (h : loadA E t H b o = some v) (hx : VRel G.I μ (.ptr b o) x') : ∃ v', (Instr.loadAt t x').run E.P w = .ok v' w ∧ VRel G.I μ v v' := by
  cases hx with
  | ptr _ _ c n hm =>
  obtain ⟨v', hr, hv⟩ := loadA_run (E := E) hw h hm
  refine ⟨v', ?_, hv⟩
  unfold Instr.loadAt
  simp only [Sem.run_bind, Instr.sureAddr, Sem.run_pure, Result.andThen_ok]
  exact hr

theorem storeOp_run (hw : WRel G μ H w) {t b o : Nat} {v : AVal} {x' v' : Value} {H' : AHeap} (h : storeA E t H b o v = some H') (hx : VRel G.I μ (.ptr b o) x') (hv : VRel G.I μ v v') :
    ∃ w', (Instr.storeAt t x' v').run E.P w = .ok () w' ∧ Nxt G μ H w μ H' w' := by
  cases hx with
  | ptr _ _ c n hm =>
  obtain ⟨w', hr, hn⟩ := storeA_run (E := E) hw h hm hv
  refine ⟨w', ?_, hn⟩
  unfold Instr.storeAt
  simp only [Sem.run_bind, Instr.sureAddr, Sem.run_pure, Result.andThen_ok]
  exact hr

theorem sliceDataA_run {x v : AVal} {x' : Value} {ts : Array Nat} {ty : Nat} (h : sliceDataA x = some v) (hx : VRel G.I μ x x') (w : World) : ∃ v', (Builtin.unsafeSliceData_ ts ty #[x']).run E.P w = .ok v' w ∧ VRel G.I μ v v' := by
  unfold sliceDataA at h
  split at h
  · cases h; cases hx; exact ⟨.pointer none, rfl, .nilptr⟩
  · rename_i b o d1 cap d2 d3
    cases h
    cases hx with
    | slice _ _ _ _ _ _ c m off cap' hm hl hc he hb =>
    have hoff : off = o := by
      rcases hb with hb | ⟨hb, _⟩
      · omega
      · exact hb
    subst hoff
    exact ⟨_, Lib.run_unsafeSliceData_row w ts ty _ _ _ (by omega), .ptr _ _ _ _ hm⟩
  · cases h

/-! ### conversions -/

theorem bytesIn_spec {I : Interp} : ∀ {cs : List AVal} {cs' : List Value} {l : List Nat}, bytesIn cs = some l → VsRel I μ cs cs' → cs' = l.map (fun n => Value.int .u8 (Int.ofNat n)) ∧ ∀ n ∈ l, n ≤ 255 := by
  intro cs
  induction cs with
  | nil => intro cs' l h hv; cases hv; simp [bytesIn] at h; subst h; exact ⟨rfl, fun n hn => by simp at hn⟩
  | cons x cs ih =>
    intro cs' l h hv
    cases hv with
    | cons hx hs =>
    unfold bytesIn at h
    split at h
    · rename_i e; cases e
    · rename_i c cs1 e
      cases e
      cases hb : Nat.ble c 255 with
      | false => rw [hb] at h; cases h
      | true =>
        rw [hb] at h
        simp only [cond_true] at h
        split at h
        · rename_i l1 hl1
          cases h
          cases hx
          obtain ⟨h1, h2⟩ := ih hl1 hs
          refine ⟨by rw [h1]; rfl, fun n hn => ?_⟩
          rcases List.mem_cons.1 hn with rfl | hn
          · exact Nat.le_of_ble_eq_true hb
          · exact h2 n hn
        · cases h
    · cases h

def mkBytes (l : List Nat) : ByteArray := ⟨(l.map UInt8.ofNat).toArray⟩

theorem bytesOf_mk {l : List Nat} (h : ∀ n ∈ l, n ≤ 255) : bytesOf (mkBytes l) = l := by
  simp only [bytesOf, mapL_eq, mkBytes, List.map_map]
  have : ∀ n ∈ l, (UInt8.toNat ∘ UInt8.ofNat) n = n := fun n hn => by
    have := h n hn
    simp only [Function.comp, UInt8.toNat_ofNat']
    omega
  rw [List.map_congr_left this]
  simp

theorem fold_push (l : List Nat) : ∀ acc : ByteArray, (l.map Int.ofNat).foldl (fun r n => r.push (UInt8.ofNat n.toNat)) acc = ⟨acc.data ++ (l.map UInt8.ofNat).toArray⟩ := by
  induction l with
  | nil => intro acc; simp
  | cons x l ih =>
    intro acc
    simp only [List.map_cons, List.foldl_cons, ih]
    apply ByteArray.ext
    simp [ByteArray.push]

theorem toStr_run (hw : WRel G μ H w) {b o n cap : Nat} {v : AVal} {c m off : Nat} (h : toStr b o n H = some v) (hm : μ b = some (c, m)) (ho : n = 0 ∨ off = o) :
    ∃ v', (Conv.bytesToString (.slice (some ⟨c, off, none⟩) n cap)).run E.P w = .ok v' w ∧ VRel G.I μ v v' := by
  unfold toStr at h
  split at h
  · rename_i cs hcs
    split at h
    · rename_i l hl
      cases h
      obtain ⟨vs, hr, hv, hlen⟩ := orow_run (E := E) hw hcs hm off ho
      obtain ⟨h1, h2⟩ := bytesIn_spec hl hv
      have hvs : vs = ((l.map Int.ofNat).map (Value.int .u8)).toArray := by
        apply Array.ext'
        rw [h1]
        simp
      rw [hvs] at hr
      refine ⟨_, run_bytesToString w _ _ _ _ hr, ?_⟩
      rw [fold_push]
      refine .str _ _ ?_
      have : (⟨ByteArray.empty.data ++ (l.map UInt8.ofNat).toArray⟩ : ByteArray) = mkBytes l := by
        apply ByteArray.ext; simp [mkBytes]
      rw [this, bytesOf_mk h2]
      rfl
    · cases h
  · cases h

theorem toUnsafeA_run (hw : WRel G μ H w) {t ts td : Nat} {x v : AVal} {x' : Value} {H' : AHeap} (hs : under E ts = some (.pointer t)) (hd : under E td = some .unsafePointer) (h : toUnsafeA E t x H = some (v, H')) (hx : VRel G.I μ x x') :
    (convert ts td x').run E.P w = .ok x' w ∧ v = x ∧ H' = H := by
  unfold toUnsafeA at h
  split at h
  · rename_i b o
    cases hx with
    | ptr _ _ c n hm =>
    split at h
    · rename_i s cs e fz hsz hg
      cases hb : Nat.ble (Nat.succ o) (lenL cs) with
      | false => rw [hb] at h; cases h
      | true =>
        rw [hb] at h
        cases h
        have hle := Nat.le_of_ble_eq_true hb
        rw [lenL_eq] at hle
        obtain ⟨c', fr, hc, hn, hp, _⟩ := block_of_cells hw hg hm
        have hsh : w.shape? c = some (e, c'.size) := by simp [World.shape?, hc]
        have hge : ¬ (c'.size ≤ o) := by have := hp.1; omega
        refine ⟨?_, rfl, rfl⟩
        simp [convert, Conv.unsafePointer, Conv.seenAt, viewAt, cellsIn, run_under hs, run_under hd, run_size hsz, hsh, hge]
    · cases h
  · cases h

theorem cellsOf_eq {t n : Nat} (h : szOf E t = some n) : E.P.cellsOf t = n := by
  obtain ⟨i, hi, hs⟩ := szOf_info h
  simp [Program.cellsOf, hi, hs]

theorem fromUnsafeA_run (hw : WRel G μ H w) {u ts td : Nat} {x v : AVal} {x' : Value} {H' : AHeap} (hs : under E ts = some .unsafePointer) (hd : under E td = some (.pointer u)) (h : fromUnsafeA E u x H = some (v, H')) (hx : VRel G.I μ x x') :
    (convert ts td x').run E.P w = .ok x' w ∧ v = x ∧ H' = H := by
  unfold fromUnsafeA at h
  split at h
  · rename_i b
    cases hx with
    | ptr _ _ c n hm =>
    split at h
    · rename_i s cs e fz hsz hg
      cases he : Nat.beq e u with
      | false => rw [he] at h; cases h
      | true =>
        cases hb : Nat.ble (s + 1) (lenL cs) with
        | false => rw [he, hb] at h; cases h
        | true =>
        rw [he, hb] at h
        cases h
        have := Nat.eq_of_beq_eq_true he
        subst this
        have hle := Nat.le_of_ble_eq_true hb
        rw [lenL_eq] at hle
        obtain ⟨c', fr, hc, hn, hp, _⟩ := block_of_cells hw hg hm
        have hsh : w.shape? c = some (e, c'.size) := by simp [World.shape?, hc]
        have hco := cellsOf_eq (E := E) hsz
        have hlies : liesAt E.P E.P.depth e (c'.size / E.P.cellsOf e) 0 e 1 = true := by
          have hd : E.P.depth = (2 * (E.P.types.size + Made.depth) + 1) + 1 := rfl
          rw [hd]
          simp only [liesAt, Bool.or_eq_true]
          left
          rw [hd]
          have hdiv : 1 ≤ c'.size / (s + 1) := (Nat.le_div_iff_mul_le (by omega)).2 (by have := hp.1; omega)
          simp only [rowAt, hco, sameLayout]
          simp [hdiv]
        refine ⟨?_, rfl, rfl⟩
        have hvar : (variablesAt ⟨c, 0, none⟩ e 1).run E.P w = .ok true w := by
          simp [variablesAt, hsh, hlies]
        simp [convert, Conv.unsafePointer, Conv.seenAt, viewAt, run_under hs, run_under hd, run_size hsz, hsh, hvar]
    · cases h
  · cases h

theorem push_modify {α : Type} (a : Array α) (x : α) (f : α → α) : (a.push x).modify a.size f = a.push (f x) := by
  apply Array.ext
  · simp
  · intro i h1 h2
    simp only [Array.getElem_modify, Array.getElem_push]
    by_cases hi : a.size = i
    · subst hi; simp
    · simp only [hi, if_false]
      have : i < a.size := by simp at h2; omega
      simp [this]

theorem stringToBytes_run (hw : WRel G μ H w) {ts td e : Nat} {s : ByteArray} (hs : under E ts = some .string) (hd : under E td = some (.slice e)) (hu : under E e = some (.int .u8)) :
    ∃ v' w' μ', (convert ts td (.string s)).run E.P w = .ok v' w' ∧ Nxt G μ H w μ' (H.alloc (.cells (mapL u8 (bytesOf s)) e .marked)) w' ∧ VRel G.I μ' (.slice H.next 0 (lenL (bytesOf s)) (lenL (bytesOf s)) false 1) v' := by
  let w1 : World := { w with drawn := w.drawn + 1 }
  let cap := (Question.appendCap s.size 0 e).cut (w.tape w.drawn (.appendCap s.size 0 e))
  have hcap : s.size ≤ cap := by show s.size ≤ s.size + _ % _; omega
  let elems : Array Value := s.data.map fun b => .int .u8 b.toNat
  let row := elems ++ Array.replicate (cap - s.size) (Value.int .u8 0)
  have hrow : row.size = cap := by
    show (elems ++ Array.replicate (cap - s.size) (Value.int .u8 0)).size = cap
    have : s.data.size = s.size := rfl
    simp [elems]
    omega
  have hel : VsRel G.I μ (mapL u8 (bytesOf s)) elems.toList := by
    simp only [bytesOf, mapL_eq, elems, Array.toList_map, List.map_map]
    exact VsRel.map fun b _ => u8_rel b
  have hpr : PRel G.I μ (mapL u8 (bytesOf s)) row := by
    have hl := hel.length
    refine ⟨?_, ?_⟩
    · show _ ≤ (elems ++ _).size
      rw [hl]; simp
    · show VsRel G.I μ _ ((elems ++ _).toList.take _)
      rw [hl, Array.toList_append, List.take_left]
      exact hel
  have hlen : lenL (bytesOf s) = s.size := by rw [lenL_eq, bytesOf_length]
  let w2 : World := { w1 with heap := w.heap.push (.cells row e (row.size, row.size + 1)) }
  refine ⟨.slice (some ⟨w.heap.size, 0, none⟩) s.size cap, w2, μ.add H.next (w.heap.size, row.size), ?_, Nxt.alloc hw (.cells _ _ _ _ _ _ rfl (hpr.mono (Map.le_add hw _)) (.inl rfl)) rfl rfl rfl, ?_⟩
  · unfold convert
    simp only [Sem.run_bind, run_under hs, run_under hd, run_under hu, Result.andThen_ok, Conv.stringToBytes, run_choose, Question.forced, Bool.false_eq_true, if_false, newRow, run_newObj, Sem.run_pure, markStringish, run_shape]
    have hsh : World.shape? { w1 with heap := w1.heap.push (.cells row e) } w.heap.size = some (e, row.size) := by simp [World.shape?, w1]
    have hfr : World.freeze { w1 with heap := w1.heap.push (.cells row e) } { block := w.heap.size, off := row.size } 1 = w2 := by
      simp only [World.freeze]
      show ({ w1 with heap := (w.heap.push (.cells row e)).modify w.heap.size _ } : World) = w2
      rw [push_modify]
      rfl
    refine (congrArg (fun r => Result.andThen r _) (?_ : _ = Result.ok () w2)).trans rfl
    show (Sem.run E.P (match World.shape? { w1 with heap := w1.heap.push (.cells row e) } w.heap.size with
      | some (_, n) => freeze { block := w.heap.size, off := n } 1
      | _ => pure ()) { w1 with heap := w1.heap.push (.cells row e) }) = Result.ok () w2
    rw [hsh]
    simp only [run_freeze]
    rw [hfr]
  · rw [hlen]
    exact .slice _ _ _ _ _ _ w.heap.size row.size 0 cap (Map.add_self _ _ _) hcap hcap (fun e => by cases e) (.inr ⟨rfl, by omega⟩)

theorem convA_run (hw : WRel G μ H w) {ts td : Nat} {x v : AVal} {x' : Value} {H' : AHeap} (h : convA E ts td x H = some (v, H')) (hx : VRel G.I μ x x') :
    ∃ v' w' μ', (convert ts td x').run E.P w = .ok v' w' ∧ Nxt G μ H w μ' H' w' ∧ VRel G.I μ' v v' := by
  unfold convA at h
  split at h
  · rename_i k1 k hs hd
    split at h
    · rename_i k2 n
      cases h
      cases hx
      refine ⟨.int k (k.wrap n), w, μ, ?_, Nxt.refl hw, by rw [wrapI_eq]; exact .int _ _⟩
      unfold convert
      simp only [Sem.run_bind, run_under hs, run_under hd, Result.andThen_ok, Conv.intToInt, Sem.run_pure]
    · cases h
  · rename_i hs hd
    split at h
    · rename_i s
      cases h
      cases hx with
      | str _ b hb =>
      refine ⟨.string b, w, μ, ?_, Nxt.refl hw, .str _ _ hb⟩
      unfold convert
      simp only [Sem.run_bind, run_under hs, run_under hd, Result.andThen_ok, Sem.run_pure]
    · cases h
  · rename_i e hs hd
    split at h
    · rename_i l
      split at h
      · rename_i hu hz
        cases h
        cases hx with
        | str _ b hb =>
        simp only [Interp.den] at hb
        subst hb
        exact stringToBytes_run hw hs hd hu
      · cases h
    · cases h
  · rename_i e hs hd
    split at h
    · rename_i hu
      cases h
      cases hx
      refine ⟨.string .empty, w, μ, ?_, Nxt.refl hw, .str _ _ rfl⟩
      unfold convert
      simp only [Sem.run_bind, run_under hs, run_under hd, run_under hu, Result.andThen_ok, Conv.bytesToString, Sem.run_pure]
    · rename_i b o n d1 d2 d3 hu
      split at h
      · rename_i v1 hv1
        cases h
        cases hx with
        | slice _ _ _ _ _ _ c m off cap' hm hl hc he hb =>
        have ho : n = 0 ∨ off = o := by
          rcases hb with hb | ⟨hb, _⟩
          · left; omega
          · right; exact hb
        obtain ⟨v', hr, hv⟩ := toStr_run (E := E) (cap := cap') hw hv1 hm ho
        refine ⟨v', w, μ, ?_, Nxt.refl hw, hv⟩
        unfold convert
        simp only [Sem.run_bind, run_under hs, run_under hd, run_under hu, Result.andThen_ok]
        exact hr
      · cases h
    · cases h
  · rename_i u hs hd
    obtain ⟨hr, rfl, rfl⟩ := fromUnsafeA_run hw hs hd h hx
    exact ⟨x', w, μ, hr, Nxt.refl hw, hx⟩
  · rename_i t hs hd
    obtain ⟨hr, rfl, rfl⟩ := toUnsafeA_run hw hs hd h hx
    exact ⟨x', w, μ, hr, Nxt.refl hw, hx⟩
  · cases h

/-! ### texts out of bytes -/

theorem freeze_run (hw : WRel G μ H w) {b c m n : Nat} {cs : List AVal} {e : Nat} {fz fz' : Frz} (hg : H.get b = some (.cells cs e fz)) (hm : μ b = some (c, m)) (hn : 0 < n)
    (h : frozenA fz n = some fz') : Nxt G μ H w μ (H.put b (.cells cs e fz')) (w.freeze ⟨c, 0, none⟩ n) := by
  obtain ⟨c', fr, hc, hnn, hp, hz⟩ := block_of_cells hw hg hm
  obtain ⟨lo, hi⟩ := fr
  have hn0 : ¬ n = 0 := by omega
  have hro : (AObj.cells cs e fz).isRo = false := by
    unfold frozenA at h
    split at h
    · rfl
    · rfl
    · cases h
  have hz' : ZRel fz' (if lo == hi then (0, 0 + n) else (min lo 0, max hi (0 + n))) m := by
    unfold frozenA at h
    split at h
    · cases h
      have : lo = hi := hz
      simp [this, ZRel]
    · rename_i h0
      cases h
      obtain ⟨g1, g2⟩ : lo = 0 ∧ hi ≤ _ := hz
      subst g1
      by_cases hh : (0 : Nat) = hi
      · subst hh
        simp [ZRel]
        exact Nat.le_max_right _ _
      · simp [hh, ZRel]
        exact Nat.max_le.2 ⟨Nat.le_trans g2 (Nat.le_max_left _ _), Nat.le_max_right _ _⟩
    · cases h
  refine Nxt.put hw hg hro hm (.cells _ _ _ _ c' (if lo == hi then (0, 0 + n) else (min lo 0, max hi (0 + n))) hnn hp hz') ?_ ?_ ?_
  · simp only [World.freeze, hn0, if_false]
    apply Array.ext
    · simp
    · intro i h1 h2
      obtain ⟨hlt, hce⟩ := Array.getElem?_eq_some_iff.1 hc
      rw [Array.getElem_modify, Array.getElem_setIfInBounds (by simpa using h2)]
      by_cases hi2 : c = i
      · subst hi2
        simp [hce]
      · simp [hi2]
  · simp only [World.freeze]; split <;> rfl
  · simp only [World.freeze]; split <;> rfl

theorem unsafeStringC_run (hw : WRel G μ H w) {t u b n c m it : Nat} {v : AVal} {H' : AHeap} {ty : Nat} (hu : under E t = some (.pointer u)) (h : unsafeStringC E t u b (n + 1) H = some (v, H'))
    (hm : μ b = some (c, m)) : ∃ v' w', (Builtin.unsafeString_ #[t, it] ty #[.pointer (some ⟨c, 0, none⟩), .int .i64 (Int.ofNat (n + 1))]).run E.P w = .ok v' w' ∧ Nxt G μ H w μ H' w' ∧ VRel G.I μ v v' := by
  unfold unsafeStringC at h
  split at h
  · rename_i cs e fz hg
    split at h
    · rename_i hk hsz
      cases hbe : Nat.beq u e with
      | false => rw [hbe] at h; cases h
      | true =>
      cases hbn : Nat.ble (n + 1) 1000000000 with
      | false => rw [hbe, hbn] at h; cases h
      | true =>
        rw [hbe, hbn] at h
        have := Nat.eq_of_beq_eq_true hbe
        subst this
        have hbn := Nat.le_of_ble_eq_true hbn
        simp only [cond_true] at h
        split at h
        · rename_i l hl
          split at h
          · rename_i s hs
            split at h
            · rename_i fz' hfz
              cases h
              have hnx := freeze_run hw hg hm (Nat.succ_pos n) hfz
              obtain ⟨c', fr, hc, hnn, hp, hz⟩ := block_of_cells hw hg hm
              obtain ⟨hle, rfl⟩ := takeN_some hl
              have hrel : VsRel G.I μ (cs.take (n + 1)) (c'.toList.take (n + 1)) := by
                have := hp.2.take (n + 1)
                rwa [List.take_take, Nat.min_eq_left hle] at this
              obtain ⟨h1, h2⟩ := bytesIn_spec hs hrel
              have hlen : s.length = n + 1 := by
                have := hrel.length
                rw [h1] at this
                simp only [List.length_take, List.length_map] at this
                omega
              have hsl : (s.map UInt8.ofNat).length = n + 1 := by simp [hlen]
              refine ⟨.string (mkBytes s), w.freeze ⟨c, 0, none⟩ (n + 1), ?_, hnx, .str _ _ (by rw [bytesOf_mk h2]; rfl)⟩
              have hrun := Lib.run_unsafeString_row (P := E.P) w t it ty u hu (cellsOf_eq hsz) c c'.size (by simp [World.shape?, hc]) (s.map UInt8.ofNat) (by intro e0; rw [e0] at hsl; simp at hsl) (by have := hp.1; omega) (by omega) (fun j x hx => by
                rw [add_plain, cell_of_block hc]
                have hj : j < s.length := by
                  have := (List.getElem?_eq_some_iff.1 hx).1
                  simpa using this
                have : c'.toList[j]? = (c'.toList.take (n + 1))[j]? := by rw [List.getElem?_take_of_lt (by omega)]
                rw [← Array.getElem?_toList, Nat.zero_add, this, h1]
                rw [List.getElem?_map] at hx ⊢
                rw [List.getElem?_eq_getElem hj] at hx ⊢
                simp only [Option.map_some, Option.some.injEq] at hx ⊢
                rw [← hx]
                have := h2 _ (List.getElem_mem hj)
                simp only [UInt8.toNat_ofNat']
                congr 1
                have h3 : s[j] % 2 ^ 8 = s[j] := Nat.mod_eq_of_lt (by omega)
                rw [h3]
                rfl)
              rw [hsl] at hrun
              exact hrun
            · cases h
          · cases h
        · cases h
    · cases h
  · cases h

theorem unsafeStringA_run (hw : WRel G μ H w) {t it : Nat} {p n v : AVal} {p' n' : Value} {H' : AHeap} {ty : Nat} (h : unsafeStringA E t p n H = some (v, H')) (hp : VRel G.I μ p p') (hn : VRel G.I μ n n') :
    ∃ v' w', (Builtin.unsafeString_ #[t, it] ty #[p', n']).run E.P w = .ok v' w' ∧ Nxt G μ H w μ H' w' ∧ VRel G.I μ v v' := by
  unfold unsafeStringA at h
  split at h
  · cases h; cases hp; cases hn
    exact ⟨.string .empty, w, Lib.run_unsafeString_none w t it ty none, Nxt.refl hw, .str _ _ rfl⟩
  · cases h; cases hn
    cases hp with
    | ptr _ _ c n hm => exact ⟨.string .empty, w, Lib.run_unsafeString_none w t it ty _, Nxt.refl hw, .str _ _ rfl⟩
  · split at h
    · rename_i u hu
      cases hn
      cases hp with
      | ptr _ _ c n hm =>
      exact unsafeStringC_run hw hu h hm
    · cases h
  · cases h

end Go.Ab
/- Soundness of single operations, 12: all of them. -/
namespace Go.Ab

variable {E : Env} {G : Ground} {μ : Map} {H : AHeap} {w : World}

inductive DRel (I : Interp) (μ : Map) : ADef → Deferred → Prop where
  | fn (f : Nat) (a b : List AVal) (a' b' : Array Value) (ha : VsRel I μ a a'.toList) (hb : VsRel I μ b b'.toList) : DRel I μ (.fn f a b) { target := .fn (.func f) a', args := b' }
  | collected (d c n : Nat) (h : μ d = some (c, n)) : DRel I μ (.collected d) { target := .collected c, args := #[] }

/-- what an operation comes to, in the model's words -/
def OpOk (E : Env) (G : Ground) (μ : Map) (H : AHeap) (w : World) (s : Sem Next) : Op1 → Prop
  | .val v H' => ∃ v' w' μ', s.run E.P w = .ok (.value v') w' ∧ Nxt G μ H w μ' H' w' ∧ VRel G.I μ' v v'
  | .skip H' => ∃ w' μ', s.run E.P w = .ok .skip w' ∧ Nxt G μ H w μ' H' w'
  | .call f args => ∃ args', s.run E.P w = (callFunc f args').run E.P w ∧ VsRel G.I μ args args'.toList
  | .round l args => ∃ c n args', μ l = some (c, n) ∧ s.run E.P w = (Instr.yield c args').run E.P w ∧ VsRel G.I μ args args'.toList
  | .defer d => ∃ d', s.run E.P w = .ok (.defer d') w ∧ DRel G.I μ d d'
  | .pan v => ∃ v', s.run E.P w = .halt (.panic v') w ∧ VRel G.I μ v v'
  | .fail => True

theorem vrels_map {ρ : Operand → AVal} {ρ' : Operand → Value} (hρ : ∀ x, VRel G.I μ (ρ x) (ρ' x)) (l : Array Operand) : VsRel G.I μ (mapL ρ l.toList) (l.map ρ').toList := by
  rw [mapL_eq, Array.toList_map]
  exact VsRel.map fun x _ => hρ x

theorem psrel_map {ρ : Operand → AVal} {ρ' : Operand → Value} (hρ : ∀ x, VRel G.I μ (ρ x) (ρ' x)) (ps : Array (Nat × Operand)) : PsRel G.I μ (partsA ρ ps) (ps.map fun (i, x) => (i, ρ' x)).toList := by
  unfold partsA
  rw [mapL_eq, Array.toList_map]
  induction ps.toList with
  | nil => exact .nil
  | cons p l ih => exact .cons (hρ p.2) ih

theorem brel_oval {ρ : Operand → AVal} {ρ' : Operand → Value} (hρ : ∀ x, VRel G.I μ (ρ x) (ρ' x)) (x : Option Operand) : BRel G.I μ (oval ρ x) (x.map ρ') := by
  cases x with
  | none => exact .none
  | some x => exact .some (hρ x)

section
variable {s : Sem Value}

theorem opOk_ofV {r : Option AVal} (h : ∀ v, r = some v → ∃ v', s.run E.P w = .ok v' w ∧ VRel G.I μ v v') (hw : WRel G μ H w) : OpOk E G μ H w (do pure (.value (← s))) (Op1.ofV H r) := by
  cases r with
  | none => exact trivial
  | some v =>
    obtain ⟨v', hr, hv⟩ := h v rfl
    exact ⟨v', w, μ, by simp only [Sem.run_bind, hr, Result.andThen_ok, Sem.run_pure], Nxt.refl hw, hv⟩

theorem opOk_ofVH {r : Option (AVal × AHeap)} (h : ∀ v H', r = some (v, H') → ∃ v' w' μ', s.run E.P w = .ok v' w' ∧ Nxt G μ H w μ' H' w' ∧ VRel G.I μ' v v') : OpOk E G μ H w (do pure (.value (← s))) (Op1.ofVH r) := by
  cases r with
  | none => exact trivial
  | some x =>
    obtain ⟨v, H'⟩ := x
    obtain ⟨v', w', μ', hr, hn, hv⟩ := h v H' rfl
    exact ⟨v', w', μ', by simp only [Sem.run_bind, hr, Result.andThen_ok, Sem.run_pure], hn, hv⟩

theorem opOk_ofNew {r : Option (AObj × NewV)} (h : ∀ o nv, r = some (o, nv) → NewOk E G μ w s o nv) (hw : WRel G μ H w) : OpOk E G μ H w (do pure (.value (← s))) (Op1.ofNew H r) := by
  cases r with
  | none => exact trivial
  | some x =>
    obtain ⟨o, nv⟩ := x
    obtain ⟨v', o', n, hr, ho, hv⟩ := h o nv rfl
    have hn : Nxt G μ H w (μ.add H.next (w.heap.size, n)) (H.alloc o) { w with heap := w.heap.push o' } := Nxt.alloc hw (ho.mono (Map.le_add hw _)) rfl rfl rfl
    exact ⟨v', _, _, by simp only [Sem.run_bind, hr, Result.andThen_ok, Sem.run_pure], hn, hv _ _ (Map.add_self _ _ _)⟩

theorem opOk_ofH {u : Sem Unit} {r : Option AHeap} (h : ∀ H', r = some H' → ∃ w', u.run E.P w = .ok () w' ∧ Nxt G μ H w μ H' w') : OpOk E G μ H w (do u; pure .skip) (Op1.ofH r) := by
  cases r with
  | none => exact trivial
  | some H' =>
    obtain ⟨w', hr, hn⟩ := h H' rfl
    exact ⟨w', μ, by simp only [Sem.run_bind, hr, Result.andThen_ok, Sem.run_pure], hn⟩
end

theorem vsrel_cons {x : AVal} {xs : List AVal} {l' : List Value} (h : VsRel G.I μ (x :: xs) l') : ∃ y ys, l' = y :: ys ∧ VRel G.I μ x y ∧ VsRel G.I μ xs ys := by
  cases h with
  | cons hx hs => exact ⟨_, _, rfl, hx, hs⟩

theorem vsrel_one' {x : AVal} {l' : List Value} (h : VsRel G.I μ [x] l') : ∃ y, l' = [y] ∧ VRel G.I μ x y := by
  obtain ⟨y, ys, rfl, hx, hs⟩ := vsrel_cons h
  cases hs
  exact ⟨y, rfl, hx⟩

theorem builtin1_ok (hw : WRel G μ H w) (b : Builtin) {ts : Array Nat} (ty : Nat) (cs : Array Bool) {t : Nat} (ht : ts[0]? = some t) {x : AVal} {x' : Value} (h : VRel G.I μ x x') :
    OpOk E G μ H w (builtin b ts ty cs #[x']) (builtin1 E b t x H) := by
  cases b with
  | len => exact opOk_ofV (fun v hh => lenA_run hw hh ht h) hw
  | cap => exact opOk_ofV (fun v hh => capA_run hh ht h w) hw
  | clear =>
    show OpOk E G μ H w _ (clearOp E t x H)
    unfold clearOp
    split
    · rename_i H' hc
      obtain ⟨w', hr, hn⟩ := clearA_run (ty := ty) hw ht hc h
      exact ⟨.tuple #[], w', μ, by simp only [builtin, Sem.run_bind, hr, Result.andThen_ok, Sem.run_pure], hn, .top _⟩
    · exact trivial
  | unsafeSliceData => exact opOk_ofV (fun v hh => sliceDataA_run hh h w) hw
  | _ => exact trivial

theorem builtin2_ok (hw : WRel G μ H w) (b : Builtin) (ty : Nat) (cs : Array Bool) {t u : Nat} {x y : AVal} {x' y' : Value} (h : VRel G.I μ x x') (h' : VRel G.I μ y y') :
    OpOk E G μ H w (builtin b #[t, u] ty cs #[x', y']) (builtin2 E b t u x y H) := by
  cases b with
  | append => exact opOk_ofVH fun v H' hh => appendA_run (ts := #[t, u]) hw rfl rfl hh h h'
  | copy => exact opOk_ofVH fun v H' hh => have ⟨v', w', h1, h2, h3⟩ := copyA_run (ts := #[t, u]) (ty := ty) hw rfl hh h h'; ⟨v', w', μ, h1, h2, h3⟩
  | unsafeString => exact opOk_ofVH fun v H' hh => have ⟨v', w', h1, h2, h3⟩ := unsafeStringA_run (it := u) (ty := ty) hw hh h h'; ⟨v', w', μ, h1, h2, h3⟩
  | _ => exact trivial

theorem builtinN_ok (hw : WRel G μ H w) (b : Builtin) (ts : Array Nat) (ty : Nat) (cs : Array Bool) {args : List AVal} {args' : Array Value} (h : VsRel G.I μ args args'.toList) :
    OpOk E G μ H w (builtin b ts ty cs args') (builtinN E b ts.toList args H) := by
  unfold builtinN
  split
  · rename_i t l x hl
    obtain ⟨y, hy, hx⟩ := vsrel_one' h
    have : args' = #[y] := Array.ext' hy
    subst this
    refine builtin1_ok hw b ty cs ?_ hx
    rw [← Array.getElem?_toList, hl]
    rfl
  · rename_i t u x y hl
    obtain ⟨x', y', hy, hx, hy'⟩ := vsrel_two h
    have : args' = #[x', y'] := Array.ext' hy
    subst this
    have : ts = #[t, u] := Array.ext' hl
    subst this
    exact builtin2_ok hw b ty cs hx hy'
  · exact trivial

theorem builtinA_ok (hw : WRel G μ H w) (b : Builtin) (ts : Array Nat) (ty : Nat) (cs : Array Bool) {args : List AVal} {args' : Array Value} (h : VsRel G.I μ args args'.toList) :
    OpOk E G μ H w (builtin b ts ty cs args') (builtinA E b ts.toList args H) := by
  cases b with
  | max =>
    cases args with
    | nil => exact trivial
    | cons x xs =>
      show OpOk E G μ H w _ (Op1.ofV H (minmaxA true x xs))
      obtain ⟨y, ys, hy, hx, hs⟩ := vsrel_cons h
      refine opOk_ofV (fun v hh => ?_) hw
      obtain ⟨v', hr, hv⟩ := minmax_run (E := E) hh hx hs w
      exact ⟨v', by simp only [Builtin.max_, hy]; exact hr, hv⟩
  | min =>
    cases args with
    | nil => exact trivial
    | cons x xs =>
      show OpOk E G μ H w _ (Op1.ofV H (minmaxA false x xs))
      obtain ⟨y, ys, hy, hx, hs⟩ := vsrel_cons h
      refine opOk_ofV (fun v hh => ?_) hw
      obtain ⟨v', hr, hv⟩ := minmax_run (E := E) hh hx hs w
      exact ⟨v', by simp only [Builtin.min_, hy]; exact hr, hv⟩
  | _ => exact builtinN_ok hw _ ts ty cs h

theorem methodA_run {t f : Nat} {name : String} {v : Value} {e : Nat} (h : methodA E t name = some (f, true)) (hu : under E t = some (.pointer e)) (n : Nat) (w : World) : (method (n + 1) t v name).run E.P w = .ok (f, v) w := by
  unfold methodA at h
  split at h
  · rename_i i hi
    split at h
    · rename_i m hm
      cases hp : m.path.isEmpty with
      | false => rw [hp] at h; cases h
      | true =>
        rw [hp] at h
        simp only [cond_true] at h
        have hpl : m.path.toList = [] := by simpa using hp
        unfold method
        simp only [Sem.run_bind, run_info hi, Result.andThen_ok, hm, hpl, follow, Sem.run_pure, h, receiverAt, run_under hu, Place.get]
    · cases h
  · cases h

theorem invokeA_ok {x : AVal} {x' : Value} {name : String} {args : List AVal} {args' : Array Value} (hx : VRel G.I μ x x') (h : VsRel G.I μ args args'.toList) :
    OpOk E G μ H w (callMethod x' name args') (invokeA E x name args) := by
  unfold invokeA
  split
  · rename_i t v
    split
    · rename_i f e hm hu
      cases hx with
      | iface _ _ v' hv =>
      refine ⟨#[v'] ++ args', ?_, (by rw [Array.toList_append]; exact .cons hv h)⟩
      unfold callMethod
      have hp : ∀ w, (program).run E.P w = .ok E.P w := fun w => rfl
      obtain ⟨k, hk⟩ : ∃ k, E.P.types.size + Made.depth = k + 1 := ⟨E.P.types.size + 99, rfl⟩
      simp only [Sem.run_bind, hp, Result.andThen_ok, hk, methodA_run hm hu]
    · exact trivial
  · exact trivial

theorem callV_ok {f : AVal} {f' : Value} {args : List AVal} {args' : Array Value} (hf : VRel G.I μ f f') (h : VsRel G.I μ args args'.toList) :
    OpOk E G μ H w (do let d ← Deferred.ofValue f' args'; invoke d.target d.args) (callV f args) := by
  unfold callV
  split
  · rename_i g first captured
    cases hf with
    | func _ fn' _ _ a' b' hfn ha hb =>
    cases hfn
    refine ⟨(a' ++ args') ++ b', rfl, ?_⟩
    rw [appL_eq, appL_eq, Array.toList_append, Array.toList_append, List.append_assoc]
    exact ha.append (h.append hb)
  · rename_i l first
    cases hf with
    | func _ fn' _ _ a' b' hfn ha hb =>
    cases hfn with
    | yield hl =>
    refine ⟨_, _, a' ++ args', hl, rfl, ?_⟩
    rw [appL_eq, Array.toList_append]
    exact ha.append h
  · exact trivial

theorem deferV_ok {f : AVal} {f' : Value} {args : List AVal} {args' : Array Value} (hf : VRel G.I μ f f') (h : VsRel G.I μ args args'.toList) :
    OpOk E G μ H w (do pure (.defer (← Deferred.ofValue f' args'))) (deferV f args) := by
  unfold deferV
  split
  · rename_i g first captured
    cases hf with
    | func _ fn' _ _ a' b' hfn ha hb =>
    cases hfn
    refine ⟨_, rfl, .fn _ _ _ _ _ hb ?_⟩
    rw [appL_eq, Array.toList_append]
    exact ha.append h
  · exact trivial

theorem opA_ok (hE : EnvOk E G) (hw : WRel G μ H w) {ρ : Operand → AVal} {ρ' : Operand → Value} (hρ : ∀ x, VRel G.I μ (ρ x) (ρ' x)) (o : Oper) : OpOk E G μ H w (execOp ρ' o) (opA E ρ o.op H) := by
  obtain ⟨dst, op, ty, pos, after, guard⟩ := o
  cases op with
  | move x => exact ⟨_, w, μ, rfl, Nxt.refl hw, hρ x⟩
  | assign x => exact ⟨_, w, μ, rfl, Nxt.refl hw, hρ x⟩
  | pick c a b =>
    show OpOk E G μ H w (do pure (.value (if ← asBool (ρ' c) then ρ' a else ρ' b))) (Op1.ofV H (pickA (ρ c) (ρ a) (ρ b)))
    cases hp : pickA (ρ c) (ρ a) (ρ b) with
    | none => exact trivial
    | some v =>
      obtain ⟨q, hq, hv⟩ := pickA_run (E := E) hp (hρ c) (hρ a) (hρ b) w
      exact ⟨_, w, μ, by simp only [Sem.run_bind, hq, Result.andThen_ok, Sem.run_pure], Nxt.refl hw, hv⟩
  | alloc t => exact opOk_ofNew (fun o nv h => allocA_run h w) hw
  | box t x => exact opOk_ofNew (fun o nv h => boxA_run h (hρ x) w) hw
  | build t ps => exact opOk_ofV (fun v h => buildA_run h (psrel_map hρ ps) w) hw
  | buildSlice t n ps => exact opOk_ofNew (fun o nv h => buildSliceA_run h (psrel_map hρ ps) w) hw
  | insert t m k v => exact opOk_ofH fun H' h => mapSetA_run hE hw h (hρ m) (hρ k) (hρ v)
  | load t a =>
    show OpOk E G μ H w _ (loadOp E t (ρ a) H)
    unfold loadOp
    split
    · rename_i b o e
      exact opOk_ofV (fun v h => loadOp_run hw h (e ▸ hρ a)) hw
    · exact trivial
  | store t a v =>
    show OpOk E G μ H w _ (storeOp E t (ρ a) (ρ v) H)
    unfold storeOp
    split
    · rename_i b o e
      exact opOk_ofH fun H' h => storeOp_run hw h (e ▸ hρ a) (hρ v)
    · exact trivial
  | ready g => exact trivial
  | waits g => exact trivial
  | nilCheck x =>
    show OpOk E G μ H w (execOp ρ' { dst := dst, op := .nilCheck x, type := ty, pos := pos, after := after, guard := guard }) (Op1.ofV H (nilCheckA (ρ x)))
    cases hn : nilCheckA (ρ x) with
    | none => exact trivial
    | some v =>
      have hx := hρ x
      unfold execOp
      simp only
      generalize ρ' x = x' at *
      generalize ρ x = xa at *
      unfold nilCheckA at hn
      split at hn
      · cases hn
        cases hx with
        | ptr _ _ c n hm => exact ⟨_, w, μ, rfl, Nxt.refl hw, .ptr _ _ _ _ hm⟩
      · cases hn
        cases hx with
        | func _ fn' _ _ a' b' hfn ha hb =>
        cases hfn
        exact ⟨_, w, μ, rfl, Nxt.refl hw, .func _ _ _ _ _ _ (.func _) ha hb⟩
      · cases hn
        cases hx with
        | func _ fn' _ _ a' b' hfn ha hb =>
        cases hfn with
        | yield hl => exact ⟨_, w, μ, rfl, Nxt.refl hw, .func _ _ _ _ _ _ (.yield hl) ha hb⟩
      · cases hn
        cases hx with
        | iface _ _ v' hv => exact ⟨_, w, μ, rfl, Nxt.refl hw, .iface _ _ _ hv⟩
      · cases hn
  | binOp op t x y yt => exact opOk_ofV (fun v h => binA_run hE h (hρ x) (hρ y) w) hw
  | unOp op t x => exact opOk_ofV (fun v h => unA_run h (hρ x) w) hw
  | convert s d x => exact opOk_ofVH fun v H' h => convA_run hw h (hρ x)
  | sliceToArrayPointer t x => exact trivial
  | makeInterface t x => exact opOk_ofV (fun v h => ⟨_, ifaceA_run h (hρ x) w⟩) hw
  | makeFunc fn a b =>
    cases fn with
    | func f => exact ⟨_, w, μ, rfl, Nxt.refl hw, .func _ _ _ _ _ _ (.func _) (vrels_map hρ a) (vrels_map hρ b)⟩
    | _ => exact trivial
  | makeMap t r => cases r with
    | none => exact opOk_ofNew (r := some (.map [] 0, .map)) (fun o nv h => by cases h; exact makeMap_run w) hw
    | some r => exact trivial
  | makeChan t s => exact trivial
  | makeSlice t l c => exact opOk_ofNew (fun o nv h => makeSliceA_run h (hρ l) (hρ c) w) hw
  | slice t x lo hi mx => exact opOk_ofV (fun v h => sliceA_run hw h (hρ x) (brel_oval hρ lo) (brel_oval hρ hi) (brel_oval hρ mx)) hw
  | fieldAddr t x f => exact opOk_ofV (fun v h => fieldAddrA_run h (hρ x) w) hw
  | field t x f => exact opOk_ofV (fun v h => fieldA_run h (hρ x) w) hw
  | indexAddr t x i => exact opOk_ofV (fun v h => indexAddrA_run h (hρ x) (hρ i) w) hw
  | index t x i => exact opOk_ofV (fun v h => indexA_run h (hρ x) (hρ i) w) hw
  | lookup t x k ok => exact opOk_ofV (fun v h => lookupA_run hE hw h (hρ x) (hρ k)) hw
  | mapUpdate t m k v => exact opOk_ofH fun H' h => mapSetA_run hE hw h (hρ m) (hρ k) (hρ v)
  | mapEntry t m k => exact opOk_ofVH fun v H' h => have ⟨v', w', h1, h2, h3⟩ := mapEntryA_run hE hw h (hρ m) (hρ k); ⟨v', w', μ, h1, h2, h3⟩
  | entryStore t m b v => exact opOk_ofH fun H' h => entryStoreA_run hw h (hρ m) (hρ b) (hρ v)
  | range t x => exact opOk_ofVH fun v H' h => rangeA_run hw h (hρ x)
  | next x b => cases b with
    | false => exact opOk_ofVH fun v H' h => have ⟨v', w', h1, h2, h3⟩ := nextA_run (E := E) hw h (hρ x); ⟨v', w', μ, h1, h2, h3⟩
    | true => exact trivial
  | entry x => exact trivial
  | typeAssert x xt t ok => exact opOk_ofV (fun v h => assertA_run h (hρ x) w) hw
  | extract x i => exact opOk_ofV (fun v h => extractA_run h (hρ x) w) hw
  | call c =>
    obtain ⟨callee, args, ats⟩ := c
    cases callee with
    | builtin b => exact builtinA_ok hw b ats ty _ (vrels_map hρ args)
    | invoke r name =>
      have := invokeA_ok (E := E) (H := H) (w := w) (name := name) (hρ r) (vrels_map hρ args)
      show OpOk E G μ H w (invoke (.fn (.method name) #[]) (#[ρ' r] ++ args.map ρ')) (invokeA E (ρ r) name (mapL ρ args.toList))
      have he : invoke (.fn (.method name) #[]) (#[ρ' r] ++ args.map ρ') = callMethod (ρ' r) name (args.map ρ') := by
        unfold invoke
        have h0 : (#[ρ' r] ++ args.map ρ')[0]? = some (ρ' r) := by rw [← Array.getElem?_toList, Array.toList_append]; rfl
        have h1 : (#[ρ' r] ++ args.map ρ').extract 1 (#[ρ' r] ++ args.map ρ').size = args.map ρ' := by
          apply Array.ext'
          simp only [Array.toList_extract, List.extract_eq_take_drop, Array.toList_append, Array.toList_map, Array.size_append, Array.size_map, List.drop_append]
          rw [List.take_of_length_le (by simp)]
          simp
        simp only [h0, h1]
      rw [he]
      exact this
    | value f => exact callV_ok (hρ f) (vrels_map hρ args)
  | go c => exact trivial
  | defer c =>
    obtain ⟨callee, args, ats⟩ := c
    cases callee with
    | builtin b => exact trivial
    | invoke r name => exact trivial
    | value f => exact deferV_ok (hρ f) (vrels_map hρ args)
  | panic x =>
    show OpOk E G μ H w (do pure (.value (← Instr.panic (ρ' x)))) (panicOp (ρ x))
    unfold panicOp
    split
    · rename_i t v e
      have := hρ x
      rw [e] at this
      cases hx : ρ' x with
      | iface t' v' => rw [hx] at this; exact ⟨_, rfl, this⟩
      | _ => rw [hx] at this; cases this
    · exact trivial
  | send c x => exact trivial
  | recv t c ok => exact trivial
  | select cs b => exact trivial

/-- a new block's operation, in whatever state of the evaluator's memory -/
theorem newOf_ok {ρ : Operand → AVal} {ρ' : Operand → Value} (hρ : ∀ x, VRel G.I μ (ρ x) (ρ' x)) (op : Op) {ob : AObj} {nv : NewV} (h : newOf E ρ op = some (ob, nv)) (o : Oper) (ho : o.op = op) (w : World) :
    ∃ s, execOp ρ' o = (do pure (.value (← s))) ∧ NewOk E G μ w s ob nv := by
  obtain ⟨dst, op', ty, pos, after, guard⟩ := o
  subst ho
  cases op' <;> (try (cases h; done))
  case alloc t => exact ⟨_, rfl, allocA_run h w⟩
  case box t x => exact ⟨_, rfl, boxA_run h (hρ x) w⟩
  case buildSlice t n ps => exact ⟨_, rfl, buildSliceA_run h (psrel_map hρ ps) w⟩
  case makeMap t r =>
    cases r with
    | none => cases h; exact ⟨_, rfl, makeMap_run w⟩
    | some r => cases h
  case makeSlice t l c => exact ⟨_, rfl, makeSliceA_run h (hρ l) (hρ c) w⟩

end Go.Ab
/- What the evaluator's answers say of the model's runs: the words; plain control. -/
namespace Go.Ab

inductive CRel (I : Interp) (μ : Map) : Chain → List PanicEntry → Prop where
  | nil : CRel I μ [] []
  | cons {v : AVal} {r : Bool} {e : PanicEntry} {ch : Chain} {es : List PanicEntry} (hv : VRel I μ v e.v) (hr : e.recovered = r) (hg : e.goexit = false) (h : CRel I μ ch es) : CRel I μ ((v, r) :: ch) (e :: es)

inductive XRel (I : Interp) (μ : Map) : AExit → Exit → Prop where
  | normal : XRel I μ .normal .normal
  | exit (id : Nat) : XRel I μ (.exit id) (.exit id)
  | ret : XRel I μ .ret .ret
  | pan {ch : Chain} {es : List PanicEntry} (h : CRel I μ ch es) : XRel I μ (.pan ch) (.panic es)

inductive DsRel (I : Interp) (μ : Map) : List ADef → List Deferred → Prop where
  | nil : DsRel I μ [] []
  | cons {d : ADef} {d' : Deferred} {ds : List ADef} {ds' : List Deferred} (h : DRel I μ d d') (hs : DsRel I μ ds ds') : DsRel I μ (d :: ds) (d' :: ds')

/-- the mode of a frame on its way out -/
inductive MRel (I : Interp) (μ : Map) : Option Chain → FrameMode → Prop where
  | ret : MRel I μ none .returning
  | pan {ch : Chain} {es : List PanicEntry} (h : CRel I μ ch es) : MRel I μ (some ch) (.panicking es)

/-- the round in which the code runs -/
inductive RoRel (μ : Map) : Option Nat → Option Nat → Prop where
  | none : RoRel μ none none
  | some {l c n : Nat} (h : μ l = some (c, n)) : RoRel μ (some l) (some c)

theorem CRel.mono {I : Interp} {μ μ' : Map} (h : μ.le μ') {ch : Chain} {es : List PanicEntry} (r : CRel I μ ch es) : CRel I μ' ch es := by
  induction r with
  | nil => exact .nil
  | cons hv hr hg _ ih => exact .cons (hv.mono h) hr hg ih

theorem DRel.mono {I : Interp} {μ μ' : Map} (h : μ.le μ') {d : ADef} {d' : Deferred} (r : DRel I μ d d') : DRel I μ' d d' := by
  cases r with
  | fn f a b a' b' ha hb => exact .fn f a b a' b' (ha.mono h) (hb.mono h)
  | collected d c n e => exact .collected d c n (h _ _ e)

theorem DsRel.mono {I : Interp} {μ μ' : Map} (h : μ.le μ') {d : List ADef} {d' : List Deferred} (r : DsRel I μ d d') : DsRel I μ' d d' := by
  induction r with
  | nil => exact .nil
  | cons hd _ ih => exact .cons (hd.mono h) ih

theorem RoRel.mono {μ μ' : Map} (h : μ.le μ') {l l' : Option Nat} (r : RoRel μ l l') : RoRel μ' l l' := by
  cases r with
  | none => exact .none
  | some e => exact .some (h _ _ e)

def fence (ro : Option Nat) : Fence := { Fence.wide with round := ro }

theorem callsIn_fence {ro : Option Nat} {n : Nat} {P : Program} {f : FuncId} {args : Array Value} {w : World} {R : Ending → World → Prop} (h : CallsIn Fence.wide n P f args w R) : CallsIn (fence ro) n P f args w R := h
theorem roundIn_fence {ro : Option Nat} {n : Nat} {P : Program} {l : Nat} {f : FuncId} {t : Array Value} {x y : Code} {w : World} {R : Ending → World → Prop} (h : RoundIn Fence.wide n P l f t x y w R) : RoundIn (fence ro) n P l f t x y w R := h

/-- how a statement ends -/
def StPost (G : Ground) (μ : Map) (H : AHeap) (w : World) (sz : Nat) (o : Out) (e : Exit) (a' : Act) (w' : World) : Prop :=
  match o with
  | .st x τ ds H' => ∃ μ', Nxt G μ H w μ' H' w' ∧ XRel G.I μ' x e ∧ TRel G.I μ' τ a'.tmps ∧ DsRel G.I μ' ds a'.defers ∧ a'.tmps.size = sz
  | _ => False

/-- how a call ends -/
def CallPost (G : Ground) (μ : Map) (H : AHeap) (w : World) (o : Out) (e : Ending) (w' : World) : Prop :=
  match o, e with
  | .val v H', .returned v' => ∃ μ', Nxt G μ H w μ' H' w' ∧ VRel G.I μ' v v'
  | .pan ch H', .panicked es => ∃ μ', Nxt G μ H w μ' H' w' ∧ CRel G.I μ' ch es
  | _, _ => False

/-- how a deferred call ends -/
def DPost (G : Ground) (μ : Map) (H : AHeap) (w : World) (o : Out) (e : Ending) (u : FrameMode) (w' : World) : Prop :=
  match o, e with
  | .dval m H', .returned _ => ∃ μ', Nxt G μ H w μ' H' w' ∧ MRel G.I μ' m u
  | .dpan ch m H', .panicked es => ∃ μ', Nxt G μ H w μ' H' w' ∧ MRel G.I μ' m u ∧ CRel G.I μ' ch es
  | _, _ => False

/-- how a deferred call's statement ends -/
def SPost (G : Ground) (μ : Map) (H : AHeap) (w : World) (sz : Nat) (cs : List Frame) (c₀ : Frame) (o : Out) (e : Exit) (a' : Act) (cs' : List Frame) (w' : World) : Prop :=
  match o with
  | .sts x τ ds H' m => ∃ μ' u, cs' = { c₀ with mode := u } :: cs ∧ Nxt G μ H w μ' H' w' ∧ XRel G.I μ' x e ∧ TRel G.I μ' τ a'.tmps ∧ DsRel G.I μ' ds a'.defers ∧ a'.tmps.size = sz ∧ MRel G.I μ' m u
  | _ => False

/-- a call, of a function with or without a body -/
def CallOk (P : Program) (f : FuncId) (args : Array Value) (w : World) (R : Ending → World → Prop) : Prop :=
  (∃ v w', (callFunc f args).run P w = .ok (.value v) w' ∧ R (.returned v) w') ∨
  ((callFunc f args).run P w = .ok (.enter f args) w ∧ CallsIn Fence.wide 0 P f args w R)

/-- the walk of a statement; of a loop: in at most so many rounds -/
def CodeOk (F : Fence) (m : Nat) (P : Program) (c : Code) (Q : Exit → Act → World → Prop) (a : Act) (w : World) : Prop :=
  match c with
  | .loop b => Code.roundsIn F 0 P b Q m a w
  | c => c.wpIn F 0 P Q a w

theorem CodeOk.wp {F : Fence} {m : Nat} {P : Program} {c : Code} {Q : Exit → Act → World → Prop} {a : Act} {w : World} (h : CodeOk F m P c Q a w) : c.wpIn F 0 P Q a w := by
  unfold CodeOk at h
  split at h
  · exact wpIn_loop_rounds m h
  · exact h

/-- everything that the evaluator was told is true -/
structure Told (E : Env) (G : Ground) : Prop extends EnvOk E G where
  orc : ∀ f args H v H', E.orc f args H = some (some (v, H')) → ∀ μ w args', WRel G μ H w → VsRel G.I μ args args'.toList → CallOk E.P f args' w (CallPost G μ H w (.val v H'))
  funcs : ∀ (f : Nat) (fn : Func) (c : Code), E.P.funcs[f]? = some fn → fn.body = some c → codeIn fn.ntmps c = true

/-! ### what is to be shown of each task -/

def CallSound (E : Env) (G : Ground) (f : Nat) (args : List AVal) (H : AHeap) (o : Out) : Prop :=
  ∀ μ w args', WRel G μ H w → VsRel G.I μ args args'.toList → CallOk E.P f args' w (CallPost G μ H w o)

def RoundSound (E : Env) (G : Ground) (l : Nat) (args : List AVal) (H : AHeap) (o : Out) : Prop :=
  ∀ μ w args' c k, WRel G μ H w → μ l = some (c, k) → VsRel G.I μ args args'.toList →
    ∃ f t x y, (Instr.yield c args').run E.P w = .ok (.round c f t x y) w ∧ RoundIn Fence.wide 0 E.P c f t x y w (CallPost G μ H w o)

def CallDSound (E : Env) (G : Ground) (f : Nat) (args : List AVal) (m : Option Chain) (H : AHeap) (o : Out) : Prop :=
  ∀ μ w args' u, WRel G μ H w → VsRel G.I μ args args'.toList → MRel G.I μ m u → (callFunc f args').run E.P w = .ok (.enter f args') w ∧ CallsDIn Fence.wide 0 E.P f args' u w (DPost G μ H w o)

def CodeSound (E : Env) (G : Ground) (n : Nat) (ro : Option Nat) (c : Code) (τ : Tr AVal) (ds : List ADef) (H : AHeap) (o : Out) : Prop :=
  ∀ μ w a ro', WRel G μ H w → RoRel μ ro ro' → TRel G.I μ τ a.tmps → DsRel G.I μ ds a.defers → codeIn a.tmps.size c = true → CodeOk (fence ro') n E.P c (StPost G μ H w a.tmps.size o) a w

def OpsSound (E : Env) (G : Ground) (ro : Option Nat) (all : Array Oper) (l : List Oper) (τ : Tr AVal) (ds : List ADef) (H : AHeap) (o : Out) : Prop :=
  ∀ μ w a ro' i, WRel G μ H w → RoRel μ ro ro' → TRel G.I μ τ a.tmps → DsRel G.I μ ds a.defers → all.toList.drop i = l → opsIn a.tmps.size l = true →
    wpOpsIn (fence ro') 0 E.P all (StPost G μ H w a.tmps.size o) (List.range' i l.length) a w

def CodeSSound (E : Env) (G : Ground) (c : Code) (τ : Tr AVal) (ds : List ADef) (H : AHeap) (m : Option Chain) (o : Out) : Prop :=
  ∀ μ w a c₀ cs, WRel G μ H w → TRel G.I μ τ a.tmps → DsRel G.I μ ds a.defers → codeIn a.tmps.size c = true → MRel G.I μ m c₀.mode →
    c.wpSIn Fence.wide 0 E.P (SPost G μ H w a.tmps.size cs c₀ o) a (c₀ :: cs) w

def OpsSSound (E : Env) (G : Ground) (all : Array Oper) (l : List Oper) (τ : Tr AVal) (ds : List ADef) (H : AHeap) (m : Option Chain) (o : Out) : Prop :=
  ∀ μ w a c₀ cs i, WRel G μ H w → TRel G.I μ τ a.tmps → DsRel G.I μ ds a.defers → all.toList.drop i = l → opsIn a.tmps.size l = true → MRel G.I μ m c₀.mode →
    wpOpsSIn Fence.wide 0 E.P all (SPost G μ H w a.tmps.size cs c₀ o) (List.range' i l.length) a (c₀ :: cs) w

def LeaveSound (E : Env) (G : Ground) (fn : Func) (τ : Tr AVal) (ds : List ADef) (m : Option Chain) (H : AHeap) (o : Out) : Prop :=
  ∀ μ w tmps ds' u, WRel G μ H w → TRel G.I μ τ tmps → DsRel G.I μ ds ds' → MRel G.I μ m u → LeavesInM Fence.wide 0 E.P fn tmps (CallPost G μ H w o) ds' u w

/-! ### posts along steps -/

theorem StPost.step {G : Ground} {μ μ₁ : Map} {H H₁ : AHeap} {w w₁ w' : World} {sz : Nat} {o : Out} {e : Exit} {a' : Act} (hn : Nxt G μ H w μ₁ H₁ w₁) (h : StPost G μ₁ H₁ w₁ sz o e a' w') : StPost G μ H w sz o e a' w' := by
  unfold StPost at h ⊢
  cases o with
  | st x τ ds H' => obtain ⟨μ', h1, h2⟩ := h; exact ⟨μ', hn.trans h1, h2⟩
  | _ => exact h

theorem CallPost.step {G : Ground} {μ μ₁ : Map} {H H₁ : AHeap} {w w₁ w' : World} {o : Out} {e : Ending} (hn : Nxt G μ H w μ₁ H₁ w₁) (h : CallPost G μ₁ H₁ w₁ o e w') : CallPost G μ H w o e w' := by
  unfold CallPost at h ⊢
  split at h
  · obtain ⟨μ', h1, h2⟩ := h; exact ⟨μ', hn.trans h1, h2⟩
  · obtain ⟨μ', h1, h2⟩ := h; exact ⟨μ', hn.trans h1, h2⟩
  · exact h.elim

theorem SPost.step {G : Ground} {μ μ₁ : Map} {H H₁ : AHeap} {w w₁ w' : World} {sz : Nat} {cs cs' : List Frame} {c₀ c₁ : Frame} {o : Out} {e : Exit} {a' : Act} (hn : Nxt G μ H w μ₁ H₁ w₁) (hc : ∀ u, { c₁ with mode := u } = { c₀ with mode := u })
    (h : SPost G μ₁ H₁ w₁ sz cs c₁ o e a' cs' w') : SPost G μ H w sz cs c₀ o e a' cs' w' := by
  unfold SPost at h ⊢
  cases o with
  | sts x τ ds H' m => obtain ⟨μ', u, h0, h1, h2⟩ := h; exact ⟨μ', u, by rw [h0, hc], hn.trans h1, h2⟩
  | _ => exact h

/-! ### temporaries -/

theorem wanted_ok {G : Ground} {μ : Map} {ops : Array Oper} {o : Oper} {τ : Tr AVal} {t : Array Value} {b : Bool} (ht : TRel G.I μ τ t) (h : wantedA ops τ o.guard = some b) : Region.wanted o (yielded ops t) = b := by
  unfold wantedA at h
  unfold Region.wanted
  split at h
  · rename_i hg; rw [hg]; cases h; rfl
  · rename_i j want hg
    rw [hg]
    simp only
    unfold yielded
    split at h
    · rename_i o' ho'
      simp only [ho', Option.bind_some]
      split at h
      · rename_i d hd
        simp only [hd, Option.bind_some]
        unfold boolIs at h
        split at h
        · rename_i v hv
          have := ht _ _ hv
          cases hk : t[d]? with
          | none => rw [Array.getD_eq_getD_getElem?, hk] at this; cases this
          | some u =>
            rw [Array.getD_eq_getD_getElem?, hk] at this
            simp only [Option.getD_some] at this
            cases this
            cases h
            simp only [boolBeq_eq]
            cases v <;> cases want <;> rfl
        · rename_i hv
          have := ht _ _ hv
          cases h
          cases hk : t[d]? with
          | none => simp only; cases want <;> rfl
          | some u =>
            rw [Array.getD_eq_getD_getElem?, hk] at this
            simp only [Option.getD_some] at this
            cases this <;> cases want <;> rfl
        · cases h
      · rename_i hd
        cases h
        simp only [hd, Option.bind_none]
        cases want <;> rfl
    · rename_i ho'
      cases h
      simp only [ho', Option.bind_none]
      cases want <;> rfl

theorem put_rel {G : Ground} {μ : Map} {τ : Tr AVal} {a : Act} {dst : Option Nat} {v : AVal} {v' : Value} (ht : TRel G.I μ τ a.tmps) (hv : VRel G.I μ v v') (hd : ∀ d, dst = some d → d < a.tmps.size) :
    TRel G.I μ (putA τ dst v) (a.put dst v').tmps := by
  cases dst with
  | none => exact ht
  | some d =>
    intro k x hk
    simp only [putA] at hk
    rw [Tr.get_set] at hk
    simp only [Act.put]
    rw [Array.getD_eq_getD_getElem?, Array.getElem?_setIfInBounds]
    by_cases e : k = d
    · subst e
      simp only [if_true] at hk ⊢
      cases hk
      simp only [hd k rfl, if_true, Option.getD_some]
      exact hv
    · have e' : ¬ d = k := fun h => e h.symm
      simp only [e, e', if_false] at hk ⊢
      rw [← Array.getD_eq_getD_getElem?]
      exact ht _ _ hk

theorem put_size (a : Act) (dst : Option Nat) (v : Value) : (a.put dst v).tmps.size = a.tmps.size := by
  cases dst <;> simp [Act.put]

theorem put_defers (a : Act) (dst : Option Nat) (v : Value) : (a.put dst v).defers = a.defers := by
  cases dst <;> rfl

theorem opsIn_cons {n : Nat} {o : Oper} {l : List Oper} (h : opsIn n (o :: l) = true) : (∀ d, o.dst = some d → d < n) ∧ opsIn n l = true := by
  simp only [opsIn, Bool.and_eq_true] at h
  refine ⟨fun d hd => ?_, h.2⟩
  rw [hd] at h
  exact Nat.le_of_ble_eq_true h.1

theorem opsIn_mono {n m : Nat} (hnm : n ≤ m) : ∀ {l : List Oper}, opsIn n l = true → opsIn m l = true := by
  intro l
  induction l with
  | nil => intro _; rfl
  | cons o l ih =>
    intro h
    obtain ⟨h1, h2⟩ := opsIn_cons h
    simp only [opsIn, Bool.and_eq_true]
    refine ⟨?_, ih h2⟩
    split
    · rename_i d hd
      exact Nat.ble_eq_true_of_le (Nat.le_trans (h1 d hd) hnm)
    · rfl

theorem tmpsIn_mono {n m : Nat} (hnm : n ≤ m) : ∀ {l : List Tmp}, tmpsIn n l = true → tmpsIn m l = true := by
  intro l
  induction l with
  | nil => intro _; rfl
  | cons t l ih =>
    intro h
    simp only [tmpsIn, Bool.and_eq_true] at h ⊢
    exact ⟨Nat.ble_eq_true_of_le (Nat.le_trans (Nat.le_of_ble_eq_true h.1) hnm), ih h.2⟩

theorem codeIn_mono {n m : Nat} (hnm : n ≤ m) : ∀ {c : Code}, codeIn n c = true → codeIn m c = true := by
  intro c
  induction c with
  | region id ops d => exact opsIn_mono hnm
  | seq a b iha ihb => intro h; simp only [codeIn, Bool.and_eq_true] at h ⊢; exact ⟨iha h.1, ihb h.2⟩
  | cond x a b iha ihb => intro h; simp only [codeIn, Bool.and_eq_true] at h ⊢; exact ⟨iha h.1, ihb h.2⟩
  | block id b ih => exact ih
  | loop b ih => exact ih
  | scope b ih => exact ih
  | rangeFunc f ps x y ihx ihy => intro h; simp only [codeIn, Bool.and_eq_true] at h ⊢; exact ⟨⟨tmpsIn_mono hnm h.1.1, ihx h.1.2⟩, ihy h.2⟩
  | _ => intro _; rfl

end Go.Ab
/- What the evaluator's answers say of the model's runs: regions in text order. -/
namespace Go.Ab

variable {E : Env} {G : Ground}

theorem drop_cons {α : Type} {l : List α} {i : Nat} {x : α} {r : List α} (h : l.drop i = x :: r) : l[i]? = some x ∧ l.drop (i + 1) = r := by
  have hlt : i < l.length := by
    apply Nat.lt_of_not_le
    intro hle
    rw [List.drop_of_length_le hle] at h
    cases h
  rw [List.drop_eq_getElem_cons hlt] at h
  cases h
  exact ⟨List.getElem?_eq_getElem hlt, rfl⟩

theorem about_fence {ro : Option Nat} {P : Program} {o : Oper} {w : World} {ρ : Operand → Value} : ∀ f, o.about P w ρ = some f → (fence ro).fn f := fun _ _ => trivial

/-- the operation's own step, in a round or not -/
theorem semAt_ok {ro ro' : Option Nat} {μ : Map} (hr : RoRel μ ro ro') {o : Oper} (h : okRound ro o.op = true) (ρ : Operand → Value) : o.semAt ro' ρ = execOp ρ o := by
  cases hr with
  | none => rfl
  | some e =>
    refine Oper.semAt_eq _ _ _ fun c hc => ?_
    rw [hc] at h
    simp [okRound, usesDefer, negB] at h

theorem wpOpsIn_mono' {F : Fence} {n : Nat} {P : Program} {ops : Array Oper} {Q Q' : Exit → Act → World → Prop} (hq : ∀ e a w, Q e a w → Q' e a w) : ∀ {l : List Nat} {a : Act} {w : World}, wpOpsIn F n P ops Q l a w → wpOpsIn F n P ops Q' l a w := by
  intro l
  induction l with
  | nil => exact fun h => hq _ _ _ h
  | cons i l ih =>
    intro a w h
    simp only [wpOpsIn] at h ⊢
    split
    · rename_i hi
      rw [hi] at h
      exact ih h
    · rename_i o ho
      rw [ho] at h
      simp only at h
      split
      · rename_i hwn
        rw [if_pos hwn] at h
        unfold Oper.wpIn at *
        refine ⟨h.1, ?_⟩
        have hh := h.2
        generalize (o.semAt F.round a.eval).run P w = r at *
        cases r with
        | ok x w' =>
          cases x <;> simp only [Oper.uponIn] at hh ⊢ <;>
            first
              | exact ih hh
              | exact ⟨hh.1, CallsIn.mono hh.2 (fun e w'' he => by cases e <;> first | exact ih he | exact hq _ _ _ he | (obtain ⟨a0, w0, h0⟩ := he; exact ⟨a0, w0, hq _ _ _ h0⟩))⟩
              | exact ⟨hh.1, RowsIn.mono hh.2 (fun _ _ he => ih he)⟩
              | exact ⟨hh.1, RoundIn.mono hh.2 (fun e w'' he => by cases e <;> first | exact ih he | exact hq _ _ _ he | (obtain ⟨a0, w0, h0⟩ := he; exact ⟨a0, w0, hq _ _ _ h0⟩))⟩
        | halt x w' => cases x <;> simp only [Oper.uponIn] at hh ⊢ <;> first | exact hq _ _ _ hh | exact hh
      · rename_i hwn
        rw [if_neg hwn] at h
        exact ⟨h.1, ih h.2⟩

section
variable {rec : Task → Option Out}

theorem opsNext_sound (hOps : ∀ ro all l τ ds H o, rec (.ops ro all l τ ds H) = some o → OpsSound E G ro all l τ ds H o) (hCall : ∀ f args H o, rec (.call f args H) = some o → CallSound E G f args H o)
    (hRound : ∀ l args H o, rec (.round l args H) = some o → RoundSound E G l args H o)
    {ro ro' : Option Nat} {all : Array Oper} {o : Oper} {l : List Oper} {τ : Tr AVal} {ds : List ADef} {H : AHeap} {r : Op1} {out : Out} (h : opsNext rec ro all l o.dst τ ds H r = some out)
    {μ : Map} {w : World} {a : Act} {i : Nat} (hw : WRel G μ H w) (hro : RoRel μ ro ro') (ht : TRel G.I μ τ a.tmps) (hd : DsRel G.I μ ds a.defers) (hdrop : all.toList.drop i = l) (hin : opsIn a.tmps.size l = true)
    (hdst : ∀ d, o.dst = some d → d < a.tmps.size) (hr : OpOk E G μ H w (execOp a.eval o) r) (hso : o.semAt (fence ro').round a.eval = execOp a.eval o) :
    o.wpIn (fence ro') 0 E.P a w (wpOpsIn (fence ro') 0 E.P all (StPost G μ H w a.tmps.size out) (List.range' i l.length)) (StPost G μ H w a.tmps.size out) := by
  refine ⟨about_fence, ?_⟩
  rw [hso]
  have go : ∀ (v : AVal) (v' : Value) (μ₁ : Map) (H₁ : AHeap) (w₁ : World), Nxt G μ H w μ₁ H₁ w₁ → VRel G.I μ₁ v v' → rec (.ops ro all l (putA τ o.dst v) ds H₁) = some out →
      wpOpsIn (fence ro') 0 E.P all (StPost G μ H w a.tmps.size out) (List.range' i l.length) (a.put o.dst v') w₁ := by
    intro v v' μ₁ H₁ w₁ hn hv hrec
    have := hOps _ _ _ _ _ _ _ hrec μ₁ w₁ (a.put o.dst v') ro' i hn.rel (hro.mono hn.le) (put_rel (ht.mono hn.le) hv hdst) (by rw [put_defers]; exact hd.mono hn.le) hdrop (by rw [put_size]; exact hin)
    rw [put_size] at this
    exact wpOpsIn_mono' (fun e a' w' hh => hh.step hn) this
  cases r with
  | fail => cases h
  | val v H₁ =>
    obtain ⟨v', w₁, μ₁, hrun, hn, hv⟩ := hr
    rw [hrun]
    exact go v v' μ₁ H₁ w₁ hn hv h
  | skip H₁ =>
    obtain ⟨w₁, μ₁, hrun, hn⟩ := hr
    rw [hrun]
    exact go aundef undef μ₁ H₁ w₁ hn (.top _) h
  | defer d =>
    obtain ⟨d', hrun, hdd⟩ := hr
    rw [hrun]
    show wpOpsIn _ _ _ _ _ _ ({ a with defers := d' :: a.defers }.put o.dst undef) w
    have := hOps _ _ _ _ _ _ _ h μ w ({ a with defers := d' :: a.defers }.put o.dst undef) ro' i hw hro (put_rel (a := { a with defers := d' :: a.defers }) (v := aundef) (v' := undef) ht (.top _) hdst) (by rw [put_defers]; exact .cons hdd hd) hdrop (by rw [put_size]; exact hin)
    rw [put_size] at this
    exact this
  | pan v =>
    cases h
    obtain ⟨v', hrun, hv⟩ := hr
    rw [hrun]
    exact ⟨μ, Nxt.refl hw, .pan (.cons hv rfl rfl .nil), ht, hd, rfl⟩
  | call f args =>
    obtain ⟨args', hrun, hargs⟩ := hr
    rw [hrun]
    simp only [opsNext] at h
    split at h
    · rename_i v H' hc
      rcases hCall _ _ _ _ hc μ w args' hw hargs with ⟨v', w', hcr, hp⟩ | ⟨hcr, hcalls⟩
      · rw [hcr]
        obtain ⟨μ₁, hn, hv⟩ := hp
        exact go v v' μ₁ H' w' hn hv h
      · rw [hcr]
        refine ⟨fun e => (by cases e), CallsIn.mono (callsIn_fence hcalls) fun e w' hp => ?_⟩
        cases e with
        | returned v' => obtain ⟨μ₁, hn, hv⟩ := hp; exact go v v' μ₁ H' w' hn hv h
        | panicked es => exact hp.elim
        | outgrown => exact hp.elim
    · rename_i ch H' hc
      cases h
      rcases hCall _ _ _ _ hc μ w args' hw hargs with ⟨v', w', hcr, hp⟩ | ⟨hcr, hcalls⟩
      · exact hp.elim
      · rw [hcr]
        refine ⟨fun e => (by cases e), CallsIn.mono (callsIn_fence hcalls) fun e w' hp => ?_⟩
        cases e with
        | returned v' => exact hp.elim
        | panicked es =>
          obtain ⟨μ₁, hn, hch⟩ := hp
          exact ⟨μ₁, hn, .pan hch, ht.mono hn.le, hd.mono hn.le, rfl⟩
        | outgrown => exact hp.elim
    · cases h
  | round j args =>
    obtain ⟨c, n, args', hm, hrun, hargs⟩ := hr
    rw [hrun]
    simp only [opsNext] at h
    split at h
    · rename_i v H' hc
      obtain ⟨f, t, x, y, hyr, hround⟩ := hRound _ _ _ _ hc μ w args' c n hw hm hargs
      rw [hyr]
      refine ⟨fun e => (by cases e), RoundIn.mono (roundIn_fence hround) fun e w' hp => ?_⟩
      cases e with
      | returned v' => obtain ⟨μ₁, hn, hv⟩ := hp; exact go v v' μ₁ H' w' hn hv h
      | panicked es => exact hp.elim
      | outgrown => exact hp.elim
    · cases h

theorem opsStep_sound (hT : Told E G) (hOps : ∀ ro all l τ ds H o, rec (.ops ro all l τ ds H) = some o → OpsSound E G ro all l τ ds H o) (hCall : ∀ f args H o, rec (.call f args H) = some o → CallSound E G f args H o)
    (hRound : ∀ l args H o, rec (.round l args H) = some o → RoundSound E G l args H o)
    {ro : Option Nat} {all : Array Oper} {o : Oper} {l : List Oper} {τ : Tr AVal} {ds : List ADef} {H : AHeap} {out : Out} (h : opsStep E rec ro all o l τ ds H = some out) : OpsSound E G ro all (o :: l) τ ds H out := by
  intro μ w a ro' i hw hro ht hd hdrop hin
  obtain ⟨hi, hrest⟩ := drop_cons hdrop
  obtain ⟨hdst, hin'⟩ := opsIn_cons hin
  simp only [List.length_cons, List.range'_succ, wpOpsIn]
  rw [Array.getElem?_toList] at hi
  simp only [hi]
  unfold opsStep at h
  split at h
  · rename_i hwa
    rw [wanted_ok ht hwa]
    simp only [if_true]
    cases hok : okRound ro o.op with
    | false => rw [hok] at h; cases h
    | true =>
      rw [hok] at h
      exact opsNext_sound hOps hCall hRound h hw hro ht hd hrest hin' hdst (opA_ok hT.toEnvOk hw (fun x => aeval_rel hT.globals hw ht x) o) (semAt_ok hro hok _)
  · rename_i hwa
    rw [wanted_ok ht hwa]
    simp only [Bool.false_eq_true, if_false]
    refine ⟨about_fence, ?_⟩
    have := hOps _ _ _ _ _ _ _ h μ w (a.put o.dst undef) ro' (i + 1) hw hro (put_rel ht .undef hdst) (by rw [put_defers]; exact hd) hrest (by rw [put_size]; exact hin')
    rw [put_size] at this
    exact this
  · cases h
end

end Go.Ab
/- What the evaluator's answers say of the model's runs: statements. -/
namespace Go.Ab

variable {E : Env} {G : Ground}

theorem roundsIn_mono {F : Fence} {P : Program} {c : Code} {Q Q' : Exit → Act → World → Prop} (hq : ∀ e a w, Q e a w → Q' e a w) : ∀ {m : Nat} {a : Act} {w : World}, Code.roundsIn F 0 P c Q m a w → Code.roundsIn F 0 P c Q' m a w := by
  intro m
  induction m with
  | zero => exact fun h => h
  | succ m ih =>
    intro a w h
    refine wpIn_mono h fun e a' w' he => ?_
    cases e with
    | normal => exact ih he
    | _ => exact hq _ _ _ he

theorem CodeOk.mono {F : Fence} {m : Nat} {P : Program} {c : Code} {Q Q' : Exit → Act → World → Prop} (hq : ∀ e a w, Q e a w → Q' e a w) {a : Act} {w : World} (h : CodeOk F m P c Q a w) : CodeOk F m P c Q' a w := by
  unfold CodeOk at h ⊢
  split
  · exact roundsIn_mono hq h
  · rename_i hnl
    split at h
    · exact absurd rfl (hnl _)
    · exact wpIn_mono h hq

/-- what is not a loop -/
theorem CodeOk.of_wp {F : Fence} {m : Nat} {P : Program} {c : Code} {Q : Exit → Act → World → Prop} {a : Act} {w : World} (hc : ∀ b, c ≠ .loop b) (h : c.wpIn F 0 P Q a w) : CodeOk F m P c Q a w := by
  unfold CodeOk
  split
  · exact absurd rfl (hc _)
  · exact h

theorem stPost_st {μ : Map} {H : AHeap} {w : World} {sz : Nat} {o : Out} {e : Exit} {a' : Act} {w' : World} (h : StPost G μ H w sz o e a' w') :
    ∃ x τ ds H' μ', o = .st x τ ds H' ∧ Nxt G μ H w μ' H' w' ∧ XRel G.I μ' x e ∧ TRel G.I μ' τ a'.tmps ∧ DsRel G.I μ' ds a'.defers ∧ a'.tmps.size = sz := by
  unfold StPost at h
  cases o with
  | st x τ ds H' => obtain ⟨μ', h⟩ := h; exact ⟨x, τ, ds, H', μ', rfl, h⟩
  | _ => exact h.elim

section
variable {rec : Task → Option Out} {n : Nat}

/-- behind the first of two statements -/
theorem seqStep_sound (hCode : ∀ ro c τ ds H o, rec (.code ro c τ ds H) = some o → CodeSound E G n ro c τ ds H o)
    {ro ro' : Option Nat} {b : Code} {o₁ out : Out} (h : seqStep rec ro b (some o₁) = some out) {μ : Map} {H : AHeap} {w : World} {sz : Nat} (hro : RoRel μ ro ro') (hin : codeIn sz b = true) {e : Exit} {a' : Act} {w' : World}
    (hp : StPost G μ H w sz o₁ e a' w') : Exit.then (CodeOk (fence ro') n E.P b (StPost G μ H w sz out)) (StPost G μ H w sz out) e a' w' := by
  obtain ⟨x, τ, ds, H', μ', rfl, hn, hx, ht, hd, hs⟩ := stPost_st hp
  cases hx with
  | normal =>
    subst hs
    exact (hCode _ _ _ _ _ _ h μ' w' a' ro' hn.rel (hro.mono hn.le) ht hd hin).mono fun _ _ _ hh => hh.step hn
  | exit id => cases h; exact hp
  | ret => cases h; exact hp
  | pan hc => cases h; exact hp

theorem stepR_scope {P : Program} {b : Frame} {a : Act} {k : List Item} {cs : List Frame} {w : World} {c : Code} : step P (lone (b.atR a (.code (.scope c) :: k)) cs w) = .next (lone (b.atR a (.code c :: .inScope c :: k)) cs w) :=
  step_lone_go (by simp [stepG, stepG.exec, Frame.atR])
theorem stepR_inScope {P : Program} {b : Frame} {a : Act} {k : List Item} {cs : List Frame} {w : World} {c : Code} : step P (lone (b.atR a (.inScope c :: k)) cs w) = .next (lone (b.atR a k) cs w) :=
  step_lone_go (by simp [stepG, stepG.exec, Frame.atR])

def noGoto (Q : Exit → Act → World → Prop) : Exit → Act → World → Prop
  | .goto _, _, _ => False
  | e, a, w => Q e a w

theorem wpIn_scope {F : Fence} {P : Program} {c : Code} {Q : Exit → Act → World → Prop} {a : Act} {w : World} (h : c.wpIn F 0 P (noGoto Q) a w) : (Code.scope c).wpIn F 0 P Q a w := by
  intro b k cs hro hb hr
  have h0 : (lone (b.atR a (.code (.scope c) :: k)) cs w).fenced P F := fenced_calm hb hr rfl
  obtain ⟨e, a₁, w₁, hq, harr⟩ := h b (.inScope c :: k) cs hro hb hr
  cases e with
  | normal => exact ⟨.normal, a₁, w₁, hq, .head h0 stepR_scope (StepsIn.trans harr (.one (fenced_calm hb hr rfl) stepR_inScope))⟩
  | exit id =>
    have hx : exitTo id (.inScope c :: k) = exitTo id k := rfl
    exact ⟨.exit id, a₁, w₁, hq, fun k' hk => .head h0 stepR_scope (harr.1 k' (by rw [hx]; exact hk)),
      fun hr' hk => let ⟨k₁, h1, h2⟩ := harr.2 hr' (by rw [hx]; exact hk); ⟨k₁, h1, .head h0 stepR_scope h2⟩⟩
  | goto l => exact hq.elim
  | ret => exact ⟨_, a₁, w₁, hq, .of_steps (.one h0 stepR_scope) harr⟩
  | panic ch => exact ⟨_, a₁, w₁, hq, .of_steps (.one h0 stepR_scope) harr⟩
  | outgrown => exact ⟨_, a₁, w₁, hq, .of_steps (.one h0 stepR_scope) harr⟩

theorem condStep_sound (hT : Told E G) (hCode : ∀ ro c τ ds H o, rec (.code ro c τ ds H) = some o → CodeSound E G n ro c τ ds H o) {ro : Option Nat} {c : Operand} {x y : Code} {τ : Tr AVal} {ds : List ADef} {H : AHeap} {out : Out}
    (h : condStep rec ro (aeval E τ c) x y τ ds H = some out) : CodeSound E G (n + 1) ro (.cond c x y) τ ds H out := by
  intro μ w a ro' hw hro ht hd hin
  simp only [codeIn, Bool.and_eq_true] at hin
  have hv := aeval_rel (E := E) hT.globals hw ht c
  refine CodeOk.of_wp (fun _ e => by cases e) ?_
  unfold condStep at h
  split at h
  · rename_i he
    rw [he] at hv
    generalize hac : a.eval c = v at hv
    cases hv
    exact wpIn_cond_true hac (hCode _ _ _ _ _ _ h μ w a ro' hw hro ht hd hin.1).wp
  · rename_i he
    rw [he] at hv
    generalize hac : a.eval c = v at hv
    cases hv
    exact wpIn_cond_false hac (hCode _ _ _ _ _ _ h μ w a ro' hw hro ht hd hin.2).wp
  · cases h

theorem blockStep_sound (hCode : ∀ ro c τ ds H o, rec (.code ro c τ ds H) = some o → CodeSound E G n ro c τ ds H o) {ro : Option Nat} {id : Nat} {b : Code} {τ : Tr AVal} {ds : List ADef} {H : AHeap} {out : Out}
    (h : blockStep id (rec (.code ro b τ ds H)) = some out) : CodeSound E G (n + 1) ro (.block id b) τ ds H out := by
  intro μ w a ro' hw hro ht hd hin
  refine CodeOk.of_wp (fun _ e => by cases e) (wpIn_block ?_)
  cases hr : rec (.code ro b τ ds H) with
  | none => rw [hr] at h; cases h
  | some o₁ =>
    rw [hr] at h
    refine wpIn_mono (hCode _ _ _ _ _ _ hr μ w a ro' hw hro ht hd hin).wp fun e a' w' hp => ?_
    obtain ⟨x, τ', ds', H', μ', rfl, hn, hx, ht', hd', hs⟩ := stPost_st hp
    cases hx with
    | normal => cases h; exact hp
    | ret => cases h; exact hp
    | pan hc => cases h; exact hp
    | exit id' =>
      simp only [blockStep] at h
      cases hb : Nat.beq id' id with
      | true =>
        rw [hb] at h
        have := Nat.eq_of_beq_eq_true hb
        subst this
        simp only [Exit.inBlock, if_true]
        cases h
        exact ⟨μ', hn, .normal, ht', hd', hs⟩
      | false =>
        rw [hb] at h
        have hne : ¬ id' = id := fun e => by subst e; rw [Nat.beq_refl] at hb; cases hb
        simp only [Exit.inBlock, hne, if_false]
        cases h
        exact hp

end

end Go.Ab
