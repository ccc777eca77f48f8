/- The row: the witness, and the contract as the row says it. -/
import Derived.Test.YtccbadojfbdegaaGreatDoorRows
import Derived.Test.YtccbadojfbdegaaGreatDoorCards
import Derived.ProofKit
import Derived.OpenShut
import Derived.LaidMore
import Derived.Lay
import Derived.Lib.LaidTab
import Derived.SevenTiedAt
import Derived.Stop.Joined
import Derived.Test.YtccbadojfbdegaaGreatDoorLawB
/- TopReveals: the row and the tied card. -/
namespace Go.Proofs.YtccbadojfbdegaaGreatDoor
open Go.ChangeShapes Go.WideShapes Go.ChangeMaps Go.ChangeAt Go.RowKit

theorem own : ownKnob Tryz.prog.godebug = none := by kernel_rfl

theorem keptBut_of {w w' : World} (h : Kept w.heap.size w w') (may : MemPlace → Prop) : w.keptBut w' may := by
  refine ⟨h.os, h.output, fun i hi => ?_⟩
  rw [h.block i hi]
  cases w.heap[i]? with
  | none => rfl
  | some o =>
    cases o with
    | cells c t fr => exact ⟨rfl, rfl, rfl, fun _ _ => rfl⟩
    | map es clock => exact .inr ⟨rfl, rfl⟩
    | _ => rfl

theorem laidVars_at {P : Program} {w : World} : ∀ {l : List (String × DataW Unit)} {ps : List MemPlace}, DataW.LaidVars P w l ps → ∀ x ∈ l,
    ∃ g t cs fuel p, P.globalNamed x.1 = some g ∧ (P.globals[g]?).map (·.type) = some t ∧ w.var? P x.1 = some cs ∧ DataW.trod (fun _ => ()) P w 0 (fun _ => true) false fuel t cs.toList = some (x.2, p)
  | [], _, _, x, hx => by cases hx
  | (n, d) :: r, ps, h, x, hx => by
    obtain ⟨g, t, cs, fuel, p, q, h1, h2, h3, h4, h5, _⟩ := h
    rcases List.mem_cons.1 hx with rfl | hx
    · exact ⟨g, t, cs, fuel, p, h1, h2, h3, h4⟩
    · exact laidVars_at h5 x hx

theorem var_block {P : Program} {w : World} {n : String} {g : Nat} {cs : Array Value} (hg : P.globalNamed n = some g) (h : w.var? P n = some cs) : ∃ t fr, w.heap[g]? = some (.cells cs t fr) := by
  unfold World.var? at h
  rw [hg] at h
  simp only [Option.bind_some] at h
  split at h
  · rename_i c t fr hc
    cases h
    exact ⟨t, fr, hc⟩
  · cases h

theorem hex_data : (Rows.laid_foyer_digest_hex : DataW Unit) = Lib.tabData .u8 hexL := by kernel_rfl
theorem pow_data : (Rows.laid_internal_strconv_uint64pow10 : DataW Unit) = Lib.tabData .u64 Lib.pow10Tab := by kernel_rfl

theorem tab_of {W : World} {ps : List MemPlace} (h : DataW.LaidVars Tryz.prog W Rows.topRevealsRow.laid ps) {n : String} {k : IntKind} {zs : List Int} {g t e m : Nat} (hm : (n, Lib.tabData k zs) ∈ Rows.topRevealsRow.laid)
    (hg : Tryz.prog.globalNamed n = some g) (hty : (Tryz.prog.globals[g]?).map (·.type) = some t) (ht : Tryz.prog.underlying t = some (.array m e)) (he : Tryz.prog.underlying e = some (.int k)) (hce : Tryz.prog.cellsOf e = 1) (hct : Tryz.prog.cellsOf t = m) :
    ∃ t fr, W.heap[g]? = some (.cells (zs.map (Value.int k)).toArray t fr) := by
  obtain ⟨g', t', cs, fuel, p, hg', ht', hv, hd⟩ := laidVars_at h _ hm
  obtain rfl := Option.some.inj (hg.symm.trans hg')
  obtain rfl := Option.some.inj (hty.symm.trans ht')
  have e1 := Lib.cells_of_tab ht he hce hct hd
  obtain ⟨t1, fr, hb⟩ := var_block hg hv
  refine ⟨t1, fr, ?_⟩
  rw [hb, ← e1]

/-- the types of the blocks of the first two variables -/
theorem begin0 : ((begin Tryz.prog (fun _ _ => 0) default).world.heap[0]?).bind Obj.row? = some (#[.int .u8 0, .int .u8 0, .int .u8 0, .int .u8 0, .int .u8 0, .int .u8 0, .int .u8 0, .int .u8 0, .int .u8 0, .int .u8 0, .int .u8 0, .int .u8 0, .int .u8 0, .int .u8 0, .int .u8 0, .int .u8 0], 156) := by kernel_rfl
theorem begin1 : ((begin Tryz.prog (fun _ _ => 0) default).world.heap[1]?).bind Obj.row? = some (#[.int .u64 0, .int .u64 0, .int .u64 0, .int .u64 0, .int .u64 0, .int .u64 0, .int .u64 0, .int .u64 0, .int .u64 0, .int .u64 0, .int .u64 0, .int .u64 0, .int .u64 0, .int .u64 0, .int .u64 0, .int .u64 0, .int .u64 0, .int .u64 0, .int .u64 0, .int .u64 0], 325) := by kernel_rfl
theorem begin8 : (((begin Tryz.prog (fun _ _ => 0) default).world.heap[8]?).bind Obj.row?).isSome = true := by kernel_rfl
theorem nine : Tryz.prog.globals.size = 9 := by kernel_rfl

theorem vars_of {W : World} (hs : W.ShapedOpen Tryz.prog) (hL : laidMetH Tryz.prog Rows.topRevealsRow.laid W) : Go.Rev.Vars W := by
  rw [MakeChecks.laidMetH_plain _ _ _ (by kernel_rfl)] at hL
  obtain ⟨ps, hl, _, _⟩ := hL
  have hx : (("foyer/digest.hex", Rows.laid_foyer_digest_hex) : String × DataW Unit) ∈ Rows.topRevealsRow.laid := .tail _ (.tail _ (.tail _ (.tail _ (.tail _ (.tail _ (.head _))))))
  have hp : (("internal/strconv.uint64pow10", Rows.laid_internal_strconv_uint64pow10) : String × DataW Unit) ∈ Rows.topRevealsRow.laid := .tail _ (.tail _ (.head _))
  rw [hex_data] at hx
  rw [pow_data] at hp
  obtain ⟨t0, fr0, h0⟩ := tab_of (g := 0) (t := 156) (e := 5) (m := 16) hl hx (by kernel_rfl) (by kernel_rfl) (by kernel_rfl) (by kernel_rfl) (by kernel_rfl) (by kernel_rfl)
  obtain ⟨t1, fr1, h1⟩ := tab_of (g := 1) (t := 325) (e := 102) (m := 20) hl hp (by kernel_rfl) (by kernel_rfl) (by kernel_rfl) (by kernel_rfl) (by kernel_rfl) (by kernel_rfl)
  obtain ⟨c0, e0, _⟩ := hs.1 0 _ _ (by rw [nine]; decide) begin0
  obtain ⟨c1, e1, _⟩ := hs.1 1 _ _ (by rw [nine]; decide) begin1
  refine ⟨⟨fr0, ?_⟩, ⟨fr1, ?_⟩, ?_⟩
  · rw [h0] at e0
    cases e0
    exact h0
  · rw [h1] at e1
    cases e1
    exact h1
  · cases hb : ((begin Tryz.prog (fun _ _ => 0) default).world.heap[8]?).bind Obj.row? with
    | none => have := begin8; rw [hb] at this; cases this
    | some x =>
      obtain ⟨z, t⟩ := x
      obtain ⟨c8, e8, _⟩ := hs.1 8 _ _ (by rw [nine]; decide) hb
      have := (Array.getElem?_eq_some_iff.1 e8).1
      omega

/-- a start: the settled world with the two sentinels laid by hand -/
noncomputable def base0 (os : Os) : World :=
  let w := World.holding Tryz.prog os ⟨#[], #[], []⟩
  { w with heap := (((w.heap.setIfInBounds 5 (.cells #[.iface 736 (.pointer (some ⟨14, 0, none⟩))] 64)).setIfInBounds 6 (.cells #[.iface 736 (.pointer (some ⟨15, 0, none⟩))] 64)).push (.cells #[.string ⟨#[105, 110, 118, 97, 108, 105, 100, 32, 115, 121, 110, 116, 97, 120]⟩] 738)).push (.cells #[.string ⟨#[118, 97, 108, 117, 101, 32, 111, 117, 116, 32, 111, 102, 32, 114, 97, 110, 103, 101]⟩] 738) }
def greatNames : List String := ["math/bits.deBruijn32tab", "math/bits.deBruijn64tab", "internal/strconv.uint64pow10", "unicode/utf8.acceptRanges", "foyer/digest.hex", "unicode/utf8.first"]
def greatL : List (String × DataW Unit) := [("math/bits.deBruijn32tab", Rows.laid_math_bits_deBruijn32tab), ("math/bits.deBruijn64tab", Rows.laid_math_bits_deBruijn64tab), ("internal/strconv.uint64pow10", Rows.laid_internal_strconv_uint64pow10), ("unicode/utf8.acceptRanges", Rows.laid_unicode_utf8_acceptRanges), ("foyer/digest.hex", Rows.laid_foyer_digest_hex), ("unicode/utf8.first", Rows.laid_unicode_utf8_first)]
def errL : List (String × DataW Unit) := [("strconv.ErrRange", Rows.laid_strconv_ErrRange), ("strconv.ErrSyntax", Rows.laid_strconv_ErrSyntax)]
noncomputable def w0 (os : Os) : World := (base0 os).layVars Tryz.prog greatL
noncomputable abbrev a0 : Array Value := #[.string ⟨#[]⟩, .string ⟨#[]⟩, .string ⟨#[]⟩]
noncomputable abbrev W0 (os : Os) : World := (w0 os).forCall (fun _ _ => 0) ⟨#[], a0, []⟩
set_option maxRecDepth 100000 in
theorem k1 (os : Os) : (W0 os).variablesZipB Tryz.prog = true := by kernel_rfl
set_option maxRecDepth 100000 in
theorem k2 (os : Os) : ((W0 os).heap.toList.drop Tryz.prog.globals.size).take ((begin Tryz.prog (fun _ _ => 0) default).world.heap.size - Tryz.prog.globals.size) =
    (begin Tryz.prog (fun _ _ => 0) default).world.heap.toList.drop Tryz.prog.globals.size := by kernel_rfl
set_option maxRecDepth 100000 in
theorem k3 (os : Os) : (base0 os).layFits Tryz.prog greatL [5, 6, 14, 15] = true := by kernel_rfl
set_option maxRecDepth 100000 in
theorem k4 (os : Os) : (base0 os).layIfaces Tryz.prog greatL (w0 os) = true := by kernel_rfl
set_option maxRecDepth 100000 in
theorem k5 (os : Os) : (DataW.laidRun Tryz.prog (w0 os) 8 (errL.map (·.1))).map (·.1) = some errL := by kernel_rfl
set_option maxRecDepth 100000 in
theorem k6 (os : Os) : (DataW.laidRun Tryz.prog (w0 os) 8 (errL.map (·.1))).map (fun x => nodupB (x.2.map MemPlace.codeOf)) = some true := by kernel_rfl
set_option maxRecDepth 100000 in
theorem k7 (os : Os) : (DataW.laidRun Tryz.prog (w0 os) 8 (errL.map (·.1))).map (fun x => laidRowsB Tryz.prog (w0 os) x.2) = some true := by kernel_rfl
set_option maxRecDepth 100000 in
theorem k8 (os : Os) : (DataW.laidRun Tryz.prog (w0 os) 8 (errL.map (·.1))).map (fun x => x.2.all fun p => [5, 6, 14, 15].contains p.block) = some true := by kernel_rfl
theorem filter_great : (Rows.topRevealsRow.laid.filter fun x => greatNames.contains x.1) = greatL := by kernel_rfl
theorem filter_errs : (Rows.topRevealsRow.laid.filter fun x => !greatNames.contains x.1) = errL := by kernel_rfl

theorem laid0 (os : Os) : laidMet Tryz.prog Rows.topRevealsRow.laid (w0 os) :=
  laidMet_layVars (w0 := base0 os) greatNames [5, 6, 14, 15] (by rw [filter_great]; rfl) (by rw [filter_great]; exact k3 os) (by rw [filter_great]; exact k4 os) (by rw [filter_errs]; exact LaidIn.of_run [5, 6, 14, 15] 8 (k5 os) (k6 os) (k7 os) (k8 os))

set_option maxRecDepth 100000 in
theorem witness (os : Os) (H : Type) (enc : TypeId × Value → H) : ∃ (w : World) (tape : Tape) (i : Input), w.os = os ∧ (w.forCall tape i).Shaped Tryz.prog ∧ i.vars = [] ∧ Input.okWide Tryz.prog (w.forCall tape i) .any w.heap.size 3 i ∧
    ((Rows.topRevealsSpec.pre enc Tryz.prog Tryz.f3 [] false (w.forCall tape i).memory i.args ∧ laidMetH Tryz.prog Rows.topRevealsRow.laid (w.forCall tape i).memory) ∧ sizedMet enc Tryz.prog Tryz.f3 (OpenSpec.ofChange Rows.topRevealsSpec) false (w.forCall tape i).memory i.args) ∧ ({} : Assume).holds Tryz.prog (lone (Frame.enter Tryz.prog 3 i.args .normal) [] (w.forCall tape i)) :=
  ChangeSpec.witness_shaped (enc := enc) (C := Tryz.checked) (os := os) (X := fun w _ => laidMetH Tryz.prog Rows.topRevealsRow.laid w) false (w0 os) a0 8 (World.layVars_os _ _ _)
    (World.shaped_of_ZipB (k1 os) (k2 os)) (by kernel_rfl) (by kernel_rfl) (by kernel_rfl)
    (by rw [MakeChecks.laidMetH_plain _ _ _ (by kernel_rfl)]; exact (laid0 os).of_heap (by simp [World.memory, World.forCall, Input.heap]))

set_option maxRecDepth 100000 in
theorem lifted (os : Os) (started : os.Started) (H : Type) (enc : TypeId × Value → H) :
    ReturnsInHanded {} Tryz.checked os 3 .any (fun w args => (Rows.topRevealsSpec.pre enc Tryz.prog Tryz.f3 [] false w args ∧ laidMetH Tryz.prog Rows.topRevealsRow.laid w) ∧ sizedMet enc Tryz.prog Tryz.f3 (OpenSpec.ofChange Rows.topRevealsSpec) false w args)
      (Rows.topRevealsSpec.post enc Tryz.prog Tryz.f3 false true false false) := by
  refine returnsInHanded_of_calls (C := Tryz.checked) own started (by kernel_rfl) (witness os H enc) ?_
  intro w tape i _ hsh _ hok hpre _
  obtain ⟨_, _, _, fn', hfn', _, _, _, _, hval⟩ := hok
  obtain rfl : fn' = Tryz.f3 := Option.some.inj (hfn'.symm.trans Tryz.func3)
  obtain ⟨⟨⟨ds, gs, before, hw, _⟩, hx⟩, _⟩ := hpre
  have hW : DataW.Whole enc Tryz.prog Tryz.f3.params.toList Rows.topRevealsSpec.vars false (w.forCall tape i) i.args.toList ds gs before := DataW.Whole.of_heap (w' := w.forCall tape i) (by rfl) hw
  have hL : laidMetH Tryz.prog Rows.topRevealsRow.laid (w.forCall tape i) := hx.of_heap (by rfl)
  have hV := vars_of hsh hL
  obtain ⟨args, ha⟩ : ∃ args, i.args = args := ⟨_, rfl⟩
  rw [ha] at hW hval ⊢
  generalize w.forCall tape i = W at hW hval hV ⊢
  have hW' := hW
  obtain ⟨p, q, hA, hVs, rfl, _, _⟩ := hW
  rw [Tryz.params3] at hA hval
  obtain ⟨v0, v1, v2, d0, d1, d2, p0, p1, p2, rfl, rfl, rfl, t0, t1, t2⟩ := trodAll_three hA
  obtain ⟨rfl, rfl⟩ := trodVars_none hVs
  obtain ⟨one, rfl, rfl, rfl, z0⟩ := open_string Tryz.underlying9 (hval 0 9 v0 rfl rfl) t0
  obtain ⟨two, rfl, rfl, rfl, z1⟩ := open_string Tryz.underlying9 (hval 1 9 v1 rfl rfl) t1
  obtain ⟨other, rfl, rfl, rfl, z2⟩ := open_string Tryz.underlying9 (hval 2 9 v2 rfl rfl) t2
  refine (Go.Rev.top_any one two other hV).mono fun e W' hp => ?_
  obtain ⟨rfl, hk⟩ := hp
  refine ChangeSpec.post_blind ?_
  refine ⟨[.lit (.string one.data.toList), .lit (.string two.data.toList), .lit (.string other.data.toList)], [], [], [], [], [], hW', ?_, ?_, rfl, keptBut_of hk _, fun h => by cases h⟩
  · exact trodAll_mk1 (shut_bool Tryz.underlying4 true)
  · exact trodAll_mk3 (shut_string Tryz.underlying9 z0) (shut_string Tryz.underlying9 z1) (shut_string Tryz.underlying9 z2)

end Go.Proofs.YtccbadojfbdegaaGreatDoor
