/- Walks: contracts of the library laid at this program; the digest, its parts. -/
import Derived.Shelf.Strings.SlTrimAscii
import Derived.Shelf.Strings.OnBuilder
import Derived.Shelf.Strings.Count
import Derived.Lib.ItoaNum
import Derived.Test.YtccbadojfbdegaaGreatDoorProg
import Derived.WalkKit
import Derived.WalkLawsBesides
import Derived.KernelRfl
/- Contracts of the library's functions. -/
namespace Go.Proofs
open Go.Shelf Go.RowKit
def Tryz.lays160_ren : Go.Shelf.Ren := ⟨fun | 160 => 128 | 232 => 213 | 231 => 212 | 227 => 214 | 234 => 216 | 233 => 215 | 236 => 218 | 235 => 217 | 228 => 306 | 271 => 309 | 151 => 308 | 197 => 307 | 120 => 401 | 152 => 400 | 260 => 399 | 137 => 456 | 119 => 482 | 224 => 483 | 225 => 484 | 217 => 556 | 266 => 612 | n => n, fun | 9 => 9 | 4 => 4 | 3 => 3 | 5 => 5 | 117 => 330 | 116 => 329 | 0 => 0 | 124 => 333 | 21 => 21 | 105 => 434 | 46 => 155 | 119 => 445 | 139 => 661 | 138 => 660 | n => n, fun | 3 => 7 | 4 => 8 | n => n⟩
theorem Tryz.lays160 : Go.Proofs.Lays.n160 Tryz.prog Tryz.lays160_ren where
  mixed := by kernel_rfl
  f119 := Tryz.func482.trans (congrArg some (by kernel_rfl))
  f120 := Tryz.func401.trans (congrArg some (by kernel_rfl))
  f137 := Tryz.func456.trans (congrArg some (by kernel_rfl))
  f151 := Tryz.func308.trans (congrArg some (by kernel_rfl))
  f152 := Tryz.func400.trans (congrArg some (by kernel_rfl))
  f160 := Tryz.func128.trans (congrArg some (by kernel_rfl))
  f197 := Tryz.func307.trans (congrArg some (by kernel_rfl))
  f217 := Tryz.func556.trans (congrArg some (by kernel_rfl))
  f224 := Tryz.func483.trans (congrArg some (by kernel_rfl))
  f225 := Tryz.func484.trans (congrArg some (by kernel_rfl))
  f227 := Tryz.func214.trans (congrArg some (by kernel_rfl))
  f228 := Tryz.func306.trans (congrArg some (by kernel_rfl))
  f231 := Tryz.func212.trans (congrArg some (by kernel_rfl))
  f232 := Tryz.func213.trans (congrArg some (by kernel_rfl))
  f233 := Tryz.func215.trans (congrArg some (by kernel_rfl))
  f234 := Tryz.func216.trans (congrArg some (by kernel_rfl))
  f235 := Tryz.func217.trans (congrArg some (by kernel_rfl))
  f236 := Tryz.func218.trans (congrArg some (by kernel_rfl))
  f260 := Tryz.func399.trans (congrArg some (by kernel_rfl))
  f266 := Tryz.func612.trans (congrArg some (by kernel_rfl))
  f271 := Tryz.func309.trans (congrArg some (by kernel_rfl))
  t0 := Tryz.underlying0
  a0 := Tryz.isAgg0
  z0 := Tryz.sizeOf0
  v0 := Tryz.zeroValue0
  t3 := Tryz.underlying3
  a3 := Tryz.isAgg3
  z3 := Tryz.sizeOf3
  v3 := Tryz.zeroValue3
  t4 := Tryz.underlying4
  a4 := Tryz.isAgg4
  z4 := Tryz.sizeOf4
  v4 := Tryz.zeroValue4
  t5 := Tryz.underlying5
  a5 := Tryz.isAgg5
  z5 := Tryz.sizeOf5
  v5 := Tryz.zeroValue5
  t9 := Tryz.underlying9
  a9 := Tryz.isAgg9
  z9 := Tryz.sizeOf9
  v9 := Tryz.zeroValue9
  t21 := Tryz.underlying21
  a21 := Tryz.isAgg21
  z21 := Tryz.sizeOf21
  v21 := Tryz.zeroValue21
  t46 := Tryz.underlying155
  a46 := Tryz.isAgg155
  z46 := Tryz.sizeOf155
  v46 := Tryz.zeroValue155
  t105 := Tryz.underlying434
  a105 := Tryz.isAgg434
  z105 := Tryz.sizeOf434
  v105 := Tryz.zeroValue434
  t116 := Tryz.underlying329
  a116 := Tryz.isAgg329
  z116 := Tryz.sizeOf329
  t117 := Tryz.underlying330
  a117 := Tryz.isAgg330
  z117 := Tryz.sizeOf330
  v117 := Tryz.zeroValue330
  t119 := Tryz.underlying445
  a119 := Tryz.isAgg445
  z119 := Tryz.sizeOf445
  t124 := Tryz.underlying333
  a124 := Tryz.isAgg333
  z124 := Tryz.sizeOf333
  v124 := Tryz.zeroValue333
  t138 := Tryz.underlying660
  a138 := Tryz.isAgg660
  z138 := Tryz.sizeOf660
  v138 := Tryz.zeroValue660
  t139 := Tryz.underlying661
  a139 := Tryz.isAgg661
  z139 := Tryz.sizeOf661
  v139 := Tryz.zeroValue661
  g3 := by kernel_rfl
  g4 := by kernel_rfl
theorem trim_any (s cutset : ByteArray) (w : World) (hs : s.size ≤ 9223372036854775807) (hcs : cutset.size < 4294967281) (hascii : ∀ (j : Nat) b, cutset.data.toList[j]? = some b → b.toNat < 128) :
    Calls Tryz.prog 128 #[.string s, .string cutset] w fun e w' => e = .returned (.string ⟨(Lib.trimS s.data.toList cutset.data.toList).toArray⟩) ∧ Below w.heap.size w w' :=
  Any.strings_Trim_laid Tryz.lays160 (by kernel_rfl) s cutset w hs hcs hascii
def Tryz.lays156_ren : Go.Shelf.Ren := ⟨fun | 156 => 37 | 165 => 85 | 166 => 13 | 169 => 15 | 240 => 34 | 241 => 129 | 276 => 72 | 277 => 219 | n => n, fun | 31 => 26 | 9 => 9 | 3 => 3 | 4 => 4 | 0 => 0 | 20 => 20 | 72 => 62 | 76 => 65 | 70 => 59 | 37 => 60 | 75 => 64 | 127 => 106 | 164 => 157 | 5 => 5 | 80 => 68 | n => n, fun | n => n⟩
theorem Tryz.lays156 : Go.Proofs.Lays.n156 Tryz.prog Tryz.lays156_ren where
  mixed := by kernel_rfl
  f156 := Tryz.func37.trans (congrArg some (by kernel_rfl))
  f165 := Tryz.func85.trans (congrArg some (by kernel_rfl))
  f166 := Tryz.func13.trans (congrArg some (by kernel_rfl))
  f169 := Tryz.func15.trans (congrArg some (by kernel_rfl))
  f240 := Tryz.func34.trans (congrArg some (by kernel_rfl))
  f241 := Tryz.func129.trans (congrArg some (by kernel_rfl))
  f276 := Tryz.func72.trans (congrArg some (by kernel_rfl))
  f277 := Tryz.func219.trans (congrArg some (by kernel_rfl))
  t0 := Tryz.underlying0
  a0 := Tryz.isAgg0
  z0 := Tryz.sizeOf0
  v0 := Tryz.zeroValue0
  t3 := Tryz.underlying3
  a3 := Tryz.isAgg3
  z3 := Tryz.sizeOf3
  v3 := Tryz.zeroValue3
  t4 := Tryz.underlying4
  a4 := Tryz.isAgg4
  z4 := Tryz.sizeOf4
  v4 := Tryz.zeroValue4
  t9 := Tryz.underlying9
  a9 := Tryz.isAgg9
  z9 := Tryz.sizeOf9
  v9 := Tryz.zeroValue9
  t20 := Tryz.underlying20
  a20 := Tryz.isAgg20
  z20 := Tryz.sizeOf20
  v20 := Tryz.zeroValue20
  t31 := Tryz.underlying26
  a31 := Tryz.isAgg26
  z31 := Tryz.sizeOf26
  v31 := Tryz.zeroValue26
  t37 := Tryz.underlying60
  a37 := Tryz.isAgg60
  z37 := Tryz.sizeOf60
  v37 := Tryz.zeroValue60
  t70 := Tryz.underlying59
  a70 := Tryz.isAgg59
  z70 := Tryz.sizeOf59
  v70 := Tryz.zeroValue59
  t72 := Tryz.underlying62
  a72 := Tryz.isAgg62
  z72 := Tryz.sizeOf62
  v72 := Tryz.zeroValue62
  t75 := Tryz.underlying64
  a75 := Tryz.isAgg64
  z75 := Tryz.sizeOf64
  v75 := Tryz.zeroValue64
  t76 := Tryz.underlying65
  a76 := Tryz.isAgg65
  z76 := Tryz.sizeOf65
  v76 := Tryz.zeroValue65
  t127 := Tryz.underlying106
  a127 := Tryz.isAgg106
  z127 := Tryz.sizeOf106
  v127 := Tryz.zeroValue106
  t164 := Tryz.underlying157
  a164 := Tryz.isAgg157
  z164 := Tryz.sizeOf157
  v164 := Tryz.zeroValue157
theorem Tryz.builderExtra : Builder.Extra Tryz.prog Tryz.lays156_ren where
  sizeBuilder := by kernel_rfl
  liesBuilder := by kernel_rfl
  t5 := Tryz.underlying5
  a5 := Tryz.isAgg5
  z5 := Tryz.sizeOf5
  v5 := Tryz.zeroValue5
  infoByte := by kernel_rfl
  cellsByte := by kernel_rfl
  sizeByte := by kernel_rfl
  neB5 := by decide
theorem join_any (bk o c : Nat) (xs : List ByteArray) (sep : ByteArray) (w : World) (hcells : ∀ (j : Nat) x, xs[j]? = some x → w.cell? ⟨bk, o + j, none⟩ = some (.string x)) (hbk : bk < w.heap.size) (hN : xs.length ≤ 140737488355328) (hcap : xs.length ≤ c) (hlen : (Lib.join (xs.map (·.data.toList)) sep.data.toList).length ≤ 140737488355328) :
    Calls Tryz.prog 37 #[.slice (some ⟨bk, o, none⟩) xs.length c, .string sep] w fun e w' => e = .returned (.string ⟨(Lib.join (xs.map (·.data.toList)) sep.data.toList).toArray⟩) ∧ Below w.heap.size w w' := Any.strings_Join Tryz.lays156 Tryz.builderExtra bk o c xs sep w hcells hbk hN hcap hlen
theorem writeString_any (B b : Nat) (bs : List Value) (s : ByteArray) (w : World) (h : Lib.IsBuilder 62 5 B b bs w) (hlen : bs.length + s.size ≤ 140737488355328) (hBw : B ≤ w.heap.size) :
    Calls Tryz.prog 13 #[.pointer (some ⟨b, 0, none⟩), .string s] w fun e w' => e = .returned (.tuple #[.int .i64 s.size, .nilIface]) ∧ (Lib.BuilderAt 62 5 B b (.pointer (some ⟨b, 0, none⟩)) (bs ++ Lib.strCells s) w' ∧ Below B w w') := Any.Builder_WriteString ({ Tryz.lays156 with } : Lays.n166 Tryz.prog Tryz.lays156_ren) Tryz.builderExtra B b bs s w h hlen hBw
def Tryz.lays169_ren : Go.Shelf.Ren := ⟨fun | 169 => 15 | n => n, fun | 70 => 59 | 9 => 9 | 0 => 0 | 72 => 62 | 37 => 60 | 127 => 106 | 3 => 3 | 5 => 5 | n => n, fun | n => n⟩
theorem Tryz.lays169 : Go.Proofs.Lays.n169 Tryz.prog Tryz.lays169_ren where
  mixed := by kernel_rfl
  f169 := Tryz.func15.trans (congrArg some (by kernel_rfl))
  t0 := Tryz.underlying0
  a0 := Tryz.isAgg0
  z0 := Tryz.sizeOf0
  v0 := Tryz.zeroValue0
  t3 := Tryz.underlying3
  a3 := Tryz.isAgg3
  z3 := Tryz.sizeOf3
  v3 := Tryz.zeroValue3
  t9 := Tryz.underlying9
  a9 := Tryz.isAgg9
  z9 := Tryz.sizeOf9
  v9 := Tryz.zeroValue9
  t37 := Tryz.underlying60
  a37 := Tryz.isAgg60
  z37 := Tryz.sizeOf60
  v37 := Tryz.zeroValue60
  t70 := Tryz.underlying59
  a70 := Tryz.isAgg59
  z70 := Tryz.sizeOf59
  v70 := Tryz.zeroValue59
  t72 := Tryz.underlying62
  a72 := Tryz.isAgg62
  z72 := Tryz.sizeOf62
  v72 := Tryz.zeroValue62
  t127 := Tryz.underlying106
  a127 := Tryz.isAgg106
  z127 := Tryz.sizeOf106
  v127 := Tryz.zeroValue106
theorem Tryz.builderExtra2 : Builder.Extra Tryz.prog Tryz.lays169_ren where
  sizeBuilder := by kernel_rfl
  liesBuilder := by kernel_rfl
  t5 := Tryz.underlying5
  a5 := Tryz.isAgg5
  z5 := Tryz.sizeOf5
  v5 := Tryz.zeroValue5
  infoByte := by kernel_rfl
  cellsByte := by kernel_rfl
  sizeByte := by kernel_rfl
  neB5 := by decide
theorem string_any (B b : Nat) (l : List UInt8) (w : World) (h : Lib.IsBuilder 62 5 B b (Lib.byteCells l) w) (hBw : B ≤ w.heap.size) :
    Calls Tryz.prog 15 #[.pointer (some ⟨b, 0, none⟩)] w fun e w' => e = .returned (.string ⟨l.toArray⟩) ∧ Below B w w' := Any.Builder_String_any Tryz.lays169 Tryz.builderExtra2 B b l w h hBw
def Tryz.lays138_ren : Go.Shelf.Ren := ⟨fun | 138 => 656 | 195 => 657 | 218 => 658 | 143 => 659 | 219 => 660 | 217 => 556 | 225 => 484 | 224 => 483 | 267 => 661 | 266 => 612 | 314 => 662 | n => n, fun | 9 => 9 | 3 => 3 | 4 => 4 | 5 => 5 | 0 => 0 | 46 => 155 | 146 => 732 | 51 => 208 | n => n, fun | 1 => 2 | n => n⟩
theorem Tryz.lays138 : Go.Proofs.Lays.n138 Tryz.prog Tryz.lays138_ren where
  mixed := by kernel_rfl
  f138 := Tryz.func656.trans (congrArg some (by kernel_rfl))
  f143 := Tryz.func659.trans (congrArg some (by kernel_rfl))
  f195 := Tryz.func657.trans (congrArg some (by kernel_rfl))
  f217 := Tryz.func556.trans (congrArg some (by kernel_rfl))
  f218 := Tryz.func658.trans (congrArg some (by kernel_rfl))
  f219 := Tryz.func660.trans (congrArg some (by kernel_rfl))
  f224 := Tryz.func483.trans (congrArg some (by kernel_rfl))
  f225 := Tryz.func484.trans (congrArg some (by kernel_rfl))
  f266 := Tryz.func612.trans (congrArg some (by kernel_rfl))
  f267 := Tryz.func661.trans (congrArg some (by kernel_rfl))
  f314 := Tryz.func662.trans (congrArg some (by kernel_rfl))
  t0 := Tryz.underlying0
  a0 := Tryz.isAgg0
  z0 := Tryz.sizeOf0
  v0 := Tryz.zeroValue0
  t3 := Tryz.underlying3
  a3 := Tryz.isAgg3
  z3 := Tryz.sizeOf3
  v3 := Tryz.zeroValue3
  t4 := Tryz.underlying4
  a4 := Tryz.isAgg4
  z4 := Tryz.sizeOf4
  v4 := Tryz.zeroValue4
  t5 := Tryz.underlying5
  a5 := Tryz.isAgg5
  z5 := Tryz.sizeOf5
  v5 := Tryz.zeroValue5
  t9 := Tryz.underlying9
  a9 := Tryz.isAgg9
  z9 := Tryz.sizeOf9
  v9 := Tryz.zeroValue9
  t46 := Tryz.underlying155
  a46 := Tryz.isAgg155
  z46 := Tryz.sizeOf155
  v46 := Tryz.zeroValue155
  t51 := Tryz.underlying208
  a51 := Tryz.isAgg208
  z51 := Tryz.sizeOf208
  v51 := Tryz.zeroValue208
  t146 := Tryz.underlying732
  a146 := Tryz.isAgg732
  z146 := Tryz.sizeOf732
  v146 := Tryz.zeroValue732
  g1 := by kernel_rfl
theorem count_any (s : ByteArray) (c : UInt8) (w : World) :
    Calls Tryz.prog 656 #[.string s, .string ⟨#[c]⟩] w fun e w' => e = .returned (.int .i64 (Lib.countByte s.data.toList c)) ∧ w' = w := Any.strings_Count_one Tryz.lays138 s c w
end Go.Proofs
/- The walks of digest.take and of the closure that adds a byte. -/
namespace Go.Proofs
open Go.RowKit

def takeF (s b : Int) : Int :=
  bits .xor .u64 (IntKind.u64.wrap (bits .xor .u64 (IntKind.u64.wrap (bits .xor .u64 (bits .xor .u64 s b) (bits .xor .u64 s b / 4294967296) * 11400714819323198485)) (IntKind.u64.wrap (bits .xor .u64 (bits .xor .u64 s b) (bits .xor .u64 s b / 4294967296) * 11400714819323198485) / 536870912) * 13787848793156543929))
    (IntKind.u64.wrap (bits .xor .u64 (IntKind.u64.wrap (bits .xor .u64 (bits .xor .u64 s b) (bits .xor .u64 s b / 4294967296) * 11400714819323198485)) (IntKind.u64.wrap (bits .xor .u64 (bits .xor .u64 s b) (bits .xor .u64 s b / 4294967296) * 11400714819323198485) / 536870912) * 13787848793156543929) / 4294967296)

set_option maxRecDepth 100000 in
set_option maxHeartbeats 1000000 in
theorem take_any (s b : Int) (blk : Nat) (w : World) (hb : blk < w.heap.size) (h1 : w.cell? ⟨blk, 0, none⟩ = some (.int .u64 s)) (h2 : w.frozen? ⟨blk, 0, none⟩ = false) :
    Calls Tryz.prog 32 #[.pointer (some ⟨blk, 0, none⟩), .int .u64 b] w fun e w' => e = .returned (.tuple #[]) ∧
      w' = ((w.setCell ⟨blk, 0, none⟩ (.int .u64 (takeF s b))).alloc (.cells #[.int .u64 32, .int .u64 11400714819323198485] 151)).alloc (.cells #[.int .u64 29, .int .u64 13787848793156543929] 151) := by
  have hi0 : ∀ w, (Instr.index 152 (Value.agg #[.int .u64 32, .int .u64 11400714819323198485, .int .u64 29, .int .u64 13787848793156543929]) (.int .i64 0)).run Tryz.prog w = .ok (.agg #[.int .u64 32, .int .u64 11400714819323198485]) w := fun w => by kernel_rfl
  have hi1 : ∀ w, (Instr.index 152 (Value.agg #[.int .u64 32, .int .u64 11400714819323198485, .int .u64 29, .int .u64 13787848793156543929]) (.int .i64 1)).run Tryz.prog w = .ok (.agg #[.int .u64 29, .int .u64 13787848793156543929]) w := fun w => by kernel_rfl
  go_enter Tryz.func32, Tryz.ntmps32
  go_wp2
  refine wp_loop_rounds 3 ?_
  rw [rounds_succ]
  go_wp2
  rw [rounds_succ]
  go_wp2
  rw [rounds_succ]
  go_wp2
  go_end0
  exact ⟨rfl, rfl⟩

def addB (b n c : Int) : Int := bits .or .u64 b (IntKind.u64.wrap (IntKind.u64.wrap c * 2 ^ (8 * n).toNat))

set_option maxRecDepth 100000 in
set_option maxHeartbeats 1000000 in
theorem add_small (s b c n : Int) (hn : 0 ≤ n ∧ n < 7) (B N S : Nat) (w : World) (_h1 : w.cell? ⟨S, 0, none⟩ = some (.int .u64 s)) (_h2 : w.frozen? ⟨S, 0, none⟩ = false)
    (h3 : w.cell? ⟨B, 0, none⟩ = some (.int .u64 b)) (h4 : w.frozen? ⟨B, 0, none⟩ = false) (h5 : w.cell? ⟨N, 0, none⟩ = some (.int .i64 n)) (h6 : w.frozen? ⟨N, 0, none⟩ = false) (hBN : B ≠ N) (hBS : B ≠ S) (hNS : N ≠ S) :
    Calls Tryz.prog 31 #[.int .u8 c, .pointer (some ⟨B, 0, none⟩), .pointer (some ⟨N, 0, none⟩), .pointer (some ⟨S, 0, none⟩)] w fun e w' => e = .returned (.tuple #[]) ∧
      w' = ((w.setCell ⟨B, 0, none⟩ (.int .u64 (addB b n c))).setCell ⟨N, 0, none⟩ (.int .i64 (n + 1))).drew := by
  go_enter Tryz.func31, Tryz.ntmps31
  go_wp2
  go_region
  go_wp2
  go_end0
  exact ⟨rfl, rfl⟩

end Go.Proofs
namespace Go.Proofs
open Go.RowKit

/-- what the state's own cells hold -/
structure Own3 (S B N : Nat) (s b n : Int) (w : World) : Prop where
  s : w.cell? ⟨S, 0, none⟩ = some (.int .u64 s)
  fs : w.frozen? ⟨S, 0, none⟩ = false
  b : w.cell? ⟨B, 0, none⟩ = some (.int .u64 b)
  fb : w.frozen? ⟨B, 0, none⟩ = false
  n : w.cell? ⟨N, 0, none⟩ = some (.int .i64 n)
  fn : w.frozen? ⟨N, 0, none⟩ = false
  hS : S < w.heap.size
  hB : B < w.heap.size
  hN : N < w.heap.size

theorem setCell_cell_ne (w : World) (a b : Nat) (v : Value) (h : a ≠ b) : (w.setCell ⟨a, 0, none⟩ v).cell? ⟨b, 0, none⟩ = w.cell? ⟨b, 0, none⟩ :=
  World.cell?_of_block (w := w) (Below.heap_setCell w _ _ _ (by simpa using Ne.symm h))
theorem setCell_frozen_ne (w : World) (a b : Nat) (v : Value) (h : a ≠ b) : (w.setCell ⟨a, 0, none⟩ v).frozen? ⟨b, 0, none⟩ = w.frozen? ⟨b, 0, none⟩ :=
  World.frozen?_of_block (w := w) (Below.heap_setCell w _ _ _ (by simpa using Ne.symm h))
theorem alloc_cell (w : World) (o : Obj) (b : Nat) (h : b < w.heap.size) : (w.alloc o).cell? ⟨b, 0, none⟩ = w.cell? ⟨b, 0, none⟩ :=
  World.cell?_of_block (w := w) (Below.heap_alloc w o _ h)
theorem alloc_frozen (w : World) (o : Obj) (b : Nat) (h : b < w.heap.size) : (w.alloc o).frozen? ⟨b, 0, none⟩ = w.frozen? ⟨b, 0, none⟩ :=
  World.frozen?_of_block (w := w) (Below.heap_alloc w o _ h)
theorem setCell_cell (w : World) (a : Nat) (v u : Value) (h : w.cell? ⟨a, 0, none⟩ = some u) : (w.setCell ⟨a, 0, none⟩ v).cell? ⟨a, 0, none⟩ = some v := by
  go_simp
theorem setCell_frozen (w : World) (a : Nat) (v : Value) : (w.setCell ⟨a, 0, none⟩ v).frozen? ⟨a, 0, none⟩ = w.frozen? ⟨a, 0, none⟩ := by
  go_simp
theorem setCell_size (w : World) (a : Nat) (v : Value) : (w.setCell ⟨a, 0, none⟩ v).heap.size = w.heap.size := by
  simp [World.setCell]

theorem take_facts (s b n b' : Int) (S B N : Nat) (w : World) (hBS : B ≠ S) (hNS : N ≠ S) (h : Own3 S B N s b n w) (base : Nat) (hbase : base ≤ S) :
    Calls Tryz.prog 32 #[.pointer (some ⟨S, 0, none⟩), .int .u64 b'] w fun e w' => e = .returned (.tuple #[]) ∧ Own3 S B N (takeF s b') b n w' ∧ Below base w w' := by
  refine (take_any s b' S w h.hS h.s h.fs).mono ?_
  rintro e w' ⟨rfl, rfl⟩
  have hz := setCell_size w S (.int .u64 (takeF s b'))
  refine ⟨rfl, ⟨?_, ?_, ?_, ?_, ?_, ?_, ?_, ?_, ?_⟩, ?_⟩
  · rw [alloc_cell _ _ _ (by simp [hz]; have := h.hS; omega), alloc_cell _ _ _ (by rw [hz]; exact h.hS), setCell_cell _ _ _ _ h.s]
  · rw [alloc_frozen _ _ _ (by simp [hz]; have := h.hS; omega), alloc_frozen _ _ _ (by rw [hz]; exact h.hS), setCell_frozen, h.fs]
  · rw [alloc_cell _ _ _ (by simp [hz]; have := h.hB; omega), alloc_cell _ _ _ (by rw [hz]; exact h.hB), setCell_cell_ne _ _ _ _ hBS.symm, h.b]
  · rw [alloc_frozen _ _ _ (by simp [hz]; have := h.hB; omega), alloc_frozen _ _ _ (by rw [hz]; exact h.hB), setCell_frozen_ne _ _ _ _ hBS.symm, h.fb]
  · rw [alloc_cell _ _ _ (by simp [hz]; have := h.hN; omega), alloc_cell _ _ _ (by rw [hz]; exact h.hN), setCell_cell_ne _ _ _ _ hNS.symm, h.n]
  · rw [alloc_frozen _ _ _ (by simp [hz]; have := h.hN; omega), alloc_frozen _ _ _ (by rw [hz]; exact h.hN), setCell_frozen_ne _ _ _ _ hNS.symm, h.fn]
  · simp [hz]; have := h.hS; omega
  · simp [hz]; have := h.hB; omega
  · simp [hz]; have := h.hN; omega
  · have hl := h.hS
    exact (((Below.refl base w).setCell (by simpa using hbase) _).alloc (by rw [hz]; omega) _).alloc (by simp [hz]; omega) _

theorem own3_small {S B N : Nat} {s b n b' n' : Int} {w : World} (hBN : B ≠ N) (hBS : B ≠ S) (hNS : N ≠ S) (h : Own3 S B N s b n w) : Own3 S B N s b' n' ((w.setCell ⟨B, 0, none⟩ (.int .u64 b')).setCell ⟨N, 0, none⟩ (.int .i64 n')) := by
  have hz := setCell_size w B (.int .u64 b')
  have hz2 := setCell_size (w.setCell ⟨B, 0, none⟩ (.int .u64 b')) N (.int .i64 n')
  refine ⟨?_, ?_, ?_, ?_, ?_, ?_, ?_, ?_, ?_⟩
  · rw [setCell_cell_ne _ _ _ _ hNS, setCell_cell_ne _ _ _ _ hBS, h.s]
  · rw [setCell_frozen_ne _ _ _ _ hNS, setCell_frozen_ne _ _ _ _ hBS, h.fs]
  · rw [setCell_cell_ne _ _ _ _ hBN.symm, setCell_cell _ _ _ _ h.b]
  · rw [setCell_frozen_ne _ _ _ _ hBN.symm, setCell_frozen, h.fb]
  · rw [setCell_cell _ _ _ (.int .i64 n)]
    rw [setCell_cell_ne _ _ _ _ hBN, h.n]
  · rw [setCell_frozen, setCell_frozen_ne _ _ _ _ hBN, h.fn]
  · rw [hz2, hz]; exact h.hS
  · rw [hz2, hz]; exact h.hB
  · rw [hz2, hz]; exact h.hN

theorem Own3.drew {S B N : Nat} {s b n : Int} {w : World} (h : Own3 S B N s b n w) : Own3 S B N s b n w.drew := ⟨h.s, h.fs, h.b, h.fb, h.n, h.fn, h.hS, h.hB, h.hN⟩

theorem below_small {B N base : Nat} {v v' : Value} {w : World} (hB : base ≤ B) (hN : base ≤ N) : Below base w ((w.setCell ⟨B, 0, none⟩ v).setCell ⟨N, 0, none⟩ v') :=
  ((Below.refl base w).setCell (by simpa using hB) _).setCell (by simpa using hN) _

set_option maxRecDepth 100000 in
set_option maxHeartbeats 400000 in
theorem add_full (s b c : Int) (B N S : Nat) (w : World) (h : Own3 S B N s b 7 w) (hBN : B ≠ N) (hBS : B ≠ S) (hNS : N ≠ S) (base : Nat) (hb1 : base ≤ S) (hb2 : base ≤ B) (hb3 : base ≤ N) :
    Calls Tryz.prog 31 #[.int .u8 c, .pointer (some ⟨B, 0, none⟩), .pointer (some ⟨N, 0, none⟩), .pointer (some ⟨S, 0, none⟩)] w fun e w' => e = .returned (.tuple #[]) ∧ Own3 S B N (takeF s (addB b 7 c)) 0 0 w' ∧ Below base w w' := by
  have h1 := h.s
  have h2 := h.fs
  have h3 := h.b
  have h4 := h.fb
  have h5 := h.n
  have h6 := h.fn
  have hall := fun b' n' => own3_small (b' := b') (n' := n') hBN hBS hNS h
  have hbel := fun v v' => below_small (v := v) (v' := v') (w := w) hb2 hb3
  clear h
  go_enter Tryz.func31, Tryz.ntmps31
  go_wp2
  go_region
  go_wp2_with (go_at_call 32; refine (take_facts s _ _ _ S B N _ hBS hNS ((hall _ _).drew) base hb1).mono ?_; rintro e w' ⟨rfl, hown, hb⟩; have g3 := hown.b; have g4 := hown.fb; have g5 := hown.n; have g6 := hown.fn)
  go_end0
  refine ⟨rfl, ?_, ?_⟩
  · have e : addB b 7 c = bits .or .u64 b (IntKind.u64.wrap (IntKind.u64.wrap c * 72057594037927936)) := rfl
    rw [e]
    exact own3_small hBN hBS hNS hown
  · exact (((hbel _ _).drew.trans hb).setCell (by simpa using hb2) _).setCell (by simpa using hb3) _

/-- state, block, how many bytes of it -/
def addF (q : Int × Int × Int) (c : Int) : Int × Int × Int := if q.2.2 = 7 then (takeF q.1 (addB q.2.1 7 c), 0, 0) else (q.1, addB q.2.1 q.2.2 c, q.2.2 + 1)

theorem addF_range (q : Int × Int × Int) (c : Int) (h : 0 ≤ q.2.2 ∧ q.2.2 ≤ 7) : 0 ≤ (addF q c).2.2 ∧ (addF q c).2.2 ≤ 7 := by
  unfold addF
  split
  · exact ⟨by simp, by simp⟩
  · rename_i e; exact ⟨by simp; omega, by simp; omega⟩

theorem add_any (q : Int × Int × Int) (c : Int) (hq : 0 ≤ q.2.2 ∧ q.2.2 ≤ 7) (B N S : Nat) (w : World) (h : Own3 S B N q.1 q.2.1 q.2.2 w) (hBN : B ≠ N) (hBS : B ≠ S) (hNS : N ≠ S) (base : Nat) (hb1 : base ≤ S) (hb2 : base ≤ B) (hb3 : base ≤ N) :
    Calls Tryz.prog 31 #[.int .u8 c, .pointer (some ⟨B, 0, none⟩), .pointer (some ⟨N, 0, none⟩), .pointer (some ⟨S, 0, none⟩)] w fun e w' => e = .returned (.tuple #[]) ∧ Own3 S B N (addF q c).1 (addF q c).2.1 (addF q c).2.2 w' ∧ Below base w w' := by
  obtain ⟨s, b, n⟩ := q
  simp only at hq h ⊢
  by_cases e : n = 7
  · subst e
    simp only [addF, if_true]
    exact add_full s b c B N S w h hBN hBS hNS base hb1 hb2 hb3
  · simp only [addF, e, if_false]
    refine (add_small s b c n ⟨hq.1, by omega⟩ B N S w h.s h.fs h.b h.fb h.n h.fn hBN hBS hNS).mono ?_
    rintro e w' ⟨rfl, rfl⟩
    exact ⟨rfl, (own3_small hBN hBS hNS h).drew, (below_small hb2 hb3).drew⟩

end Go.Proofs
namespace Go.Proofs
open Go.RowKit
noncomputable def dig (hex : List Int) (s : Int) (j : Nat) : Int := hex.getD (bits .and .u64 (s / 2 ^ (60 - 4 * j)) 15).toNat 0
noncomputable def drow (hex : List Int) (s : Int) (k : Nat) : Array Value := Array.ofFn (n := 16) fun j => .int .u8 (if j.val < k then dig hex s j.val else 0)

theorem drow_get (hex : List Int) (s : Int) (k j : Nat) (h : j < 16) : (drow hex s k)[j]? = some (.int .u8 (if j < k then dig hex s j else 0)) := by
  simp [drow, h]
theorem drow_zero (hex : List Int) (s : Int) : drow hex s 0 = #[.int .u8 0, .int .u8 0, .int .u8 0, .int .u8 0, .int .u8 0, .int .u8 0, .int .u8 0, .int .u8 0, .int .u8 0, .int .u8 0, .int .u8 0, .int .u8 0, .int .u8 0, .int .u8 0, .int .u8 0, .int .u8 0] := by
  simp [drow]; rfl
theorem drow_step (hex : List Int) (s : Int) (k : Nat) : (drow hex s k).setIfInBounds k (.int .u8 (dig hex s k)) = drow hex s (k + 1) := by
  apply Array.ext_getElem?
  intro j
  by_cases hj : j < 16
  · rw [drow_get _ _ _ _ hj]
    by_cases e : k = j
    · subst e; simp [drow, hj]
    · rw [Array.getElem?_setIfInBounds_ne e, drow_get _ _ _ _ hj]
      have : (j < k) ↔ (j < k + 1) := by omega
      simp [this]
  · have h1 : ∀ k, (drow hex s k).size = 16 := fun k => by simp [drow]
    rw [Array.getElem?_eq_none (by simp [h1]; omega), Array.getElem?_eq_none (by simp [h1]; omega)]
theorem and15 (x : Int) : 0 ≤ bits .and .u64 x 15 ∧ bits .and .u64 x 15 < 16 := by
  have h : (BitVec.ofInt 64 x &&& BitVec.ofInt 64 15).toNat ≤ 15 := by
    rw [BitVec.toNat_and]
    exact Nat.le_trans Nat.and_le_right (by decide)
  have e : bits .and .u64 x 15 = ((BitVec.ofInt 64 x &&& BitVec.ofInt 64 15).toNat : Int) := by
    show IntKind.u64.wrap ((BitVec.ofInt 64 x &&& BitVec.ofInt 64 15).toNat : Int) = _
    rw [IntKind.wrap_u64]
    omega
  omega

noncomputable def textB (hex : List Int) (s : Int) : ByteArray := ((List.range 16).map (dig hex s)).foldl (fun r n => r.push (UInt8.ofNat n.toNat)) ByteArray.empty

theorem text_conv (hex : List Int) (s : Int) (w : World) : (convert 60 9 (.slice (some ⟨w.heap.size, 0, none⟩) 16 16)).run Tryz.prog (w.alloc (.cells (drow hex s 16) 156)) = .ok (.string (textB hex s)) (w.alloc (.cells (drow hex s 16) 156)) := by
  rw [run_convert_bytes_string _ _ _ 5 _ _ _ Tryz.underlying60 Tryz.underlying5 Tryz.underlying9]
  refine run_bytesToString _ _ _ _ ((List.range 16).map (dig hex s)) ?_
  have := run_loadCells_list (P := Tryz.prog) (w := w.alloc (.cells (drow hex s 16) 156)) ⟨w.heap.size, 0, none⟩ (((List.range 16).map (dig hex s)).map (Value.int .u8)) (by
    intro j v hv
    have hj : j < 16 := by
      rcases Nat.lt_or_ge j 16 with h | h
      · exact h
      · rw [List.getElem?_eq_none (by simpa using h)] at hv; cases hv
    rw [show (⟨w.heap.size, 0, none⟩ : Addr).add j = ⟨w.heap.size, j, none⟩ by simp [Addr.add] <;> omega, World.cell?_alloc_new, drow_get _ _ _ _ hj]
    simp [hj] at hv
    simp [hj, hv])
  simpa using this

set_option maxRecDepth 100000 in
set_option maxHeartbeats 1000000 in
theorem text_any (s : Int) (w : World) (hex : List Int) (hg : ∀ j, j < 16 → w.cell? ⟨0, j, none⟩ = some (.int .u8 (hex.getD j 0))) (hs : 0 < w.heap.size) :
    Calls Tryz.prog 33 #[.int .u64 s] w fun e w' => e = .returned (.string (textB hex s)) ∧ w' = w.alloc (.cells (drow hex s 16) 156) := by
  go_enter Tryz.func33, Tryz.ntmps33
  go_wp2
  go_loopw [5] (fun i wr => ∃ k : Nat, k ≤ 16 ∧ i = .int .i64 k ∧ wr = w.alloc (.cells (drow hex s k) 156)) (fun i _ => 16 - (intOf i).toNat)
  case atStart => exact ⟨0, by omega, rfl, by rw [drow_zero]⟩
  case round =>
    obtain ⟨k, hk, rfl, rfl⟩ := hrel
    have hrow : (k : Int) < 16 → (drow hex s k)[k]? = some (.int .u8 0) := fun h => by rw [drow_get _ _ _ _ (by omega)]; simp
    have hbit := and15 (s / 2 ^ (60 - 4 * k))
    go_wp2
    · go_roundw
      case rel =>
        exact ⟨k + 1, by omega, by go_num, by rw [← drow_step _ _ _]; simp [dig]⟩
      case measure => simp [intOf]; omega
    · have hk16 : k = 16 := by omega
      subst hk16
      rw [text_conv]
      go_wp2
      go_ret
      exact ⟨rfl, rfl⟩
end Go.Proofs
