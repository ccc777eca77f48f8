/- The functions that the law comes to, and what they name. -/
import Derived.Test.YtccbadojfbdegaaGreatDoorRows
import Derived.KernelRfl
/- The functions that the law comes to, and what they name: read off in portions, so that each fits into the memory of one check. -/
namespace Go.Proofs.YtccbadojfbdegaaGreatDoor

theorem map_chunk {α β : Type} (f : α → β) (l : List α) (a b : Nat) {T U : List β} (h : ((l.drop a).take b).map f = T) (k : (l.drop (a + b)).map f = U) : (l.drop a).map f = T ++ U := by
  rw [← h, ← k, ← List.drop_drop, ← List.map_append, List.take_append_drop]

theorem all_chunk {α : Type} (p : α → Bool) (l : List α) (a b : Nat) (h : ((l.drop a).take b).all p = true) (k : (l.drop (a + b)).all p = true) : (l.drop a).all p = true := by
  rw [← List.take_append_drop b (l.drop a), List.all_append, h, List.drop_drop, k]
  rfl

theorem get_of_map {α β : Type} {f : α → β} {l : Array α} {T : List β} (h : l.toList.map f = T) (g : Nat) : T[g]? = (l[g]?).map f := by
  rw [← h, List.getElem?_map, Array.getElem?_toList]

/-- the search for all functions that are come to, over a list of what leads where -/
def cloT (L : List (List Nat)) : Nat → List Nat → List Nat → List Nat
  | 0, _, seen => seen.reverse
  | _ + 1, [], seen => seen.reverse
  | n + 1, f :: todo, seen =>
    if seen.contains f then cloT L n todo seen
    else cloT L n ((L[f]?).getD [] ++ todo) (f :: seen)

theorem closureVia_eq {P : Program} {L : List (List Nat)} (h : P.funcs.toList.map P.leadsTo = L) : ∀ (n : Nat) (todo seen : List FuncId), P.closureVia n todo seen = cloT L n todo seen
  | 0, _, _ => by rw [Program.closureVia, cloT]
  | _ + 1, [], _ => by rw [Program.closureVia, cloT]; intro h; cases h
  | n + 1, f :: todo, seen => by
    rw [Program.closureVia, cloT, closureVia_eq h n, closureVia_eq h n, get_of_map h f]
    cases P.funcs[f]? <;> rfl

theorem closure_eq {P : Program} {L : List (List Nat)} (h : P.funcs.toList.map P.leadsTo = L) (f : FuncId) : P.closure f = cloT L (1 + (L.map fun l => l.length + 1).sum) [f] [] := by
  unfold Program.closure
  rw [closureVia_eq h, ← h, List.map_map]
  rfl

def pick (fn : Func) : Option String := if fn.ours || fn.body.isNone || fn.name == "runtime.NumGoroutine" then some fn.name else none
def reads (fn : Func) : Option String := if fn.body.isNone then entryReads.lookup fn.name else none
def glob (fn : Func) : List Nat := fn.body.elim [] Code.globalsNamed

theorem filterMap_eq {P : Program} {f : Func → Option String} {T : List (Option String)} (h : P.funcs.toList.map f = T) (l : List FuncId) : (l.filterMap fun g => (P.funcs[g]?).bind f) = l.filterMap fun g => (T[g]?).join := by
  congr 1
  funext g
  rw [get_of_map h g]
  cases P.funcs[g]? <;> rfl

theorem flatMap_eq {P : Program} {T : List (List Nat)} (h : P.funcs.toList.map glob = T) (l : List FuncId) : (l.flatMap fun g => ((P.funcs[g]?).bind (·.body)).elim [] Code.globalsNamed) = l.flatMap fun g => (T[g]?).getD [] := by
  congr 1
  funext g
  rw [get_of_map h g]
  cases P.funcs[g]? <;> rfl

set_option maxRecDepth 1000000
def leadsT0 : List (List Nat) := [[], [], [1], [4, 5, 6, 6, 7, 7, 6, 6, 6, 7, 6, 6, 8, 8, 9], [5, 7, 9], [10, 6, 6, 12, 12], [14, 13, 15, 11], [16, 17], [18], [20, 19, 21, 22, 23, 24, 20, 20, 25, 20, 20, 27, 26, 28], [11], [31, 33], [6], [34], [35], [], [36, 14, 14, 38, 39, 14, 40, 41, 42, 42, 43, 44, 45, 46, 37], [47, 48, 50, 49, 51, 47, 52, 53], [54, 54], [55, 57, 56, 58], [], [59], [], [61, 60, 60, 62, 63], [25, 64], [65, 66], [67, 68], [69], [30, 30, 30, 29], [], [70, 70], [32], [71], [], [72], [73], [74, 74, 74, 74, 74, 74, 74, 74, 75, 75, 77, 76, 79, 78, 80, 81, 83, 84], [85, 13, 13, 13, 15], [14, 37], [37], [37], [14], [86, 87], [37], [], [37], [38], [88, 89, 90, 91, 92, 93], [], [94]]
theorem leads_0 : ((Tryz.prog.funcs.toList.drop 0).take 50).map Tryz.prog.leadsTo = leadsT0 := by kernel_rfl
def leadsT1 : List (List Nat) := [[], [], [95, 96, 97, 98, 99, 100, 101, 102, 103, 104, 105, 106, 107, 108, 109, 110, 111, 112, 113, 114], [], [], [115, 82, 82], [116, 117], [118], [63], [], [119], [], [58], [6], [14, 63, 120], [], [], [121], [123, 122], [], [], [], [], [124, 125, 126, 127], [], [], [], [74], [], [75, 74], [], [82], [128], [], [74, 74, 82], [34, 129], [], [131, 130], [], [], [], [], [], [], [132, 91, 133], [132, 53, 134, 135, 136, 137], [138, 82, 53, 53, 139, 60, 53, 53, 90], [138, 55, 53, 60, 140, 53, 53, 141], [138, 142, 119, 53, 53, 58, 53], [138, 143, 135]]
theorem leads_1 : ((Tryz.prog.funcs.toList.drop 50).take 50).map Tryz.prog.leadsTo = leadsT1 := by kernel_rfl
def leadsT2 : List (List Nat) := [[144, 145, 146, 53, 147, 148, 149, 150, 151, 153, 152], [155, 132, 146, 150], [155, 94], [155, 82, 53, 132, 156, 158, 157, 135, 53, 159, 53, 147, 160, 161], [53, 163, 162, 53, 53, 164, 165], [166, 167, 53, 168, 169, 53], [166, 53, 167, 53, 132, 171, 170, 135, 53, 147, 173, 174, 172], [144, 173, 175, 53, 82, 53, 159, 53, 147, 172], [177, 176, 53, 53, 179, 178], [166, 167, 53, 132, 171, 180, 135, 159, 181, 182], [166, 165, 159, 182], [144, 173, 134, 135, 183, 186, 185, 184, 135, 187, 188, 178], [166, 53, 191, 154, 53, 132, 53], [144, 191, 192, 49, 193, 178], [194, 53], [], [6], [195], [55, 37], [], [82, 197], [], [198, 199, 200, 201, 202, 203, 204, 205, 122, 122], [206, 207], [], [207, 208, 209], [], [210, 211], [213, 212, 214, 216, 215, 218, 217], [219], [220, 221], [222], [], [], [223], [53], [225, 224, 88, 226], [], [144, 53], [], [], [], [], [227, 228, 141, 57, 56, 90, 23, 24], [132, 53, 53], [230, 229, 25, 231, 53], [53, 53, 233, 232, 53, 156, 158, 53, 173, 234, 53, 235, 53], [53], [237, 236, 91, 238], []]
theorem leads_2 : ((Tryz.prog.funcs.toList.drop 100).take 50).map Tryz.prog.leadsTo = leadsT2 := by kernel_rfl
def leadsT3 : List (List Nat) := [[], [], [151, 239], [154], [231], [240, 236, 53, 53, 242, 241, 53], [], [243, 245, 246, 247], [173, 174, 248], [], [249, 162, 92, 250], [], [], [], [251, 236, 94, 132, 252, 253, 255, 254], [256, 159, 256], [258, 257, 53, 53, 53], [260, 259], [], [261, 262, 263, 265, 266, 264], [268, 267], [156, 158], [269, 270, 271, 272, 53, 273, 274, 275, 276], [134], [175], [], [], [], [278, 277, 280, 279], [], [268, 267], [281, 135, 282, 254], [132, 283, 178], [], [284, 285, 286], [93, 287], [], [288, 154, 94], [189, 190, 175], [289, 257], [291, 290], [159, 181, 182], [], [190], [292, 293, 294, 295], [116, 196, 116], [296], [297, 298], [], [299, 299]]
theorem leads_3 : ((Tryz.prog.funcs.toList.drop 150).take 50).map Tryz.prog.leadsTo = leadsT3 := by kernel_rfl
def leadsT4 : List (List Nat) := [[300, 301], [302, 302, 302, 303], [], [], [], [], [], [], [], [], [], [304, 305], [], [], [], [306], [306], [307, 308], [309, 308], [], [310], [311, 312, 220, 313], [314, 315], [316, 317, 318, 319, 320, 318], [], [], [321, 322], [229], [55], [], [], [], [323], [], [325, 324, 326, 151, 327, 328], [329, 154, 330, 330], [], [], [331, 332], [323], [], [162], [], [244], [245, 333, 333, 245], [333], [334], [244, 246], [335, 336, 337, 338, 339, 340, 341, 342], []]
theorem leads_4 : ((Tryz.prog.funcs.toList.drop 200).take 50).map Tryz.prog.leadsTo = leadsT4 := by kernel_rfl
def leadsT5 : List (List Nat) := [[343, 344], [], [], [147, 345, 346], [135, 256], [347, 348, 349, 350, 351, 353, 353, 353, 352], [355, 354, 357, 356, 358, 354, 357, 359], [], [], [176], [], [82, 82, 360, 361], [362], [364, 363], [365, 82, 366, 6], [], [14, 14, 6], [245, 245, 244], [], [190, 189, 132, 173, 174], [], [], [190, 189, 252, 171, 367, 254, 182, 368, 178, 253], [369, 176, 371, 370], [], [372, 290, 374, 373], [], [371, 375], [], [374, 376], [], [377, 378], [347, 348, 350, 351, 379, 353, 353, 353, 352], [], [380], [381, 382, 21, 383, 383, 384, 385], [], [257], [387, 386], [], [], [], [390], [123, 391], [30, 30, 30, 30, 30, 392, 29], [], [], [393], [394, 395, 396, 397], []]
theorem leads_5 : ((Tryz.prog.funcs.toList.drop 250).take 50).map Tryz.prog.leadsTo = leadsT5 := by kernel_rfl
def leadsT6 : List (List Nat) := [[123], [], [303], [398, 398, 398], [], [], [], [399], [400], [401, 307], [], [402], [403], [405, 404], [406], [407], [408, 409, 410, 411, 410, 412, 410, 413, 414, 415], [417, 418, 419, 420, 416, 422, 421, 423, 424, 424, 425, 426], [], [408, 427, 428, 429], [430, 432, 431, 433], [], [434], [], [435, 436], [437], [438], [], [438], [], [326, 440, 439, 441, 328], [], [442], [], [232, 443, 444, 245], [], [], [], [], [], [], [], [446, 445], [], [447], [448, 257, 93, 449], [], [450, 451], [180], []]
theorem leads_6 : ((Tryz.prog.funcs.toList.drop 300).take 50).map Tryz.prog.leadsTo = leadsT6 := by kernel_rfl
def leadsT7 : List (List Nat) := [[], [353, 352], [], [], [], [], [], [], [], [452, 453], [454], [82], [], [455], [], [11, 456], [11], [347, 244, 170, 349, 351, 353, 353, 352], [], [], [457, 458], [], [], [459, 460], [], [176], [290], [408, 245, 461, 245], [461, 379], [462, 232, 444, 245, 463, 465, 464, 444], [466], [467], [], [], [], [], [], [388, 389], [468, 468], [], [], [469, 470, 471, 472, 473, 474, 475, 476, 391, 391], [477, 477], [478, 478, 478, 478, 478, 478, 479], [480], [480], [480, 14, 481], [480, 14, 481], [], []]
theorem leads_7 : ((Tryz.prog.funcs.toList.drop 350).take 50).map Tryz.prog.leadsTo = leadsT7 := by kernel_rfl
def leadsT8 : List (List Nat) := [[456, 482, 456, 483, 484], [], [485, 486, 487, 488, 489], [490, 485, 491, 492, 487], [], [], [493, 494], [407, 407, 407, 407, 407], [495], [], [413, 415], [415], [411], [], [496, 410, 411, 410, 412, 410, 497, 413, 496, 415], [], [], [499, 498, 500, 424, 424, 423, 501, 502, 504, 505, 424], [507, 506, 424, 424], [509, 508, 423, 423, 511, 510, 424], [512, 506, 514, 513, 424, 424, 503, 424], [515], [], [232, 516], [], [517, 518, 519, 421, 436, 327, 424, 424, 522, 424, 523, 421, 424, 524, 424, 525, 424], [526, 421, 528, 421, 527], [], [], [529, 530, 531, 532, 533, 530, 530, 534, 428, 535, 535, 536, 538, 537, 535], [539], [540], [], [541, 542, 543, 544], [545, 545, 545], [546], [123, 547], [], [30, 30, 30, 30, 29], [548], [329], [], [549, 549, 549], [245], [], [550], [], [551, 551, 551], [], [552, 553]]
theorem leads_8 : ((Tryz.prog.funcs.toList.drop 400).take 50).map Tryz.prog.leadsTo = leadsT8 := by kernel_rfl
def leadsT9 : List (List Nat) := [[349], [554], [], [555], [], [], [556], [], [557], [], [558], [], [], [], [559], [], [560], [561, 71], [], [], [562, 562], [300, 301], [563, 563, 563, 564], [], [], [], [], [], [], [478, 478, 478, 478, 478, 478], [], [], [], [], [], [], [], [], [], [565, 486, 566, 567, 486, 568, 569, 568, 567, 491, 487, 488], [], [], [570, 486, 571, 571], [572], [], [573, 574, 575], [415], [577, 579, 581, 582, 583], [], []]
theorem leads_9 : ((Tryz.prog.funcs.toList.drop 450).take 50).map Tryz.prog.leadsTo = leadsT9 := by kernel_rfl
def leadsT10 : List (List Nat) := [[584], [585], [503], [423], [586], [423], [], [], [], [], [587], [], [], [], [], [588, 587], [], [589, 590, 504], [], [520, 501, 501], [521], [], [521, 521], [521], [], [524], [527, 515], [591, 592, 593], [515], [536, 535], [], [535, 536, 594, 536, 594], [595, 595], [594], [], [534, 428], [534], [536, 428], [597, 596], [], [], [], [598], [544, 599, 600], [], [], [], [601, 602, 603, 604, 605, 606, 607, 608, 609, 547, 547], [], []]
theorem leads_10 : ((Tryz.prog.funcs.toList.drop 500).take 50).map Tryz.prog.leadsTo = leadsT10 := by kernel_rfl
def leadsT11 : List (List Nat) := [[], [], [], [610], [], [611, 611, 611], [612], [613, 613, 613], [614, 614, 614], [615, 615, 616, 616], [388], [], [], [564], [617, 617, 617], [], [], [], [], [], [], [], [], [456, 456], [], [576], [618, 298], [578], [411, 410, 413, 619], [411, 580, 410, 412, 410], [412], [580, 410], [580, 410], [412, 410], [], [], [], [], [], [524], [521], [], [], [591, 620], [535, 535, 535], [535, 594], [536, 428], [535, 534, 428, 535, 534, 535, 535, 534, 535, 535], [], []]
theorem leads_11 : ((Tryz.prog.funcs.toList.drop 550).take 50).map Tryz.prog.leadsTo = leadsT11 := by kernel_rfl
def leadsT12 : List (List Nat) := [[], [607], [621, 621], [300, 301], [622, 622, 622, 623], [], [607, 607, 607], [70, 70], [607, 607], [607, 607, 607, 607], [624, 624, 624], [], [], [], [], [], [625, 616, 616], [], [297], [496, 410, 411, 410, 412, 410, 412, 410, 412, 410, 412, 626, 626, 410], [], [607, 607], [623], [627, 627, 627], [], [628, 628, 628], [412, 410, 412], [607], [], [], [], [], [], [], [], [], [], [], [], [], [], [], [], [], [], [647, 85, 13, 13, 13, 15], [650, 647], [], [649], [650, 651]]
theorem leads_12 : ((Tryz.prog.funcs.toList.drop 600).take 50).map Tryz.prog.leadsTo = leadsT12 := by kernel_rfl
def leadsT13 : List (List Nat) := [[], [493], [], [650], [656], [650], [657, 658, 659], [], [], [660], [556, 484, 556, 483, 484, 661], [662], [], [], [], [], [], [], [], [], [34], [131, 130], [], [], [], [], [], [], [], [], [], [], [481, 481]]
theorem leads_13 : ((Tryz.prog.funcs.toList.drop 650).take 50).map Tryz.prog.leadsTo = leadsT13 := by kernel_rfl
theorem leads_end : (Tryz.prog.funcs.toList.drop 700).map Tryz.prog.leadsTo = [] := by kernel_rfl
def leadsT : List (List Nat) := leadsT0 ++ (leadsT1 ++ (leadsT2 ++ (leadsT3 ++ (leadsT4 ++ (leadsT5 ++ (leadsT6 ++ (leadsT7 ++ (leadsT8 ++ (leadsT9 ++ (leadsT10 ++ (leadsT11 ++ (leadsT12 ++ (leadsT13 ++ [])))))))))))))
theorem leads_all : Tryz.prog.funcs.toList.map Tryz.prog.leadsTo = leadsT := by
  have h := map_chunk _ _ 0 50 leads_0 (map_chunk _ _ 50 50 leads_1 (map_chunk _ _ 100 50 leads_2 (map_chunk _ _ 150 50 leads_3 (map_chunk _ _ 200 50 leads_4 (map_chunk _ _ 250 50 leads_5 (map_chunk _ _ 300 50 leads_6 (map_chunk _ _ 350 50 leads_7 (map_chunk _ _ 400 50 leads_8 (map_chunk _ _ 450 50 leads_9 (map_chunk _ _ 500 50 leads_10 (map_chunk _ _ 550 50 leads_11 (map_chunk _ _ 600 50 leads_12 (map_chunk _ _ 650 50 leads_13 (leads_end))))))))))))))
  rw [List.drop_zero] at h
  exact h
def picksT0 : List (Option String) := [some "main.main", some "gosem.cut", none, none, none, none, none, none, none, none, none, none, none, none, none, none, none, none, none, none, none, none, none, none, none, none, none, none, none, none, none, none, none, none, none, none, none, none, none, none, none, none, none, none, none, none, none, none, none, none]
theorem picks_0 : ((Tryz.prog.funcs.toList.drop 0).take 50).map pick = picksT0 := by kernel_rfl
def picksT1 : List (Option String) := [none, none, none, none, none, none, none, none, none, none, none, none, none, none, none, none, none, none, none, none, none, none, some "internal/abi.NoEscape", none, none, none, none, none, none, none, none, none, none, none, none, none, none, none, none, none, none, none, none, none, none, none, none, none, none, none]
theorem picks_1 : ((Tryz.prog.funcs.toList.drop 50).take 50).map pick = picksT1 := by kernel_rfl
def picksT2 : List (Option String) := [none, none, none, none, none, none, none, none, none, none, none, none, none, none, none, none, none, none, none, none, none, none, none, none, none, none, none, none, none, none, none, none, none, none, none, none, none, none, none, none, none, none, none, none, none, none, none, none, none, none]
theorem picks_2 : ((Tryz.prog.funcs.toList.drop 100).take 50).map pick = picksT2 := by kernel_rfl
def picksT3 : List (Option String) := [none, none, none, none, none, none, none, none, none, none, none, none, none, none, none, none, none, none, none, none, none, none, none, none, none, none, none, none, none, none, none, none, none, none, none, none, none, none, none, none, none, none, none, none, none, none, none, none, none, none]
theorem picks_3 : ((Tryz.prog.funcs.toList.drop 150).take 50).map pick = picksT3 := by kernel_rfl
def picksT4 : List (Option String) := [none, none, none, none, none, none, none, none, none, none, none, none, none, none, none, none, none, none, none, some "internal/bytealg.MakeNoZero", none, none, none, none, none, none, none, none, none, none, none, none, none, none, none, none, none, none, none, none, none, none, none, none, none, none, none, none, none, none]
theorem picks_4 : ((Tryz.prog.funcs.toList.drop 200).take 50).map pick = picksT4 := by kernel_rfl
def picksT5 : List (Option String) := [none, none, none, none, none, none, none, none, none, none, none, none, none, none, none, none, none, none, none, none, none, none, none, none, none, none, none, none, none, none, none, none, none, none, none, none, none, none, none, none, none, none, none, none, none, none, none, none, none, none]
theorem picks_5 : ((Tryz.prog.funcs.toList.drop 250).take 50).map pick = picksT5 := by kernel_rfl
def picksT6 : List (Option String) := [none, none, none, none, none, none, none, none, none, none, some "sync/atomic.LoadUint32", none, none, none, none, none, none, none, none, none, none, some "slices.overlaps[foyer/api.Show]", none, none, none, none, none, none, none, none, none, some "slices.overlaps[foyer/api.Hold]", none, none, none, none, none, none, none, none, none, none, none, some "slices.overlaps[foyer/api.Payment]", none, none, none, none, none, none]
theorem picks_6 : ((Tryz.prog.funcs.toList.drop 300).take 50).map pick = picksT6 := by kernel_rfl
def picksT7 : List (Option String) := [none, none, none, none, none, none, none, none, none, none, none, none, none, none, none, none, none, none, none, none, none, none, none, none, none, none, none, none, none, none, none, none, none, none, none, none, none, none, none, none, none, none, none, none, none, none, none, none, none, none]
theorem picks_7 : ((Tryz.prog.funcs.toList.drop 350).take 50).map pick = picksT7 := by kernel_rfl
def picksT8 : List (Option String) := [none, none, some "(*internal/sync.Mutex).Lock", some "(*internal/sync.Mutex).Unlock", some "sync/atomic.StoreUint32", none, none, none, none, none, none, none, none, none, none, none, none, none, none, none, none, none, none, none, none, none, none, none, none, none, none, none, none, none, none, none, none, none, none, none, none, none, none, none, none, none, none, none, none, none]
theorem picks_8 : ((Tryz.prog.funcs.toList.drop 400).take 50).map pick = picksT8 := by kernel_rfl
def picksT9 : List (Option String) := [none, none, some "slices.overlaps[foyer/api.Posting]", none, none, none, none, some "slices.overlaps[foyer/api.Order]", none, some "slices.overlaps[foyer/api.Bid]", none, none, none, none, none, none, none, none, none, none, none, none, none, none, none, none, none, none, none, none, none, none, none, none, some "internal/bytealg.IndexString", some "internal/race.Disable", some "sync/atomic.CompareAndSwapInt32", some "internal/race.Enable", some "internal/race.Acquire", some "(*internal/sync.Mutex).lockSlow", some "internal/race.ReleaseMerge", some "sync/atomic.AddInt32", some "(*internal/sync.Mutex).unlockSlow", none, none, none, none, none, none, none]
theorem picks_9 : ((Tryz.prog.funcs.toList.drop 450).take 50).map pick = picksT9 := by kernel_rfl
def picksT10 : List (Option String) := [none, none, none, none, none, none, none, none, none, none, none, none, none, none, none, none, none, none, none, none, none, none, none, none, none, none, none, none, none, none, none, none, none, none, none, none, none, none, none, none, none, none, none, none, none, none, none, none, none, none]
theorem picks_10 : ((Tryz.prog.funcs.toList.drop 500).take 50).map pick = picksT10 := by kernel_rfl
def picksT11 : List (Option String) := [none, none, some "slices.overlaps[foyer/api.Owned]", none, none, none, none, none, none, none, none, none, none, none, none, some "internal/sync.runtime_canSpin", some "internal/sync.runtime_doSpin", some "internal/sync.throw", some "internal/sync.runtime_nanotime", some "internal/sync.runtime_SemacquireMutex", some "internal/sync.fatal", some "internal/sync.runtime_Semrelease", none, none, none, none, none, none, none, none, none, none, none, none, none, none, none, none, none, none, none, none, none, none, none, none, none, none, none, none]
theorem picks_11 : ((Tryz.prog.funcs.toList.drop 550).take 50).map pick = picksT11 := by kernel_rfl
def picksT12 : List (Option String) := [none, none, none, none, none, none, none, none, none, none, none, none, some "internal/bytealg.IndexByteString", none, none, none, none, none, none, none, none, none, none, none, none, none, none, none, none, some "(runtime.boundsError).Error", some "(runtime.boundsError).RuntimeError", some "(runtime.errorString).Error", some "(runtime.errorString).RuntimeError", some "(runtime.plainError).Error", some "(runtime.plainError).RuntimeError", some "(runtime.errorAddressString).Error", some "(runtime.errorAddressString).RuntimeError", some "(*runtime.TypeAssertionError).Error", some "(*runtime.TypeAssertionError).RuntimeError", some "(*runtime.PanicNilError).Error", some "(*runtime.PanicNilError).RuntimeError", some "(*internal/abi.Type).Align", some "(internal/runtime/maps.unhashableTypeError).Error", some "(internal/runtime/maps.unhashableTypeError).RuntimeError", some "(*strings.Builder).Reset", none, none, none, none, none]
theorem picks_12 : ((Tryz.prog.funcs.toList.drop 600).take 50).map pick = picksT12 := by kernel_rfl
def picksT13 : List (Option String) := [none, none, none, none, none, none, none, none, some "internal/bytealg.CountString", none, none, none, none, some "(internal/strconv.Error).Error", some "(*strconv.NumError).Error", some "(*errors.errorString).Error", some "(internal/abi.Kind).String", none, none, none, none, none, some "var's door: foyer/digest.hex is laid by its own initialiser, plain data (look 11)", some "var's door: gosem.cut.vars holds initialisers alone; see the manifest's row cutvarsword (look 11, test files too)", some "var's door: internal/strconv.uint64pow10 is laid by its own initialiser, plain data (look 11)", some "var's door: math/bits.deBruijn32tab is laid by its own initialiser, plain data (look 11)", some "var's door: math/bits.deBruijn64tab is laid by its own initialiser, plain data (look 11)", some "var's door: strconv.ErrRange is laid by its own call of errors.New on one literal (look 11)", some "var's door: strconv.ErrSyntax is laid by its own call of errors.New on one literal (look 11)", some "var's door: the look of gosem.cut.vars went over the folder that the caller named as the repository's root (look 11)", some "var's door: unicode/utf8.acceptRanges is laid by its own initialiser, plain data (look 11)", some "var's door: unicode/utf8.first is laid by its text alone (pinned 1)", none]
theorem picks_13 : ((Tryz.prog.funcs.toList.drop 650).take 50).map pick = picksT13 := by kernel_rfl
theorem picks_end : (Tryz.prog.funcs.toList.drop 700).map pick = [] := by kernel_rfl
def picksT : List (Option String) := picksT0 ++ (picksT1 ++ (picksT2 ++ (picksT3 ++ (picksT4 ++ (picksT5 ++ (picksT6 ++ (picksT7 ++ (picksT8 ++ (picksT9 ++ (picksT10 ++ (picksT11 ++ (picksT12 ++ (picksT13 ++ [])))))))))))))
theorem picks_all : Tryz.prog.funcs.toList.map pick = picksT := by
  have h := map_chunk _ _ 0 50 picks_0 (map_chunk _ _ 50 50 picks_1 (map_chunk _ _ 100 50 picks_2 (map_chunk _ _ 150 50 picks_3 (map_chunk _ _ 200 50 picks_4 (map_chunk _ _ 250 50 picks_5 (map_chunk _ _ 300 50 picks_6 (map_chunk _ _ 350 50 picks_7 (map_chunk _ _ 400 50 picks_8 (map_chunk _ _ 450 50 picks_9 (map_chunk _ _ 500 50 picks_10 (map_chunk _ _ 550 50 picks_11 (map_chunk _ _ 600 50 picks_12 (map_chunk _ _ 650 50 picks_13 (picks_end))))))))))))))
  rw [List.drop_zero] at h
  exact h
def readersT0 : List (Option String) := [none, none, none, none, none, none, none, none, none, none, none, none, none, none, none, none, none, none, none, none, none, none, none, none, none, none, none, none, none, none, none, none, none, none, none, none, none, none, none, none, none, none, none, none, none, none, none, none, none, none]
theorem readers_0 : ((Tryz.prog.funcs.toList.drop 0).take 50).map reads = readersT0 := by kernel_rfl
def readersT1 : List (Option String) := [none, none, none, none, none, none, none, none, none, none, none, none, none, none, none, none, none, none, none, none, none, none, none, none, none, none, none, none, none, none, none, none, none, none, none, none, none, none, none, none, none, none, none, none, none, none, none, none, none, none]
theorem readers_1 : ((Tryz.prog.funcs.toList.drop 50).take 50).map reads = readersT1 := by kernel_rfl
def readersT2 : List (Option String) := [none, none, none, none, none, none, none, none, none, none, none, none, none, none, none, none, none, none, none, none, none, none, none, none, none, none, none, none, none, none, none, none, none, none, none, none, none, none, none, none, none, none, none, none, none, none, none, none, none, none]
theorem readers_2 : ((Tryz.prog.funcs.toList.drop 100).take 50).map reads = readersT2 := by kernel_rfl
def readersT3 : List (Option String) := [none, none, none, none, none, none, none, none, none, none, none, none, none, none, none, none, none, none, none, none, none, none, none, none, none, none, none, none, none, none, none, none, none, none, none, none, none, none, none, none, none, none, none, none, none, none, none, none, none, none]
theorem readers_3 : ((Tryz.prog.funcs.toList.drop 150).take 50).map reads = readersT3 := by kernel_rfl
def readersT4 : List (Option String) := [none, none, none, none, none, none, none, none, none, none, none, none, none, none, none, none, none, none, none, none, none, none, none, none, none, none, none, none, none, none, none, none, none, none, none, none, none, none, none, none, none, none, none, none, none, none, none, none, none, none]
theorem readers_4 : ((Tryz.prog.funcs.toList.drop 200).take 50).map reads = readersT4 := by kernel_rfl
def readersT5 : List (Option String) := [none, none, none, none, none, none, none, none, none, none, none, none, none, none, none, none, none, none, none, none, none, none, none, none, none, none, none, none, none, none, none, none, none, none, none, none, none, none, none, none, none, none, none, none, none, none, none, none, none, none]
theorem readers_5 : ((Tryz.prog.funcs.toList.drop 250).take 50).map reads = readersT5 := by kernel_rfl
def readersT6 : List (Option String) := [none, none, none, none, none, none, none, none, none, none, none, none, none, none, none, none, none, none, none, none, none, none, none, none, none, none, none, none, none, none, none, none, none, none, none, none, none, none, none, none, none, none, none, none, none, none, none, none, none, none]
theorem readers_6 : ((Tryz.prog.funcs.toList.drop 300).take 50).map reads = readersT6 := by kernel_rfl
def readersT7 : List (Option String) := [none, none, none, none, none, none, none, none, none, none, none, none, none, none, none, none, none, none, none, none, none, none, none, none, none, none, none, none, none, none, none, none, none, none, none, none, none, none, none, none, none, none, none, none, none, none, none, none, none, none]
theorem readers_7 : ((Tryz.prog.funcs.toList.drop 350).take 50).map reads = readersT7 := by kernel_rfl
def readersT8 : List (Option String) := [none, none, none, none, none, none, none, none, none, none, none, none, none, none, none, none, none, none, none, none, none, none, none, none, none, none, none, none, none, none, none, none, none, none, none, none, none, none, none, none, none, none, none, none, none, none, none, none, none, none]
theorem readers_8 : ((Tryz.prog.funcs.toList.drop 400).take 50).map reads = readersT8 := by kernel_rfl
def readersT9 : List (Option String) := [none, none, none, none, none, none, none, none, none, none, none, none, none, none, none, none, none, none, none, none, none, none, none, none, none, none, none, none, none, none, none, none, none, none, some "internal/bytealg.MaxLen", none, none, none, none, none, none, none, none, none, none, none, none, none, none, none]
theorem readers_9 : ((Tryz.prog.funcs.toList.drop 450).take 50).map reads = readersT9 := by kernel_rfl
def readersT10 : List (Option String) := [none, none, none, none, none, none, none, none, none, none, none, none, none, none, none, none, none, none, none, none, none, none, none, none, none, none, none, none, none, none, none, none, none, none, none, none, none, none, none, none, none, none, none, none, none, none, none, none, none, none]
theorem readers_10 : ((Tryz.prog.funcs.toList.drop 500).take 50).map reads = readersT10 := by kernel_rfl
def readersT11 : List (Option String) := [none, none, none, none, none, none, none, none, none, none, none, none, none, none, none, none, none, none, none, none, none, none, none, none, none, none, none, none, none, none, none, none, none, none, none, none, none, none, none, none, none, none, none, none, none, none, none, none, none, none]
theorem readers_11 : ((Tryz.prog.funcs.toList.drop 550).take 50).map reads = readersT11 := by kernel_rfl
def readersT12 : List (Option String) := [none, none, none, none, none, none, none, none, none, none, none, none, none, none, none, none, none, none, none, none, none, none, none, none, none, none, none, none, none, none, none, none, none, none, none, none, none, none, none, none, none, none, none, none, none, none, none, none, none, none]
theorem readers_12 : ((Tryz.prog.funcs.toList.drop 600).take 50).map reads = readersT12 := by kernel_rfl
def readersT13 : List (Option String) := [none, none, none, none, none, none, none, none, none, none, none, none, none, none, none, none, none, none, none, none, none, none, none, none, none, none, none, none, none, none, none, none, none]
theorem readers_13 : ((Tryz.prog.funcs.toList.drop 650).take 50).map reads = readersT13 := by kernel_rfl
theorem readers_end : (Tryz.prog.funcs.toList.drop 700).map reads = [] := by kernel_rfl
def readersT : List (Option String) := readersT0 ++ (readersT1 ++ (readersT2 ++ (readersT3 ++ (readersT4 ++ (readersT5 ++ (readersT6 ++ (readersT7 ++ (readersT8 ++ (readersT9 ++ (readersT10 ++ (readersT11 ++ (readersT12 ++ (readersT13 ++ [])))))))))))))
theorem readers_all : Tryz.prog.funcs.toList.map reads = readersT := by
  have h := map_chunk _ _ 0 50 readers_0 (map_chunk _ _ 50 50 readers_1 (map_chunk _ _ 100 50 readers_2 (map_chunk _ _ 150 50 readers_3 (map_chunk _ _ 200 50 readers_4 (map_chunk _ _ 250 50 readers_5 (map_chunk _ _ 300 50 readers_6 (map_chunk _ _ 350 50 readers_7 (map_chunk _ _ 400 50 readers_8 (map_chunk _ _ 450 50 readers_9 (map_chunk _ _ 500 50 readers_10 (map_chunk _ _ 550 50 readers_11 (map_chunk _ _ 600 50 readers_12 (map_chunk _ _ 650 50 readers_13 (readers_end))))))))))))))
  rw [List.drop_zero] at h
  exact h
def globsT0 : List (List Nat) := [[], [], [], [], [], [], [], [], [], [], [], [], [], [], [], [], [], [], [], [], [], [], [], [], [], [], [], [], [], [], [], [], [], [0], [], [], [], [], [], [], [], [], [], [], [], [], [], [], [], []]
theorem globs_0 : ((Tryz.prog.funcs.toList.drop 0).take 50).map glob = globsT0 := by kernel_rfl
def globsT1 : List (List Nat) := [[], [], [], [], [], [], [], [], [], [], [], [], [], [], [], [], [], [], [], [], [], [], [], [], [], [], [], [], [], [], [], [], [], [], [], [], [], [], [], [], [], [], [], [], [], [], [], [], [], []]
theorem globs_1 : ((Tryz.prog.funcs.toList.drop 50).take 50).map glob = globsT1 := by kernel_rfl
def globsT2 : List (List Nat) := [[], [], [], [], [], [], [], [], [], [], [], [], [], [], [], [], [], [], [], [], [], [], [], [], [], [1], [], [], [], [], [], [], [], [], [], [], [], [], [], [], [], [], [], [], [], [], [], [], [], []]
theorem globs_2 : ((Tryz.prog.funcs.toList.drop 100).take 50).map glob = globsT2 := by kernel_rfl
def globsT3 : List (List Nat) := [[], [], [], [], [], [], [], [], [], [], [], [], [], [], [], [], [], [], [], [], [], [], [], [], [], [], [], [], [], [], [], [], [], [], [], [], [], [], [], [], [], [], [], [], [], [], [], [], [], []]
theorem globs_3 : ((Tryz.prog.funcs.toList.drop 150).take 50).map glob = globsT3 := by kernel_rfl
def globsT4 : List (List Nat) := [[], [], [], [], [], [], [], [], [], [], [], [], [], [], [], [], [], [], [], [], [], [], [], [], [], [], [], [], [], [], [], [], [], [], [], [], [], [], [], [], [], [], [], [], [], [], [], [], [], []]
theorem globs_4 : ((Tryz.prog.funcs.toList.drop 200).take 50).map glob = globsT4 := by kernel_rfl
def globsT5 : List (List Nat) := [[], [], [], [], [], [], [], [], [], [], [], [], [], [], [], [], [], [], [], [], [], [], [], [], [], [], [], [], [], [], [], [], [], [], [], [], [], [], [], [], [], [], [], [], [], [], [], [], [], []]
theorem globs_5 : ((Tryz.prog.funcs.toList.drop 250).take 50).map glob = globsT5 := by kernel_rfl
def globsT6 : List (List Nat) := [[], [], [], [], [3], [4], [], [], [], [], [], [], [], [], [], [], [], [], [], [], [], [], [], [], [], [], [], [], [], [], [], [], [], [], [], [], [], [], [], [], [], [], [], [], [], [], [], [], [], []]
theorem globs_6 : ((Tryz.prog.funcs.toList.drop 300).take 50).map glob = globsT6 := by kernel_rfl
def globsT7 : List (List Nat) := [[], [], [], [], [], [], [], [], [], [], [], [], [], [], [], [], [], [], [], [], [], [], [], [], [], [], [], [], [], [], [], [], [], [], [], [], [], [], [], [], [], [], [], [], [5], [6], [], [], [], [7, 8]]
theorem globs_7 : ((Tryz.prog.funcs.toList.drop 350).take 50).map glob = globsT7 := by kernel_rfl
def globsT8 : List (List Nat) := [[], [], [], [], [], [], [], [], [], [], [], [], [], [], [], [], [], [], [], [], [], [], [], [], [], [], [], [], [], [], [], [], [], [], [], [], [], [], [], [], [], [], [], [], [], [], [], [], [], []]
theorem globs_8 : ((Tryz.prog.funcs.toList.drop 400).take 50).map glob = globsT8 := by kernel_rfl
def globsT9 : List (List Nat) := [[], [], [], [], [], [], [], [], [], [], [], [], [], [], [], [], [], [], [], [], [], [], [], [], [], [], [], [], [], [], [], [], [], [], [], [], [], [], [], [], [], [], [], [], [], [], [], [], [], []]
theorem globs_9 : ((Tryz.prog.funcs.toList.drop 450).take 50).map glob = globsT9 := by kernel_rfl
def globsT10 : List (List Nat) := [[], [], [], [], [], [], [], [], [], [], [], [], [], [], [], [], [], [], [], [], [], [], [], [], [], [], [], [], [], [], [], [], [], [], [], [], [], [], [], [], [], [], [], [], [], [], [], [], [], []]
theorem globs_10 : ((Tryz.prog.funcs.toList.drop 500).take 50).map glob = globsT10 := by kernel_rfl
def globsT11 : List (List Nat) := [[], [], [], [], [], [], [], [], [], [], [], [], [], [], [], [], [], [], [], [], [], [], [], [], [], [], [], [], [], [], [], [], [], [], [], [], [], [], [], [], [], [], [], [], [], [], [], [], [], []]
theorem globs_11 : ((Tryz.prog.funcs.toList.drop 550).take 50).map glob = globsT11 := by kernel_rfl
def globsT12 : List (List Nat) := [[], [], [], [], [], [], [], [], [], [], [], [], [], [], [], [], [], [], [], [], [], [], [], [], [], [], [], [], [], [], [], [], [], [], [], [], [], [], [], [], [], [], [], [], [], [], [], [], [], []]
theorem globs_12 : ((Tryz.prog.funcs.toList.drop 600).take 50).map glob = globsT12 := by kernel_rfl
def globsT13 : List (List Nat) := [[], [], [], [], [], [], [], [], [], [], [2, 2, 2], [], [], [], [], [], [], [], [], [], [], [], [], [], [], [], [], [], [], [], [], [], [3, 4, 1, 8, 6, 5, 0]]
theorem globs_13 : ((Tryz.prog.funcs.toList.drop 650).take 50).map glob = globsT13 := by kernel_rfl
theorem globs_end : (Tryz.prog.funcs.toList.drop 700).map glob = [] := by kernel_rfl
def globsT : List (List Nat) := globsT0 ++ (globsT1 ++ (globsT2 ++ (globsT3 ++ (globsT4 ++ (globsT5 ++ (globsT6 ++ (globsT7 ++ (globsT8 ++ (globsT9 ++ (globsT10 ++ (globsT11 ++ (globsT12 ++ (globsT13 ++ [])))))))))))))
theorem globs_all : Tryz.prog.funcs.toList.map glob = globsT := by
  have h := map_chunk _ _ 0 50 globs_0 (map_chunk _ _ 50 50 globs_1 (map_chunk _ _ 100 50 globs_2 (map_chunk _ _ 150 50 globs_3 (map_chunk _ _ 200 50 globs_4 (map_chunk _ _ 250 50 globs_5 (map_chunk _ _ 300 50 globs_6 (map_chunk _ _ 350 50 globs_7 (map_chunk _ _ 400 50 globs_8 (map_chunk _ _ 450 50 globs_9 (map_chunk _ _ 500 50 globs_10 (map_chunk _ _ 550 50 globs_11 (map_chunk _ _ 600 50 globs_12 (map_chunk _ _ 650 50 globs_13 (globs_end))))))))))))))
  rw [List.drop_zero] at h
  exact h

def comesTo : List Nat := [3, 4, 5, 10, 11, 31, 32, 71, 33, 6, 14, 35, 73, 124, 125, 207, 208, 209, 126, 127, 210, 211, 304, 305, 13, 34, 72, 15, 12, 7, 16, 36, 74, 75, 77, 76, 79, 78, 80, 81, 82, 128, 213, 212, 214, 216, 306, 215, 218, 309, 401, 307, 399, 308, 400, 456, 556, 612, 482, 483, 484, 217, 83, 84, 38, 37, 85, 129, 219, 39, 40, 41, 42, 86, 87, 131, 222, 314, 406, 493, 572, 494, 315, 407, 130, 220, 310, 221, 311, 402, 485, 486, 487, 488, 489, 565, 566, 567, 568, 569, 491, 312, 403, 490, 492, 570, 571, 313, 405, 404, 43, 44, 45, 46, 17, 47, 88, 89, 90, 91, 92, 93, 48, 50, 49, 94, 132, 133, 51, 52, 95, 53, 134, 223, 316, 408, 495, 573, 574, 575, 576, 618, 297, 393, 478, 479, 298, 394, 480, 395, 396, 481, 397, 409, 410, 413, 415, 411, 412, 414, 496, 497, 577, 578, 619, 626, 579, 580, 581, 582, 583, 317, 417, 499, 498, 500, 584, 424, 423, 232, 323, 516, 501, 585, 502, 503, 504, 586, 505, 418, 507, 506, 419, 509, 508, 511, 510, 587, 420, 512, 514, 513, 416, 422, 421, 515, 588, 425, 517, 589, 524, 590, 521, 518, 519, 520, 436, 123, 206, 547, 601, 607, 70, 602, 621, 603, 300, 301, 604, 622, 623, 627, 605, 606, 608, 609, 327, 522, 523, 525, 426, 526, 527, 591, 592, 593, 620, 528, 318, 319, 427, 428, 429, 529, 536, 534, 535, 530, 531, 594, 532, 595, 533, 538, 597, 596, 537, 320, 430, 539, 432, 431, 540, 433, 541, 542, 598, 543, 544, 599, 600, 135, 136, 225, 224, 226, 321, 322, 434, 545, 137, 96, 138, 144, 139, 60, 119, 97, 55, 115, 140, 141, 98, 142, 58, 63, 99, 143, 227, 229, 228, 57, 118, 56, 116, 117, 195, 196, 296, 23, 61, 62, 24, 25, 65, 66, 64, 120, 197, 100, 145, 230, 231, 146, 233, 156, 158, 173, 174, 175, 248, 335, 336, 337, 338, 339, 340, 341, 342, 446, 445, 550, 234, 325, 437, 324, 435, 546, 326, 438, 30, 29, 151, 328, 235, 329, 154, 330, 440, 439, 548, 441, 147, 148, 237, 236, 238, 331, 332, 442, 549, 149, 150, 153, 152, 239, 101, 155, 240, 242, 241, 162, 102, 103, 157, 243, 244, 245, 333, 246, 334, 443, 444, 247, 159, 160, 249, 250, 343, 344, 447, 551, 161, 104, 163, 164, 251, 252, 253, 345, 448, 257, 449, 552, 553, 610, 624, 346, 255, 347, 450, 349, 451, 554, 348, 180, 268, 267, 350, 351, 353, 352, 254, 256, 355, 354, 357, 356, 358, 359, 452, 453, 555, 611, 165, 105, 166, 258, 167, 260, 259, 176, 168, 169, 261, 360, 454, 361, 262, 362, 263, 364, 363, 455, 265, 266, 264, 365, 366, 106, 171, 170, 172, 269, 190, 291, 290, 189, 289, 270, 271, 272, 367, 182, 283, 178, 278, 277, 371, 375, 280, 279, 374, 376, 368, 273, 369, 370, 457, 458, 557, 613, 274, 275, 372, 373, 459, 460, 558, 614, 276, 107, 108, 177, 179, 109, 181, 281, 377, 461, 378, 379, 462, 463, 465, 464, 559, 615, 616, 625, 628, 282, 110, 111, 183, 186, 185, 287, 184, 284, 380, 466, 560, 388, 468, 285, 381, 467, 561, 382, 21, 59, 383, 384, 385, 286, 187, 288, 387, 389, 386, 188, 112, 191, 113, 192, 193, 114, 194, 292, 390, 293, 391, 469, 470, 562, 471, 472, 563, 564, 617, 473, 474, 475, 476, 294, 392, 477, 295, 9, 20, 19, 22, 27, 69, 26, 67, 121, 68, 122, 198, 199, 299, 200, 201, 302, 303, 398, 202, 203, 204, 205, 28, 8, 18, 54]
theorem comes_fuel : 1 + (leadsT.map fun l => l.length + 1).sum = 1913 := by kernel_rfl
theorem comes_clo : cloT leadsT 1913 [3] [] = comesTo := by kernel_rfl
theorem comes : Tryz.prog.closure 3 = comesTo := by rw [closure_eq leads_all, comes_fuel, comes_clo]

theorem inPlace_val : (comesTo.filterMap fun g => (picksT[g]?).join) = Rows.topRevealsRow.inPlace := by kernel_rfl
theorem varsNamed_val : (((comesTo.flatMap fun g => (globsT[g]?).getD []).eraseDups).filterMap (fun g => (Tryz.prog.globals[g]?).map (·.name)) ++ comesTo.filterMap fun g => (readersT[g]?).join).eraseDups = Rows.topRevealsRow.named := by kernel_rfl
theorem inPlace_eq : Tryz.prog.inPlace 3 = Rows.topRevealsRow.inPlace := by
  have h : Tryz.prog.inPlace 3 = (Tryz.prog.closure 3).filterMap fun g => (Tryz.prog.funcs[g]?).bind pick := rfl
  rw [h, filterMap_eq picks_all, comes]
  exact inPlace_val
theorem unfollowed_eq : Tryz.prog.unfollowed 3 = true := by
  unfold Program.unfollowed
  rw [comes]
  kernel_rfl
theorem recurses_eq : Tryz.prog.recurses 3 = true := by
  unfold Program.recurses
  rw [unfollowed_eq]
  rfl
theorem varsNamed_eq : Tryz.prog.varsNamed 3 = Rows.topRevealsRow.named := by
  have h : Tryz.prog.varsNamed 3 = ((((Tryz.prog.closure 3).flatMap fun g => ((Tryz.prog.funcs[g]?).bind (·.body)).elim [] Code.globalsNamed).eraseDups).filterMap (fun g => (Tryz.prog.globals[g]?).map (·.name)) ++
    (Tryz.prog.closure 3).filterMap fun g => (Tryz.prog.funcs[g]?).bind reads).eraseDups := rfl
  rw [h, filterMap_eq readers_all, flatMap_eq globs_all, comes]
  exact varsNamed_val
theorem types_0 : (((List.range Tryz.prog.types.size).drop 0).take 50).all (rowFine Tryz.prog) = true := by kernel_rfl
theorem types_1 : (((List.range Tryz.prog.types.size).drop 50).take 50).all (rowFine Tryz.prog) = true := by kernel_rfl
theorem types_2 : (((List.range Tryz.prog.types.size).drop 100).take 50).all (rowFine Tryz.prog) = true := by kernel_rfl
theorem types_3 : (((List.range Tryz.prog.types.size).drop 150).take 50).all (rowFine Tryz.prog) = true := by kernel_rfl
theorem types_4 : (((List.range Tryz.prog.types.size).drop 200).take 50).all (rowFine Tryz.prog) = true := by kernel_rfl
theorem types_5 : (((List.range Tryz.prog.types.size).drop 250).take 50).all (rowFine Tryz.prog) = true := by kernel_rfl
theorem types_6 : (((List.range Tryz.prog.types.size).drop 300).take 50).all (rowFine Tryz.prog) = true := by kernel_rfl
theorem types_7 : (((List.range Tryz.prog.types.size).drop 350).take 50).all (rowFine Tryz.prog) = true := by kernel_rfl
theorem types_8 : (((List.range Tryz.prog.types.size).drop 400).take 50).all (rowFine Tryz.prog) = true := by kernel_rfl
theorem types_9 : (((List.range Tryz.prog.types.size).drop 450).take 50).all (rowFine Tryz.prog) = true := by kernel_rfl
theorem types_10 : (((List.range Tryz.prog.types.size).drop 500).take 50).all (rowFine Tryz.prog) = true := by kernel_rfl
theorem types_11 : (((List.range Tryz.prog.types.size).drop 550).take 50).all (rowFine Tryz.prog) = true := by kernel_rfl
theorem types_12 : (((List.range Tryz.prog.types.size).drop 600).take 50).all (rowFine Tryz.prog) = true := by kernel_rfl
theorem types_13 : (((List.range Tryz.prog.types.size).drop 650).take 50).all (rowFine Tryz.prog) = true := by kernel_rfl
theorem types_14 : (((List.range Tryz.prog.types.size).drop 700).take 50).all (rowFine Tryz.prog) = true := by kernel_rfl
theorem types_15 : (((List.range Tryz.prog.types.size).drop 750).take 50).all (rowFine Tryz.prog) = true := by kernel_rfl
theorem types_16 : (((List.range Tryz.prog.types.size).drop 800).take 50).all (rowFine Tryz.prog) = true := by kernel_rfl
theorem types_end : ((List.range Tryz.prog.types.size).drop 850).all (rowFine Tryz.prog) = true := by kernel_rfl
theorem types_all : (List.range Tryz.prog.types.size).all (rowFine Tryz.prog) = true := by
  have h := all_chunk _ _ 0 50 types_0 (all_chunk _ _ 50 50 types_1 (all_chunk _ _ 100 50 types_2 (all_chunk _ _ 150 50 types_3 (all_chunk _ _ 200 50 types_4 (all_chunk _ _ 250 50 types_5 (all_chunk _ _ 300 50 types_6 (all_chunk _ _ 350 50 types_7 (all_chunk _ _ 400 50 types_8 (all_chunk _ _ 450 50 types_9 (all_chunk _ _ 500 50 types_10 (all_chunk _ _ 550 50 types_11 (all_chunk _ _ 600 50 types_12 (all_chunk _ _ 650 50 types_13 (all_chunk _ _ 700 50 types_14 (all_chunk _ _ 750 50 types_15 (all_chunk _ _ 800 50 types_16 (types_end)))))))))))))))))
  rw [List.drop_zero] at h
  exact h
theorem laidOut : laidOutB Tryz.prog = true := by
  unfold laidOutB
  rw [types_all]
  kernel_rfl
end Go.Proofs.YtccbadojfbdegaaGreatDoor
