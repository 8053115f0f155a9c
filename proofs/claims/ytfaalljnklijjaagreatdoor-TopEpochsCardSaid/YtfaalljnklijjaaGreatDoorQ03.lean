/- What this text proves serves the claim of its last text: a part of a verified executor, its walks and its runs (Tab). -/
import Derived.Test.YtfaalljnklijjaaGreatDoorProg
import Derived.Test.YtfaalljnklijjaaGreatDoorQ00
set_option linter.all false
section
namespace Go.Proofs
open Go.X
set_option maxRecDepth 100000
noncomputable def tyT : T XTy := (.node none (.node (some ⟨.func, 1, 8, some .nilf⟩) (.node (some ⟨(.int .i64), 1, 8, some (.int .i64 0)⟩) (.node (some ⟨(.struct [(0, 2), (1, 3), (2, 4), (3, 6)]), 4, 24, some (.agg [(.int .i64 0), (.int .i64 0), (.bool false), (.int .u8 0)])⟩) (.node (some ⟨(.ptr 487), 1, 8, some .nilp⟩) (.node (some ⟨.func, 1, 8, some .nilf⟩) (.node (some ⟨(.struct [(0, 61), (0, 62), (0, 2)]), 1, 8, some (.agg [(.int .i64 0)])⟩) (.node (some ⟨(.ptr 2), 1, 8, some .nilp⟩) (.node (some ⟨(.struct [(0, 4), (1, 9), (2, 3), (3, 9)]), 4, 48, some (.agg [(.bool false), (.str []), (.int .i64 0), (.str [])])⟩) .nil
.nil)
(.node (some ⟨(.array 65 5), 65, 65, some (.agg [(.int .u8 0), (.int .u8 0), (.int .u8 0), (.int .u8 0), (.int .u8 0), (.int .u8 0), (.int .u8 0), (.int .u8 0), (.int .u8 0), (.int .u8 0), (.int .u8 0), (.int .u8 0), (.int .u8 0), (.int .u8 0), (.int .u8 0), (.int .u8 0), (.int .u8 0), (.int .u8 0), (.int .u8 0), (.int .u8 0), (.int .u8 0), (.int .u8 0), (.int .u8 0), (.int .u8 0), (.int .u8 0), (.int .u8 0), (.int .u8 0), (.int .u8 0), (.int .u8 0), (.int .u8 0), (.int .u8 0), (.int .u8 0), (.int .u8 0), (.int .u8 0), (.int .u8 0), (.int .u8 0), (.int .u8 0), (.int .u8 0), (.int .u8 0), (.int .u8 0), (.int .u8 0), (.int .u8 0), (.int .u8 0), (.int .u8 0), (.int .u8 0), (.int .u8 0), (.int .u8 0), (.int .u8 0), (.int .u8 0), (.int .u8 0), (.int .u8 0), (.int .u8 0), (.int .u8 0), (.int .u8 0), (.int .u8 0), (.int .u8 0), (.int .u8 0), (.int .u8 0), (.int .u8 0), (.int .u8 0), (.int .u8 0), (.int .u8 0), (.int .u8 0), (.int .u8 0), (.int .u8 0)])⟩) .nil
.nil))
(.node (some ⟨(.ptr 261), 1, 8, some .nilp⟩) (.node (some ⟨.func, 1, 8, some .nilf⟩) .nil
.nil)
(.node (some ⟨.func, 1, 8, some .nilf⟩) .nil
.nil)))
(.node (some ⟨.func, 1, 8, some .nilf⟩) (.node (some ⟨.func, 1, 8, some .nilf⟩) (.node (some ⟨.func, 1, 8, some .nilf⟩) .nil
.nil)
(.node (some ⟨.func, 1, 8, some .nilf⟩) .nil
.nil))
(.node (some ⟨(.ptr 174), 1, 8, some .nilp⟩) (.node (some ⟨(.array 24 5), 24, 24, some (.agg [(.int .u8 0), (.int .u8 0), (.int .u8 0), (.int .u8 0), (.int .u8 0), (.int .u8 0), (.int .u8 0), (.int .u8 0), (.int .u8 0), (.int .u8 0), (.int .u8 0), (.int .u8 0), (.int .u8 0), (.int .u8 0), (.int .u8 0), (.int .u8 0), (.int .u8 0), (.int .u8 0), (.int .u8 0), (.int .u8 0), (.int .u8 0), (.int .u8 0), (.int .u8 0), (.int .u8 0)])⟩) .nil
.nil)
(.node (some ⟨(.struct [(0, 9), (1, 9), (2, 170)]), 3, 48, some (.agg [(.str []), (.str []), .nili])⟩) .nil
.nil))))
(.node (some ⟨(.slice 46), 1, 24, some .nils⟩) (.node (some ⟨.func, 1, 8, some .nilf⟩) (.node (some ⟨.func, 1, 8, some .nilf⟩) (.node (some ⟨(.struct [(0, 185), (1, 9), (2, 3), (3, 4), (4, 9), (5, 9), (6, 120), (9, 4), (10, 25)]), 12, 120, some (.agg [.nilp, (.str []), (.int .i64 0), (.bool false), (.str []), (.str []), (.int .u32 0), (.int .i32 0), (.int .u32 0), (.bool false), (.str []), (.str [])])⟩) .nil
.nil)
(.node (some ⟨(.struct [(0, 5), (1, 5)]), 2, 2, some (.agg [(.int .u8 0), (.int .u8 0)])⟩) .nil
.nil))
(.node (some ⟨.func, 1, 8, some .nilf⟩) (.node (some ⟨(.struct [(0, 120), (3, 334), (67, 288)]), 75, 300, some (.agg [(.int .u32 0), (.int .i32 0), (.int .u32 0), (.int .u32 0), (.int .u32 0), (.int .u32 0), (.int .u32 0), (.int .u32 0), (.int .u32 0), (.int .u32 0), (.int .u32 0), (.int .u32 0), (.int .u32 0), (.int .u32 0), (.int .u32 0), (.int .u32 0), (.int .u32 0), (.int .u32 0), (.int .u32 0), (.int .u32 0), (.int .u32 0), (.int .u32 0), (.int .u32 0), (.int .u32 0), (.int .u32 0), (.int .u32 0), (.int .u32 0), (.int .u32 0), (.int .u32 0), (.int .u32 0), (.int .u32 0), (.int .u32 0), (.int .u32 0), (.int .u32 0), (.int .u32 0), (.int .u32 0), (.int .u32 0), (.int .u32 0), (.int .u32 0), (.int .u32 0), (.int .u32 0), (.int .u32 0), (.int .u32 0), (.int .u32 0), (.int .u32 0), (.int .u32 0), (.int .u32 0), (.int .u32 0), (.int .u32 0), (.int .u32 0), (.int .u32 0), (.int .u32 0), (.int .u32 0), (.int .u32 0), (.int .u32 0), (.int .u32 0), (.int .u32 0), (.int .u32 0), (.int .u32 0), (.int .u32 0), (.int .u32 0), (.int .u32 0), (.int .u32 0), (.int .u32 0), (.int .u32 0), (.int .u32 0), (.int .u32 0), (.int .u32 0), (.int .u32 0), (.int .u32 0), (.int .u32 0), (.int .u32 0), (.int .u32 0), (.int .u32 0), (.int .u32 0)])⟩) .nil
.nil)
(.node (some ⟨.func, 1, 8, some .nilf⟩) .nil
.nil)))
(.node (some ⟨(.ptr 122), 1, 8, some .nilp⟩) (.node (some ⟨.func, 1, 8, some .nilf⟩) (.node (some ⟨.func, 1, 8, some .nilf⟩) .nil
.nil)
(.node (some ⟨(.struct [(0, 429), (1, 429), (2, 429)]), 3, 6, some (.agg [(.int .u16 0), (.int .u16 0), (.int .u16 0)])⟩) .nil
.nil))
(.node (some ⟨(.ptr 114), 1, 8, some .nilp⟩) (.node (some ⟨(.slice 110), 1, 24, some .nils⟩) .nil
.nil)
(.node (some ⟨(.int .i32), 1, 4, some (.int .i32 0)⟩) .nil
.nil)))))
(.node (some ⟨.func, 1, 8, some .nilf⟩) (.node (some ⟨(.slice 92), 1, 24, some .nils⟩) (.node (some ⟨(.map 3 9), 1, 8, some .nilm⟩) (.node (some ⟨(.struct [(0, 98), (1, 39), (2, 9), (3, 64), (4, 133)]), 5, 80, some (.agg [.nilp, .nils, (.str []), (.int .i64 0), .nils])⟩) (.node (some ⟨(.struct [(0, 3), (1, 262), (2, 64)]), 3, 40, some (.agg [(.int .i64 0), .nils, (.int .i64 0)])⟩) .nil
.nil)
(.node (some ⟨.func, 1, 8, some .nilf⟩) .nil
.nil))
(.node none (.node (some ⟨.func, 1, 8, some .nilf⟩) .nil
.nil)
(.node (some ⟨(.ptr 437), 1, 8, some .nilp⟩) .nil
.nil)))
(.node (some ⟨.func, 1, 8, some .nilf⟩) (.node (some ⟨(.struct [(0, 165), (1, 108)]), 2, 32, some (.agg [.nilp, .nils])⟩) (.node (some ⟨.func, 1, 8, some .nilf⟩) .nil
.nil)
(.node (some ⟨(.array 16 422), 32, 32, some (.agg [(.int .u8 0), (.int .u8 0), (.int .u8 0), (.int .u8 0), (.int .u8 0), (.int .u8 0), (.int .u8 0), (.int .u8 0), (.int .u8 0), (.int .u8 0), (.int .u8 0), (.int .u8 0), (.int .u8 0), (.int .u8 0), (.int .u8 0), (.int .u8 0), (.int .u8 0), (.int .u8 0), (.int .u8 0), (.int .u8 0), (.int .u8 0), (.int .u8 0), (.int .u8 0), (.int .u8 0), (.int .u8 0), (.int .u8 0), (.int .u8 0), (.int .u8 0), (.int .u8 0), (.int .u8 0), (.int .u8 0), (.int .u8 0)])⟩) .nil
.nil))
(.node (some ⟨.func, 1, 8, some .nilf⟩) (.node (some ⟨.func, 1, 8, some .nilf⟩) .nil
.nil)
(.node (some ⟨(.struct [(0, 17), (1, 17), (2, 17), (3, 9)]), 4, 40, some (.agg [.nilp, .nilp, .nilp, (.str [])])⟩) .nil
.nil))))
(.node (some ⟨.func, 1, 8, some .nilf⟩) (.node none (.node (some ⟨.func, 1, 8, some .nilf⟩) (.node (some ⟨.func, 1, 8, some .nilf⟩) .nil
.nil)
(.node (some ⟨.func, 1, 8, some .nilf⟩) .nil
.nil))
(.node (some ⟨.func, 1, 8, some .nilf⟩) (.node (some ⟨.func, 1, 8, some .nilf⟩) .nil
.nil)
.nil))
(.node (some ⟨(.struct [(0, 112), (0, 114), (1, 118)]), 3, 12, some (.agg [(.int .u32 0), (.int .i32 0), (.int .u32 0)])⟩) (.node (some ⟨.func, 1, 8, some .nilf⟩) (.node (some ⟨(.struct [(0, 9), (1, 9)]), 2, 32, some (.agg [(.str []), (.str [])])⟩) .nil
.nil)
(.node (some ⟨.func, 1, 8, some .nilf⟩) .nil
.nil))
(.node (some ⟨(.struct [(0, 246)]), 1, 8, some (.agg [.nilm])⟩) (.node (some ⟨(.slice 400), 1, 24, some .nils⟩) .nil
.nil)
.nil)))))
(.node (some ⟨.str, 1, 16, some (.str [])⟩) (.node (some ⟨(.struct [(0, 17)]), 1, 8, some (.agg [.nilp])⟩) (.node none (.node (some ⟨(.ptr 70), 1, 8, some .nilp⟩) (.node (some ⟨.func, 1, 8, some .nilf⟩) (.node (some ⟨.func, 1, 8, some .nilf⟩) .nil
.nil)
(.node (some ⟨.func, 1, 8, some .nilf⟩) .nil
.nil))
(.node (some ⟨(.map 3 152), 1, 8, some .nilm⟩) (.node (some ⟨.func, 1, 8, some .nilf⟩) .nil
.nil)
(.node (some ⟨.func, 1, 8, some .nilf⟩) .nil
.nil)))
(.node (some ⟨.func, 1, 8, some .nilf⟩) (.node (some ⟨.func, 1, 8, some .nilf⟩) (.node (some ⟨.func, 1, 8, some .nilf⟩) .nil
.nil)
(.node (some ⟨.func, 1, 8, some .nilf⟩) .nil
.nil))
(.node (some ⟨(.array 4 3), 4, 32, some (.agg [(.int .i64 0), (.int .i64 0), (.int .i64 0), (.int .i64 0)])⟩) (.node (some ⟨.func, 1, 8, some .nilf⟩) .nil
.nil)
(.node (some ⟨(.ptr 485), 1, 8, some .nilp⟩) .nil
.nil))))
(.node none (.node (some ⟨.func, 1, 8, some .nilf⟩) (.node (some ⟨(.ptr 274), 1, 8, some .nilp⟩) (.node (some ⟨(.struct [(0, 9)]), 1, 16, some (.agg [(.str [])])⟩) .nil
.nil)
.nil)
(.node (some ⟨.func, 1, 8, some .nilf⟩) (.node (some ⟨.func, 1, 8, some .nilf⟩) .nil
.nil)
(.node (some ⟨.func, 1, 8, some .nilf⟩) .nil
.nil)))
(.node (some ⟨(.struct [(0, 21), (1, 110)]), 2, 8, some (.agg [(.int .i32 0), (.int .u32 0)])⟩) (.node (some ⟨.func, 1, 8, some .nilf⟩) (.node (some ⟨(.struct [(0, 110), (1, 120), (4, 306), (5, 64)]), 6, 48, some (.agg [(.int .u32 0), (.int .u32 0), (.int .i32 0), (.int .u32 0), .nils, (.int .i64 0)])⟩) .nil
.nil)
(.node (some ⟨.func, 1, 8, some .nilf⟩) .nil
.nil))
(.node (some ⟨.func, 1, 8, some .nilf⟩) (.node (some ⟨.func, 1, 8, some .nilf⟩) .nil
.nil)
.nil))))
(.node (some ⟨.func, 1, 8, some .nilf⟩) (.node (some ⟨(.struct [(0, 3), (1, 9), (2, 9), (3, 3), (4, 3)]), 5, 56, some (.agg [(.int .i64 0), (.str []), (.str []), (.int .i64 0), (.int .i64 0)])⟩) (.node (some ⟨.func, 1, 8, some .nilf⟩) (.node (some ⟨(.struct [(0, 22), (1, 22)]), 2, 48, some (.agg [.nils, .nils])⟩) (.node (some ⟨.func, 1, 8, some .nilf⟩) .nil
.nil)
(.node (some ⟨(.array 256 4), 256, 256, some (.agg [(.bool false), (.bool false), (.bool false), (.bool false), (.bool false), (.bool false), (.bool false), (.bool false), (.bool false), (.bool false), (.bool false), (.bool false), (.bool false), (.bool false), (.bool false), (.bool false), (.bool false), (.bool false), (.bool false), (.bool false), (.bool false), (.bool false), (.bool false), (.bool false), (.bool false), (.bool false), (.bool false), (.bool false), (.bool false), (.bool false), (.bool false), (.bool false), (.bool false), (.bool false), (.bool false), (.bool false), (.bool false), (.bool false), (.bool false), (.bool false), (.bool false), (.bool false), (.bool false), (.bool false), (.bool false), (.bool false), (.bool false), (.bool false), (.bool false), (.bool false), (.bool false), (.bool false), (.bool false), (.bool false), (.bool false), (.bool false), (.bool false), (.bool false), (.bool false), (.bool false), (.bool false), (.bool false), (.bool false), (.bool false), (.bool false), (.bool false), (.bool false), (.bool false), (.bool false), (.bool false), (.bool false), (.bool false), (.bool false), (.bool false), (.bool false), (.bool false), (.bool false), (.bool false), (.bool false), (.bool false), (.bool false), (.bool false), (.bool false), (.bool false), (.bool false), (.bool false), (.bool false), (.bool false), (.bool false), (.bool false), (.bool false), (.bool false), (.bool false), (.bool false), (.bool false), (.bool false), (.bool false), (.bool false), (.bool false), (.bool false), (.bool false), (.bool false), (.bool false), (.bool false), (.bool false), (.bool false), (.bool false), (.bool false), (.bool false), (.bool false), (.bool false), (.bool false), (.bool false), (.bool false), (.bool false), (.bool false), (.bool false), (.bool false), (.bool false), (.bool false), (.bool false), (.bool false), (.bool false), (.bool false), (.bool false), (.bool false), (.bool false), (.bool false), (.bool false), (.bool false), (.bool false), (.bool false), (.bool false), (.bool false), (.bool false), (.bool false), (.bool false), (.bool false), (.bool false), (.bool false), (.bool false), (.bool false), (.bool false), (.bool false), (.bool false), (.bool false), (.bool false), (.bool false), (.bool false), (.bool false), (.bool false), (.bool false), (.bool false), (.bool false), (.bool false), (.bool false), (.bool false), (.bool false), (.bool false), (.bool false), (.bool false), (.bool false), (.bool false), (.bool false), (.bool false), (.bool false), (.bool false), (.bool false), (.bool false), (.bool false), (.bool false), (.bool false), (.bool false), (.bool false), (.bool false), (.bool false), (.bool false), (.bool false), (.bool false), (.bool false), (.bool false), (.bool false), (.bool false), (.bool false), (.bool false), (.bool false), (.bool false), (.bool false), (.bool false), (.bool false), (.bool false), (.bool false), (.bool false), (.bool false), (.bool false), (.bool false), (.bool false), (.bool false), (.bool false), (.bool false), (.bool false), (.bool false), (.bool false), (.bool false), (.bool false), (.bool false), (.bool false), (.bool false), (.bool false), (.bool false), (.bool false), (.bool false), (.bool false), (.bool false), (.bool false), (.bool false), (.bool false), (.bool false), (.bool false), (.bool false), (.bool false), (.bool false), (.bool false), (.bool false), (.bool false), (.bool false), (.bool false), (.bool false), (.bool false), (.bool false), (.bool false), (.bool false), (.bool false), (.bool false), (.bool false), (.bool false), (.bool false), (.bool false), (.bool false), (.bool false), (.bool false), (.bool false), (.bool false), (.bool false), (.bool false), (.bool false), (.bool false), (.bool false), (.bool false), (.bool false), (.bool false), (.bool false), (.bool false), (.bool false), (.bool false), (.bool false)])⟩) .nil
.nil))
(.node (some ⟨.func, 1, 8, some .nilf⟩) (.node (some ⟨(.struct [(0, 9), (1, 4)]), 2, 24, some (.agg [(.str []), (.bool false)])⟩) .nil
.nil)
(.node (some ⟨.func, 1, 8, some .nilf⟩) .nil
.nil)))
(.node (some ⟨.func, 1, 8, some .nilf⟩) (.node none (.node (some ⟨.func, 1, 8, some .nilf⟩) .nil
.nil)
(.node (some ⟨(.struct [(0, 425), (1, 426), (2, 3)]), 3, 56, some (.agg [.nils, .nils, (.int .i64 0)])⟩) .nil
.nil))
(.node (some ⟨.func, 1, 8, some .nilf⟩) (.node (some ⟨.func, 1, 8, some .nilf⟩) .nil
.nil)
(.node (some ⟨(.int .u8), 1, 1, some (.int .u8 0)⟩) .nil
.nil))))
(.node (some ⟨(.struct [(0, 9), (1, 57)]), 2, 24, some (.agg [(.str []), .nilm])⟩) (.node (some ⟨(.struct [(0, 9), (1, 9)]), 2, 32, some (.agg [(.str []), (.str [])])⟩) (.node (some ⟨(.struct [(0, 154), (1, 148), (2, 30), (3, 28), (4, 3), (5, 3), (6, 120), (9, 4), (10, 93)]), 11, 88, some (.agg [.nilp, .nilp, .nilp, .nilp, (.int .i64 0), (.int .i64 0), (.int .u32 0), (.int .i32 0), (.int .u32 0), (.bool false), .nils])⟩) (.node (some ⟨(.struct [(0, 9)]), 1, 16, some (.agg [(.str [])])⟩) .nil
.nil)
(.node (some ⟨(.struct [(0, 9), (1, 9), (2, 3), (3, 3)]), 4, 48, some (.agg [(.str []), (.str []), (.int .i64 0), (.int .i64 0)])⟩) .nil
.nil))
(.node (some ⟨.func, 1, 8, some .nilf⟩) (.node (some ⟨.func, 1, 8, some .nilf⟩) .nil
.nil)
(.node (some ⟨.func, 1, 8, some .nilf⟩) .nil
.nil)))
(.node (some ⟨.func, 1, 8, some .nilf⟩) (.node (some ⟨.func, 1, 8, some .nilf⟩) (.node (some ⟨.func, 1, 8, some .nilf⟩) .nil
.nil)
(.node (some ⟨(.array 32 5), 32, 32, some (.agg [(.int .u8 0), (.int .u8 0), (.int .u8 0), (.int .u8 0), (.int .u8 0), (.int .u8 0), (.int .u8 0), (.int .u8 0), (.int .u8 0), (.int .u8 0), (.int .u8 0), (.int .u8 0), (.int .u8 0), (.int .u8 0), (.int .u8 0), (.int .u8 0), (.int .u8 0), (.int .u8 0), (.int .u8 0), (.int .u8 0), (.int .u8 0), (.int .u8 0), (.int .u8 0), (.int .u8 0), (.int .u8 0), (.int .u8 0), (.int .u8 0), (.int .u8 0), (.int .u8 0), (.int .u8 0), (.int .u8 0), (.int .u8 0)])⟩) .nil
.nil))
(.node (some ⟨(.struct [(0, 9), (1, 64), (2, 4), (3, 3)]), 4, 40, some (.agg [(.str []), (.int .i64 0), (.bool false), (.int .i64 0)])⟩) (.node (some ⟨.func, 1, 8, some .nilf⟩) .nil
.nil)
.nil))))))
(.node (some ⟨(.int .u8), 1, 1, some (.int .u8 0)⟩) (.node (some ⟨.str, 1, 16, some (.str [])⟩) (.node (some ⟨(.ptr 497), 1, 8, some .nilp⟩) (.node none (.node (some ⟨(.struct [(0, 56), (1, 64)]), 2, 16, some (.agg [.nilp, (.int .i64 0)])⟩) (.node none (.node (some ⟨.func, 1, 8, some .nilf⟩) .nil
.nil)
(.node (some ⟨.func, 1, 8, some .nilf⟩) .nil
.nil))
(.node (some ⟨(.ptr 264), 1, 8, some .nilp⟩) (.node (some ⟨.func, 1, 8, some .nilf⟩) .nil
.nil)
(.node (some ⟨.func, 1, 8, some .nilf⟩) .nil
.nil)))
(.node (some ⟨.func, 1, 8, some .nilf⟩) (.node (some ⟨.func, 1, 8, some .nilf⟩) (.node (some ⟨(.struct [(0, 4), (1, 288), (9, 9), (10, 3)]), 11, 64, some (.agg [(.bool false), (.int .u32 0), (.int .u32 0), (.int .u32 0), (.int .u32 0), (.int .u32 0), (.int .u32 0), (.int .u32 0), (.int .u32 0), (.str []), (.int .i64 0)])⟩) .nil
.nil)
(.node (some ⟨.func, 1, 8, some .nilf⟩) .nil
.nil))
(.node (some ⟨(.ptr 110), 1, 8, some .nilp⟩) (.node (some ⟨.func, 1, 8, some .nilf⟩) .nil
.nil)
(.node (some ⟨.func, 1, 8, some .nilf⟩) .nil
.nil))))
(.node (some ⟨(.struct [(0, 41), (4, 9), (5, 47)]), 6, 96, some (.agg [.nils, (.str []), (.int .i64 0), (.int .i64 0), (.str []), .nils])⟩) (.node (some ⟨.func, 1, 8, some .nilf⟩) (.node (some ⟨.func, 1, 8, some .nilf⟩) (.node (some ⟨(.struct [(0, 92), (2, 9), (3, 9), (4, 64)]), 5, 72, some (.agg [(.str []), (.str []), (.str []), (.str []), (.int .i64 0)])⟩) .nil
.nil)
(.node (some ⟨.func, 1, 8, some .nilf⟩) .nil
.nil))
(.node (some ⟨(.struct [(0, 9), (1, 4), (2, 64)]), 3, 32, some (.agg [(.str []), (.bool false), (.int .i64 0)])⟩) (.node (some ⟨.func, 1, 8, some .nilf⟩) .nil
.nil)
(.node (some ⟨.func, 1, 8, some .nilf⟩) .nil
.nil)))
(.node (some ⟨(.struct [(0, 61), (0, 110)]), 1, 4, some (.agg [(.int .u32 0)])⟩) (.node (some ⟨.func, 1, 8, some .nilf⟩) (.node (some ⟨.func, 1, 8, some .nilf⟩) .nil
.nil)
(.node (some ⟨(.struct [(0, 110), (1, 110), (2, 110)]), 3, 12, some (.agg [(.int .u32 0), (.int .u32 0), (.int .u32 0)])⟩) .nil
.nil))
(.node (some ⟨.func, 1, 8, some .nilf⟩) .nil
(.node (some ⟨(.struct [(0, 12), (1, 12), (2, 110), (3, 491), (4, 5), (5, 5), (6, 492), (7, 493), (8, 222), (9, 494), (10, 495)]), 11, 48, some (.agg [(.int .u64 0), (.int .u64 0), (.int .u32 0), (.int .u8 0), (.int .u8 0), (.int .u8 0), (.int .u8 0), .nilf, .nilp, (.int .i32 0), (.int .i32 0)])⟩) .nil
.nil)))))
(.node (some ⟨(.struct [(0, 9), (1, 9)]), 2, 32, some (.agg [(.str []), (.str [])])⟩) (.node (some ⟨(.struct [(0, 39), (1, 9), (2, 3), (3, 3)]), 4, 56, some (.agg [.nils, (.str []), (.int .i64 0), (.int .i64 0)])⟩) (.node (some ⟨(.struct [(0, 56), (1, 67), (2, 64), (3, 71)]), 4, 32, some (.agg [.nilp, .nilp, (.int .i64 0), .nilm])⟩) (.node (some ⟨(.ptr 142), 1, 8, some .nilp⟩) (.node (some ⟨.func, 1, 8, some .nilf⟩) .nil
.nil)
(.node (some ⟨.func, 1, 8, some .nilf⟩) .nil
.nil))
(.node (some ⟨(.ptr 140), 1, 8, some .nilp⟩) (.node (some ⟨.func, 1, 8, some .nilf⟩) .nil
.nil)
(.node (some ⟨.func, 1, 8, some .nilf⟩) .nil
.nil)))
(.node (some ⟨.func, 1, 8, some .nilf⟩) (.node (some ⟨.iface, 1, 16, some .nili⟩) (.node (some ⟨(.ptr 118), 1, 8, some .nilp⟩) .nil
.nil)
(.node (some ⟨(.slice 431), 1, 24, some .nils⟩) .nil
.nil))
(.node (some ⟨(.array 5 78), 5, 40, some (.agg [(.int .u64 0), (.int .u64 0), (.int .u64 0), (.int .u64 0), (.int .u64 0)])⟩) (.node (some ⟨(.struct [(0, 9), (1, 3), (2, 9), (3, 4)]), 4, 48, some (.agg [(.str []), (.int .i64 0), (.str []), (.bool false)])⟩) .nil
.nil)
(.node (some ⟨(.struct [(0, 488)]), 0, 0, some (.agg [])⟩) .nil
.nil))))
(.node (some ⟨(.map 3 111), 1, 8, some .nilm⟩) (.node (some ⟨.func, 1, 8, some .nilf⟩) (.node (some ⟨.func, 1, 8, some .nilf⟩) (.node (some ⟨(.struct [(0, 9)]), 1, 16, some (.agg [(.str [])])⟩) .nil
.nil)
(.node (some ⟨(.slice 412), 1, 24, some .nils⟩) .nil
.nil))
(.node (some ⟨(.struct [(0, 120), (3, 160)]), 4, 40, some (.agg [(.int .u32 0), (.int .i32 0), (.int .u32 0), .nils])⟩) (.node (some ⟨.func, 1, 8, some .nilf⟩) .nil
.nil)
(.node (some ⟨(.ptr 480), 1, 8, some .nilp⟩) .nil
.nil)))
(.node (some ⟨(.struct [(0, 120), (3, 9)]), 4, 32, some (.agg [(.int .u32 0), (.int .i32 0), (.int .u32 0), (.str [])])⟩) (.node (some ⟨(.ptr 248), 1, 8, some .nilp⟩) (.node (some ⟨.func, 1, 8, some .nilf⟩) .nil
.nil)
(.node (some ⟨(.ptr 3), 1, 8, some .nilp⟩) .nil
.nil))
(.node (some ⟨.func, 1, 8, some .nilf⟩) (.node (some ⟨.func, 1, 8, some .nilf⟩) .nil
.nil)
.nil)))))
(.node (some ⟨(.struct [(0, 9), (1, 12)]), 2, 24, some (.agg [(.str []), (.int .u64 0)])⟩) (.node (some ⟨(.int .i32), 1, 4, some (.int .i32 0)⟩) (.node (some ⟨.func, 1, 8, some .nilf⟩) (.node (some ⟨(.struct [(0, 64), (1, 68)]), 2, 16, some (.agg [(.int .i64 0), .nilm])⟩) (.node (some ⟨(.slice 137), 1, 24, some .nils⟩) (.node (some ⟨(.struct [(0, 3), (1, 258), (2, 22), (3, 3), (4, 64), (5, 64)]), 6, 64, some (.agg [(.int .i64 0), .nilp, .nils, (.int .i64 0), (.int .i64 0), (.int .i64 0)])⟩) .nil
.nil)
(.node (some ⟨(.struct [(0, 3), (1, 3)]), 2, 16, some (.agg [(.int .i64 0), (.int .i64 0)])⟩) .nil
.nil))
(.node (some ⟨(.struct [(0, 185), (1, 188), (2, 191), (3, 193), (4, 64), (5, 64), (6, 195)]), 7, 72, some (.agg [.nilp, .nils, .nilp, .nilp, (.int .i64 0), (.int .i64 0), .nilm])⟩) .nil
(.node (some ⟨(.ptr 431), 1, 8, some .nilp⟩) .nil
.nil)))
(.node (some ⟨.func, 1, 8, some .nilf⟩) (.node (some ⟨(.ptr 167), 1, 8, some .nilp⟩) .nil
(.node (some ⟨(.struct [(0, 5), (1, 5)]), 2, 2, some (.agg [(.int .u8 0), (.int .u8 0)])⟩) .nil
.nil))
(.node (some ⟨.func, 1, 8, some .nilf⟩) .nil
(.node (some ⟨(.struct [(0, 9)]), 1, 16, some (.agg [(.str [])])⟩) .nil
.nil))))
(.node (some ⟨(.struct [(0, 32), (1, 9), (2, 3), (3, 3), (4, 22)]), 5, 64, some (.agg [(.int .i64 0), (.str []), (.int .i64 0), (.int .i64 0), .nils])⟩) (.node (some ⟨.func, 1, 8, some .nilf⟩) (.node (some ⟨(.struct [(0, 147), (1, 148), (2, 120), (5, 4), (6, 30), (7, 28), (8, 4), (9, 64), (10, 93), (11, 50)]), 12, 112, some (.agg [.nilp, .nilp, (.int .u32 0), (.int .i32 0), (.int .u32 0), (.bool false), .nilp, .nilp, (.bool false), (.int .i64 0), .nils, .nils])⟩) .nil
(.node (some ⟨.func, 1, 8, some .nilf⟩) .nil
.nil))
(.node none (.node (some ⟨.func, 1, 8, some .nilf⟩) .nil
.nil)
(.node (some ⟨.func, 1, 8, some .nilf⟩) .nil
.nil)))
(.node (some ⟨(.struct [(0, 112), (0, 116)]), 2, 8, some (.agg [(.int .i32 0), (.int .u32 0)])⟩) (.node (some ⟨(.struct [(0, 61), (0, 21)]), 1, 4, some (.agg [(.int .i32 0)])⟩) (.node (some ⟨.func, 1, 8, some .nilf⟩) .nil
.nil)
(.node (some ⟨(.int .u64), 1, 8, some (.int .u64 0)⟩) .nil
.nil))
(.node (some ⟨.func, 1, 8, some .nilf⟩) (.node (some ⟨.func, 1, 8, some .nilf⟩) .nil
.nil)
.nil))))
(.node (some ⟨.func, 1, 8, some .nilf⟩) (.node (some ⟨(.struct [(0, 3), (1, 3), (2, 3), (3, 3), (4, 5), (5, 44)]), 10, 96, some (.agg [(.int .i64 0), (.int .i64 0), (.int .i64 0), (.int .i64 0), (.int .u8 0), (.int .i64 0), (.str []), (.str []), (.int .i64 0), (.int .i64 0)])⟩) (.node (some ⟨.func, 1, 8, some .nilf⟩) (.node (some ⟨(.struct [(0, 94), (1, 3), (2, 140), (4, 140)]), 6, 112, some (.agg [.nilp, (.int .i64 0), .nils, .nils, .nils, .nils])⟩) (.node (some ⟨.func, 1, 8, some .nilf⟩) .nil
.nil)
(.node (some ⟨.func, 1, 8, some .nilf⟩) .nil
.nil))
(.node (some ⟨.func, 1, 8, some .nilf⟩) (.node (some ⟨(.ptr 290), 1, 8, some .nilp⟩) .nil
.nil)
(.node (some ⟨.func, 1, 8, some .nilf⟩) .nil
.nil)))
(.node (some ⟨.func, 1, 8, some .nilf⟩) (.node (some ⟨.func, 1, 8, some .nilf⟩) (.node (some ⟨(.struct [(0, 120), (3, 22)]), 4, 40, some (.agg [(.int .u32 0), (.int .i32 0), (.int .u32 0), .nils])⟩) .nil
.nil)
(.node (some ⟨(.int .u16), 1, 2, some (.int .u16 0)⟩) .nil
.nil))
(.node (some ⟨.func, 1, 8, some .nilf⟩) (.node (some ⟨.func, 1, 8, some .nilf⟩) .nil
.nil)
(.node (some ⟨.func, 1, 8, some .nilf⟩) .nil
.nil))))
(.node (some ⟨(.struct []), 0, 0, some (.agg [])⟩) (.node (some ⟨(.slice 44), 1, 24, some .nils⟩) (.node none (.node (some ⟨.func, 1, 8, some .nilf⟩) .nil
.nil)
.nil)
(.node (some ⟨.func, 1, 8, some .nilf⟩) (.node (some ⟨.func, 1, 8, some .nilf⟩) .nil
.nil)
.nil))
(.node (some ⟨(.ptr 64), 1, 8, some .nilp⟩) (.node none (.node (some ⟨.func, 1, 8, some .nilf⟩) .nil
.nil)
(.node (some ⟨(.slice 4), 1, 24, some .nils⟩) .nil
.nil))
(.node (some ⟨.func, 1, 8, some .nilf⟩) (.node (some ⟨.func, 1, 8, some .nilf⟩) .nil
.nil)
.nil)))))))
(.node (some ⟨(.int .i64), 1, 8, some (.int .i64 0)⟩) (.node (some ⟨.bool, 1, 1, some (.bool false)⟩) (.node (some ⟨(.struct [(0, 2), (1, 3), (2, 4), (3, 6)]), 4, 24, some (.agg [(.int .i64 0), (.int .i64 0), (.bool false), (.int .u8 0)])⟩) (.node (some ⟨(.ptr 490), 1, 8, some .nilp⟩) (.node (some ⟨(.int .i64), 1, 8, some (.int .i64 0)⟩) (.node (some ⟨(.struct [(0, 61), (0, 62), (0, 2)]), 1, 8, some (.agg [(.int .i64 0)])⟩) (.node (some ⟨(.int .u64), 1, 8, some (.int .u64 0)⟩) .nil
(.node (some ⟨.func, 1, 8, some .nilf⟩) .nil
.nil))
(.node (some ⟨.func, 1, 8, some .nilf⟩) (.node (some ⟨.func, 1, 8, some .nilf⟩) .nil
.nil)
.nil))
(.node (some ⟨.func, 1, 8, some .nilf⟩) (.node (some ⟨(.slice 3), 1, 24, some .nils⟩) (.node (some ⟨(.array 8 110), 8, 32, some (.agg [(.int .u32 0), (.int .u32 0), (.int .u32 0), (.int .u32 0), (.int .u32 0), (.int .u32 0), (.int .u32 0), (.int .u32 0)])⟩) .nil
.nil)
(.node (some ⟨.func, 1, 8, some .nilf⟩) .nil
.nil))
(.node (some ⟨.func, 1, 8, some .nilf⟩) (.node (some ⟨.func, 1, 8, some .nilf⟩) .nil
.nil)
(.node (some ⟨(.struct [(0, 9), (1, 9), (2, 170)]), 3, 48, some (.agg [(.str []), (.str []), .nili])⟩) .nil
.nil))))
(.node (some ⟨(.struct [(0, 41), (4, 9), (5, 47)]), 6, 96, some (.agg [.nils, (.str []), (.int .i64 0), (.int .i64 0), (.str []), .nils])⟩) (.node (some ⟨.func, 1, 8, some .nilf⟩) (.node (some ⟨.func, 1, 8, some .nilf⟩) (.node (some ⟨.func, 1, 8, some .nilf⟩) .nil
.nil)
(.node (some ⟨(.struct [(0, 5), (1, 5)]), 2, 2, some (.agg [(.int .u8 0), (.int .u8 0)])⟩) .nil
.nil))
(.node (some ⟨(.struct [(0, 9), (1, 4), (2, 64)]), 3, 32, some (.agg [(.str []), (.bool false), (.int .i64 0)])⟩) (.node (some ⟨(.struct [(0, 120), (3, 334), (67, 288)]), 75, 300, some (.agg [(.int .u32 0), (.int .i32 0), (.int .u32 0), (.int .u32 0), (.int .u32 0), (.int .u32 0), (.int .u32 0), (.int .u32 0), (.int .u32 0), (.int .u32 0), (.int .u32 0), (.int .u32 0), (.int .u32 0), (.int .u32 0), (.int .u32 0), (.int .u32 0), (.int .u32 0), (.int .u32 0), (.int .u32 0), (.int .u32 0), (.int .u32 0), (.int .u32 0), (.int .u32 0), (.int .u32 0), (.int .u32 0), (.int .u32 0), (.int .u32 0), (.int .u32 0), (.int .u32 0), (.int .u32 0), (.int .u32 0), (.int .u32 0), (.int .u32 0), (.int .u32 0), (.int .u32 0), (.int .u32 0), (.int .u32 0), (.int .u32 0), (.int .u32 0), (.int .u32 0), (.int .u32 0), (.int .u32 0), (.int .u32 0), (.int .u32 0), (.int .u32 0), (.int .u32 0), (.int .u32 0), (.int .u32 0), (.int .u32 0), (.int .u32 0), (.int .u32 0), (.int .u32 0), (.int .u32 0), (.int .u32 0), (.int .u32 0), (.int .u32 0), (.int .u32 0), (.int .u32 0), (.int .u32 0), (.int .u32 0), (.int .u32 0), (.int .u32 0), (.int .u32 0), (.int .u32 0), (.int .u32 0), (.int .u32 0), (.int .u32 0), (.int .u32 0), (.int .u32 0), (.int .u32 0), (.int .u32 0), (.int .u32 0), (.int .u32 0), (.int .u32 0), (.int .u32 0)])⟩) .nil
.nil)
(.node (some ⟨.func, 1, 8, some .nilf⟩) .nil
.nil)))
(.node (some ⟨(.struct []), 0, 0, some (.agg [])⟩) (.node (some ⟨.func, 1, 8, some .nilf⟩) (.node (some ⟨.func, 1, 8, some .nilf⟩) .nil
.nil)
(.node (some ⟨.func, 1, 8, some .nilf⟩) .nil
.nil))
(.node (some ⟨.func, 1, 8, some .nilf⟩) (.node (some ⟨.func, 1, 8, some .nilf⟩) .nil
.nil)
(.node (some ⟨(.struct [(0, 12), (1, 12), (2, 110), (3, 491), (4, 5), (5, 5), (6, 492), (7, 493), (8, 222), (9, 494), (10, 495)]), 11, 48, some (.agg [(.int .u64 0), (.int .u64 0), (.int .u32 0), (.int .u8 0), (.int .u8 0), (.int .u8 0), (.int .u8 0), .nilf, .nilp, (.int .i32 0), (.int .i32 0)])⟩) .nil
.nil)))))
(.node (some ⟨(.struct [(0, 9), (1, 9)]), 2, 32, some (.agg [(.str []), (.str [])])⟩) (.node (some ⟨(.struct [(0, 39), (1, 9), (2, 3), (3, 3)]), 4, 56, some (.agg [.nils, (.str []), (.int .i64 0), (.int .i64 0)])⟩) (.node (some ⟨(.struct [(0, 56), (1, 67), (2, 64), (3, 71)]), 4, 32, some (.agg [.nilp, .nilp, (.int .i64 0), .nilm])⟩) (.node (some ⟨.func, 1, 8, some .nilf⟩) (.node (some ⟨(.struct [(0, 3), (1, 262), (2, 64)]), 3, 40, some (.agg [(.int .i64 0), .nils, (.int .i64 0)])⟩) .nil
.nil)
(.node (some ⟨(.ptr 428), 1, 8, some .nilp⟩) .nil
.nil))
(.node (some ⟨.func, 1, 8, some .nilf⟩) (.node (some ⟨.func, 1, 8, some .nilf⟩) .nil
.nil)
(.node (some ⟨.func, 1, 8, some .nilf⟩) .nil
.nil)))
(.node (some ⟨.func, 1, 8, some .nilf⟩) (.node (some ⟨.func, 1, 8, some .nilf⟩) (.node (some ⟨.func, 1, 8, some .nilf⟩) .nil
.nil)
(.node (some ⟨.func, 1, 8, some .nilf⟩) .nil
.nil))
(.node (some ⟨.func, 1, 8, some .nilf⟩) (.node (some ⟨(.struct [(0, 9), (1, 3), (2, 9), (3, 4)]), 4, 48, some (.agg [(.str []), (.int .i64 0), (.str []), (.bool false)])⟩) .nil
.nil)
(.node (some ⟨(.array 0 16), 0, 0, some (.agg [])⟩) .nil
.nil))))
(.node (some ⟨(.ptr 59), 1, 8, some .nilp⟩) (.node (some ⟨.func, 1, 8, some .nilf⟩) (.node (some ⟨(.ptr 156), 1, 8, some .nilp⟩) (.node (some ⟨.func, 1, 8, some .nilf⟩) .nil
.nil)
(.node (some ⟨.func, 1, 8, some .nilf⟩) .nil
.nil))
(.node (some ⟨(.struct [(0, 120), (3, 160)]), 4, 40, some (.agg [(.int .u32 0), (.int .i32 0), (.int .u32 0), .nils])⟩) (.node (some ⟨.func, 1, 8, some .nilf⟩) .nil
.nil)
(.node (some ⟨.func, 1, 8, some .nilf⟩) .nil
.nil)))
(.node (some ⟨(.struct [(0, 112), (0, 114), (1, 118)]), 3, 12, some (.agg [(.int .u32 0), (.int .i32 0), (.int .u32 0)])⟩) (.node (some ⟨.func, 1, 8, some .nilf⟩) (.node (some ⟨.func, 1, 8, some .nilf⟩) .nil
.nil)
(.node (some ⟨.func, 1, 8, some .nilf⟩) .nil
.nil))
(.node (some ⟨(.struct [(0, 246)]), 1, 8, some (.agg [.nilm])⟩) .nil
.nil)))))
(.node (some ⟨(.int .u64), 1, 8, some (.int .u64 0)⟩) (.node (some ⟨.iface, 1, 16, some .nili⟩) (.node (some ⟨.func, 1, 8, some .nilf⟩) (.node (some ⟨(.map 3 4), 1, 8, some .nilm⟩) (.node (some ⟨.func, 1, 8, some .nilf⟩) (.node (some ⟨(.struct [(0, 3), (1, 258), (2, 22), (3, 3), (4, 64), (5, 64)]), 6, 64, some (.agg [(.int .i64 0), .nilp, .nils, (.int .i64 0), (.int .i64 0), (.int .i64 0)])⟩) .nil
.nil)
(.node (some ⟨(.slice 390), 1, 24, some .nils⟩) .nil
.nil))
(.node (some ⟨(.struct [(0, 185), (1, 188), (2, 191), (3, 193), (4, 64), (5, 64), (6, 195)]), 7, 72, some (.agg [.nilp, .nils, .nilp, .nilp, (.int .i64 0), (.int .i64 0), .nilm])⟩) (.node (some ⟨.func, 1, 8, some .nilf⟩) .nil
.nil)
(.node (some ⟨.func, 1, 8, some .nilf⟩) .nil
.nil)))
(.node (some ⟨.func, 1, 8, some .nilf⟩) (.node (some ⟨.func, 1, 8, some .nilf⟩) (.node (some ⟨(.ptr 217), 1, 8, some .nilp⟩) .nil
.nil)
(.node (some ⟨.func, 1, 8, some .nilf⟩) .nil
.nil))
(.node (some ⟨(.array 8 227), 32, 256, some (.agg [(.int .i64 0), (.int .i64 0), (.int .i64 0), (.int .i64 0), (.int .i64 0), (.int .i64 0), (.int .i64 0), (.int .i64 0), (.int .i64 0), (.int .i64 0), (.int .i64 0), (.int .i64 0), (.int .i64 0), (.int .i64 0), (.int .i64 0), (.int .i64 0), (.int .i64 0), (.int .i64 0), (.int .i64 0), (.int .i64 0), (.int .i64 0), (.int .i64 0), (.int .i64 0), (.int .i64 0), (.int .i64 0), (.int .i64 0), (.int .i64 0), (.int .i64 0), (.int .i64 0), (.int .i64 0), (.int .i64 0), (.int .i64 0)])⟩) (.node (some ⟨.func, 1, 8, some .nilf⟩) .nil
.nil)
(.node (some ⟨(.struct [(0, 9)]), 1, 16, some (.agg [(.str [])])⟩) .nil
.nil))))
(.node (some ⟨.func, 1, 8, some .nilf⟩) (.node (some ⟨.func, 1, 8, some .nilf⟩) (.node (some ⟨(.ptr 209), 1, 8, some .nilp⟩) (.node (some ⟨(.struct [(0, 9)]), 1, 16, some (.agg [(.str [])])⟩) .nil
.nil)
(.node (some ⟨.func, 1, 8, some .nilf⟩) .nil
.nil))
(.node (some ⟨.func, 1, 8, some .nilf⟩) (.node (some ⟨(.ptr 116), 1, 8, some .nilp⟩) .nil
.nil)
(.node (some ⟨.func, 1, 8, some .nilf⟩) .nil
.nil)))
(.node (some ⟨(.struct [(0, 21), (1, 110)]), 2, 8, some (.agg [(.int .i32 0), (.int .u32 0)])⟩) (.node (some ⟨(.ptr 120), 1, 8, some .nilp⟩) (.node (some ⟨(.struct [(0, 110), (1, 120), (4, 306), (5, 64)]), 6, 48, some (.agg [(.int .u32 0), (.int .u32 0), (.int .i32 0), (.int .u32 0), .nils, (.int .i64 0)])⟩) .nil
.nil)
(.node (some ⟨(.ptr 395), 1, 8, some .nilp⟩) .nil
.nil))
(.node (some ⟨(.ptr 21), 1, 8, some .nilp⟩) (.node (some ⟨(.array 256 5), 256, 256, some (.agg [(.int .u8 0), (.int .u8 0), (.int .u8 0), (.int .u8 0), (.int .u8 0), (.int .u8 0), (.int .u8 0), (.int .u8 0), (.int .u8 0), (.int .u8 0), (.int .u8 0), (.int .u8 0), (.int .u8 0), (.int .u8 0), (.int .u8 0), (.int .u8 0), (.int .u8 0), (.int .u8 0), (.int .u8 0), (.int .u8 0), (.int .u8 0), (.int .u8 0), (.int .u8 0), (.int .u8 0), (.int .u8 0), (.int .u8 0), (.int .u8 0), (.int .u8 0), (.int .u8 0), (.int .u8 0), (.int .u8 0), (.int .u8 0), (.int .u8 0), (.int .u8 0), (.int .u8 0), (.int .u8 0), (.int .u8 0), (.int .u8 0), (.int .u8 0), (.int .u8 0), (.int .u8 0), (.int .u8 0), (.int .u8 0), (.int .u8 0), (.int .u8 0), (.int .u8 0), (.int .u8 0), (.int .u8 0), (.int .u8 0), (.int .u8 0), (.int .u8 0), (.int .u8 0), (.int .u8 0), (.int .u8 0), (.int .u8 0), (.int .u8 0), (.int .u8 0), (.int .u8 0), (.int .u8 0), (.int .u8 0), (.int .u8 0), (.int .u8 0), (.int .u8 0), (.int .u8 0), (.int .u8 0), (.int .u8 0), (.int .u8 0), (.int .u8 0), (.int .u8 0), (.int .u8 0), (.int .u8 0), (.int .u8 0), (.int .u8 0), (.int .u8 0), (.int .u8 0), (.int .u8 0), (.int .u8 0), (.int .u8 0), (.int .u8 0), (.int .u8 0), (.int .u8 0), (.int .u8 0), (.int .u8 0), (.int .u8 0), (.int .u8 0), (.int .u8 0), (.int .u8 0), (.int .u8 0), (.int .u8 0), (.int .u8 0), (.int .u8 0), (.int .u8 0), (.int .u8 0), (.int .u8 0), (.int .u8 0), (.int .u8 0), (.int .u8 0), (.int .u8 0), (.int .u8 0), (.int .u8 0), (.int .u8 0), (.int .u8 0), (.int .u8 0), (.int .u8 0), (.int .u8 0), (.int .u8 0), (.int .u8 0), (.int .u8 0), (.int .u8 0), (.int .u8 0), (.int .u8 0), (.int .u8 0), (.int .u8 0), (.int .u8 0), (.int .u8 0), (.int .u8 0), (.int .u8 0), (.int .u8 0), (.int .u8 0), (.int .u8 0), (.int .u8 0), (.int .u8 0), (.int .u8 0), (.int .u8 0), (.int .u8 0), (.int .u8 0), (.int .u8 0), (.int .u8 0), (.int .u8 0), (.int .u8 0), (.int .u8 0), (.int .u8 0), (.int .u8 0), (.int .u8 0), (.int .u8 0), (.int .u8 0), (.int .u8 0), (.int .u8 0), (.int .u8 0), (.int .u8 0), (.int .u8 0), (.int .u8 0), (.int .u8 0), (.int .u8 0), (.int .u8 0), (.int .u8 0), (.int .u8 0), (.int .u8 0), (.int .u8 0), (.int .u8 0), (.int .u8 0), (.int .u8 0), (.int .u8 0), (.int .u8 0), (.int .u8 0), (.int .u8 0), (.int .u8 0), (.int .u8 0), (.int .u8 0), (.int .u8 0), (.int .u8 0), (.int .u8 0), (.int .u8 0), (.int .u8 0), (.int .u8 0), (.int .u8 0), (.int .u8 0), (.int .u8 0), (.int .u8 0), (.int .u8 0), (.int .u8 0), (.int .u8 0), (.int .u8 0), (.int .u8 0), (.int .u8 0), (.int .u8 0), (.int .u8 0), (.int .u8 0), (.int .u8 0), (.int .u8 0), (.int .u8 0), (.int .u8 0), (.int .u8 0), (.int .u8 0), (.int .u8 0), (.int .u8 0), (.int .u8 0), (.int .u8 0), (.int .u8 0), (.int .u8 0), (.int .u8 0), (.int .u8 0), (.int .u8 0), (.int .u8 0), (.int .u8 0), (.int .u8 0), (.int .u8 0), (.int .u8 0), (.int .u8 0), (.int .u8 0), (.int .u8 0), (.int .u8 0), (.int .u8 0), (.int .u8 0), (.int .u8 0), (.int .u8 0), (.int .u8 0), (.int .u8 0), (.int .u8 0), (.int .u8 0), (.int .u8 0), (.int .u8 0), (.int .u8 0), (.int .u8 0), (.int .u8 0), (.int .u8 0), (.int .u8 0), (.int .u8 0), (.int .u8 0), (.int .u8 0), (.int .u8 0), (.int .u8 0), (.int .u8 0), (.int .u8 0), (.int .u8 0), (.int .u8 0), (.int .u8 0), (.int .u8 0), (.int .u8 0), (.int .u8 0), (.int .u8 0), (.int .u8 0), (.int .u8 0), (.int .u8 0), (.int .u8 0), (.int .u8 0), (.int .u8 0), (.int .u8 0), (.int .u8 0), (.int .u8 0), (.int .u8 0), (.int .u8 0), (.int .u8 0), (.int .u8 0), (.int .u8 0), (.int .u8 0), (.int .u8 0), (.int .u8 0), (.int .u8 0), (.int .u8 0), (.int .u8 0), (.int .u8 0), (.int .u8 0), (.int .u8 0), (.int .u8 0), (.int .u8 0)])⟩) .nil
.nil)
.nil))))
(.node (some ⟨(.ptr 66), 1, 8, some .nilp⟩) (.node (some ⟨(.struct [(0, 3), (1, 9), (2, 9), (3, 3), (4, 3)]), 5, 56, some (.agg [(.int .i64 0), (.str []), (.str []), (.int .i64 0), (.int .i64 0)])⟩) (.node (some ⟨.func, 1, 8, some .nilf⟩) (.node (some ⟨(.struct [(0, 22), (1, 22)]), 2, 48, some (.agg [.nils, .nils])⟩) (.node (some ⟨.func, 1, 8, some .nilf⟩) .nil
.nil)
.nil)
(.node (some ⟨.func, 1, 8, some .nilf⟩) (.node (some ⟨(.struct [(0, 9), (1, 4)]), 2, 24, some (.agg [(.str []), (.bool false)])⟩) .nil
.nil)
(.node (some ⟨.func, 1, 8, some .nilf⟩) .nil
.nil)))
(.node (some ⟨(.slice 5), 1, 24, some .nils⟩) (.node (some ⟨.func, 1, 8, some .nilf⟩) (.node (some ⟨(.struct [(0, 120), (3, 22)]), 4, 40, some (.agg [(.int .u32 0), (.int .i32 0), (.int .u32 0), .nils])⟩) .nil
.nil)
(.node (some ⟨(.struct [(0, 425), (1, 426), (2, 3)]), 3, 56, some (.agg [.nils, .nils, (.int .i64 0)])⟩) .nil
.nil))
(.node (some ⟨.func, 1, 8, some .nilf⟩) (.node (some ⟨.func, 1, 8, some .nilf⟩) .nil
.nil)
(.node (some ⟨(.int .u8), 1, 1, some (.int .u8 0)⟩) .nil
.nil))))
(.node (some ⟨(.struct []), 0, 0, some (.agg [])⟩) (.node (some ⟨(.struct [(0, 9), (1, 9)]), 2, 32, some (.agg [(.str []), (.str [])])⟩) (.node (some ⟨(.struct [(0, 154), (1, 148), (2, 30), (3, 28), (4, 3), (5, 3), (6, 120), (9, 4), (10, 93)]), 11, 88, some (.agg [.nilp, .nilp, .nilp, .nilp, (.int .i64 0), (.int .i64 0), (.int .u32 0), (.int .i32 0), (.int .u32 0), (.bool false), .nils])⟩) .nil
(.node (some ⟨(.struct [(0, 9), (1, 9), (2, 3), (3, 3)]), 4, 48, some (.agg [(.str []), (.str []), (.int .i64 0), (.int .i64 0)])⟩) .nil
.nil))
(.node none (.node (some ⟨.func, 1, 8, some .nilf⟩) .nil
.nil)
(.node (some ⟨.func, 1, 8, some .nilf⟩) .nil
.nil)))
(.node (some ⟨.func, 1, 8, some .nilf⟩) (.node (some ⟨(.slice 255), 1, 24, some .nils⟩) (.node (some ⟨.func, 1, 8, some .nilf⟩) .nil
.nil)
(.node (some ⟨(.array 64 5), 64, 64, some (.agg [(.int .u8 0), (.int .u8 0), (.int .u8 0), (.int .u8 0), (.int .u8 0), (.int .u8 0), (.int .u8 0), (.int .u8 0), (.int .u8 0), (.int .u8 0), (.int .u8 0), (.int .u8 0), (.int .u8 0), (.int .u8 0), (.int .u8 0), (.int .u8 0), (.int .u8 0), (.int .u8 0), (.int .u8 0), (.int .u8 0), (.int .u8 0), (.int .u8 0), (.int .u8 0), (.int .u8 0), (.int .u8 0), (.int .u8 0), (.int .u8 0), (.int .u8 0), (.int .u8 0), (.int .u8 0), (.int .u8 0), (.int .u8 0), (.int .u8 0), (.int .u8 0), (.int .u8 0), (.int .u8 0), (.int .u8 0), (.int .u8 0), (.int .u8 0), (.int .u8 0), (.int .u8 0), (.int .u8 0), (.int .u8 0), (.int .u8 0), (.int .u8 0), (.int .u8 0), (.int .u8 0), (.int .u8 0), (.int .u8 0), (.int .u8 0), (.int .u8 0), (.int .u8 0), (.int .u8 0), (.int .u8 0), (.int .u8 0), (.int .u8 0), (.int .u8 0), (.int .u8 0), (.int .u8 0), (.int .u8 0), (.int .u8 0), (.int .u8 0), (.int .u8 0), (.int .u8 0)])⟩) .nil
.nil))
(.node (some ⟨(.struct [(0, 9), (1, 64), (2, 4), (3, 3)]), 4, 40, some (.agg [(.str []), (.int .i64 0), (.bool false), (.int .i64 0)])⟩) (.node (some ⟨.func, 1, 8, some .nilf⟩) .nil
.nil)
.nil))))))
(.node (some ⟨(.int .u8), 1, 1, some (.int .u8 0)⟩) (.node (some ⟨.str, 1, 16, some (.str [])⟩) (.node (some ⟨(.struct [(0, 17)]), 1, 8, some (.agg [.nilp])⟩) (.node (some ⟨.func, 1, 8, some .nilf⟩) (.node (some ⟨(.struct [(0, 56), (1, 64)]), 2, 16, some (.agg [.nilp, (.int .i64 0)])⟩) (.node (some ⟨.func, 1, 8, some .nilf⟩) (.node (some ⟨(.ptr 308), 1, 8, some .nilp⟩) .nil
.nil)
(.node (some ⟨.func, 1, 8, some .nilf⟩) .nil
.nil))
(.node (some ⟨.func, 1, 8, some .nilf⟩) .nil
(.node (some ⟨.func, 1, 8, some .nilf⟩) .nil
.nil)))
(.node (some ⟨(.ptr 197), 1, 8, some .nilp⟩) (.node none (.node (some ⟨(.struct [(0, 4), (1, 288), (9, 9), (10, 3)]), 11, 64, some (.agg [(.bool false), (.int .u32 0), (.int .u32 0), (.int .u32 0), (.int .u32 0), (.int .u32 0), (.int .u32 0), (.int .u32 0), (.int .u32 0), (.str []), (.int .i64 0)])⟩) .nil
.nil)
(.node (some ⟨.func, 1, 8, some .nilf⟩) .nil
.nil))
(.node (some ⟨(.array 16 110), 16, 64, some (.agg [(.int .u32 0), (.int .u32 0), (.int .u32 0), (.int .u32 0), (.int .u32 0), (.int .u32 0), (.int .u32 0), (.int .u32 0), (.int .u32 0), (.int .u32 0), (.int .u32 0), (.int .u32 0), (.int .u32 0), (.int .u32 0), (.int .u32 0), (.int .u32 0)])⟩) .nil
(.node (some ⟨.func, 1, 8, some .nilf⟩) .nil
.nil))))
(.node (some ⟨(.slice 54), 1, 24, some .nils⟩) (.node (some ⟨.func, 1, 8, some .nilf⟩) (.node (some ⟨.func, 1, 8, some .nilf⟩) (.node (some ⟨(.struct [(0, 92), (2, 9), (3, 9), (4, 64)]), 5, 72, some (.agg [(.str []), (.str []), (.str []), (.str []), (.int .i64 0)])⟩) .nil
.nil)
(.node (some ⟨(.int .i64), 1, 8, some (.int .i64 0)⟩) .nil
.nil))
(.node (some ⟨.func, 1, 8, some .nilf⟩) (.node (some ⟨(.ptr 336), 1, 8, some .nilp⟩) .nil
.nil)
(.node (some ⟨.func, 1, 8, some .nilf⟩) .nil
.nil)))
(.node (some ⟨(.struct [(0, 61), (0, 110)]), 1, 4, some (.agg [(.int .u32 0)])⟩) (.node (some ⟨.func, 1, 8, some .nilf⟩) (.node (some ⟨(.slice 409), 1, 24, some .nils⟩) .nil
.nil)
(.node (some ⟨(.struct [(0, 110), (1, 110), (2, 110)]), 3, 12, some (.agg [(.int .u32 0), (.int .u32 0), (.int .u32 0)])⟩) .nil
.nil))
(.node (some ⟨(.ptr 182), 1, 8, some .nilp⟩) (.node (some ⟨.func, 1, 8, some .nilf⟩) .nil
.nil)
(.node (some ⟨.func, 1, 8, some .nilf⟩) .nil
.nil)))))
(.node (some ⟨.func, 1, 8, some .nilf⟩) (.node (some ⟨.func, 1, 8, some .nilf⟩) (.node none (.node (some ⟨.func, 1, 8, some .nilf⟩) (.node (some ⟨.func, 1, 8, some .nilf⟩) .nil
.nil)
(.node (some ⟨(.array 256 4), 256, 256, some (.agg [(.bool false), (.bool false), (.bool false), (.bool false), (.bool false), (.bool false), (.bool false), (.bool false), (.bool false), (.bool false), (.bool false), (.bool false), (.bool false), (.bool false), (.bool false), (.bool false), (.bool false), (.bool false), (.bool false), (.bool false), (.bool false), (.bool false), (.bool false), (.bool false), (.bool false), (.bool false), (.bool false), (.bool false), (.bool false), (.bool false), (.bool false), (.bool false), (.bool false), (.bool false), (.bool false), (.bool false), (.bool false), (.bool false), (.bool false), (.bool false), (.bool false), (.bool false), (.bool false), (.bool false), (.bool false), (.bool false), (.bool false), (.bool false), (.bool false), (.bool false), (.bool false), (.bool false), (.bool false), (.bool false), (.bool false), (.bool false), (.bool false), (.bool false), (.bool false), (.bool false), (.bool false), (.bool false), (.bool false), (.bool false), (.bool false), (.bool false), (.bool false), (.bool false), (.bool false), (.bool false), (.bool false), (.bool false), (.bool false), (.bool false), (.bool false), (.bool false), (.bool false), (.bool false), (.bool false), (.bool false), (.bool false), (.bool false), (.bool false), (.bool false), (.bool false), (.bool false), (.bool false), (.bool false), (.bool false), (.bool false), (.bool false), (.bool false), (.bool false), (.bool false), (.bool false), (.bool false), (.bool false), (.bool false), (.bool false), (.bool false), (.bool false), (.bool false), (.bool false), (.bool false), (.bool false), (.bool false), (.bool false), (.bool false), (.bool false), (.bool false), (.bool false), (.bool false), (.bool false), (.bool false), (.bool false), (.bool false), (.bool false), (.bool false), (.bool false), (.bool false), (.bool false), (.bool false), (.bool false), (.bool false), (.bool false), (.bool false), (.bool false), (.bool false), (.bool false), (.bool false), (.bool false), (.bool false), (.bool false), (.bool false), (.bool false), (.bool false), (.bool false), (.bool false), (.bool false), (.bool false), (.bool false), (.bool false), (.bool false), (.bool false), (.bool false), (.bool false), (.bool false), (.bool false), (.bool false), (.bool false), (.bool false), (.bool false), (.bool false), (.bool false), (.bool false), (.bool false), (.bool false), (.bool false), (.bool false), (.bool false), (.bool false), (.bool false), (.bool false), (.bool false), (.bool false), (.bool false), (.bool false), (.bool false), (.bool false), (.bool false), (.bool false), (.bool false), (.bool false), (.bool false), (.bool false), (.bool false), (.bool false), (.bool false), (.bool false), (.bool false), (.bool false), (.bool false), (.bool false), (.bool false), (.bool false), (.bool false), (.bool false), (.bool false), (.bool false), (.bool false), (.bool false), (.bool false), (.bool false), (.bool false), (.bool false), (.bool false), (.bool false), (.bool false), (.bool false), (.bool false), (.bool false), (.bool false), (.bool false), (.bool false), (.bool false), (.bool false), (.bool false), (.bool false), (.bool false), (.bool false), (.bool false), (.bool false), (.bool false), (.bool false), (.bool false), (.bool false), (.bool false), (.bool false), (.bool false), (.bool false), (.bool false), (.bool false), (.bool false), (.bool false), (.bool false), (.bool false), (.bool false), (.bool false), (.bool false), (.bool false), (.bool false), (.bool false), (.bool false), (.bool false), (.bool false), (.bool false), (.bool false), (.bool false), (.bool false), (.bool false), (.bool false), (.bool false), (.bool false), (.bool false), (.bool false), (.bool false), (.bool false), (.bool false), (.bool false), (.bool false), (.bool false), (.bool false), (.bool false), (.bool false), (.bool false), (.bool false)])⟩) .nil
.nil))
(.node (some ⟨.func, 1, 8, some .nilf⟩) (.node (some ⟨(.ptr 332), 1, 8, some .nilp⟩) .nil
.nil)
(.node (some ⟨.func, 1, 8, some .nilf⟩) .nil
.nil)))
(.node none (.node (some ⟨.iface, 1, 16, some .nili⟩) (.node (some ⟨.func, 1, 8, some .nilf⟩) .nil
.nil)
(.node (some ⟨(.slice 434), 1, 24, some .nils⟩) .nil
.nil))
(.node (some ⟨(.array 5 78), 5, 40, some (.agg [(.int .u64 0), (.int .u64 0), (.int .u64 0), (.int .u64 0), (.int .u64 0)])⟩) (.node (some ⟨.func, 1, 8, some .nilf⟩) .nil
.nil)
(.node (some ⟨(.struct [(0, 488)]), 0, 0, some (.agg [])⟩) .nil
.nil))))
(.node (some ⟨(.struct [(0, 9), (1, 57)]), 2, 24, some (.agg [(.str []), .nilm])⟩) (.node (some ⟨.func, 1, 8, some .nilf⟩) (.node (some ⟨(.ptr 271), 1, 8, some .nilp⟩) (.node (some ⟨(.struct [(0, 9)]), 1, 16, some (.agg [(.str [])])⟩) .nil
.nil)
(.node (some ⟨.func, 1, 8, some .nilf⟩) .nil
.nil))
(.node none (.node (some ⟨(.ptr 301), 1, 8, some .nilp⟩) .nil
.nil)
(.node (some ⟨.func, 1, 8, some .nilf⟩) .nil
.nil)))
(.node (some ⟨(.struct [(0, 120), (3, 9)]), 4, 32, some (.agg [(.int .u32 0), (.int .i32 0), (.int .u32 0), (.str [])])⟩) (.node none (.node (some ⟨.func, 1, 8, some .nilf⟩) .nil
.nil)
(.node (some ⟨.func, 1, 8, some .nilf⟩) .nil
.nil))
(.node (some ⟨(.ptr 252), 1, 8, some .nilp⟩) (.node (some ⟨.func, 1, 8, some .nilf⟩) .nil
.nil)
.nil)))))
(.node (some ⟨(.struct [(0, 9), (1, 12)]), 2, 24, some (.agg [(.str []), (.int .u64 0)])⟩) (.node (some ⟨(.slice 9), 1, 24, some .nils⟩) (.node (some ⟨.func, 1, 8, some .nilf⟩) (.node (some ⟨(.struct [(0, 64), (1, 68)]), 2, 16, some (.agg [(.int .i64 0), .nilm])⟩) (.node (some ⟨(.struct [(0, 98), (1, 39), (2, 9), (3, 64), (4, 133)]), 5, 80, some (.agg [.nilp, .nils, (.str []), (.int .i64 0), .nils])⟩) (.node (some ⟨(.slice 361), 1, 24, some .nils⟩) .nil
.nil)
(.node (some ⟨(.struct [(0, 3), (1, 3)]), 2, 16, some (.agg [(.int .i64 0), (.int .i64 0)])⟩) .nil
.nil))
(.node (some ⟨.func, 1, 8, some .nilf⟩) (.node (some ⟨.func, 1, 8, some .nilf⟩) .nil
.nil)
(.node (some ⟨(.ptr 434), 1, 8, some .nilp⟩) .nil
.nil)))
(.node none (.node (some ⟨(.struct [(0, 165), (1, 108)]), 2, 32, some (.agg [.nilp, .nils])⟩) (.node (some ⟨.func, 1, 8, some .nilf⟩) .nil
.nil)
(.node (some ⟨(.struct [(0, 5), (1, 5)]), 2, 2, some (.agg [(.int .u8 0), (.int .u8 0)])⟩) .nil
.nil))
(.node none (.node (some ⟨.func, 1, 8, some .nilf⟩) .nil
.nil)
(.node (some ⟨(.struct [(0, 17), (1, 17), (2, 17), (3, 9)]), 4, 40, some (.agg [.nilp, .nilp, .nilp, (.str [])])⟩) .nil
.nil))))
(.node (some ⟨(.struct [(0, 32), (1, 9), (2, 3), (3, 3), (4, 22)]), 5, 64, some (.agg [(.int .i64 0), (.str []), (.int .i64 0), (.int .i64 0), .nils])⟩) (.node (some ⟨(.ptr 135), 1, 8, some .nilp⟩) (.node (some ⟨(.struct [(0, 147), (1, 148), (2, 120), (5, 4), (6, 30), (7, 28), (8, 4), (9, 64), (10, 93), (11, 50)]), 12, 112, some (.agg [.nilp, .nilp, (.int .u32 0), (.int .i32 0), (.int .u32 0), (.bool false), .nilp, .nilp, (.bool false), (.int .i64 0), .nils, .nils])⟩) (.node (some ⟨.func, 1, 8, some .nilf⟩) .nil
.nil)
(.node (some ⟨.func, 1, 8, some .nilf⟩) .nil
.nil))
(.node (some ⟨.func, 1, 8, some .nilf⟩) (.node (some ⟨.func, 1, 8, some .nilf⟩) .nil
.nil)
(.node (some ⟨(.int .i64), 1, 8, some (.int .i64 0)⟩) .nil
.nil)))
(.node (some ⟨(.struct [(0, 112), (0, 116)]), 2, 8, some (.agg [(.int .i32 0), (.int .u32 0)])⟩) (.node (some ⟨(.struct [(0, 61), (0, 21)]), 1, 4, some (.agg [(.int .i32 0)])⟩) (.node (some ⟨(.struct [(0, 9), (1, 9)]), 2, 32, some (.agg [(.str []), (.str [])])⟩) .nil
.nil)
(.node (some ⟨.func, 1, 8, some .nilf⟩) .nil
.nil))
(.node (some ⟨(.map 9 250), 1, 8, some .nilm⟩) (.node (some ⟨.func, 1, 8, some .nilf⟩) .nil
.nil)
.nil))))
(.node (some ⟨(.ptr 73), 1, 8, some .nilp⟩) (.node (some ⟨(.struct [(0, 3), (1, 3), (2, 3), (3, 3), (4, 5), (5, 44)]), 10, 96, some (.agg [(.int .i64 0), (.int .i64 0), (.int .i64 0), (.int .i64 0), (.int .u8 0), (.int .i64 0), (.str []), (.str []), (.int .i64 0), (.int .i64 0)])⟩) (.node (some ⟨(.int .u64), 1, 8, some (.int .u64 0)⟩) (.node (some ⟨(.struct [(0, 94), (1, 3), (2, 140), (4, 140)]), 6, 112, some (.agg [.nilp, (.int .i64 0), .nils, .nils, .nils, .nils])⟩) (.node (some ⟨(.struct [(0, 185), (1, 9), (2, 3), (3, 4), (4, 9), (5, 9), (6, 120), (9, 4), (10, 25)]), 12, 120, some (.agg [.nilp, (.str []), (.int .i64 0), (.bool false), (.str []), (.str []), (.int .u32 0), (.int .i32 0), (.int .u32 0), (.bool false), (.str []), (.str [])])⟩) .nil
.nil)
(.node (some ⟨.func, 1, 8, some .nilf⟩) .nil
.nil))
(.node (some ⟨.func, 1, 8, some .nilf⟩) (.node (some ⟨(.array 64 110), 64, 256, some (.agg [(.int .u32 0), (.int .u32 0), (.int .u32 0), (.int .u32 0), (.int .u32 0), (.int .u32 0), (.int .u32 0), (.int .u32 0), (.int .u32 0), (.int .u32 0), (.int .u32 0), (.int .u32 0), (.int .u32 0), (.int .u32 0), (.int .u32 0), (.int .u32 0), (.int .u32 0), (.int .u32 0), (.int .u32 0), (.int .u32 0), (.int .u32 0), (.int .u32 0), (.int .u32 0), (.int .u32 0), (.int .u32 0), (.int .u32 0), (.int .u32 0), (.int .u32 0), (.int .u32 0), (.int .u32 0), (.int .u32 0), (.int .u32 0), (.int .u32 0), (.int .u32 0), (.int .u32 0), (.int .u32 0), (.int .u32 0), (.int .u32 0), (.int .u32 0), (.int .u32 0), (.int .u32 0), (.int .u32 0), (.int .u32 0), (.int .u32 0), (.int .u32 0), (.int .u32 0), (.int .u32 0), (.int .u32 0), (.int .u32 0), (.int .u32 0), (.int .u32 0), (.int .u32 0), (.int .u32 0), (.int .u32 0), (.int .u32 0), (.int .u32 0), (.int .u32 0), (.int .u32 0), (.int .u32 0), (.int .u32 0), (.int .u32 0), (.int .u32 0), (.int .u32 0), (.int .u32 0)])⟩) .nil
.nil)
(.node (some ⟨.func, 1, 8, some .nilf⟩) .nil
.nil)))
(.node (some ⟨(.int .u32), 1, 4, some (.int .u32 0)⟩) (.node (some ⟨(.struct [(0, 61), (0, 110)]), 1, 4, some (.agg [(.int .u32 0)])⟩) (.node (some ⟨.func, 1, 8, some .nilf⟩) .nil
.nil)
(.node (some ⟨(.struct [(0, 429), (1, 429), (2, 429)]), 3, 6, some (.agg [(.int .u16 0), (.int .u16 0), (.int .u16 0)])⟩) .nil
.nil))
(.node (some ⟨.func, 1, 8, some .nilf⟩) (.node (some ⟨.func, 1, 8, some .nilf⟩) .nil
.nil)
(.node (some ⟨(.int .i32), 1, 4, some (.int .i32 0)⟩) .nil
.nil))))
(.node (some ⟨(.struct []), 0, 0, some (.agg [])⟩) (.node (some ⟨(.ptr 150), 1, 8, some .nilp⟩) (.node (some ⟨.func, 1, 8, some .nilf⟩) .nil
(.node (some ⟨.func, 1, 8, some .nilf⟩) .nil
.nil))
(.node (some ⟨(.ptr 5), 1, 8, some .nilp⟩) (.node (some ⟨.func, 1, 8, some .nilf⟩) .nil
.nil)
(.node (some ⟨.func, 1, 8, some .nilf⟩) .nil
.nil)))
(.node (some ⟨.func, 1, 8, some .nilf⟩) (.node (some ⟨.func, 1, 8, some .nilf⟩) .nil
(.node (some ⟨.func, 1, 8, some .nilf⟩) .nil
.nil))
(.node (some ⟨(.struct [(0, 4), (1, 9), (2, 3), (3, 9)]), 4, 48, some (.agg [(.bool false), (.str []), (.int .i64 0), (.str [])])⟩) (.node (some ⟨(.array 20 78), 20, 160, some (.agg [(.int .u64 0), (.int .u64 0), (.int .u64 0), (.int .u64 0), (.int .u64 0), (.int .u64 0), (.int .u64 0), (.int .u64 0), (.int .u64 0), (.int .u64 0), (.int .u64 0), (.int .u64 0), (.int .u64 0), (.int .u64 0), (.int .u64 0), (.int .u64 0), (.int .u64 0), (.int .u64 0), (.int .u64 0), (.int .u64 0)])⟩) .nil
.nil)
.nil))))))))
noncomputable def fnT : T TE := (.node none (.node none (.node (some (.fn Tryz.f3)) (.node (some (.fn Tryz.f7)) (.node (some (.fn Tryz.f15)) (.node (some (.fn Tryz.f31)) (.node (some (.fn Tryz.f63)) (.node (some (.fn Tryz.f127)) (.node (some (.fn Tryz.f255)) .nil
.nil)
.nil)
(.node (some (.fn Tryz.f191)) (.node (some (.fn Tryz.f319)) .nil
.nil)
.nil))
(.node (some (.fn Tryz.f95)) (.node (some (.fn Tryz.f159)) (.node (some (.fn Tryz.f287)) .nil
.nil)
.nil)
(.node none (.node (some (.fn Tryz.f351)) .nil
.nil)
.nil)))
(.node (some (.fn Tryz.f47)) (.node (some (.fn Tryz.f79)) (.node (some (.fn Tryz.f143)) (.node (some (.fn Tryz.f271)) .nil
.nil)
.nil)
(.node (some (.fn Tryz.f207)) (.node (some (.fn Tryz.f335)) .nil
.nil)
.nil))
(.node (some (.fn Tryz.f111)) (.node (some (.fn Tryz.f175)) (.node (some (.fn Tryz.f303)) .nil
.nil)
.nil)
(.node (some (.fn Tryz.f239)) (.node (some (.fn Tryz.f367)) .nil
.nil)
.nil))))
(.node (some (.fn Tryz.f23)) (.node (some (.fn Tryz.f39)) (.node (some (.fn Tryz.f71)) (.node (some (.fn Tryz.f135)) (.node (some (.fn Tryz.f263)) .nil
.nil)
.nil)
(.node (some (.fn Tryz.f199)) (.node (some (.fn Tryz.f327)) .nil
.nil)
.nil))
(.node (some (.fn Tryz.f103)) (.node (some (.fn Tryz.f167)) (.node (some (.fn Tryz.f295)) .nil
.nil)
.nil)
(.node (some (.fn Tryz.f231)) (.node (some (.fn Tryz.f359)) .nil
.nil)
.nil)))
(.node (some (.intr 7)) (.node (some (.fn Tryz.f87)) (.node (some (.intr 29)) (.node (some (.fn Tryz.f279)) .nil
.nil)
.nil)
(.node (some (.fn Tryz.f215)) (.node (some (.fn Tryz.f343)) .nil
.nil)
.nil))
(.node (some (.fn Tryz.f119)) (.node none (.node (some (.fn Tryz.f311)) .nil
.nil)
.nil)
(.node (some (.fn Tryz.f247)) (.node (some (.fn Tryz.f375)) .nil
.nil)
.nil)))))
(.node (some (.fn Tryz.f11)) (.node (some (.fn Tryz.f19)) (.node (some (.fn Tryz.f35)) (.node (some (.fn Tryz.f67)) (.node (some (.fn Tryz.f131)) .nil
.nil)
(.node (some (.fn Tryz.f195)) (.node (some (.fn Tryz.f323)) .nil
.nil)
.nil))
(.node (some (.fn Tryz.f99)) (.node (some (.fn Tryz.f163)) (.node (some (.fn Tryz.f291)) .nil
.nil)
.nil)
(.node (some (.fn Tryz.f227)) (.node (some (.fn Tryz.f355)) .nil
.nil)
.nil)))
(.node (some (.fn Tryz.f51)) (.node (some (.fn Tryz.f83)) (.node (some (.intr 17)) (.node (some (.fn Tryz.f275)) .nil
.nil)
.nil)
(.node (some (.fn Tryz.f211)) (.node (some (.fn Tryz.f339)) .nil
.nil)
.nil))
(.node (some (.fn Tryz.f115)) (.node (some (.fn Tryz.f179)) (.node (some (.fn Tryz.f307)) .nil
.nil)
.nil)
(.node (some (.fn Tryz.f243)) (.node (some (.fn Tryz.f371)) .nil
.nil)
.nil))))
(.node (some (.fn Tryz.f27)) (.node (some (.fn Tryz.f43)) (.node (some (.fn Tryz.f75)) (.node (some (.fn Tryz.f139)) (.node (some (.fn Tryz.f267)) .nil
.nil)
.nil)
(.node (some (.fn Tryz.f203)) (.node (some (.fn Tryz.f331)) .nil
.nil)
.nil))
(.node (some (.fn Tryz.f107)) (.node (some (.fn Tryz.f171)) (.node (some (.fn Tryz.f299)) .nil
.nil)
.nil)
(.node (some (.fn Tryz.f235)) (.node (some (.fn Tryz.f363)) .nil
.nil)
.nil)))
(.node (some (.fn Tryz.f59)) (.node (some (.fn Tryz.f91)) (.node (some (.fn Tryz.f155)) (.node (some (.fn Tryz.f283)) .nil
.nil)
.nil)
(.node (some (.fn Tryz.f219)) (.node (some (.fn Tryz.f347)) .nil
.nil)
.nil))
(.node (some (.fn Tryz.f123)) (.node (some (.fn Tryz.f187)) (.node (some (.fn Tryz.f315)) .nil
.nil)
.nil)
(.node (some (.fn Tryz.f251)) .nil
.nil))))))
(.node (some (.fn Tryz.f5)) (.node (some (.fn Tryz.f9)) (.node (some (.fn Tryz.f17)) (.node (some (.fn Tryz.f33)) (.node (some (.fn Tryz.f65)) (.node (some (.fn Tryz.f129)) .nil
.nil)
(.node (some (.fn Tryz.f193)) (.node (some (.fn Tryz.f321)) .nil
.nil)
.nil))
(.node (some (.fn Tryz.f97)) (.node (some (.fn Tryz.f161)) (.node (some (.fn Tryz.f289)) .nil
.nil)
.nil)
(.node none (.node (some (.fn Tryz.f353)) .nil
.nil)
.nil)))
(.node (some (.fn Tryz.f49)) (.node (some (.fn Tryz.f81)) (.node (some (.fn Tryz.f145)) (.node (some (.fn Tryz.f273)) .nil
.nil)
.nil)
(.node (some (.fn Tryz.f209)) (.node (some (.fn Tryz.f337)) .nil
.nil)
.nil))
(.node (some (.fn Tryz.f113)) (.node (some (.fn Tryz.f177)) (.node (some (.fn Tryz.f305)) .nil
.nil)
.nil)
(.node (some (.fn Tryz.f241)) (.node (some (.fn Tryz.f369)) .nil
.nil)
.nil))))
(.node (some (.fn Tryz.f25)) (.node (some (.intr 6)) (.node (some (.fn Tryz.f73)) (.node (some (.fn Tryz.f137)) (.node (some (.intr 13)) .nil
.nil)
.nil)
(.node (some (.fn Tryz.f201)) (.node (some (.fn Tryz.f329)) .nil
.nil)
.nil))
(.node (some (.fn Tryz.f105)) (.node (some (.fn Tryz.f169)) (.node (some (.fn Tryz.f297)) .nil
.nil)
.nil)
(.node (some (.fn Tryz.f233)) (.node (some (.fn Tryz.f361)) .nil
.nil)
.nil)))
(.node (some (.fn Tryz.f57)) (.node (some (.fn Tryz.f89)) (.node (some (.fn Tryz.f153)) (.node (some (.fn Tryz.f281)) .nil
.nil)
.nil)
(.node (some (.fn Tryz.f217)) (.node (some (.fn Tryz.f345)) .nil
.nil)
.nil))
(.node (some (.fn Tryz.f121)) (.node (some (.fn Tryz.f185)) (.node (some (.fn Tryz.f313)) .nil
.nil)
.nil)
(.node (some (.fn Tryz.f249)) (.node (some (.fn Tryz.f377)) .nil
.nil)
.nil)))))
(.node (some (.fn Tryz.f13)) (.node (some (.fn Tryz.f21)) (.node (some (.fn Tryz.f37)) (.node (some (.fn Tryz.f69)) (.node (some (.fn Tryz.f133)) .nil
.nil)
(.node (some (.intr 3242)) (.node (some (.fn Tryz.f325)) .nil
.nil)
.nil))
(.node (some (.fn Tryz.f101)) (.node (some (.fn Tryz.f165)) (.node (some (.fn Tryz.f293)) .nil
.nil)
.nil)
(.node (some (.fn Tryz.f229)) (.node (some (.fn Tryz.f357)) .nil
.nil)
.nil)))
(.node (some (.fn Tryz.f53)) (.node (some (.fn Tryz.f85)) (.node (some (.fn Tryz.f149)) (.node (some (.fn Tryz.f277)) .nil
.nil)
.nil)
(.node (some (.fn Tryz.f213)) (.node (some (.fn Tryz.f341)) .nil
.nil)
.nil))
(.node (some (.fn Tryz.f117)) (.node (some (.fn Tryz.f181)) (.node (some (.fn Tryz.f309)) .nil
.nil)
.nil)
(.node (some (.fn Tryz.f245)) (.node (some (.fn Tryz.f373)) .nil
.nil)
.nil))))
(.node (some (.fn Tryz.f29)) (.node (some (.intr 1)) (.node (some (.fn Tryz.f77)) (.node (some (.fn Tryz.f141)) (.node (some (.fn Tryz.f269)) .nil
.nil)
.nil)
(.node (some (.fn Tryz.f205)) (.node (some (.fn Tryz.f333)) .nil
.nil)
.nil))
(.node (some (.fn Tryz.f109)) (.node (some (.fn Tryz.f173)) (.node (some (.fn Tryz.f301)) .nil
.nil)
.nil)
(.node (some (.intr 15)) (.node (some (.fn Tryz.f365)) .nil
.nil)
.nil)))
(.node (some (.fn Tryz.f61)) (.node (some (.fn Tryz.f93)) (.node (some (.fn Tryz.f157)) (.node (some (.fn Tryz.f285)) .nil
.nil)
.nil)
(.node (some (.fn Tryz.f221)) (.node (some (.fn Tryz.f349)) .nil
.nil)
.nil))
(.node (some (.fn Tryz.f125)) (.node (some (.fn Tryz.f189)) (.node (some (.fn Tryz.f317)) .nil
.nil)
.nil)
(.node (some (.fn Tryz.f253)) .nil
.nil)))))))
(.node none (.node none (.node (some (.fn Tryz.f8)) (.node (some (.fn Tryz.f16)) (.node (some (.fn Tryz.f32)) (.node (some (.fn Tryz.f64)) (.node (some (.fn Tryz.f128)) .nil
.nil)
(.node (some (.fn Tryz.f192)) (.node (some (.fn Tryz.f320)) .nil
.nil)
.nil))
(.node (some (.fn Tryz.f96)) (.node (some (.fn Tryz.f160)) (.node (some (.fn Tryz.f288)) .nil
.nil)
.nil)
(.node none (.node (some (.fn Tryz.f352)) .nil
.nil)
.nil)))
(.node (some (.intr 9)) (.node (some (.fn Tryz.f80)) (.node (some (.fn Tryz.f144)) (.node (some (.fn Tryz.f272)) .nil
.nil)
.nil)
(.node (some (.fn Tryz.f208)) (.node (some (.fn Tryz.f336)) .nil
.nil)
.nil))
(.node (some (.fn Tryz.f112)) (.node (some (.fn Tryz.f176)) (.node (some (.fn Tryz.f304)) .nil
.nil)
.nil)
(.node (some (.fn Tryz.f240)) (.node (some (.fn Tryz.f368)) .nil
.nil)
.nil))))
(.node (some (.fn Tryz.f24)) (.node (some (.fn Tryz.f40)) (.node (some (.fn Tryz.f72)) (.node (some (.intr 18)) (.node (some (.fn Tryz.f264)) .nil
.nil)
.nil)
(.node (some (.fn Tryz.f200)) (.node (some (.fn Tryz.f328)) .nil
.nil)
.nil))
(.node (some (.fn Tryz.f104)) (.node (some (.fn Tryz.f168)) (.node (some (.fn Tryz.f296)) .nil
.nil)
.nil)
(.node (some (.fn Tryz.f232)) (.node (some (.fn Tryz.f360)) .nil
.nil)
.nil)))
(.node (some (.fn Tryz.f56)) (.node (some (.fn Tryz.f88)) (.node (some (.intr 27)) (.node (some (.fn Tryz.f280)) .nil
.nil)
.nil)
(.node (some (.intr 8)) (.node (some (.fn Tryz.f344)) .nil
.nil)
.nil))
(.node (some (.fn Tryz.f120)) (.node none (.node (some (.fn Tryz.f312)) .nil
.nil)
.nil)
(.node (some (.fn Tryz.f248)) (.node (some (.fn Tryz.f376)) .nil
.nil)
.nil)))))
(.node (some (.fn Tryz.f12)) (.node (some (.fn Tryz.f20)) (.node (some (.fn Tryz.f36)) (.node (some (.fn Tryz.f68)) (.node (some (.fn Tryz.f132)) .nil
.nil)
(.node (some (.fn Tryz.f196)) (.node (some (.fn Tryz.f324)) .nil
.nil)
.nil))
(.node (some (.fn Tryz.f100)) (.node (some (.fn Tryz.f164)) (.node (some (.fn Tryz.f292)) .nil
.nil)
.nil)
(.node none (.node (some (.fn Tryz.f356)) .nil
.nil)
.nil)))
(.node (some (.fn Tryz.f52)) (.node (some (.fn Tryz.f84)) (.node (some (.fn Tryz.f148)) (.node (some (.fn Tryz.f276)) .nil
.nil)
.nil)
(.node (some (.fn Tryz.f212)) (.node (some (.fn Tryz.f340)) .nil
.nil)
.nil))
(.node (some (.fn Tryz.f116)) (.node (some (.fn Tryz.f180)) (.node (some (.fn Tryz.f308)) .nil
.nil)
.nil)
(.node (some (.fn Tryz.f244)) (.node (some (.fn Tryz.f372)) .nil
.nil)
.nil))))
(.node (some (.fn Tryz.f28)) (.node (some (.fn Tryz.f44)) (.node none (.node (some (.intr 19)) (.node (some (.fn Tryz.f268)) .nil
.nil)
.nil)
(.node (some (.fn Tryz.f204)) (.node (some (.fn Tryz.f332)) .nil
.nil)
.nil))
(.node (some (.fn Tryz.f108)) (.node (some (.fn Tryz.f172)) (.node (some (.fn Tryz.f300)) .nil
.nil)
.nil)
(.node (some (.fn Tryz.f236)) (.node (some (.fn Tryz.f364)) .nil
.nil)
.nil)))
(.node (some (.fn Tryz.f60)) (.node (some (.fn Tryz.f92)) (.node (some (.fn Tryz.f156)) (.node (some (.fn Tryz.f284)) .nil
.nil)
.nil)
(.node (some (.fn Tryz.f220)) (.node (some (.fn Tryz.f348)) .nil
.nil)
.nil))
(.node (some (.fn Tryz.f124)) (.node (some (.fn Tryz.f188)) (.node (some (.fn Tryz.f316)) .nil
.nil)
.nil)
(.node (some (.fn Tryz.f252)) .nil
.nil))))))
(.node (some (.fn Tryz.f6)) (.node (some (.fn Tryz.f10)) (.node (some (.fn Tryz.f18)) (.node (some (.fn Tryz.f34)) (.node (some (.fn Tryz.f66)) (.node (some (.fn Tryz.f130)) .nil
.nil)
(.node (some (.fn Tryz.f194)) (.node (some (.intr 14)) .nil
.nil)
.nil))
(.node (some (.fn Tryz.f98)) (.node (some (.fn Tryz.f162)) .nil
.nil)
(.node none (.node (some (.fn Tryz.f354)) .nil
.nil)
.nil)))
(.node (some (.fn Tryz.f50)) (.node (some (.intr 2005)) (.node (some (.intr 11)) (.node (some (.fn Tryz.f274)) .nil
.nil)
.nil)
(.node (some (.fn Tryz.f210)) (.node (some (.fn Tryz.f338)) .nil
.nil)
.nil))
(.node (some (.fn Tryz.f114)) (.node (some (.fn Tryz.f178)) (.node (some (.fn Tryz.f306)) .nil
.nil)
.nil)
(.node (some (.fn Tryz.f242)) (.node (some (.fn Tryz.f370)) .nil
.nil)
.nil))))
(.node (some (.fn Tryz.f26)) (.node (some (.fn Tryz.f42)) (.node (some (.fn Tryz.f74)) (.node (some (.fn Tryz.f138)) (.node (some (.fn Tryz.f266)) .nil
.nil)
.nil)
(.node (some (.fn Tryz.f202)) (.node (some (.fn Tryz.f330)) .nil
.nil)
.nil))
(.node (some (.fn Tryz.f106)) (.node (some (.fn Tryz.f170)) (.node (some (.fn Tryz.f298)) .nil
.nil)
.nil)
(.node (some (.fn Tryz.f234)) (.node (some (.fn Tryz.f362)) .nil
.nil)
.nil)))
(.node (some (.fn Tryz.f58)) (.node (some (.fn Tryz.f90)) (.node (some (.fn Tryz.f154)) (.node (some (.fn Tryz.f282)) .nil
.nil)
.nil)
(.node (some (.fn Tryz.f218)) (.node (some (.fn Tryz.f346)) .nil
.nil)
.nil))
(.node (some (.fn Tryz.f122)) (.node (some (.fn Tryz.f186)) (.node (some (.fn Tryz.f314)) .nil
.nil)
.nil)
(.node (some (.fn Tryz.f250)) .nil
.nil)))))
(.node (some (.fn Tryz.f14)) (.node (some (.fn Tryz.f22)) (.node (some (.fn Tryz.f38)) (.node (some (.fn Tryz.f70)) (.node (some (.intr 1167)) .nil
.nil)
(.node (some (.intr 1242195)) (.node (some (.fn Tryz.f326)) .nil
.nil)
.nil))
(.node (some (.fn Tryz.f102)) (.node (some (.fn Tryz.f166)) (.node (some (.fn Tryz.f294)) .nil
.nil)
.nil)
(.node (some (.fn Tryz.f230)) (.node (some (.fn Tryz.f358)) .nil
.nil)
.nil)))
(.node (some (.intr 5)) (.node (some (.fn Tryz.f86)) (.node (some (.fn Tryz.f150)) (.node (some (.fn Tryz.f278)) .nil
.nil)
.nil)
(.node (some (.fn Tryz.f214)) (.node (some (.fn Tryz.f342)) .nil
.nil)
.nil))
(.node (some (.fn Tryz.f118)) (.node (some (.fn Tryz.f182)) (.node (some (.fn Tryz.f310)) .nil
.nil)
.nil)
(.node (some (.fn Tryz.f246)) (.node (some (.fn Tryz.f374)) .nil
.nil)
.nil))))
(.node (some (.fn Tryz.f30)) (.node (some (.fn Tryz.f46)) (.node (some (.fn Tryz.f78)) (.node (some (.fn Tryz.f142)) (.node (some (.fn Tryz.f270)) .nil
.nil)
.nil)
(.node (some (.fn Tryz.f206)) (.node (some (.fn Tryz.f334)) .nil
.nil)
.nil))
(.node (some (.fn Tryz.f110)) (.node (some (.fn Tryz.f174)) (.node (some (.fn Tryz.f302)) .nil
.nil)
.nil)
(.node (some (.fn Tryz.f238)) (.node (some (.fn Tryz.f366)) .nil
.nil)
.nil)))
(.node (some (.fn Tryz.f62)) (.node (some (.fn Tryz.f94)) (.node (some (.fn Tryz.f158)) (.node (some (.fn Tryz.f286)) .nil
.nil)
.nil)
(.node (some (.fn Tryz.f222)) (.node (some (.fn Tryz.f350)) .nil
.nil)
.nil))
(.node (some (.fn Tryz.f126)) (.node (some (.fn Tryz.f190)) (.node (some (.fn Tryz.f318)) .nil
.nil)
.nil)
(.node (some (.fn Tryz.f254)) .nil
.nil))))))))
end Go.Proofs
end
