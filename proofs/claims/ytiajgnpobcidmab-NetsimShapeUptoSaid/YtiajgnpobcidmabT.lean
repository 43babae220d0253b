/- The table of this seat's types (printed by a program of this session). -/
import Derived.Test.YtiajgnpobcidmabRows
import Derived.Test.YtiajgnpobcidmabVa
import Derived.Test.YtiajgnpobcidmabVb
import Derived.Test.YtiajgnpobcidmabVc
import Derived.Test.YtiajgnpobcidmabVd
set_option linter.unusedSimpArgs false
set_option linter.unusedVariables false

namespace Go.Proofs
set_option maxRecDepth 100000
-- func()
abbrev Try.vt1 : V.TI := ⟨.func, 1, 8, [.nilFunc]⟩
theorem Try.vt1OK : V.Ent Try.prog 1 Try.vt1 := .mk' (by kernel_rfl) (by kernel_rfl) rfl rfl rfl
-- int64
abbrev Try.vt2 : V.TI := ⟨.int .i64, 1, 8, [.int .i64 0]⟩
theorem Try.vt2OK : V.Ent Try.prog 2 Try.vt2 := .mk' (by kernel_rfl) (by kernel_rfl) rfl rfl rfl
-- int
abbrev Try.vt3 : V.TI := ⟨.int .i64, 1, 8, [.int .i64 0]⟩
theorem Try.vt3OK : V.Ent Try.prog 3 Try.vt3 := .mk' (by kernel_rfl) (by kernel_rfl) rfl rfl rfl
-- bool
abbrev Try.vt4 : V.TI := ⟨.bool, 1, 1, [.bool false]⟩
theorem Try.vt4OK : V.Ent Try.prog 4 Try.vt4 := .mk' (by kernel_rfl) (by kernel_rfl) rfl rfl rfl
-- uint8
abbrev Try.vt5 : V.TI := ⟨.int .u8, 1, 1, [.int .u8 0]⟩
theorem Try.vt5OK : V.Ent Try.prog 5 Try.vt5 := .mk' (by kernel_rfl) (by kernel_rfl) rfl rfl rfl
-- string
abbrev Try.vt9 : V.TI := ⟨.str, 1, 16, [.string ⟨#[]⟩]⟩
theorem Try.vt9OK : V.Ent Try.prog 9 Try.vt9 := .mk' (by kernel_rfl) (by kernel_rfl) rfl rfl rfl
-- int32
abbrev Try.vt21 : V.TI := ⟨.int .i32, 1, 4, [.int .i32 0]⟩
theorem Try.vt21OK : V.Ent Try.prog 21 Try.vt21 := .mk' (by kernel_rfl) (by kernel_rfl) rfl rfl rfl
-- []uint8
abbrev Try.vt22 : V.TI := ⟨.slice 5, 1, 24, [.slice none 0 0]⟩
theorem Try.vt22OK : V.Ent Try.prog 22 Try.vt22 := .mk' (by kernel_rfl) (by kernel_rfl) rfl rfl rfl
-- [][5]uint8
abbrev Try.vt23 : V.TI := ⟨.slice 128, 1, 24, [.slice none 0 0]⟩
theorem Try.vt23OK : V.Ent Try.prog 23 Try.vt23 := .mk' (by kernel_rfl) (by kernel_rfl) rfl rfl rfl
-- [][4]uint8
abbrev Try.vt24 : V.TI := ⟨.slice 54, 1, 24, [.slice none 0 0]⟩
theorem Try.vt24OK : V.Ent Try.prog 24 Try.vt24 := .mk' (by kernel_rfl) (by kernel_rfl) rfl rfl rfl
-- struct { In []uint8; Gates [][5]uint8; Out [][4]uint8 }
abbrev Try.vt25 : V.TI := ⟨.struct [(0, 22), (1, 23), (2, 24)], 3, 72, [.slice none 0 0, .slice none 0 0, .slice none 0 0]⟩
theorem Try.vt25OK : V.Ent Try.prog 25 Try.vt25 := .mk' (by kernel_rfl) (by kernel_rfl) rfl rfl rfl
-- ref22.Raw
abbrev Try.vt26 : V.TI := ⟨.struct [(0, 22), (1, 23), (2, 24)], 3, 72, [.slice none 0 0, .slice none 0 0, .slice none 0 0]⟩
theorem Try.vt26OK : V.Ent Try.prog 26 Try.vt26 := .mk' (by kernel_rfl) (by kernel_rfl) rfl rfl rfl
-- []int
abbrev Try.vt27 : V.TI := ⟨.slice 3, 1, 24, [.slice none 0 0]⟩
theorem Try.vt27OK : V.Ent Try.prog 27 Try.vt27 := .mk' (by kernel_rfl) (by kernel_rfl) rfl rfl rfl
-- [][]int
abbrev Try.vt28 : V.TI := ⟨.slice 27, 1, 24, [.slice none 0 0]⟩
theorem Try.vt28OK : V.Ent Try.prog 28 Try.vt28 := .mk' (by kernel_rfl) (by kernel_rfl) rfl rfl rfl
-- struct { Regs []int; Mems [][]int }
abbrev Try.vt29 : V.TI := ⟨.struct [(0, 27), (1, 28)], 2, 48, [.slice none 0 0, .slice none 0 0]⟩
theorem Try.vt29OK : V.Ent Try.prog 29 Try.vt29 := .mk' (by kernel_rfl) (by kernel_rfl) rfl rfl rfl
-- api.ProcState
abbrev Try.vt30 : V.TI := ⟨.struct [(0, 27), (1, 28)], 2, 48, [.slice none 0 0, .slice none 0 0]⟩
theorem Try.vt30OK : V.Ent Try.prog 30 Try.vt30 := .mk' (by kernel_rfl) (by kernel_rfl) rfl rfl rfl
-- []api.Head
abbrev Try.vt31 : V.TI := ⟨.slice 52, 1, 24, [.slice none 0 0]⟩
theorem Try.vt31OK : V.Ent Try.prog 31 Try.vt31 := .mk' (by kernel_rfl) (by kernel_rfl) rfl rfl rfl
-- []bool
abbrev Try.vt32 : V.TI := ⟨.slice 4, 1, 24, [.slice none 0 0]⟩
theorem Try.vt32OK : V.Ent Try.prog 32 Try.vt32 := .mk' (by kernel_rfl) (by kernel_rfl) rfl rfl rfl
-- struct { Heads []api.Head; Rooms []bool }
abbrev Try.vt33 : V.TI := ⟨.struct [(0, 31), (1, 32)], 2, 48, [.slice none 0 0, .slice none 0 0]⟩
theorem Try.vt33OK : V.Ent Try.prog 33 Try.vt33 := .mk' (by kernel_rfl) (by kernel_rfl) rfl rfl rfl
-- ref12.In
abbrev Try.vt34 : V.TI := ⟨.struct [(0, 31), (1, 32)], 2, 48, [.slice none 0 0, .slice none 0 0]⟩
theorem Try.vt34OK : V.Ent Try.prog 34 Try.vt34 := .mk' (by kernel_rfl) (by kernel_rfl) rfl rfl rfl
-- int8
abbrev Try.vt35 : V.TI := ⟨.int .i8, 1, 1, [.int .i8 0]⟩
theorem Try.vt35OK : V.Ent Try.prog 35 Try.vt35 := .mk' (by kernel_rfl) (by kernel_rfl) rfl rfl rfl
-- [2]int8
abbrev Try.vt36 : V.TI := ⟨.array 2 35, 2, 2, [.int .i8 0, .int .i8 0]⟩
theorem Try.vt36OK : V.Ent Try.prog 36 Try.vt36 := .mk' (by kernel_rfl) (by kernel_rfl) rfl rfl rfl
-- struct { S api.ProcState; In ref12.In; V []uint8; K int; Ends [2]int8 }
abbrev Try.vt37 : V.TI := ⟨.struct [(0, 30), (2, 34), (4, 22), (5, 3), (6, 36)], 8, 136, [.slice none 0 0, .slice none 0 0, .slice none 0 0, .slice none 0 0, .slice none 0 0, .int .i64 0, .int .i8 0, .int .i8 0]⟩
theorem Try.vt37OK : V.Ent Try.prog 37 Try.vt37 := .mk' (by kernel_rfl) (by kernel_rfl) rfl rfl rfl
-- law22.Odd
abbrev Try.vt38 : V.TI := ⟨.struct [(0, 30), (2, 34), (4, 22), (5, 3), (6, 36)], 8, 136, [.slice none 0 0, .slice none 0 0, .slice none 0 0, .slice none 0 0, .slice none 0 0, .int .i64 0, .int .i8 0, .int .i8 0]⟩
theorem Try.vt38OK : V.Ent Try.prog 38 Try.vt38 := .mk' (by kernel_rfl) (by kernel_rfl) rfl rfl rfl
-- func() bool
abbrev Try.vt39 : V.TI := ⟨.func, 1, 8, [.nilFunc]⟩
theorem Try.vt39OK : V.Ent Try.prog 39 Try.vt39 := .mk' (by kernel_rfl) (by kernel_rfl) rfl rfl rfl
-- func(law22.Odd) bool
abbrev Try.vt40 : V.TI := ⟨.func, 1, 8, [.nilFunc]⟩
theorem Try.vt40OK : V.Ent Try.prog 40 Try.vt40 := .mk' (by kernel_rfl) (by kernel_rfl) rfl rfl rfl
-- []api.Wire
abbrev Try.vt41 : V.TI := ⟨.slice 50, 1, 24, [.slice none 0 0]⟩
theorem Try.vt41OK : V.Ent Try.prog 41 Try.vt41 := .mk' (by kernel_rfl) (by kernel_rfl) rfl rfl rfl
-- []api.Gate
abbrev Try.vt42 : V.TI := ⟨.slice 105, 1, 24, [.slice none 0 0]⟩
theorem Try.vt42OK : V.Ent Try.prog 42 Try.vt42 := .mk' (by kernel_rfl) (by kernel_rfl) rfl rfl rfl
-- struct { In []api.Wire; Gates []api.Gate; Out []api.Wire; Drive []int }
abbrev Try.vt43 : V.TI := ⟨.struct [(0, 41), (1, 42), (2, 41), (3, 27)], 4, 96, [.slice none 0 0, .slice none 0 0, .slice none 0 0, .slice none 0 0]⟩
theorem Try.vt43OK : V.Ent Try.prog 43 Try.vt43 := .mk' (by kernel_rfl) (by kernel_rfl) rfl rfl rfl
-- api.Net
abbrev Try.vt44 : V.TI := ⟨.struct [(0, 41), (1, 42), (2, 41), (3, 27)], 4, 96, [.slice none 0 0, .slice none 0 0, .slice none 0 0, .slice none 0 0]⟩
theorem Try.vt44OK : V.Ent Try.prog 44 Try.vt44 := .mk' (by kernel_rfl) (by kernel_rfl) rfl rfl rfl
-- func(ref22.Raw) api.Net
abbrev Try.vt45 : V.TI := ⟨.func, 1, 8, [.nilFunc]⟩
theorem Try.vt45OK : V.Ent Try.prog 45 Try.vt45 := .mk' (by kernel_rfl) (by kernel_rfl) rfl rfl rfl
-- struct { Fires bool; S api.ProcState; Pops []bool; Puts []api.Head }
abbrev Try.vt46 : V.TI := ⟨.struct [(0, 4), (1, 30), (3, 32), (4, 31)], 5, 104, [.bool false, .slice none 0 0, .slice none 0 0, .slice none 0 0, .slice none 0 0]⟩
theorem Try.vt46OK : V.Ent Try.prog 46 Try.vt46 := .mk' (by kernel_rfl) (by kernel_rfl) rfl rfl rfl
-- api.Firing
abbrev Try.vt47 : V.TI := ⟨.struct [(0, 4), (1, 30), (3, 32), (4, 31)], 5, 104, [.bool false, .slice none 0 0, .slice none 0 0, .slice none 0 0, .slice none 0 0]⟩
theorem Try.vt47OK : V.Ent Try.prog 47 Try.vt47 := .mk' (by kernel_rfl) (by kernel_rfl) rfl rfl rfl
-- func(api.Net, api.ProcState, ref12.In) api.Firing
abbrev Try.vt48 : V.TI := ⟨.func, 1, 8, [.nilFunc]⟩
theorem Try.vt48OK : V.Ent Try.prog 48 Try.vt48 := .mk' (by kernel_rfl) (by kernel_rfl) rfl rfl rfl
-- struct { Kind int; I int; Bit int }
abbrev Try.vt49 : V.TI := ⟨.struct [(0, 3), (1, 3), (2, 3)], 3, 24, [.int .i64 0, .int .i64 0, .int .i64 0]⟩
theorem Try.vt49OK : V.Ent Try.prog 49 Try.vt49 := .mk' (by kernel_rfl) (by kernel_rfl) rfl rfl rfl
-- api.Wire
abbrev Try.vt50 : V.TI := ⟨.struct [(0, 3), (1, 3), (2, 3)], 3, 24, [.int .i64 0, .int .i64 0, .int .i64 0]⟩
theorem Try.vt50OK : V.Ent Try.prog 50 Try.vt50 := .mk' (by kernel_rfl) (by kernel_rfl) rfl rfl rfl
-- struct { Has bool; V int }
abbrev Try.vt51 : V.TI := ⟨.struct [(0, 4), (1, 3)], 2, 16, [.bool false, .int .i64 0]⟩
theorem Try.vt51OK : V.Ent Try.prog 51 Try.vt51 := .mk' (by kernel_rfl) (by kernel_rfl) rfl rfl rfl
-- api.Head
abbrev Try.vt52 : V.TI := ⟨.struct [(0, 4), (1, 3)], 2, 16, [.bool false, .int .i64 0]⟩
theorem Try.vt52OK : V.Ent Try.prog 52 Try.vt52 := .mk' (by kernel_rfl) (by kernel_rfl) rfl rfl rfl
-- func(ref22.Raw, law22.Odd) bool
abbrev Try.vt53 : V.TI := ⟨.func, 1, 8, [.nilFunc]⟩
theorem Try.vt53OK : V.Ent Try.prog 53 Try.vt53 := .mk' (by kernel_rfl) (by kernel_rfl) rfl rfl rfl
-- [4]uint8
abbrev Try.vt54 : V.TI := ⟨.array 4 5, 4, 4, [.int .u8 0, .int .u8 0, .int .u8 0, .int .u8 0]⟩
theorem Try.vt54OK : V.Ent Try.prog 54 Try.vt54 := .mk' (by kernel_rfl) (by kernel_rfl) rfl rfl rfl
-- func(api.Net, [4]uint8) api.Net
abbrev Try.vt55 : V.TI := ⟨.func, 1, 8, [.nilFunc]⟩
theorem Try.vt55OK : V.Ent Try.prog 55 Try.vt55 := .mk' (by kernel_rfl) (by kernel_rfl) rfl rfl rfl
-- [][2]int
abbrev Try.vt56 : V.TI := ⟨.slice 69, 1, 24, [.slice none 0 0]⟩
theorem Try.vt56OK : V.Ent Try.prog 56 Try.vt56 := .mk' (by kernel_rfl) (by kernel_rfl) rfl rfl rfl
-- func([3]uint8) [][2]int
abbrev Try.vt57 : V.TI := ⟨.func, 1, 8, [.nilFunc]⟩
theorem Try.vt57OK : V.Ent Try.prog 57 Try.vt57 := .mk' (by kernel_rfl) (by kernel_rfl) rfl rfl rfl
-- [3]uint8
abbrev Try.vt58 : V.TI := ⟨.array 3 5, 3, 3, [.int .u8 0, .int .u8 0, .int .u8 0]⟩
theorem Try.vt58OK : V.Ent Try.prog 58 Try.vt58 := .mk' (by kernel_rfl) (by kernel_rfl) rfl rfl rfl
-- api.Errno
abbrev Try.vt59 : V.TI := ⟨.int .i64, 1, 8, [.int .i64 0]⟩
theorem Try.vt59OK : V.Ent Try.prog 59 Try.vt59 := .mk' (by kernel_rfl) (by kernel_rfl) rfl rfl rfl
-- struct { Is bool; L []bool; E api.Errno }
abbrev Try.vt60 : V.TI := ⟨.struct [(0, 4), (1, 32), (2, 59)], 3, 40, [.bool false, .slice none 0 0, .int .i64 0]⟩
theorem Try.vt60OK : V.Ent Try.prog 60 Try.vt60 := .mk' (by kernel_rfl) (by kernel_rfl) rfl rfl rfl
-- ref24.Compared
abbrev Try.vt61 : V.TI := ⟨.struct [(0, 4), (1, 32), (2, 59)], 3, 40, [.bool false, .slice none 0 0, .int .i64 0]⟩
theorem Try.vt61OK : V.Ent Try.prog 61 Try.vt61 := .mk' (by kernel_rfl) (by kernel_rfl) rfl rfl rfl
-- func(api.Net, api.Net, [][2]int) ref24.Compared
abbrev Try.vt62 : V.TI := ⟨.func, 1, 8, [.nilFunc]⟩
theorem Try.vt62OK : V.Ent Try.prog 62 Try.vt62 := .mk' (by kernel_rfl) (by kernel_rfl) rfl rfl rfl
-- func(ref24.Compared, ref24.Compared) bool
abbrev Try.vt63 : V.TI := ⟨.func, 1, 8, [.nilFunc]⟩
theorem Try.vt63OK : V.Ent Try.prog 63 Try.vt63 := .mk' (by kernel_rfl) (by kernel_rfl) rfl rfl rfl
-- func(ref22.Raw, [4]uint8, [4]uint8) bool
abbrev Try.vt64 : V.TI := ⟨.func, 1, 8, [.nilFunc]⟩
theorem Try.vt64OK : V.Ent Try.prog 64 Try.vt64 := .mk' (by kernel_rfl) (by kernel_rfl) rfl rfl rfl
-- func(api.Net, [][2]int) int
abbrev Try.vt65 : V.TI := ⟨.func, 1, 8, [.nilFunc]⟩
theorem Try.vt65OK : V.Ent Try.prog 65 Try.vt65 := .mk' (by kernel_rfl) (by kernel_rfl) rfl rfl rfl
-- func([]bool, []bool) bool
abbrev Try.vt66 : V.TI := ⟨.func, 1, 8, [.nilFunc]⟩
theorem Try.vt66OK : V.Ent Try.prog 66 Try.vt66 := .mk' (by kernel_rfl) (by kernel_rfl) rfl rfl rfl
-- func(api.Net, [][2]int, []bool) []bool
abbrev Try.vt67 : V.TI := ⟨.func, 1, 8, [.nilFunc]⟩
theorem Try.vt67OK : V.Ent Try.prog 67 Try.vt67 := .mk' (by kernel_rfl) (by kernel_rfl) rfl rfl rfl
-- func(ref22.Raw, [4]uint8, []bool) bool
abbrev Try.vt68 : V.TI := ⟨.func, 1, 8, [.nilFunc]⟩
theorem Try.vt68OK : V.Ent Try.prog 68 Try.vt68 := .mk' (by kernel_rfl) (by kernel_rfl) rfl rfl rfl
-- [2]int
abbrev Try.vt69 : V.TI := ⟨.array 2 3, 2, 16, [.int .i64 0, .int .i64 0]⟩
theorem Try.vt69OK : V.Ent Try.prog 69 Try.vt69 := .mk' (by kernel_rfl) (by kernel_rfl) rfl rfl rfl
-- struct { L []int; E api.Errno }
abbrev Try.vt70 : V.TI := ⟨.struct [(0, 27), (1, 59)], 2, 32, [.slice none 0 0, .int .i64 0]⟩
theorem Try.vt70OK : V.Ent Try.prog 70 Try.vt70 := .mk' (by kernel_rfl) (by kernel_rfl) rfl rfl rfl
-- ref24.Classed
abbrev Try.vt71 : V.TI := ⟨.struct [(0, 27), (1, 59)], 2, 32, [.slice none 0 0, .int .i64 0]⟩
theorem Try.vt71OK : V.Ent Try.prog 71 Try.vt71 := .mk' (by kernel_rfl) (by kernel_rfl) rfl rfl rfl
-- func(api.Net, [][2]int) ref24.Classed
abbrev Try.vt72 : V.TI := ⟨.func, 1, 8, [.nilFunc]⟩
theorem Try.vt72OK : V.Ent Try.prog 72 Try.vt72 := .mk' (by kernel_rfl) (by kernel_rfl) rfl rfl rfl
-- func(api.Net) int
abbrev Try.vt73 : V.TI := ⟨.func, 1, 8, [.nilFunc]⟩
theorem Try.vt73OK : V.Ent Try.prog 73 Try.vt73 := .mk' (by kernel_rfl) (by kernel_rfl) rfl rfl rfl
-- [][]bool
abbrev Try.vt74 : V.TI := ⟨.slice 32, 1, 24, [.slice none 0 0]⟩
theorem Try.vt74OK : V.Ent Try.prog 74 Try.vt74 := .mk' (by kernel_rfl) (by kernel_rfl) rfl rfl rfl
-- uint
abbrev Try.vt75 : V.TI := ⟨.int .u64, 1, 8, [.int .u64 0]⟩
theorem Try.vt75OK : V.Ent Try.prog 75 Try.vt75 := .mk' (by kernel_rfl) (by kernel_rfl) rfl rfl rfl
-- func(int, int) []bool
abbrev Try.vt76 : V.TI := ⟨.func, 1, 8, [.nilFunc]⟩
theorem Try.vt76OK : V.Ent Try.prog 76 Try.vt76 := .mk' (by kernel_rfl) (by kernel_rfl) rfl rfl rfl
-- func(api.Net, []bool, [][]int) []bool
abbrev Try.vt77 : V.TI := ⟨.func, 1, 8, [.nilFunc]⟩
theorem Try.vt77OK : V.Ent Try.prog 77 Try.vt77 := .mk' (by kernel_rfl) (by kernel_rfl) rfl rfl rfl
-- func(api.Net, []bool) []bool
abbrev Try.vt78 : V.TI := ⟨.func, 1, 8, [.nilFunc]⟩
theorem Try.vt78OK : V.Ent Try.prog 78 Try.vt78 := .mk' (by kernel_rfl) (by kernel_rfl) rfl rfl rfl
-- func(api.Net, [][2]int, []bool) [][]int
abbrev Try.vt79 : V.TI := ⟨.func, 1, 8, [.nilFunc]⟩
theorem Try.vt79OK : V.Ent Try.prog 79 Try.vt79 := .mk' (by kernel_rfl) (by kernel_rfl) rfl rfl rfl
-- func([][]bool, int, int) bool
abbrev Try.vt80 : V.TI := ⟨.func, 1, 8, [.nilFunc]⟩
theorem Try.vt80OK : V.Ent Try.prog 80 Try.vt80 := .mk' (by kernel_rfl) (by kernel_rfl) rfl rfl rfl
-- func(ref22.Raw, uint8, uint8) bool
abbrev Try.vt81 : V.TI := ⟨.func, 1, 8, [.nilFunc]⟩
theorem Try.vt81OK : V.Ent Try.prog 81 Try.vt81 := .mk' (by kernel_rfl) (by kernel_rfl) rfl rfl rfl
-- struct { N api.Net; E api.Errno }
abbrev Try.vt82 : V.TI := ⟨.struct [(0, 44), (4, 59)], 5, 104, [.slice none 0 0, .slice none 0 0, .slice none 0 0, .slice none 0 0, .int .i64 0]⟩
theorem Try.vt82OK : V.Ent Try.prog 82 Try.vt82 := .mk' (by kernel_rfl) (by kernel_rfl) rfl rfl rfl
-- ref24.Net
abbrev Try.vt83 : V.TI := ⟨.struct [(0, 44), (4, 59)], 5, 104, [.slice none 0 0, .slice none 0 0, .slice none 0 0, .slice none 0 0, .int .i64 0]⟩
theorem Try.vt83OK : V.Ent Try.prog 83 Try.vt83 := .mk' (by kernel_rfl) (by kernel_rfl) rfl rfl rfl
-- func(api.Net, api.Net) ref24.Net
abbrev Try.vt84 : V.TI := ⟨.func, 1, 8, [.nilFunc]⟩
theorem Try.vt84OK : V.Ent Try.prog 84 Try.vt84 := .mk' (by kernel_rfl) (by kernel_rfl) rfl rfl rfl
-- func(api.Net) bool
abbrev Try.vt85 : V.TI := ⟨.func, 1, 8, [.nilFunc]⟩
theorem Try.vt85OK : V.Ent Try.prog 85 Try.vt85 := .mk' (by kernel_rfl) (by kernel_rfl) rfl rfl rfl
-- func([]api.Wire, []api.Wire) bool
abbrev Try.vt86 : V.TI := ⟨.func, 1, 8, [.nilFunc]⟩
theorem Try.vt86OK : V.Ent Try.prog 86 Try.vt86 := .mk' (by kernel_rfl) (by kernel_rfl) rfl rfl rfl
-- struct { B []uint8 }
abbrev Try.vt87 : V.TI := ⟨.struct [(0, 22)], 1, 24, [.slice none 0 0]⟩
theorem Try.vt87OK : V.Ent Try.prog 87 Try.vt87 := .mk' (by kernel_rfl) (by kernel_rfl) rfl rfl rfl
-- ref12.Raw
abbrev Try.vt88 : V.TI := ⟨.struct [(0, 22)], 1, 24, [.slice none 0 0]⟩
theorem Try.vt88OK : V.Ent Try.prog 88 Try.vt88 := .mk' (by kernel_rfl) (by kernel_rfl) rfl rfl rfl
-- [2]uint8
abbrev Try.vt89 : V.TI := ⟨.array 2 5, 2, 2, [.int .u8 0, .int .u8 0]⟩
theorem Try.vt89OK : V.Ent Try.prog 89 Try.vt89 := .mk' (by kernel_rfl) (by kernel_rfl) rfl rfl rfl
-- []api.Reg
abbrev Try.vt90 : V.TI := ⟨.slice 114, 1, 24, [.slice none 0 0]⟩
theorem Try.vt90OK : V.Ent Try.prog 90 Try.vt90 := .mk' (by kernel_rfl) (by kernel_rfl) rfl rfl rfl
-- []api.Mem
abbrev Try.vt91 : V.TI := ⟨.slice 116, 1, 24, [.slice none 0 0]⟩
theorem Try.vt91OK : V.Ent Try.prog 91 Try.vt91 := .mk' (by kernel_rfl) (by kernel_rfl) rfl rfl rfl
-- []api.Take
abbrev Try.vt92 : V.TI := ⟨.slice 118, 1, 24, [.slice none 0 0]⟩
theorem Try.vt92OK : V.Ent Try.prog 92 Try.vt92 := .mk' (by kernel_rfl) (by kernel_rfl) rfl rfl rfl
-- []api.Put
abbrev Try.vt93 : V.TI := ⟨.slice 120, 1, 24, [.slice none 0 0]⟩
theorem Try.vt93OK : V.Ent Try.prog 93 Try.vt93 := .mk' (by kernel_rfl) (by kernel_rfl) rfl rfl rfl
-- struct { Name string; Clock string; Regs []api.Reg; Mems []api.Mem; Takes []api.Take; Puts []api.Put }
abbrev Try.vt94 : V.TI := ⟨.struct [(0, 9), (1, 9), (2, 90), (3, 91), (4, 92), (5, 93)], 6, 128, [.string ⟨#[]⟩, .string ⟨#[]⟩, .slice none 0 0, .slice none 0 0, .slice none 0 0, .slice none 0 0]⟩
theorem Try.vt94OK : V.Ent Try.prog 94 Try.vt94 := .mk' (by kernel_rfl) (by kernel_rfl) rfl rfl rfl
-- api.Proc
abbrev Try.vt95 : V.TI := ⟨.struct [(0, 9), (1, 9), (2, 90), (3, 91), (4, 92), (5, 93)], 6, 128, [.string ⟨#[]⟩, .string ⟨#[]⟩, .slice none 0 0, .slice none 0 0, .slice none 0 0, .slice none 0 0]⟩
theorem Try.vt95OK : V.Ent Try.prog 95 Try.vt95 := .mk' (by kernel_rfl) (by kernel_rfl) rfl rfl rfl
-- func(ref12.Raw) api.Proc
abbrev Try.vt96 : V.TI := ⟨.func, 1, 8, [.nilFunc]⟩
theorem Try.vt96OK : V.Ent Try.prog 96 Try.vt96 := .mk' (by kernel_rfl) (by kernel_rfl) rfl rfl rfl
-- func(uint8, uint8) api.Proc
abbrev Try.vt97 : V.TI := ⟨.func, 1, 8, [.nilFunc]⟩
theorem Try.vt97OK : V.Ent Try.prog 97 Try.vt97 := .mk' (by kernel_rfl) (by kernel_rfl) rfl rfl rfl
-- ref21.BuiltNet
abbrev Try.vt98 : V.TI := ⟨.struct [(0, 44), (4, 59)], 5, 104, [.slice none 0 0, .slice none 0 0, .slice none 0 0, .slice none 0 0, .int .i64 0]⟩
theorem Try.vt98OK : V.Ent Try.prog 98 Try.vt98 := .mk' (by kernel_rfl) (by kernel_rfl) rfl rfl rfl
-- func(api.Proc) ref21.BuiltNet
abbrev Try.vt99 : V.TI := ⟨.func, 1, 8, [.nilFunc]⟩
theorem Try.vt99OK : V.Ent Try.prog 99 Try.vt99 := .mk' (by kernel_rfl) (by kernel_rfl) rfl rfl rfl
-- func(api.Proc) []api.Wire
abbrev Try.vt100 : V.TI := ⟨.func, 1, 8, [.nilFunc]⟩
theorem Try.vt100OK : V.Ent Try.prog 100 Try.vt100 := .mk' (by kernel_rfl) (by kernel_rfl) rfl rfl rfl
-- func(ref12.Raw, [2]uint8) bool
abbrev Try.vt101 : V.TI := ⟨.func, 1, 8, [.nilFunc]⟩
theorem Try.vt101OK : V.Ent Try.prog 101 Try.vt101 := .mk' (by kernel_rfl) (by kernel_rfl) rfl rfl rfl
-- []ref21.BuiltNet
abbrev Try.vt102 : V.TI := ⟨.slice 98, 1, 24, [.slice none 0 0]⟩
theorem Try.vt102OK : V.Ent Try.prog 102 Try.vt102 := .mk' (by kernel_rfl) (by kernel_rfl) rfl rfl rfl
-- func(api.Net, api.Gate) bool
abbrev Try.vt103 : V.TI := ⟨.func, 1, 8, [.nilFunc]⟩
theorem Try.vt103OK : V.Ent Try.prog 103 Try.vt103 := .mk' (by kernel_rfl) (by kernel_rfl) rfl rfl rfl
-- struct { Op int; A int; B int; C int; N int }
abbrev Try.vt104 : V.TI := ⟨.struct [(0, 3), (1, 3), (2, 3), (3, 3), (4, 3)], 5, 40, [.int .i64 0, .int .i64 0, .int .i64 0, .int .i64 0, .int .i64 0]⟩
theorem Try.vt104OK : V.Ent Try.prog 104 Try.vt104 := .mk' (by kernel_rfl) (by kernel_rfl) rfl rfl rfl
-- api.Gate
abbrev Try.vt105 : V.TI := ⟨.struct [(0, 3), (1, 3), (2, 3), (3, 3), (4, 3)], 5, 40, [.int .i64 0, .int .i64 0, .int .i64 0, .int .i64 0, .int .i64 0]⟩
theorem Try.vt105OK : V.Ent Try.prog 105 Try.vt105 := .mk' (by kernel_rfl) (by kernel_rfl) rfl rfl rfl
-- struct { N int; Param string }
abbrev Try.vt106 : V.TI := ⟨.struct [(0, 3), (1, 9)], 2, 24, [.int .i64 0, .string ⟨#[]⟩]⟩
theorem Try.vt106OK : V.Ent Try.prog 106 Try.vt106 := .mk' (by kernel_rfl) (by kernel_rfl) rfl rfl rfl
-- api.Num
abbrev Try.vt107 : V.TI := ⟨.struct [(0, 3), (1, 9)], 2, 24, [.int .i64 0, .string ⟨#[]⟩]⟩
theorem Try.vt107OK : V.Ent Try.prog 107 Try.vt107 := .mk' (by kernel_rfl) (by kernel_rfl) rfl rfl rfl
-- []api.Expr
abbrev Try.vt108 : V.TI := ⟨.slice 110, 1, 24, [.slice none 0 0]⟩
theorem Try.vt108OK : V.Ent Try.prog 108 Try.vt108 := .mk' (by kernel_rfl) (by kernel_rfl) rfl rfl rfl
-- struct { Op int; Name string; K api.Num; W api.Num; Args []api.Expr }
abbrev Try.vt109 : V.TI := ⟨.struct [(0, 3), (1, 9), (2, 107), (4, 107), (6, 108)], 7, 96, [.int .i64 0, .string ⟨#[]⟩, .int .i64 0, .string ⟨#[]⟩, .int .i64 0, .string ⟨#[]⟩, .slice none 0 0]⟩
theorem Try.vt109OK : V.Ent Try.prog 109 Try.vt109 := .mk' (by kernel_rfl) (by kernel_rfl) rfl rfl rfl
-- api.Expr
abbrev Try.vt110 : V.TI := ⟨.struct [(0, 3), (1, 9), (2, 107), (4, 107), (6, 108)], 7, 96, [.int .i64 0, .string ⟨#[]⟩, .int .i64 0, .string ⟨#[]⟩, .int .i64 0, .string ⟨#[]⟩, .slice none 0 0]⟩
theorem Try.vt110OK : V.Ent Try.prog 110 Try.vt110 := .mk' (by kernel_rfl) (by kernel_rfl) rfl rfl rfl
-- struct { Kind int; From string; N int }
abbrev Try.vt111 : V.TI := ⟨.struct [(0, 3), (1, 9), (2, 3)], 3, 32, [.int .i64 0, .string ⟨#[]⟩, .int .i64 0]⟩
theorem Try.vt111OK : V.Ent Try.prog 111 Try.vt111 := .mk' (by kernel_rfl) (by kernel_rfl) rfl rfl rfl
-- api.Rule
abbrev Try.vt112 : V.TI := ⟨.struct [(0, 3), (1, 9), (2, 3)], 3, 32, [.int .i64 0, .string ⟨#[]⟩, .int .i64 0]⟩
theorem Try.vt112OK : V.Ent Try.prog 112 Try.vt112 := .mk' (by kernel_rfl) (by kernel_rfl) rfl rfl rfl
-- struct { Name string; W int; Init int; Next api.Expr; Rule api.Rule }
abbrev Try.vt113 : V.TI := ⟨.struct [(0, 9), (1, 3), (2, 3), (3, 110), (10, 112)], 13, 160, [.string ⟨#[]⟩, .int .i64 0, .int .i64 0, .int .i64 0, .string ⟨#[]⟩, .int .i64 0, .string ⟨#[]⟩, .int .i64 0, .string ⟨#[]⟩, .slice none 0 0, .int .i64 0, .string ⟨#[]⟩, .int .i64 0]⟩
theorem Try.vt113OK : V.Ent Try.prog 113 Try.vt113 := .mk' (by kernel_rfl) (by kernel_rfl) rfl rfl rfl
-- api.Reg
abbrev Try.vt114 : V.TI := ⟨.struct [(0, 9), (1, 3), (2, 3), (3, 110), (10, 112)], 13, 160, [.string ⟨#[]⟩, .int .i64 0, .int .i64 0, .int .i64 0, .string ⟨#[]⟩, .int .i64 0, .string ⟨#[]⟩, .int .i64 0, .string ⟨#[]⟩, .slice none 0 0, .int .i64 0, .string ⟨#[]⟩, .int .i64 0]⟩
theorem Try.vt114OK : V.Ent Try.prog 114 Try.vt114 := .mk' (by kernel_rfl) (by kernel_rfl) rfl rfl rfl
-- struct { Name string; W int; Words int; Enable api.Expr; Addr api.Expr; Data api.Expr; Rule api.Rule }
abbrev Try.vt115 : V.TI := ⟨.struct [(0, 9), (1, 3), (2, 3), (3, 110), (10, 110), (17, 110), (24, 112)], 27, 352, [.string ⟨#[]⟩, .int .i64 0, .int .i64 0, .int .i64 0, .string ⟨#[]⟩, .int .i64 0, .string ⟨#[]⟩, .int .i64 0, .string ⟨#[]⟩, .slice none 0 0, .int .i64 0, .string ⟨#[]⟩, .int .i64 0, .string ⟨#[]⟩, .int .i64 0, .string ⟨#[]⟩, .slice none 0 0, .int .i64 0, .string ⟨#[]⟩, .int .i64 0, .string ⟨#[]⟩, .int .i64 0, .string ⟨#[]⟩, .slice none 0 0, .int .i64 0, .string ⟨#[]⟩, .int .i64 0]⟩
theorem Try.vt115OK : V.Ent Try.prog 115 Try.vt115 := .mk' (by kernel_rfl) (by kernel_rfl) rfl rfl rfl
-- api.Mem
abbrev Try.vt116 : V.TI := ⟨.struct [(0, 9), (1, 3), (2, 3), (3, 110), (10, 110), (17, 110), (24, 112)], 27, 352, [.string ⟨#[]⟩, .int .i64 0, .int .i64 0, .int .i64 0, .string ⟨#[]⟩, .int .i64 0, .string ⟨#[]⟩, .int .i64 0, .string ⟨#[]⟩, .slice none 0 0, .int .i64 0, .string ⟨#[]⟩, .int .i64 0, .string ⟨#[]⟩, .int .i64 0, .string ⟨#[]⟩, .slice none 0 0, .int .i64 0, .string ⟨#[]⟩, .int .i64 0, .string ⟨#[]⟩, .int .i64 0, .string ⟨#[]⟩, .slice none 0 0, .int .i64 0, .string ⟨#[]⟩, .int .i64 0]⟩
theorem Try.vt116OK : V.Ent Try.prog 116 Try.vt116 := .mk' (by kernel_rfl) (by kernel_rfl) rfl rfl rfl
-- struct { Chan int; W int; When api.Expr }
abbrev Try.vt117 : V.TI := ⟨.struct [(0, 3), (1, 3), (2, 110)], 9, 112, [.int .i64 0, .int .i64 0, .int .i64 0, .string ⟨#[]⟩, .int .i64 0, .string ⟨#[]⟩, .int .i64 0, .string ⟨#[]⟩, .slice none 0 0]⟩
theorem Try.vt117OK : V.Ent Try.prog 117 Try.vt117 := .mk' (by kernel_rfl) (by kernel_rfl) rfl rfl rfl
-- api.Take
abbrev Try.vt118 : V.TI := ⟨.struct [(0, 3), (1, 3), (2, 110)], 9, 112, [.int .i64 0, .int .i64 0, .int .i64 0, .string ⟨#[]⟩, .int .i64 0, .string ⟨#[]⟩, .int .i64 0, .string ⟨#[]⟩, .slice none 0 0]⟩
theorem Try.vt118OK : V.Ent Try.prog 118 Try.vt118 := .mk' (by kernel_rfl) (by kernel_rfl) rfl rfl rfl
-- struct { Chan int; W int; When api.Expr; Data api.Expr }
abbrev Try.vt119 : V.TI := ⟨.struct [(0, 3), (1, 3), (2, 110), (9, 110)], 16, 208, [.int .i64 0, .int .i64 0, .int .i64 0, .string ⟨#[]⟩, .int .i64 0, .string ⟨#[]⟩, .int .i64 0, .string ⟨#[]⟩, .slice none 0 0, .int .i64 0, .string ⟨#[]⟩, .int .i64 0, .string ⟨#[]⟩, .int .i64 0, .string ⟨#[]⟩, .slice none 0 0]⟩
theorem Try.vt119OK : V.Ent Try.prog 119 Try.vt119 := .mk' (by kernel_rfl) (by kernel_rfl) rfl rfl rfl
-- api.Put
abbrev Try.vt120 : V.TI := ⟨.struct [(0, 3), (1, 3), (2, 110), (9, 110)], 16, 208, [.int .i64 0, .int .i64 0, .int .i64 0, .string ⟨#[]⟩, .int .i64 0, .string ⟨#[]⟩, .int .i64 0, .string ⟨#[]⟩, .slice none 0 0, .int .i64 0, .string ⟨#[]⟩, .int .i64 0, .string ⟨#[]⟩, .int .i64 0, .string ⟨#[]⟩, .slice none 0 0]⟩
theorem Try.vt120OK : V.Ent Try.prog 120 Try.vt120 := .mk' (by kernel_rfl) (by kernel_rfl) rfl rfl rfl
-- func(api.Net, api.Net) bool
abbrev Try.vt121 : V.TI := ⟨.func, 1, 8, [.nilFunc]⟩
theorem Try.vt121OK : V.Ent Try.prog 121 Try.vt121 := .mk' (by kernel_rfl) (by kernel_rfl) rfl rfl rfl
-- func(ref12.Raw, [4]uint8) bool
abbrev Try.vt122 : V.TI := ⟨.func, 1, 8, [.nilFunc]⟩
theorem Try.vt122OK : V.Ent Try.prog 122 Try.vt122 := .mk' (by kernel_rfl) (by kernel_rfl) rfl rfl rfl
-- func(ref12.Raw, uint8) bool
abbrev Try.vt123 : V.TI := ⟨.func, 1, 8, [.nilFunc]⟩
theorem Try.vt123OK : V.Ent Try.prog 123 Try.vt123 := .mk' (by kernel_rfl) (by kernel_rfl) rfl rfl rfl
-- func() api.Net
abbrev Try.vt124 : V.TI := ⟨.func, 1, 8, [.nilFunc]⟩
theorem Try.vt124OK : V.Ent Try.prog 124 Try.vt124 := .mk' (by kernel_rfl) (by kernel_rfl) rfl rfl rfl
-- func(api.Net, api.ProcState, []api.Head, []bool) []bool
abbrev Try.vt125 : V.TI := ⟨.func, 1, 8, [.nilFunc]⟩
theorem Try.vt125OK : V.Ent Try.prog 125 Try.vt125 := .mk' (by kernel_rfl) (by kernel_rfl) rfl rfl rfl
-- func([]int, []int) bool
abbrev Try.vt126 : V.TI := ⟨.func, 1, 8, [.nilFunc]⟩
theorem Try.vt126OK : V.Ent Try.prog 126 Try.vt126 := .mk' (by kernel_rfl) (by kernel_rfl) rfl rfl rfl
-- func(api.Net, []bool, [][]int, int) []int
abbrev Try.vt127 : V.TI := ⟨.func, 1, 8, [.nilFunc]⟩
theorem Try.vt127OK : V.Ent Try.prog 127 Try.vt127 := .mk' (by kernel_rfl) (by kernel_rfl) rfl rfl rfl
-- [5]uint8
abbrev Try.vt128 : V.TI := ⟨.array 5 5, 5, 5, [.int .u8 0, .int .u8 0, .int .u8 0, .int .u8 0, .int .u8 0]⟩
theorem Try.vt128OK : V.Ent Try.prog 128 Try.vt128 := .mk' (by kernel_rfl) (by kernel_rfl) rfl rfl rfl
-- func(api.Net, api.ProcState, []api.Head, []bool) api.Firing
abbrev Try.vt129 : V.TI := ⟨.func, 1, 8, [.nilFunc]⟩
theorem Try.vt129OK : V.Ent Try.prog 129 Try.vt129 := .mk' (by kernel_rfl) (by kernel_rfl) rfl rfl rfl
-- func(api.Net, api.Net, [][2]int) (bool, []bool, api.Errno)
abbrev Try.vt131 : V.TI := ⟨.func, 1, 8, [.nilFunc]⟩
theorem Try.vt131OK : V.Ent Try.prog 131 Try.vt131 := .mk' (by kernel_rfl) (by kernel_rfl) rfl rfl rfl
-- func(api.Net, [][2]int) ([]int, api.Errno)
abbrev Try.vt133 : V.TI := ⟨.func, 1, 8, [.nilFunc]⟩
theorem Try.vt133OK : V.Ent Try.prog 133 Try.vt133 := .mk' (by kernel_rfl) (by kernel_rfl) rfl rfl rfl
-- func(bool, bool, bool) bool
abbrev Try.vt134 : V.TI := ⟨.func, 1, 8, [.nilFunc]⟩
theorem Try.vt134OK : V.Ent Try.prog 134 Try.vt134 := .mk' (by kernel_rfl) (by kernel_rfl) rfl rfl rfl
-- struct { op int; of func(bool, bool, bool) bool }
abbrev Try.vt135 : V.TI := ⟨.struct [(0, 3), (1, 134)], 2, 16, [.int .i64 0, .nilFunc]⟩
theorem Try.vt135OK : V.Ent Try.prog 135 Try.vt135 := .mk' (by kernel_rfl) (by kernel_rfl) rfl rfl rfl
-- netsim.operator
abbrev Try.vt136 : V.TI := ⟨.struct [(0, 3), (1, 134)], 2, 16, [.int .i64 0, .nilFunc]⟩
theorem Try.vt136OK : V.Ent Try.prog 136 Try.vt136 := .mk' (by kernel_rfl) (by kernel_rfl) rfl rfl rfl
-- [6]netsim.operator
abbrev Try.vt137 : V.TI := ⟨.array 6 136, 12, 96, [.int .i64 0, .nilFunc, .int .i64 0, .nilFunc, .int .i64 0, .nilFunc, .int .i64 0, .nilFunc, .int .i64 0, .nilFunc, .int .i64 0, .nilFunc]⟩
theorem Try.vt137OK : V.Ent Try.prog 137 Try.vt137 := .mk' (by kernel_rfl) (by kernel_rfl) rfl rfl rfl
-- func() [6]netsim.operator
abbrev Try.vt138 : V.TI := ⟨.func, 1, 8, [.nilFunc]⟩
theorem Try.vt138OK : V.Ent Try.prog 138 Try.vt138 := .mk' (by kernel_rfl) (by kernel_rfl) rfl rfl rfl
-- func([][]int, int, int) bool
abbrev Try.vt139 : V.TI := ⟨.func, 1, 8, [.nilFunc]⟩
theorem Try.vt139OK : V.Ent Try.prog 139 Try.vt139 := .mk' (by kernel_rfl) (by kernel_rfl) rfl rfl rfl
-- func(...bool) int
abbrev Try.vt140 : V.TI := ⟨.func, 1, 8, [.nilFunc]⟩
theorem Try.vt140OK : V.Ent Try.prog 140 Try.vt140 := .mk' (by kernel_rfl) (by kernel_rfl) rfl rfl rfl
-- func([]netsim.operator, func(netsim.operator) bool) int
abbrev Try.vt141 : V.TI := ⟨.func, 1, 8, [.nilFunc]⟩
theorem Try.vt141OK : V.Ent Try.prog 141 Try.vt141 := .mk' (by kernel_rfl) (by kernel_rfl) rfl rfl rfl
-- []netsim.operator
abbrev Try.vt142 : V.TI := ⟨.slice 136, 1, 24, [.slice none 0 0]⟩
theorem Try.vt142OK : V.Ent Try.prog 142 Try.vt142 := .mk' (by kernel_rfl) (by kernel_rfl) rfl rfl rfl
-- func(netsim.operator) bool
abbrev Try.vt143 : V.TI := ⟨.func, 1, 8, [.nilFunc]⟩
theorem Try.vt143OK : V.Ent Try.prog 143 Try.vt143 := .mk' (by kernel_rfl) (by kernel_rfl) rfl rfl rfl
-- func([]bool, int) bool
abbrev Try.vt144 : V.TI := ⟨.func, 1, 8, [.nilFunc]⟩
theorem Try.vt144OK : V.Ent Try.prog 144 Try.vt144 := .mk' (by kernel_rfl) (by kernel_rfl) rfl rfl rfl
-- func(api.Net, api.Net) (api.Net, api.Errno)
abbrev Try.vt146 : V.TI := ⟨.func, 1, 8, [.nilFunc]⟩
theorem Try.vt146OK : V.Ent Try.prog 146 Try.vt146 := .mk' (by kernel_rfl) (by kernel_rfl) rfl rfl rfl
-- func(api.Wire) bool
abbrev Try.vt147 : V.TI := ⟨.func, 1, 8, [.nilFunc]⟩
theorem Try.vt147OK : V.Ent Try.prog 147 Try.vt147 := .mk' (by kernel_rfl) (by kernel_rfl) rfl rfl rfl
-- func(api.Gate) ([]int, []int)
abbrev Try.vt149 : V.TI := ⟨.func, 1, 8, [.nilFunc]⟩
theorem Try.vt149OK : V.Ent Try.prog 149 Try.vt149 := .mk' (by kernel_rfl) (by kernel_rfl) rfl rfl rfl
-- func(int) bool
abbrev Try.vt150 : V.TI := ⟨.func, 1, 8, [.nilFunc]⟩
theorem Try.vt150OK : V.Ent Try.prog 150 Try.vt150 := .mk' (by kernel_rfl) (by kernel_rfl) rfl rfl rfl
-- func([]int, func(int) bool) bool
abbrev Try.vt151 : V.TI := ⟨.func, 1, 8, [.nilFunc]⟩
theorem Try.vt151OK : V.Ent Try.prog 151 Try.vt151 := .mk' (by kernel_rfl) (by kernel_rfl) rfl rfl rfl
-- func(int) int
abbrev Try.vt152 : V.TI := ⟨.func, 1, 8, [.nilFunc]⟩
theorem Try.vt152OK : V.Ent Try.prog 152 Try.vt152 := .mk' (by kernel_rfl) (by kernel_rfl) rfl rfl rfl
-- func(bool, int, int) bool
abbrev Try.vt153 : V.TI := ⟨.func, 1, 8, [.nilFunc]⟩
theorem Try.vt153OK : V.Ent Try.prog 153 Try.vt153 := .mk' (by kernel_rfl) (by kernel_rfl) rfl rfl rfl
-- struct { Regs []int; Takes []int; Mems []api.Mem; Data bool }
abbrev Try.vt154 : V.TI := ⟨.struct [(0, 27), (1, 27), (2, 91), (3, 4)], 4, 80, [.slice none 0 0, .slice none 0 0, .slice none 0 0, .bool false]⟩
theorem Try.vt154OK : V.Ent Try.prog 154 Try.vt154 := .mk' (by kernel_rfl) (by kernel_rfl) rfl rfl rfl
-- ref12.Scope
abbrev Try.vt155 : V.TI := ⟨.struct [(0, 27), (1, 27), (2, 91), (3, 4)], 4, 80, [.slice none 0 0, .slice none 0 0, .slice none 0 0, .bool false]⟩
theorem Try.vt155OK : V.Ent Try.prog 155 Try.vt155 := .mk' (by kernel_rfl) (by kernel_rfl) rfl rfl rfl
-- struct { B []uint8; At int }
abbrev Try.vt156 : V.TI := ⟨.struct [(0, 22), (1, 3)], 2, 32, [.slice none 0 0, .int .i64 0]⟩
theorem Try.vt156OK : V.Ent Try.prog 156 Try.vt156 := .mk' (by kernel_rfl) (by kernel_rfl) rfl rfl rfl
-- ref09.Cur
abbrev Try.vt157 : V.TI := ⟨.struct [(0, 22), (1, 3)], 2, 32, [.slice none 0 0, .int .i64 0]⟩
theorem Try.vt157OK : V.Ent Try.prog 157 Try.vt157 := .mk' (by kernel_rfl) (by kernel_rfl) rfl rfl rfl
-- func(ref09.Cur) (api.Proc, ref12.Scope, ref09.Cur)
abbrev Try.vt159 : V.TI := ⟨.func, 1, 8, [.nilFunc]⟩
theorem Try.vt159OK : V.Ent Try.prog 159 Try.vt159 := .mk' (by kernel_rfl) (by kernel_rfl) rfl rfl rfl
-- struct { E api.Expr; C ref09.Cur }
abbrev Try.vt160 : V.TI := ⟨.struct [(0, 110), (7, 157)], 9, 128, [.int .i64 0, .string ⟨#[]⟩, .int .i64 0, .string ⟨#[]⟩, .int .i64 0, .string ⟨#[]⟩, .slice none 0 0, .slice none 0 0, .int .i64 0]⟩
theorem Try.vt160OK : V.Ent Try.prog 160 Try.vt160 := .mk' (by kernel_rfl) (by kernel_rfl) rfl rfl rfl
-- ref12.Made1
abbrev Try.vt161 : V.TI := ⟨.struct [(0, 110), (7, 157)], 9, 128, [.int .i64 0, .string ⟨#[]⟩, .int .i64 0, .string ⟨#[]⟩, .int .i64 0, .string ⟨#[]⟩, .slice none 0 0, .slice none 0 0, .int .i64 0]⟩
theorem Try.vt161OK : V.Ent Try.prog 161 Try.vt161 := .mk' (by kernel_rfl) (by kernel_rfl) rfl rfl rfl
-- func(ref09.Cur, ref12.Scope) ref12.Made1
abbrev Try.vt162 : V.TI := ⟨.func, 1, 8, [.nilFunc]⟩
theorem Try.vt162OK : V.Ent Try.prog 162 Try.vt162 := .mk' (by kernel_rfl) (by kernel_rfl) rfl rfl rfl
-- func(ref09.Cur, ref12.Scope, [2]int) ref12.Made1
abbrev Try.vt163 : V.TI := ⟨.func, 1, 8, [.nilFunc]⟩
theorem Try.vt163OK : V.Ent Try.prog 163 Try.vt163 := .mk' (by kernel_rfl) (by kernel_rfl) rfl rfl rfl
-- func(api.Proc) (api.Net, api.Errno)
abbrev Try.vt164 : V.TI := ⟨.func, 1, 8, [.nilFunc]⟩
theorem Try.vt164OK : V.Ent Try.prog 164 Try.vt164 := .mk' (by kernel_rfl) (by kernel_rfl) rfl rfl rfl
-- func([]api.Wire, [3]int) []api.Wire
abbrev Try.vt165 : V.TI := ⟨.func, 1, 8, [.nilFunc]⟩
theorem Try.vt165OK : V.Ent Try.prog 165 Try.vt165 := .mk' (by kernel_rfl) (by kernel_rfl) rfl rfl rfl
-- [3]int
abbrev Try.vt166 : V.TI := ⟨.array 3 3, 3, 24, [.int .i64 0, .int .i64 0, .int .i64 0]⟩
theorem Try.vt166OK : V.Ent Try.prog 166 Try.vt166 := .mk' (by kernel_rfl) (by kernel_rfl) rfl rfl rfl
-- func(api.Net, int) int
abbrev Try.vt167 : V.TI := ⟨.func, 1, 8, [.nilFunc]⟩
theorem Try.vt167OK : V.Ent Try.prog 167 Try.vt167 := .mk' (by kernel_rfl) (by kernel_rfl) rfl rfl rfl
-- func([]int, func(int, int) int) int
abbrev Try.vt168 : V.TI := ⟨.func, 1, 8, [.nilFunc]⟩
theorem Try.vt168OK : V.Ent Try.prog 168 Try.vt168 := .mk' (by kernel_rfl) (by kernel_rfl) rfl rfl rfl
-- func(int, int) int
abbrev Try.vt169 : V.TI := ⟨.func, 1, 8, [.nilFunc]⟩
theorem Try.vt169OK : V.Ent Try.prog 169 Try.vt169 := .mk' (by kernel_rfl) (by kernel_rfl) rfl rfl rfl
-- func(int, int) bool
abbrev Try.vt170 : V.TI := ⟨.func, 1, 8, [.nilFunc]⟩
theorem Try.vt170OK : V.Ent Try.prog 170 Try.vt170 := .mk' (by kernel_rfl) (by kernel_rfl) rfl rfl rfl
-- func([]bool) []bool
abbrev Try.vt171 : V.TI := ⟨.func, 1, 8, [.nilFunc]⟩
theorem Try.vt171OK : V.Ent Try.prog 171 Try.vt171 := .mk' (by kernel_rfl) (by kernel_rfl) rfl rfl rfl
-- func(api.Net, api.ProcState, []bool, [2]int) api.Firing
abbrev Try.vt172 : V.TI := ⟨.func, 1, 8, [.nilFunc]⟩
theorem Try.vt172OK : V.Ent Try.prog 172 Try.vt172 := .mk' (by kernel_rfl) (by kernel_rfl) rfl rfl rfl
-- func(api.Net, [][2]int) (int, bool)
abbrev Try.vt174 : V.TI := ⟨.func, 1, 8, [.nilFunc]⟩
theorem Try.vt174OK : V.Ent Try.prog 174 Try.vt174 := .mk' (by kernel_rfl) (by kernel_rfl) rfl rfl rfl
-- []api.BddNode
abbrev Try.vt175 : V.TI := ⟨.slice 221, 1, 24, [.slice none 0 0]⟩
theorem Try.vt175OK : V.Ent Try.prog 175 Try.vt175 := .mk' (by kernel_rfl) (by kernel_rfl) rfl rfl rfl
-- struct { Nodes []api.BddNode; Roots []int }
abbrev Try.vt176 : V.TI := ⟨.struct [(0, 175), (1, 27)], 2, 48, [.slice none 0 0, .slice none 0 0]⟩
theorem Try.vt176OK : V.Ent Try.prog 176 Try.vt176 := .mk' (by kernel_rfl) (by kernel_rfl) rfl rfl rfl
-- api.Bdd
abbrev Try.vt177 : V.TI := ⟨.struct [(0, 175), (1, 27)], 2, 48, [.slice none 0 0, .slice none 0 0]⟩
theorem Try.vt177OK : V.Ent Try.prog 177 Try.vt177 := .mk' (by kernel_rfl) (by kernel_rfl) rfl rfl rfl
-- func(api.Net, [][2]int, []int) (api.Bdd, api.Errno)
abbrev Try.vt179 : V.TI := ⟨.func, 1, 8, [.nilFunc]⟩
theorem Try.vt179OK : V.Ent Try.prog 179 Try.vt179 := .mk' (by kernel_rfl) (by kernel_rfl) rfl rfl rfl
-- func(api.Bdd, int, int) ([]bool, api.Errno)
abbrev Try.vt181 : V.TI := ⟨.func, 1, 8, [.nilFunc]⟩
theorem Try.vt181OK : V.Ent Try.prog 181 Try.vt181 := .mk' (by kernel_rfl) (by kernel_rfl) rfl rfl rfl
-- map[int]int
abbrev Try.vt182 : V.TI := ⟨.map 3 3, 1, 8, [.map none]⟩
theorem Try.vt182OK : V.Ent Try.prog 182 Try.vt182 := .mk' (by kernel_rfl) (by kernel_rfl) rfl rfl rfl
-- func([]api.Gate) []api.Gate
abbrev Try.vt183 : V.TI := ⟨.func, 1, 8, [.nilFunc]⟩
theorem Try.vt183OK : V.Ent Try.prog 183 Try.vt183 := .mk' (by kernel_rfl) (by kernel_rfl) rfl rfl rfl
-- func(api.Gate) int
abbrev Try.vt184 : V.TI := ⟨.func, 1, 8, [.nilFunc]⟩
theorem Try.vt184OK : V.Ent Try.prog 184 Try.vt184 := .mk' (by kernel_rfl) (by kernel_rfl) rfl rfl rfl
-- func([]int, func(int) bool) int
abbrev Try.vt185 : V.TI := ⟨.func, 1, 8, [.nilFunc]⟩
theorem Try.vt185OK : V.Ent Try.prog 185 Try.vt185 := .mk' (by kernel_rfl) (by kernel_rfl) rfl rfl rfl
-- func(ref09.Cur) int
abbrev Try.vt186 : V.TI := ⟨.func, 1, 8, [.nilFunc]⟩
theorem Try.vt186OK : V.Ent Try.prog 186 Try.vt186 := .mk' (by kernel_rfl) (by kernel_rfl) rfl rfl rfl
-- func(ref09.Cur, int) ref09.Cur
abbrev Try.vt187 : V.TI := ⟨.func, 1, 8, [.nilFunc]⟩
theorem Try.vt187OK : V.Ent Try.prog 187 Try.vt187 := .mk' (by kernel_rfl) (by kernel_rfl) rfl rfl rfl
-- func(int) string
abbrev Try.vt188 : V.TI := ⟨.func, 1, 8, [.nilFunc]⟩
theorem Try.vt188OK : V.Ent Try.prog 188 Try.vt188 := .mk' (by kernel_rfl) (by kernel_rfl) rfl rfl rfl
-- func(int, string) api.Rule
abbrev Try.vt189 : V.TI := ⟨.func, 1, 8, [.nilFunc]⟩
theorem Try.vt189OK : V.Ent Try.prog 189 Try.vt189 := .mk' (by kernel_rfl) (by kernel_rfl) rfl rfl rfl
-- func(int, int) api.Expr
abbrev Try.vt190 : V.TI := ⟨.func, 1, 8, [.nilFunc]⟩
theorem Try.vt190OK : V.Ent Try.prog 190 Try.vt190 := .mk' (by kernel_rfl) (by kernel_rfl) rfl rfl rfl
-- func(ref12.Scope, int, int) api.Expr
abbrev Try.vt191 : V.TI := ⟨.func, 1, 8, [.nilFunc]⟩
theorem Try.vt191OK : V.Ent Try.prog 191 Try.vt191 := .mk' (by kernel_rfl) (by kernel_rfl) rfl rfl rfl
-- func(ref09.Cur, ref12.Scope, [3]int) ref12.Made1
abbrev Try.vt192 : V.TI := ⟨.func, 1, 8, [.nilFunc]⟩
theorem Try.vt192OK : V.Ent Try.prog 192 Try.vt192 := .mk' (by kernel_rfl) (by kernel_rfl) rfl rfl rfl
-- *netlist.builder
abbrev Try.vt193 : V.TI := ⟨.pointer 197, 1, 8, [.pointer none]⟩
theorem Try.vt193OK : V.Ent Try.prog 193 Try.vt193 := .mk' (by kernel_rfl) (by kernel_rfl) rfl rfl rfl
-- map[api.Gate]int
abbrev Try.vt194 : V.TI := ⟨.map 105 3, 1, 8, [.map none]⟩
theorem Try.vt194OK : V.Ent Try.prog 194 Try.vt194 := .mk' (by kernel_rfl) (by kernel_rfl) rfl rfl rfl
-- map[api.Wire]int
abbrev Try.vt195 : V.TI := ⟨.map 50 3, 1, 8, [.map none]⟩
theorem Try.vt195OK : V.Ent Try.prog 195 Try.vt195 := .mk' (by kernel_rfl) (by kernel_rfl) rfl rfl rfl
-- struct { api.Net; p api.Proc; nodes map[api.Gate]int; input map[api.Wire]int; data [][]int }
abbrev Try.vt196 : V.TI := ⟨.struct [(0, 44), (4, 95), (10, 194), (11, 195), (12, 28)], 13, 264, [.slice none 0 0, .slice none 0 0, .slice none 0 0, .slice none 0 0, .string ⟨#[]⟩, .string ⟨#[]⟩, .slice none 0 0, .slice none 0 0, .slice none 0 0, .slice none 0 0, .map none, .map none, .slice none 0 0]⟩
theorem Try.vt196OK : V.Ent Try.prog 196 Try.vt196 := .mk' (by kernel_rfl) (by kernel_rfl) rfl rfl rfl
-- netlist.builder
abbrev Try.vt197 : V.TI := ⟨.struct [(0, 44), (4, 95), (10, 194), (11, 195), (12, 28)], 13, 264, [.slice none 0 0, .slice none 0 0, .slice none 0 0, .slice none 0 0, .string ⟨#[]⟩, .string ⟨#[]⟩, .slice none 0 0, .slice none 0 0, .slice none 0 0, .slice none 0 0, .map none, .map none, .slice none 0 0]⟩
theorem Try.vt197OK : V.Ent Try.prog 197 Try.vt197 := .mk' (by kernel_rfl) (by kernel_rfl) rfl rfl rfl
-- func() ([]int, []int, int)
abbrev Try.vt199 : V.TI := ⟨.func, 1, 8, [.nilFunc]⟩
theorem Try.vt199OK : V.Ent Try.prog 199 Try.vt199 := .mk' (by kernel_rfl) (by kernel_rfl) rfl rfl rfl
-- func(api.Expr) []int
abbrev Try.vt200 : V.TI := ⟨.func, 1, 8, [.nilFunc]⟩
theorem Try.vt200OK : V.Ent Try.prog 200 Try.vt200 := .mk' (by kernel_rfl) (by kernel_rfl) rfl rfl rfl
-- func(int, int, int, int)
abbrev Try.vt201 : V.TI := ⟨.func, 1, 8, [.nilFunc]⟩
theorem Try.vt201OK : V.Ent Try.prog 201 Try.vt201 := .mk' (by kernel_rfl) (by kernel_rfl) rfl rfl rfl
-- func(int, int, int) int
abbrev Try.vt202 : V.TI := ⟨.func, 1, 8, [.nilFunc]⟩
theorem Try.vt202OK : V.Ent Try.prog 202 Try.vt202 := .mk' (by kernel_rfl) (by kernel_rfl) rfl rfl rfl
-- func([]int, int) [3]int
abbrev Try.vt203 : V.TI := ⟨.func, 1, 8, [.nilFunc]⟩
theorem Try.vt203OK : V.Ent Try.prog 203 Try.vt203 := .mk' (by kernel_rfl) (by kernel_rfl) rfl rfl rfl
-- func(api.Gate) bool
abbrev Try.vt204 : V.TI := ⟨.func, 1, 8, [.nilFunc]⟩
theorem Try.vt204OK : V.Ent Try.prog 204 Try.vt204 := .mk' (by kernel_rfl) (by kernel_rfl) rfl rfl rfl
-- func([]api.Gate, func(api.Gate) bool) bool
abbrev Try.vt205 : V.TI := ⟨.func, 1, 8, [.nilFunc]⟩
theorem Try.vt205OK : V.Ent Try.prog 205 Try.vt205 := .mk' (by kernel_rfl) (by kernel_rfl) rfl rfl rfl
-- map[netsim.end]bool
abbrev Try.vt206 : V.TI := ⟨.map 209 4, 1, 8, [.map none]⟩
theorem Try.vt206OK : V.Ent Try.prog 206 Try.vt206 := .mk' (by kernel_rfl) (by kernel_rfl) rfl rfl rfl
-- map[netsim.end]int
abbrev Try.vt207 : V.TI := ⟨.map 209 3, 1, 8, [.map none]⟩
theorem Try.vt207OK : V.Ent Try.prog 207 Try.vt207 := .mk' (by kernel_rfl) (by kernel_rfl) rfl rfl rfl
-- struct { kind int; i int }
abbrev Try.vt208 : V.TI := ⟨.struct [(0, 3), (1, 3)], 2, 16, [.int .i64 0, .int .i64 0]⟩
theorem Try.vt208OK : V.Ent Try.prog 208 Try.vt208 := .mk' (by kernel_rfl) (by kernel_rfl) rfl rfl rfl
-- netsim.end
abbrev Try.vt209 : V.TI := ⟨.struct [(0, 3), (1, 3)], 2, 16, [.int .i64 0, .int .i64 0]⟩
theorem Try.vt209OK : V.Ent Try.prog 209 Try.vt209 := .mk' (by kernel_rfl) (by kernel_rfl) rfl rfl rfl
-- func([]int) []int
abbrev Try.vt210 : V.TI := ⟨.func, 1, 8, [.nilFunc]⟩
theorem Try.vt210OK : V.Ent Try.prog 210 Try.vt210 := .mk' (by kernel_rfl) (by kernel_rfl) rfl rfl rfl
-- func([2]int) bool
abbrev Try.vt211 : V.TI := ⟨.func, 1, 8, [.nilFunc]⟩
theorem Try.vt211OK : V.Ent Try.prog 211 Try.vt211 := .mk' (by kernel_rfl) (by kernel_rfl) rfl rfl rfl
-- func([][2]int, func([2]int) bool) bool
abbrev Try.vt212 : V.TI := ⟨.func, 1, 8, [.nilFunc]⟩
theorem Try.vt212OK : V.Ent Try.prog 212 Try.vt212 := .mk' (by kernel_rfl) (by kernel_rfl) rfl rfl rfl
-- *bdd.builder
abbrev Try.vt213 : V.TI := ⟨.pointer 217, 1, 8, [.pointer none]⟩
theorem Try.vt213OK : V.Ent Try.prog 213 Try.vt213 := .mk' (by kernel_rfl) (by kernel_rfl) rfl rfl rfl
-- *bdd.manager
abbrev Try.vt214 : V.TI := ⟨.pointer 240, 1, 8, [.pointer none]⟩
theorem Try.vt214OK : V.Ent Try.prog 214 Try.vt214 := .mk' (by kernel_rfl) (by kernel_rfl) rfl rfl rfl
-- func() *bdd.manager
abbrev Try.vt215 : V.TI := ⟨.func, 1, 8, [.nilFunc]⟩
theorem Try.vt215OK : V.Ent Try.prog 215 Try.vt215 := .mk' (by kernel_rfl) (by kernel_rfl) rfl rfl rfl
-- struct { *bdd.manager; first []int; shape [][2]int; of []int }
abbrev Try.vt216 : V.TI := ⟨.struct [(0, 214), (1, 27), (2, 56), (3, 27)], 4, 80, [.pointer none, .slice none 0 0, .slice none 0 0, .slice none 0 0]⟩
theorem Try.vt216OK : V.Ent Try.prog 216 Try.vt216 := .mk' (by kernel_rfl) (by kernel_rfl) rfl rfl rfl
-- bdd.builder
abbrev Try.vt217 : V.TI := ⟨.struct [(0, 214), (1, 27), (2, 56), (3, 27)], 4, 80, [.pointer none, .slice none 0 0, .slice none 0 0, .slice none 0 0]⟩
theorem Try.vt217OK : V.Ent Try.prog 217 Try.vt217 := .mk' (by kernel_rfl) (by kernel_rfl) rfl rfl rfl
-- func([]int) api.Bdd
abbrev Try.vt218 : V.TI := ⟨.func, 1, 8, [.nilFunc]⟩
theorem Try.vt218OK : V.Ent Try.prog 218 Try.vt218 := .mk' (by kernel_rfl) (by kernel_rfl) rfl rfl rfl
-- func(api.Bdd, int, int) api.Errno
abbrev Try.vt219 : V.TI := ⟨.func, 1, 8, [.nilFunc]⟩
theorem Try.vt219OK : V.Ent Try.prog 219 Try.vt219 := .mk' (by kernel_rfl) (by kernel_rfl) rfl rfl rfl
-- struct { Var int; Lo int; Hi int }
abbrev Try.vt220 : V.TI := ⟨.struct [(0, 3), (1, 3), (2, 3)], 3, 24, [.int .i64 0, .int .i64 0, .int .i64 0]⟩
theorem Try.vt220OK : V.Ent Try.prog 220 Try.vt220 := .mk' (by kernel_rfl) (by kernel_rfl) rfl rfl rfl
-- api.BddNode
abbrev Try.vt221 : V.TI := ⟨.struct [(0, 3), (1, 3), (2, 3)], 3, 24, [.int .i64 0, .int .i64 0, .int .i64 0]⟩
theorem Try.vt221OK : V.Ent Try.prog 221 Try.vt221 := .mk' (by kernel_rfl) (by kernel_rfl) rfl rfl rfl
-- []string
abbrev Try.vt222 : V.TI := ⟨.slice 9, 1, 24, [.slice none 0 0]⟩
theorem Try.vt222OK : V.Ent Try.prog 222 Try.vt222 := .mk' (by kernel_rfl) (by kernel_rfl) rfl rfl rfl
-- func(ref12.Scope, int) []api.Expr
abbrev Try.vt223 : V.TI := ⟨.func, 1, 8, [.nilFunc]⟩
theorem Try.vt223OK : V.Ent Try.prog 223 Try.vt223 := .mk' (by kernel_rfl) (by kernel_rfl) rfl rfl rfl
-- func(int, int, int)
abbrev Try.vt224 : V.TI := ⟨.func, 1, 8, [.nilFunc]⟩
theorem Try.vt224OK : V.Ent Try.prog 224 Try.vt224 := .mk' (by kernel_rfl) (by kernel_rfl) rfl rfl rfl
-- func([]int, func(int, int) int) []int
abbrev Try.vt225 : V.TI := ⟨.func, 1, 8, [.nilFunc]⟩
theorem Try.vt225OK : V.Ent Try.prog 225 Try.vt225 := .mk' (by kernel_rfl) (by kernel_rfl) rfl rfl rfl
-- func(int, []int)
abbrev Try.vt226 : V.TI := ⟨.func, 1, 8, [.nilFunc]⟩
theorem Try.vt226OK : V.Ent Try.prog 226 Try.vt226 := .mk' (by kernel_rfl) (by kernel_rfl) rfl rfl rfl
-- func(*netlist.builder, int, int) int
abbrev Try.vt227 : V.TI := ⟨.func, 1, 8, [.nilFunc]⟩
theorem Try.vt227OK : V.Ent Try.prog 227 Try.vt227 := .mk' (by kernel_rfl) (by kernel_rfl) rfl rfl rfl
-- map[int]func(*netlist.builder, int, int) int
abbrev Try.vt228 : V.TI := ⟨.map 3 227, 1, 8, [.map none]⟩
theorem Try.vt228OK : V.Ent Try.prog 228 Try.vt228 := .mk' (by kernel_rfl) (by kernel_rfl) rfl rfl rfl
-- func([]int, []int, int) []int
abbrev Try.vt230 : V.TI := ⟨.func, 1, 8, [.nilFunc]⟩
theorem Try.vt230OK : V.Ent Try.prog 230 Try.vt230 := .mk' (by kernel_rfl) (by kernel_rfl) rfl rfl rfl
-- func([]int, []int) int
abbrev Try.vt231 : V.TI := ⟨.func, 1, 8, [.nilFunc]⟩
theorem Try.vt231OK : V.Ent Try.prog 231 Try.vt231 := .mk' (by kernel_rfl) (by kernel_rfl) rfl rfl rfl
-- func(...[]int) []int
abbrev Try.vt232 : V.TI := ⟨.func, 1, 8, [.nilFunc]⟩
theorem Try.vt232OK : V.Ent Try.prog 232 Try.vt232 := .mk' (by kernel_rfl) (by kernel_rfl) rfl rfl rfl
-- func(int, int) (int, int, bool)
abbrev Try.vt234 : V.TI := ⟨.func, 1, 8, [.nilFunc]⟩
theorem Try.vt234OK : V.Ent Try.prog 234 Try.vt234 := .mk' (by kernel_rfl) (by kernel_rfl) rfl rfl rfl
-- func([]api.Gate, func(api.Gate) bool) int
abbrev Try.vt235 : V.TI := ⟨.func, 1, 8, [.nilFunc]⟩
theorem Try.vt235OK : V.Ent Try.prog 235 Try.vt235 := .mk' (by kernel_rfl) (by kernel_rfl) rfl rfl rfl
-- func([][2]int, func([2]int) bool) int
abbrev Try.vt236 : V.TI := ⟨.func, 1, 8, [.nilFunc]⟩
theorem Try.vt236OK : V.Ent Try.prog 236 Try.vt236 := .mk' (by kernel_rfl) (by kernel_rfl) rfl rfl rfl
-- map[api.BddNode]int
abbrev Try.vt237 : V.TI := ⟨.map 221 3, 1, 8, [.map none]⟩
theorem Try.vt237OK : V.Ent Try.prog 237 Try.vt237 := .mk' (by kernel_rfl) (by kernel_rfl) rfl rfl rfl
-- map[[3]int]int
abbrev Try.vt238 : V.TI := ⟨.map 166 3, 1, 8, [.map none]⟩
theorem Try.vt238OK : V.Ent Try.prog 238 Try.vt238 := .mk' (by kernel_rfl) (by kernel_rfl) rfl rfl rfl
-- struct { nodes []api.BddNode; unique map[api.BddNode]int; memo map[[3]int]int }
abbrev Try.vt239 : V.TI := ⟨.struct [(0, 175), (1, 237), (2, 238)], 3, 40, [.slice none 0 0, .map none, .map none]⟩
theorem Try.vt239OK : V.Ent Try.prog 239 Try.vt239 := .mk' (by kernel_rfl) (by kernel_rfl) rfl rfl rfl
-- bdd.manager
abbrev Try.vt240 : V.TI := ⟨.struct [(0, 175), (1, 237), (2, 238)], 3, 40, [.slice none 0 0, .map none, .map none]⟩
theorem Try.vt240OK : V.Ent Try.prog 240 Try.vt240 := .mk' (by kernel_rfl) (by kernel_rfl) rfl rfl rfl
-- func(api.Bdd, int) []int
abbrev Try.vt241 : V.TI := ⟨.func, 1, 8, [.nilFunc]⟩
theorem Try.vt241OK : V.Ent Try.prog 241 Try.vt241 := .mk' (by kernel_rfl) (by kernel_rfl) rfl rfl rfl
-- func([]int, int) []int
abbrev Try.vt242 : V.TI := ⟨.func, 1, 8, [.nilFunc]⟩
theorem Try.vt242OK : V.Ent Try.prog 242 Try.vt242 := .mk' (by kernel_rfl) (by kernel_rfl) rfl rfl rfl
-- func(int, int, bool) int
abbrev Try.vt243 : V.TI := ⟨.func, 1, 8, [.nilFunc]⟩
theorem Try.vt243OK : V.Ent Try.prog 243 Try.vt243 := .mk' (by kernel_rfl) (by kernel_rfl) rfl rfl rfl
-- map[int]bool
abbrev Try.vt244 : V.TI := ⟨.map 3 4, 1, 8, [.map none]⟩
theorem Try.vt244OK : V.Ent Try.prog 244 Try.vt244 := .mk' (by kernel_rfl) (by kernel_rfl) rfl rfl rfl
-- func([]int)
abbrev Try.vt245 : V.TI := ⟨.func, 1, 8, [.nilFunc]⟩
theorem Try.vt245OK : V.Ent Try.prog 245 Try.vt245 := .mk' (by kernel_rfl) (by kernel_rfl) rfl rfl rfl
-- func([]int, int, int, int)
abbrev Try.vt246 : V.TI := ⟨.func, 1, 8, [.nilFunc]⟩
theorem Try.vt246OK : V.Ent Try.prog 246 Try.vt246 := .mk' (by kernel_rfl) (by kernel_rfl) rfl rfl rfl
-- func(uint) int
abbrev Try.vt247 : V.TI := ⟨.func, 1, 8, [.nilFunc]⟩
theorem Try.vt247OK : V.Ent Try.prog 247 Try.vt247 := .mk' (by kernel_rfl) (by kernel_rfl) rfl rfl rfl
-- func([]int, int, int)
abbrev Try.vt248 : V.TI := ⟨.func, 1, 8, [.nilFunc]⟩
theorem Try.vt248OK : V.Ent Try.prog 248 Try.vt248 := .mk' (by kernel_rfl) (by kernel_rfl) rfl rfl rfl
-- slices.sortedHint
abbrev Try.vt249 : V.TI := ⟨.int .i64, 1, 8, [.int .i64 0]⟩
theorem Try.vt249OK : V.Ent Try.prog 249 Try.vt249 := .mk' (by kernel_rfl) (by kernel_rfl) rfl rfl rfl
-- func([]int, int, int) (int, slices.sortedHint)
abbrev Try.vt251 : V.TI := ⟨.func, 1, 8, [.nilFunc]⟩
theorem Try.vt251OK : V.Ent Try.prog 251 Try.vt251 := .mk' (by kernel_rfl) (by kernel_rfl) rfl rfl rfl
-- func([]int, int, int) bool
abbrev Try.vt252 : V.TI := ⟨.func, 1, 8, [.nilFunc]⟩
theorem Try.vt252OK : V.Ent Try.prog 252 Try.vt252 := .mk' (by kernel_rfl) (by kernel_rfl) rfl rfl rfl
-- func([]int, int, int, int) int
abbrev Try.vt253 : V.TI := ⟨.func, 1, 8, [.nilFunc]⟩
theorem Try.vt253OK : V.Ent Try.prog 253 Try.vt253 := .mk' (by kernel_rfl) (by kernel_rfl) rfl rfl rfl
-- func([]int, int, int, int) (int, bool)
abbrev Try.vt254 : V.TI := ⟨.func, 1, 8, [.nilFunc]⟩
theorem Try.vt254OK : V.Ent Try.prog 254 Try.vt254 := .mk' (by kernel_rfl) (by kernel_rfl) rfl rfl rfl
-- func(uint32) int
abbrev Try.vt255 : V.TI := ⟨.func, 1, 8, [.nilFunc]⟩
theorem Try.vt255OK : V.Ent Try.prog 255 Try.vt255 := .mk' (by kernel_rfl) (by kernel_rfl) rfl rfl rfl
-- uint32
abbrev Try.vt256 : V.TI := ⟨.int .u32, 1, 4, [.int .u32 0]⟩
theorem Try.vt256OK : V.Ent Try.prog 256 Try.vt256 := .mk' (by kernel_rfl) (by kernel_rfl) rfl rfl rfl
-- func(uint64) int
abbrev Try.vt257 : V.TI := ⟨.func, 1, 8, [.nilFunc]⟩
theorem Try.vt257OK : V.Ent Try.prog 257 Try.vt257 := .mk' (by kernel_rfl) (by kernel_rfl) rfl rfl rfl
-- uint64
abbrev Try.vt258 : V.TI := ⟨.int .u64, 1, 8, [.int .u64 0]⟩
theorem Try.vt258OK : V.Ent Try.prog 258 Try.vt258 := .mk' (by kernel_rfl) (by kernel_rfl) rfl rfl rfl
-- slices.xorshift
abbrev Try.vt259 : V.TI := ⟨.int .u64, 1, 8, [.int .u64 0]⟩
theorem Try.vt259OK : V.Ent Try.prog 259 Try.vt259 := .mk' (by kernel_rfl) (by kernel_rfl) rfl rfl rfl
-- func(int) uint
abbrev Try.vt260 : V.TI := ⟨.func, 1, 8, [.nilFunc]⟩
theorem Try.vt260OK : V.Ent Try.prog 260 Try.vt260 := .mk' (by kernel_rfl) (by kernel_rfl) rfl rfl rfl
-- func() uint64
abbrev Try.vt261 : V.TI := ⟨.func, 1, 8, [.nilFunc]⟩
theorem Try.vt261OK : V.Ent Try.prog 261 Try.vt261 := .mk' (by kernel_rfl) (by kernel_rfl) rfl rfl rfl
-- func([]int, int, *int) int
abbrev Try.vt262 : V.TI := ⟨.func, 1, 8, [.nilFunc]⟩
theorem Try.vt262OK : V.Ent Try.prog 262 Try.vt262 := .mk' (by kernel_rfl) (by kernel_rfl) rfl rfl rfl
-- *int
abbrev Try.vt263 : V.TI := ⟨.pointer 3, 1, 8, [.pointer none]⟩
theorem Try.vt263OK : V.Ent Try.prog 263 Try.vt263 := .mk' (by kernel_rfl) (by kernel_rfl) rfl rfl rfl
-- func([]int, int, int, int, *int) int
abbrev Try.vt264 : V.TI := ⟨.func, 1, 8, [.nilFunc]⟩
theorem Try.vt264OK : V.Ent Try.prog 264 Try.vt264 := .mk' (by kernel_rfl) (by kernel_rfl) rfl rfl rfl
-- *slices.xorshift
abbrev Try.vt265 : V.TI := ⟨.pointer 259, 1, 8, [.pointer none]⟩
theorem Try.vt265OK : V.Ent Try.prog 265 Try.vt265 := .mk' (by kernel_rfl) (by kernel_rfl) rfl rfl rfl
-- func([]int, int, int, *int) (int, int)
abbrev Try.vt267 : V.TI := ⟨.func, 1, 8, [.nilFunc]⟩
theorem Try.vt267OK : V.Ent Try.prog 267 Try.vt267 := .mk' (by kernel_rfl) (by kernel_rfl) rfl rfl rfl
-- func() string
abbrev Try.vt268 : V.TI := ⟨.func, 1, 8, [.nilFunc]⟩
theorem Try.vt268OK : V.Ent Try.prog 268 Try.vt268 := .mk' (by kernel_rfl) (by kernel_rfl) rfl rfl rfl
-- func() int
abbrev Try.vt274 : V.TI := ⟨.func, 1, 8, [.nilFunc]⟩
theorem Try.vt274OK : V.Ent Try.prog 274 Try.vt274 := .mk' (by kernel_rfl) (by kernel_rfl) rfl rfl rfl
-- *uint8
abbrev Try.vt278 : V.TI := ⟨.pointer 5, 1, 8, [.pointer none]⟩
theorem Try.vt278OK : V.Ent Try.prog 278 Try.vt278 := .mk' (by kernel_rfl) (by kernel_rfl) rfl rfl rfl
def Try.vt : V.Tab := [(1, Try.vt1), (2, Try.vt2), (3, Try.vt3), (4, Try.vt4), (5, Try.vt5), (9, Try.vt9), (21, Try.vt21), (22, Try.vt22), (23, Try.vt23), (24, Try.vt24), (25, Try.vt25), (26, Try.vt26), (27, Try.vt27), (28, Try.vt28), (29, Try.vt29), (30, Try.vt30), (31, Try.vt31), (32, Try.vt32), (33, Try.vt33), (34, Try.vt34), (35, Try.vt35), (36, Try.vt36), (37, Try.vt37), (38, Try.vt38), (39, Try.vt39), (40, Try.vt40), (41, Try.vt41), (42, Try.vt42), (43, Try.vt43), (44, Try.vt44), (45, Try.vt45), (46, Try.vt46), (47, Try.vt47), (48, Try.vt48), (49, Try.vt49), (50, Try.vt50), (51, Try.vt51), (52, Try.vt52), (53, Try.vt53), (54, Try.vt54), (55, Try.vt55), (56, Try.vt56), (57, Try.vt57), (58, Try.vt58), (59, Try.vt59), (60, Try.vt60), (61, Try.vt61), (62, Try.vt62), (63, Try.vt63), (64, Try.vt64), (65, Try.vt65), (66, Try.vt66), (67, Try.vt67), (68, Try.vt68), (69, Try.vt69), (70, Try.vt70), (71, Try.vt71), (72, Try.vt72), (73, Try.vt73), (74, Try.vt74), (75, Try.vt75), (76, Try.vt76), (77, Try.vt77), (78, Try.vt78), (79, Try.vt79), (80, Try.vt80), (81, Try.vt81), (82, Try.vt82), (83, Try.vt83), (84, Try.vt84), (85, Try.vt85), (86, Try.vt86), (87, Try.vt87), (88, Try.vt88), (89, Try.vt89), (90, Try.vt90), (91, Try.vt91), (92, Try.vt92), (93, Try.vt93), (94, Try.vt94), (95, Try.vt95), (96, Try.vt96), (97, Try.vt97), (98, Try.vt98), (99, Try.vt99), (100, Try.vt100), (101, Try.vt101), (102, Try.vt102), (103, Try.vt103), (104, Try.vt104), (105, Try.vt105), (106, Try.vt106), (107, Try.vt107), (108, Try.vt108), (109, Try.vt109), (110, Try.vt110), (111, Try.vt111), (112, Try.vt112), (113, Try.vt113), (114, Try.vt114), (115, Try.vt115), (116, Try.vt116), (117, Try.vt117), (118, Try.vt118), (119, Try.vt119), (120, Try.vt120), (121, Try.vt121), (122, Try.vt122), (123, Try.vt123), (124, Try.vt124), (125, Try.vt125), (126, Try.vt126), (127, Try.vt127), (128, Try.vt128), (129, Try.vt129), (131, Try.vt131), (133, Try.vt133), (134, Try.vt134), (135, Try.vt135), (136, Try.vt136), (137, Try.vt137), (138, Try.vt138), (139, Try.vt139), (140, Try.vt140), (141, Try.vt141), (142, Try.vt142), (143, Try.vt143), (144, Try.vt144), (146, Try.vt146), (147, Try.vt147), (149, Try.vt149), (150, Try.vt150), (151, Try.vt151), (152, Try.vt152), (153, Try.vt153), (154, Try.vt154), (155, Try.vt155), (156, Try.vt156), (157, Try.vt157), (159, Try.vt159), (160, Try.vt160), (161, Try.vt161), (162, Try.vt162), (163, Try.vt163), (164, Try.vt164), (165, Try.vt165), (166, Try.vt166), (167, Try.vt167), (168, Try.vt168), (169, Try.vt169), (170, Try.vt170), (171, Try.vt171), (172, Try.vt172), (174, Try.vt174), (175, Try.vt175), (176, Try.vt176), (177, Try.vt177), (179, Try.vt179), (181, Try.vt181), (182, Try.vt182), (183, Try.vt183), (184, Try.vt184), (185, Try.vt185), (186, Try.vt186), (187, Try.vt187), (188, Try.vt188), (189, Try.vt189), (190, Try.vt190), (191, Try.vt191), (192, Try.vt192), (193, Try.vt193), (194, Try.vt194), (195, Try.vt195), (196, Try.vt196), (197, Try.vt197), (199, Try.vt199), (200, Try.vt200), (201, Try.vt201), (202, Try.vt202), (203, Try.vt203), (204, Try.vt204), (205, Try.vt205), (206, Try.vt206), (207, Try.vt207), (208, Try.vt208), (209, Try.vt209), (210, Try.vt210), (211, Try.vt211), (212, Try.vt212), (213, Try.vt213), (214, Try.vt214), (215, Try.vt215), (216, Try.vt216), (217, Try.vt217), (218, Try.vt218), (219, Try.vt219), (220, Try.vt220), (221, Try.vt221), (222, Try.vt222), (223, Try.vt223), (224, Try.vt224), (225, Try.vt225), (226, Try.vt226), (227, Try.vt227), (228, Try.vt228), (230, Try.vt230), (231, Try.vt231), (232, Try.vt232), (234, Try.vt234), (235, Try.vt235), (236, Try.vt236), (237, Try.vt237), (238, Try.vt238), (239, Try.vt239), (240, Try.vt240), (241, Try.vt241), (242, Try.vt242), (243, Try.vt243), (244, Try.vt244), (245, Try.vt245), (246, Try.vt246), (247, Try.vt247), (248, Try.vt248), (249, Try.vt249), (251, Try.vt251), (252, Try.vt252), (253, Try.vt253), (254, Try.vt254), (255, Try.vt255), (256, Try.vt256), (257, Try.vt257), (258, Try.vt258), (259, Try.vt259), (260, Try.vt260), (261, Try.vt261), (262, Try.vt262), (263, Try.vt263), (264, Try.vt264), (265, Try.vt265), (267, Try.vt267), (268, Try.vt268), (274, Try.vt274), (278, Try.vt278)]
@[simp] theorem Try.lk1 : V.lk Try.vt 1 = some Try.vt1 := by kernel_rfl
@[simp] theorem Try.lk2 : V.lk Try.vt 2 = some Try.vt2 := by kernel_rfl
@[simp] theorem Try.lk3 : V.lk Try.vt 3 = some Try.vt3 := by kernel_rfl
@[simp] theorem Try.lk4 : V.lk Try.vt 4 = some Try.vt4 := by kernel_rfl
@[simp] theorem Try.lk5 : V.lk Try.vt 5 = some Try.vt5 := by kernel_rfl
@[simp] theorem Try.lk9 : V.lk Try.vt 9 = some Try.vt9 := by kernel_rfl
@[simp] theorem Try.lk21 : V.lk Try.vt 21 = some Try.vt21 := by kernel_rfl
@[simp] theorem Try.lk22 : V.lk Try.vt 22 = some Try.vt22 := by kernel_rfl
@[simp] theorem Try.lk23 : V.lk Try.vt 23 = some Try.vt23 := by kernel_rfl
@[simp] theorem Try.lk24 : V.lk Try.vt 24 = some Try.vt24 := by kernel_rfl
@[simp] theorem Try.lk25 : V.lk Try.vt 25 = some Try.vt25 := by kernel_rfl
@[simp] theorem Try.lk26 : V.lk Try.vt 26 = some Try.vt26 := by kernel_rfl
@[simp] theorem Try.lk27 : V.lk Try.vt 27 = some Try.vt27 := by kernel_rfl
@[simp] theorem Try.lk28 : V.lk Try.vt 28 = some Try.vt28 := by kernel_rfl
@[simp] theorem Try.lk29 : V.lk Try.vt 29 = some Try.vt29 := by kernel_rfl
@[simp] theorem Try.lk30 : V.lk Try.vt 30 = some Try.vt30 := by kernel_rfl
@[simp] theorem Try.lk31 : V.lk Try.vt 31 = some Try.vt31 := by kernel_rfl
@[simp] theorem Try.lk32 : V.lk Try.vt 32 = some Try.vt32 := by kernel_rfl
@[simp] theorem Try.lk33 : V.lk Try.vt 33 = some Try.vt33 := by kernel_rfl
@[simp] theorem Try.lk34 : V.lk Try.vt 34 = some Try.vt34 := by kernel_rfl
@[simp] theorem Try.lk35 : V.lk Try.vt 35 = some Try.vt35 := by kernel_rfl
@[simp] theorem Try.lk36 : V.lk Try.vt 36 = some Try.vt36 := by kernel_rfl
@[simp] theorem Try.lk37 : V.lk Try.vt 37 = some Try.vt37 := by kernel_rfl
@[simp] theorem Try.lk38 : V.lk Try.vt 38 = some Try.vt38 := by kernel_rfl
@[simp] theorem Try.lk39 : V.lk Try.vt 39 = some Try.vt39 := by kernel_rfl
@[simp] theorem Try.lk40 : V.lk Try.vt 40 = some Try.vt40 := by kernel_rfl
@[simp] theorem Try.lk41 : V.lk Try.vt 41 = some Try.vt41 := by kernel_rfl
@[simp] theorem Try.lk42 : V.lk Try.vt 42 = some Try.vt42 := by kernel_rfl
@[simp] theorem Try.lk43 : V.lk Try.vt 43 = some Try.vt43 := by kernel_rfl
@[simp] theorem Try.lk44 : V.lk Try.vt 44 = some Try.vt44 := by kernel_rfl
@[simp] theorem Try.lk45 : V.lk Try.vt 45 = some Try.vt45 := by kernel_rfl
@[simp] theorem Try.lk46 : V.lk Try.vt 46 = some Try.vt46 := by kernel_rfl
@[simp] theorem Try.lk47 : V.lk Try.vt 47 = some Try.vt47 := by kernel_rfl
@[simp] theorem Try.lk48 : V.lk Try.vt 48 = some Try.vt48 := by kernel_rfl
@[simp] theorem Try.lk49 : V.lk Try.vt 49 = some Try.vt49 := by kernel_rfl
@[simp] theorem Try.lk50 : V.lk Try.vt 50 = some Try.vt50 := by kernel_rfl
@[simp] theorem Try.lk51 : V.lk Try.vt 51 = some Try.vt51 := by kernel_rfl
@[simp] theorem Try.lk52 : V.lk Try.vt 52 = some Try.vt52 := by kernel_rfl
@[simp] theorem Try.lk53 : V.lk Try.vt 53 = some Try.vt53 := by kernel_rfl
@[simp] theorem Try.lk54 : V.lk Try.vt 54 = some Try.vt54 := by kernel_rfl
@[simp] theorem Try.lk55 : V.lk Try.vt 55 = some Try.vt55 := by kernel_rfl
@[simp] theorem Try.lk56 : V.lk Try.vt 56 = some Try.vt56 := by kernel_rfl
@[simp] theorem Try.lk57 : V.lk Try.vt 57 = some Try.vt57 := by kernel_rfl
@[simp] theorem Try.lk58 : V.lk Try.vt 58 = some Try.vt58 := by kernel_rfl
@[simp] theorem Try.lk59 : V.lk Try.vt 59 = some Try.vt59 := by kernel_rfl
@[simp] theorem Try.lk60 : V.lk Try.vt 60 = some Try.vt60 := by kernel_rfl
@[simp] theorem Try.lk61 : V.lk Try.vt 61 = some Try.vt61 := by kernel_rfl
@[simp] theorem Try.lk62 : V.lk Try.vt 62 = some Try.vt62 := by kernel_rfl
@[simp] theorem Try.lk63 : V.lk Try.vt 63 = some Try.vt63 := by kernel_rfl
@[simp] theorem Try.lk64 : V.lk Try.vt 64 = some Try.vt64 := by kernel_rfl
@[simp] theorem Try.lk65 : V.lk Try.vt 65 = some Try.vt65 := by kernel_rfl
@[simp] theorem Try.lk66 : V.lk Try.vt 66 = some Try.vt66 := by kernel_rfl
@[simp] theorem Try.lk67 : V.lk Try.vt 67 = some Try.vt67 := by kernel_rfl
@[simp] theorem Try.lk68 : V.lk Try.vt 68 = some Try.vt68 := by kernel_rfl
@[simp] theorem Try.lk69 : V.lk Try.vt 69 = some Try.vt69 := by kernel_rfl
@[simp] theorem Try.lk70 : V.lk Try.vt 70 = some Try.vt70 := by kernel_rfl
@[simp] theorem Try.lk71 : V.lk Try.vt 71 = some Try.vt71 := by kernel_rfl
@[simp] theorem Try.lk72 : V.lk Try.vt 72 = some Try.vt72 := by kernel_rfl
@[simp] theorem Try.lk73 : V.lk Try.vt 73 = some Try.vt73 := by kernel_rfl
@[simp] theorem Try.lk74 : V.lk Try.vt 74 = some Try.vt74 := by kernel_rfl
@[simp] theorem Try.lk75 : V.lk Try.vt 75 = some Try.vt75 := by kernel_rfl
@[simp] theorem Try.lk76 : V.lk Try.vt 76 = some Try.vt76 := by kernel_rfl
@[simp] theorem Try.lk77 : V.lk Try.vt 77 = some Try.vt77 := by kernel_rfl
@[simp] theorem Try.lk78 : V.lk Try.vt 78 = some Try.vt78 := by kernel_rfl
@[simp] theorem Try.lk79 : V.lk Try.vt 79 = some Try.vt79 := by kernel_rfl
@[simp] theorem Try.lk80 : V.lk Try.vt 80 = some Try.vt80 := by kernel_rfl
@[simp] theorem Try.lk81 : V.lk Try.vt 81 = some Try.vt81 := by kernel_rfl
@[simp] theorem Try.lk82 : V.lk Try.vt 82 = some Try.vt82 := by kernel_rfl
@[simp] theorem Try.lk83 : V.lk Try.vt 83 = some Try.vt83 := by kernel_rfl
@[simp] theorem Try.lk84 : V.lk Try.vt 84 = some Try.vt84 := by kernel_rfl
@[simp] theorem Try.lk85 : V.lk Try.vt 85 = some Try.vt85 := by kernel_rfl
@[simp] theorem Try.lk86 : V.lk Try.vt 86 = some Try.vt86 := by kernel_rfl
@[simp] theorem Try.lk87 : V.lk Try.vt 87 = some Try.vt87 := by kernel_rfl
@[simp] theorem Try.lk88 : V.lk Try.vt 88 = some Try.vt88 := by kernel_rfl
@[simp] theorem Try.lk89 : V.lk Try.vt 89 = some Try.vt89 := by kernel_rfl
@[simp] theorem Try.lk90 : V.lk Try.vt 90 = some Try.vt90 := by kernel_rfl
@[simp] theorem Try.lk91 : V.lk Try.vt 91 = some Try.vt91 := by kernel_rfl
@[simp] theorem Try.lk92 : V.lk Try.vt 92 = some Try.vt92 := by kernel_rfl
@[simp] theorem Try.lk93 : V.lk Try.vt 93 = some Try.vt93 := by kernel_rfl
@[simp] theorem Try.lk94 : V.lk Try.vt 94 = some Try.vt94 := by kernel_rfl
@[simp] theorem Try.lk95 : V.lk Try.vt 95 = some Try.vt95 := by kernel_rfl
@[simp] theorem Try.lk96 : V.lk Try.vt 96 = some Try.vt96 := by kernel_rfl
@[simp] theorem Try.lk97 : V.lk Try.vt 97 = some Try.vt97 := by kernel_rfl
@[simp] theorem Try.lk98 : V.lk Try.vt 98 = some Try.vt98 := by kernel_rfl
@[simp] theorem Try.lk99 : V.lk Try.vt 99 = some Try.vt99 := by kernel_rfl
@[simp] theorem Try.lk100 : V.lk Try.vt 100 = some Try.vt100 := by kernel_rfl
@[simp] theorem Try.lk101 : V.lk Try.vt 101 = some Try.vt101 := by kernel_rfl
@[simp] theorem Try.lk102 : V.lk Try.vt 102 = some Try.vt102 := by kernel_rfl
@[simp] theorem Try.lk103 : V.lk Try.vt 103 = some Try.vt103 := by kernel_rfl
@[simp] theorem Try.lk104 : V.lk Try.vt 104 = some Try.vt104 := by kernel_rfl
@[simp] theorem Try.lk105 : V.lk Try.vt 105 = some Try.vt105 := by kernel_rfl
@[simp] theorem Try.lk106 : V.lk Try.vt 106 = some Try.vt106 := by kernel_rfl
@[simp] theorem Try.lk107 : V.lk Try.vt 107 = some Try.vt107 := by kernel_rfl
@[simp] theorem Try.lk108 : V.lk Try.vt 108 = some Try.vt108 := by kernel_rfl
@[simp] theorem Try.lk109 : V.lk Try.vt 109 = some Try.vt109 := by kernel_rfl
@[simp] theorem Try.lk110 : V.lk Try.vt 110 = some Try.vt110 := by kernel_rfl
@[simp] theorem Try.lk111 : V.lk Try.vt 111 = some Try.vt111 := by kernel_rfl
@[simp] theorem Try.lk112 : V.lk Try.vt 112 = some Try.vt112 := by kernel_rfl
@[simp] theorem Try.lk113 : V.lk Try.vt 113 = some Try.vt113 := by kernel_rfl
@[simp] theorem Try.lk114 : V.lk Try.vt 114 = some Try.vt114 := by kernel_rfl
@[simp] theorem Try.lk115 : V.lk Try.vt 115 = some Try.vt115 := by kernel_rfl
@[simp] theorem Try.lk116 : V.lk Try.vt 116 = some Try.vt116 := by kernel_rfl
@[simp] theorem Try.lk117 : V.lk Try.vt 117 = some Try.vt117 := by kernel_rfl
@[simp] theorem Try.lk118 : V.lk Try.vt 118 = some Try.vt118 := by kernel_rfl
@[simp] theorem Try.lk119 : V.lk Try.vt 119 = some Try.vt119 := by kernel_rfl
@[simp] theorem Try.lk120 : V.lk Try.vt 120 = some Try.vt120 := by kernel_rfl
@[simp] theorem Try.lk121 : V.lk Try.vt 121 = some Try.vt121 := by kernel_rfl
@[simp] theorem Try.lk122 : V.lk Try.vt 122 = some Try.vt122 := by kernel_rfl
@[simp] theorem Try.lk123 : V.lk Try.vt 123 = some Try.vt123 := by kernel_rfl
@[simp] theorem Try.lk124 : V.lk Try.vt 124 = some Try.vt124 := by kernel_rfl
@[simp] theorem Try.lk125 : V.lk Try.vt 125 = some Try.vt125 := by kernel_rfl
@[simp] theorem Try.lk126 : V.lk Try.vt 126 = some Try.vt126 := by kernel_rfl
@[simp] theorem Try.lk127 : V.lk Try.vt 127 = some Try.vt127 := by kernel_rfl
@[simp] theorem Try.lk128 : V.lk Try.vt 128 = some Try.vt128 := by kernel_rfl
@[simp] theorem Try.lk129 : V.lk Try.vt 129 = some Try.vt129 := by kernel_rfl
@[simp] theorem Try.lk131 : V.lk Try.vt 131 = some Try.vt131 := by kernel_rfl
@[simp] theorem Try.lk133 : V.lk Try.vt 133 = some Try.vt133 := by kernel_rfl
@[simp] theorem Try.lk134 : V.lk Try.vt 134 = some Try.vt134 := by kernel_rfl
@[simp] theorem Try.lk135 : V.lk Try.vt 135 = some Try.vt135 := by kernel_rfl
@[simp] theorem Try.lk136 : V.lk Try.vt 136 = some Try.vt136 := by kernel_rfl
@[simp] theorem Try.lk137 : V.lk Try.vt 137 = some Try.vt137 := by kernel_rfl
@[simp] theorem Try.lk138 : V.lk Try.vt 138 = some Try.vt138 := by kernel_rfl
@[simp] theorem Try.lk139 : V.lk Try.vt 139 = some Try.vt139 := by kernel_rfl
@[simp] theorem Try.lk140 : V.lk Try.vt 140 = some Try.vt140 := by kernel_rfl
@[simp] theorem Try.lk141 : V.lk Try.vt 141 = some Try.vt141 := by kernel_rfl
@[simp] theorem Try.lk142 : V.lk Try.vt 142 = some Try.vt142 := by kernel_rfl
@[simp] theorem Try.lk143 : V.lk Try.vt 143 = some Try.vt143 := by kernel_rfl
@[simp] theorem Try.lk144 : V.lk Try.vt 144 = some Try.vt144 := by kernel_rfl
@[simp] theorem Try.lk146 : V.lk Try.vt 146 = some Try.vt146 := by kernel_rfl
@[simp] theorem Try.lk147 : V.lk Try.vt 147 = some Try.vt147 := by kernel_rfl
@[simp] theorem Try.lk149 : V.lk Try.vt 149 = some Try.vt149 := by kernel_rfl
@[simp] theorem Try.lk150 : V.lk Try.vt 150 = some Try.vt150 := by kernel_rfl
@[simp] theorem Try.lk151 : V.lk Try.vt 151 = some Try.vt151 := by kernel_rfl
@[simp] theorem Try.lk152 : V.lk Try.vt 152 = some Try.vt152 := by kernel_rfl
@[simp] theorem Try.lk153 : V.lk Try.vt 153 = some Try.vt153 := by kernel_rfl
@[simp] theorem Try.lk154 : V.lk Try.vt 154 = some Try.vt154 := by kernel_rfl
@[simp] theorem Try.lk155 : V.lk Try.vt 155 = some Try.vt155 := by kernel_rfl
@[simp] theorem Try.lk156 : V.lk Try.vt 156 = some Try.vt156 := by kernel_rfl
@[simp] theorem Try.lk157 : V.lk Try.vt 157 = some Try.vt157 := by kernel_rfl
@[simp] theorem Try.lk159 : V.lk Try.vt 159 = some Try.vt159 := by kernel_rfl
@[simp] theorem Try.lk160 : V.lk Try.vt 160 = some Try.vt160 := by kernel_rfl
@[simp] theorem Try.lk161 : V.lk Try.vt 161 = some Try.vt161 := by kernel_rfl
@[simp] theorem Try.lk162 : V.lk Try.vt 162 = some Try.vt162 := by kernel_rfl
@[simp] theorem Try.lk163 : V.lk Try.vt 163 = some Try.vt163 := by kernel_rfl
@[simp] theorem Try.lk164 : V.lk Try.vt 164 = some Try.vt164 := by kernel_rfl
@[simp] theorem Try.lk165 : V.lk Try.vt 165 = some Try.vt165 := by kernel_rfl
@[simp] theorem Try.lk166 : V.lk Try.vt 166 = some Try.vt166 := by kernel_rfl
@[simp] theorem Try.lk167 : V.lk Try.vt 167 = some Try.vt167 := by kernel_rfl
@[simp] theorem Try.lk168 : V.lk Try.vt 168 = some Try.vt168 := by kernel_rfl
@[simp] theorem Try.lk169 : V.lk Try.vt 169 = some Try.vt169 := by kernel_rfl
@[simp] theorem Try.lk170 : V.lk Try.vt 170 = some Try.vt170 := by kernel_rfl
@[simp] theorem Try.lk171 : V.lk Try.vt 171 = some Try.vt171 := by kernel_rfl
@[simp] theorem Try.lk172 : V.lk Try.vt 172 = some Try.vt172 := by kernel_rfl
@[simp] theorem Try.lk174 : V.lk Try.vt 174 = some Try.vt174 := by kernel_rfl
@[simp] theorem Try.lk175 : V.lk Try.vt 175 = some Try.vt175 := by kernel_rfl
@[simp] theorem Try.lk176 : V.lk Try.vt 176 = some Try.vt176 := by kernel_rfl
@[simp] theorem Try.lk177 : V.lk Try.vt 177 = some Try.vt177 := by kernel_rfl
@[simp] theorem Try.lk179 : V.lk Try.vt 179 = some Try.vt179 := by kernel_rfl
@[simp] theorem Try.lk181 : V.lk Try.vt 181 = some Try.vt181 := by kernel_rfl
@[simp] theorem Try.lk182 : V.lk Try.vt 182 = some Try.vt182 := by kernel_rfl
@[simp] theorem Try.lk183 : V.lk Try.vt 183 = some Try.vt183 := by kernel_rfl
@[simp] theorem Try.lk184 : V.lk Try.vt 184 = some Try.vt184 := by kernel_rfl
@[simp] theorem Try.lk185 : V.lk Try.vt 185 = some Try.vt185 := by kernel_rfl
@[simp] theorem Try.lk186 : V.lk Try.vt 186 = some Try.vt186 := by kernel_rfl
@[simp] theorem Try.lk187 : V.lk Try.vt 187 = some Try.vt187 := by kernel_rfl
@[simp] theorem Try.lk188 : V.lk Try.vt 188 = some Try.vt188 := by kernel_rfl
@[simp] theorem Try.lk189 : V.lk Try.vt 189 = some Try.vt189 := by kernel_rfl
@[simp] theorem Try.lk190 : V.lk Try.vt 190 = some Try.vt190 := by kernel_rfl
@[simp] theorem Try.lk191 : V.lk Try.vt 191 = some Try.vt191 := by kernel_rfl
@[simp] theorem Try.lk192 : V.lk Try.vt 192 = some Try.vt192 := by kernel_rfl
@[simp] theorem Try.lk193 : V.lk Try.vt 193 = some Try.vt193 := by kernel_rfl
@[simp] theorem Try.lk194 : V.lk Try.vt 194 = some Try.vt194 := by kernel_rfl
@[simp] theorem Try.lk195 : V.lk Try.vt 195 = some Try.vt195 := by kernel_rfl
@[simp] theorem Try.lk196 : V.lk Try.vt 196 = some Try.vt196 := by kernel_rfl
@[simp] theorem Try.lk197 : V.lk Try.vt 197 = some Try.vt197 := by kernel_rfl
@[simp] theorem Try.lk199 : V.lk Try.vt 199 = some Try.vt199 := by kernel_rfl
@[simp] theorem Try.lk200 : V.lk Try.vt 200 = some Try.vt200 := by kernel_rfl
@[simp] theorem Try.lk201 : V.lk Try.vt 201 = some Try.vt201 := by kernel_rfl
@[simp] theorem Try.lk202 : V.lk Try.vt 202 = some Try.vt202 := by kernel_rfl
@[simp] theorem Try.lk203 : V.lk Try.vt 203 = some Try.vt203 := by kernel_rfl
@[simp] theorem Try.lk204 : V.lk Try.vt 204 = some Try.vt204 := by kernel_rfl
@[simp] theorem Try.lk205 : V.lk Try.vt 205 = some Try.vt205 := by kernel_rfl
@[simp] theorem Try.lk206 : V.lk Try.vt 206 = some Try.vt206 := by kernel_rfl
@[simp] theorem Try.lk207 : V.lk Try.vt 207 = some Try.vt207 := by kernel_rfl
@[simp] theorem Try.lk208 : V.lk Try.vt 208 = some Try.vt208 := by kernel_rfl
@[simp] theorem Try.lk209 : V.lk Try.vt 209 = some Try.vt209 := by kernel_rfl
@[simp] theorem Try.lk210 : V.lk Try.vt 210 = some Try.vt210 := by kernel_rfl
@[simp] theorem Try.lk211 : V.lk Try.vt 211 = some Try.vt211 := by kernel_rfl
@[simp] theorem Try.lk212 : V.lk Try.vt 212 = some Try.vt212 := by kernel_rfl
@[simp] theorem Try.lk213 : V.lk Try.vt 213 = some Try.vt213 := by kernel_rfl
@[simp] theorem Try.lk214 : V.lk Try.vt 214 = some Try.vt214 := by kernel_rfl
@[simp] theorem Try.lk215 : V.lk Try.vt 215 = some Try.vt215 := by kernel_rfl
@[simp] theorem Try.lk216 : V.lk Try.vt 216 = some Try.vt216 := by kernel_rfl
@[simp] theorem Try.lk217 : V.lk Try.vt 217 = some Try.vt217 := by kernel_rfl
@[simp] theorem Try.lk218 : V.lk Try.vt 218 = some Try.vt218 := by kernel_rfl
@[simp] theorem Try.lk219 : V.lk Try.vt 219 = some Try.vt219 := by kernel_rfl
@[simp] theorem Try.lk220 : V.lk Try.vt 220 = some Try.vt220 := by kernel_rfl
@[simp] theorem Try.lk221 : V.lk Try.vt 221 = some Try.vt221 := by kernel_rfl
@[simp] theorem Try.lk222 : V.lk Try.vt 222 = some Try.vt222 := by kernel_rfl
@[simp] theorem Try.lk223 : V.lk Try.vt 223 = some Try.vt223 := by kernel_rfl
@[simp] theorem Try.lk224 : V.lk Try.vt 224 = some Try.vt224 := by kernel_rfl
@[simp] theorem Try.lk225 : V.lk Try.vt 225 = some Try.vt225 := by kernel_rfl
@[simp] theorem Try.lk226 : V.lk Try.vt 226 = some Try.vt226 := by kernel_rfl
@[simp] theorem Try.lk227 : V.lk Try.vt 227 = some Try.vt227 := by kernel_rfl
@[simp] theorem Try.lk228 : V.lk Try.vt 228 = some Try.vt228 := by kernel_rfl
@[simp] theorem Try.lk230 : V.lk Try.vt 230 = some Try.vt230 := by kernel_rfl
@[simp] theorem Try.lk231 : V.lk Try.vt 231 = some Try.vt231 := by kernel_rfl
@[simp] theorem Try.lk232 : V.lk Try.vt 232 = some Try.vt232 := by kernel_rfl
@[simp] theorem Try.lk234 : V.lk Try.vt 234 = some Try.vt234 := by kernel_rfl
@[simp] theorem Try.lk235 : V.lk Try.vt 235 = some Try.vt235 := by kernel_rfl
@[simp] theorem Try.lk236 : V.lk Try.vt 236 = some Try.vt236 := by kernel_rfl
@[simp] theorem Try.lk237 : V.lk Try.vt 237 = some Try.vt237 := by kernel_rfl
@[simp] theorem Try.lk238 : V.lk Try.vt 238 = some Try.vt238 := by kernel_rfl
@[simp] theorem Try.lk239 : V.lk Try.vt 239 = some Try.vt239 := by kernel_rfl
@[simp] theorem Try.lk240 : V.lk Try.vt 240 = some Try.vt240 := by kernel_rfl
@[simp] theorem Try.lk241 : V.lk Try.vt 241 = some Try.vt241 := by kernel_rfl
@[simp] theorem Try.lk242 : V.lk Try.vt 242 = some Try.vt242 := by kernel_rfl
@[simp] theorem Try.lk243 : V.lk Try.vt 243 = some Try.vt243 := by kernel_rfl
@[simp] theorem Try.lk244 : V.lk Try.vt 244 = some Try.vt244 := by kernel_rfl
@[simp] theorem Try.lk245 : V.lk Try.vt 245 = some Try.vt245 := by kernel_rfl
@[simp] theorem Try.lk246 : V.lk Try.vt 246 = some Try.vt246 := by kernel_rfl
@[simp] theorem Try.lk247 : V.lk Try.vt 247 = some Try.vt247 := by kernel_rfl
@[simp] theorem Try.lk248 : V.lk Try.vt 248 = some Try.vt248 := by kernel_rfl
@[simp] theorem Try.lk249 : V.lk Try.vt 249 = some Try.vt249 := by kernel_rfl
@[simp] theorem Try.lk251 : V.lk Try.vt 251 = some Try.vt251 := by kernel_rfl
@[simp] theorem Try.lk252 : V.lk Try.vt 252 = some Try.vt252 := by kernel_rfl
@[simp] theorem Try.lk253 : V.lk Try.vt 253 = some Try.vt253 := by kernel_rfl
@[simp] theorem Try.lk254 : V.lk Try.vt 254 = some Try.vt254 := by kernel_rfl
@[simp] theorem Try.lk255 : V.lk Try.vt 255 = some Try.vt255 := by kernel_rfl
@[simp] theorem Try.lk256 : V.lk Try.vt 256 = some Try.vt256 := by kernel_rfl
@[simp] theorem Try.lk257 : V.lk Try.vt 257 = some Try.vt257 := by kernel_rfl
@[simp] theorem Try.lk258 : V.lk Try.vt 258 = some Try.vt258 := by kernel_rfl
@[simp] theorem Try.lk259 : V.lk Try.vt 259 = some Try.vt259 := by kernel_rfl
@[simp] theorem Try.lk260 : V.lk Try.vt 260 = some Try.vt260 := by kernel_rfl
@[simp] theorem Try.lk261 : V.lk Try.vt 261 = some Try.vt261 := by kernel_rfl
@[simp] theorem Try.lk262 : V.lk Try.vt 262 = some Try.vt262 := by kernel_rfl
@[simp] theorem Try.lk263 : V.lk Try.vt 263 = some Try.vt263 := by kernel_rfl
@[simp] theorem Try.lk264 : V.lk Try.vt 264 = some Try.vt264 := by kernel_rfl
@[simp] theorem Try.lk265 : V.lk Try.vt 265 = some Try.vt265 := by kernel_rfl
@[simp] theorem Try.lk267 : V.lk Try.vt 267 = some Try.vt267 := by kernel_rfl
@[simp] theorem Try.lk268 : V.lk Try.vt 268 = some Try.vt268 := by kernel_rfl
@[simp] theorem Try.lk274 : V.lk Try.vt 274 = some Try.vt274 := by kernel_rfl
@[simp] theorem Try.lk278 : V.lk Try.vt 278 = some Try.vt278 := by kernel_rfl
theorem Try.vtOK : V.TabOK Try.prog Try.vt :=
  V.TabOK.cons Try.vt1OK (V.TabOK.cons Try.vt2OK (V.TabOK.cons Try.vt3OK (V.TabOK.cons Try.vt4OK (V.TabOK.cons Try.vt5OK (V.TabOK.cons Try.vt9OK (V.TabOK.cons Try.vt21OK (V.TabOK.cons Try.vt22OK (V.TabOK.cons Try.vt23OK (V.TabOK.cons Try.vt24OK (V.TabOK.cons Try.vt25OK (V.TabOK.cons Try.vt26OK (V.TabOK.cons Try.vt27OK (V.TabOK.cons Try.vt28OK (V.TabOK.cons Try.vt29OK (V.TabOK.cons Try.vt30OK (V.TabOK.cons Try.vt31OK (V.TabOK.cons Try.vt32OK (V.TabOK.cons Try.vt33OK (V.TabOK.cons Try.vt34OK (V.TabOK.cons Try.vt35OK (V.TabOK.cons Try.vt36OK (V.TabOK.cons Try.vt37OK (V.TabOK.cons Try.vt38OK (V.TabOK.cons Try.vt39OK (V.TabOK.cons Try.vt40OK (V.TabOK.cons Try.vt41OK (V.TabOK.cons Try.vt42OK (V.TabOK.cons Try.vt43OK (V.TabOK.cons Try.vt44OK (V.TabOK.cons Try.vt45OK (V.TabOK.cons Try.vt46OK (V.TabOK.cons Try.vt47OK (V.TabOK.cons Try.vt48OK (V.TabOK.cons Try.vt49OK (V.TabOK.cons Try.vt50OK (V.TabOK.cons Try.vt51OK (V.TabOK.cons Try.vt52OK (V.TabOK.cons Try.vt53OK (V.TabOK.cons Try.vt54OK (V.TabOK.cons Try.vt55OK (V.TabOK.cons Try.vt56OK (V.TabOK.cons Try.vt57OK (V.TabOK.cons Try.vt58OK (V.TabOK.cons Try.vt59OK (V.TabOK.cons Try.vt60OK (V.TabOK.cons Try.vt61OK (V.TabOK.cons Try.vt62OK (V.TabOK.cons Try.vt63OK (V.TabOK.cons Try.vt64OK (V.TabOK.cons Try.vt65OK (V.TabOK.cons Try.vt66OK (V.TabOK.cons Try.vt67OK (V.TabOK.cons Try.vt68OK (V.TabOK.cons Try.vt69OK (V.TabOK.cons Try.vt70OK (V.TabOK.cons Try.vt71OK (V.TabOK.cons Try.vt72OK (V.TabOK.cons Try.vt73OK (V.TabOK.cons Try.vt74OK (V.TabOK.cons Try.vt75OK (V.TabOK.cons Try.vt76OK (V.TabOK.cons Try.vt77OK (V.TabOK.cons Try.vt78OK (V.TabOK.cons Try.vt79OK (V.TabOK.cons Try.vt80OK (V.TabOK.cons Try.vt81OK (V.TabOK.cons Try.vt82OK (V.TabOK.cons Try.vt83OK (V.TabOK.cons Try.vt84OK (V.TabOK.cons Try.vt85OK (V.TabOK.cons Try.vt86OK (V.TabOK.cons Try.vt87OK (V.TabOK.cons Try.vt88OK (V.TabOK.cons Try.vt89OK (V.TabOK.cons Try.vt90OK (V.TabOK.cons Try.vt91OK (V.TabOK.cons Try.vt92OK (V.TabOK.cons Try.vt93OK (V.TabOK.cons Try.vt94OK (V.TabOK.cons Try.vt95OK (V.TabOK.cons Try.vt96OK (V.TabOK.cons Try.vt97OK (V.TabOK.cons Try.vt98OK (V.TabOK.cons Try.vt99OK (V.TabOK.cons Try.vt100OK (V.TabOK.cons Try.vt101OK (V.TabOK.cons Try.vt102OK (V.TabOK.cons Try.vt103OK (V.TabOK.cons Try.vt104OK (V.TabOK.cons Try.vt105OK (V.TabOK.cons Try.vt106OK (V.TabOK.cons Try.vt107OK (V.TabOK.cons Try.vt108OK (V.TabOK.cons Try.vt109OK (V.TabOK.cons Try.vt110OK (V.TabOK.cons Try.vt111OK (V.TabOK.cons Try.vt112OK (V.TabOK.cons Try.vt113OK (V.TabOK.cons Try.vt114OK (V.TabOK.cons Try.vt115OK (V.TabOK.cons Try.vt116OK (V.TabOK.cons Try.vt117OK (V.TabOK.cons Try.vt118OK (V.TabOK.cons Try.vt119OK (V.TabOK.cons Try.vt120OK (V.TabOK.cons Try.vt121OK (V.TabOK.cons Try.vt122OK (V.TabOK.cons Try.vt123OK (V.TabOK.cons Try.vt124OK (V.TabOK.cons Try.vt125OK (V.TabOK.cons Try.vt126OK (V.TabOK.cons Try.vt127OK (V.TabOK.cons Try.vt128OK (V.TabOK.cons Try.vt129OK (V.TabOK.cons Try.vt131OK (V.TabOK.cons Try.vt133OK (V.TabOK.cons Try.vt134OK (V.TabOK.cons Try.vt135OK (V.TabOK.cons Try.vt136OK (V.TabOK.cons Try.vt137OK (V.TabOK.cons Try.vt138OK (V.TabOK.cons Try.vt139OK (V.TabOK.cons Try.vt140OK (V.TabOK.cons Try.vt141OK (V.TabOK.cons Try.vt142OK (V.TabOK.cons Try.vt143OK (V.TabOK.cons Try.vt144OK (V.TabOK.cons Try.vt146OK (V.TabOK.cons Try.vt147OK (V.TabOK.cons Try.vt149OK (V.TabOK.cons Try.vt150OK (V.TabOK.cons Try.vt151OK (V.TabOK.cons Try.vt152OK (V.TabOK.cons Try.vt153OK (V.TabOK.cons Try.vt154OK (V.TabOK.cons Try.vt155OK (V.TabOK.cons Try.vt156OK (V.TabOK.cons Try.vt157OK (V.TabOK.cons Try.vt159OK (V.TabOK.cons Try.vt160OK (V.TabOK.cons Try.vt161OK (V.TabOK.cons Try.vt162OK (V.TabOK.cons Try.vt163OK (V.TabOK.cons Try.vt164OK (V.TabOK.cons Try.vt165OK (V.TabOK.cons Try.vt166OK (V.TabOK.cons Try.vt167OK (V.TabOK.cons Try.vt168OK (V.TabOK.cons Try.vt169OK (V.TabOK.cons Try.vt170OK (V.TabOK.cons Try.vt171OK (V.TabOK.cons Try.vt172OK (V.TabOK.cons Try.vt174OK (V.TabOK.cons Try.vt175OK (V.TabOK.cons Try.vt176OK (V.TabOK.cons Try.vt177OK (V.TabOK.cons Try.vt179OK (V.TabOK.cons Try.vt181OK (V.TabOK.cons Try.vt182OK (V.TabOK.cons Try.vt183OK (V.TabOK.cons Try.vt184OK (V.TabOK.cons Try.vt185OK (V.TabOK.cons Try.vt186OK (V.TabOK.cons Try.vt187OK (V.TabOK.cons Try.vt188OK (V.TabOK.cons Try.vt189OK (V.TabOK.cons Try.vt190OK (V.TabOK.cons Try.vt191OK (V.TabOK.cons Try.vt192OK (V.TabOK.cons Try.vt193OK (V.TabOK.cons Try.vt194OK (V.TabOK.cons Try.vt195OK (V.TabOK.cons Try.vt196OK (V.TabOK.cons Try.vt197OK (V.TabOK.cons Try.vt199OK (V.TabOK.cons Try.vt200OK (V.TabOK.cons Try.vt201OK (V.TabOK.cons Try.vt202OK (V.TabOK.cons Try.vt203OK (V.TabOK.cons Try.vt204OK (V.TabOK.cons Try.vt205OK (V.TabOK.cons Try.vt206OK (V.TabOK.cons Try.vt207OK (V.TabOK.cons Try.vt208OK (V.TabOK.cons Try.vt209OK (V.TabOK.cons Try.vt210OK (V.TabOK.cons Try.vt211OK (V.TabOK.cons Try.vt212OK (V.TabOK.cons Try.vt213OK (V.TabOK.cons Try.vt214OK (V.TabOK.cons Try.vt215OK (V.TabOK.cons Try.vt216OK (V.TabOK.cons Try.vt217OK (V.TabOK.cons Try.vt218OK (V.TabOK.cons Try.vt219OK (V.TabOK.cons Try.vt220OK (V.TabOK.cons Try.vt221OK (V.TabOK.cons Try.vt222OK (V.TabOK.cons Try.vt223OK (V.TabOK.cons Try.vt224OK (V.TabOK.cons Try.vt225OK (V.TabOK.cons Try.vt226OK (V.TabOK.cons Try.vt227OK (V.TabOK.cons Try.vt228OK (V.TabOK.cons Try.vt230OK (V.TabOK.cons Try.vt231OK (V.TabOK.cons Try.vt232OK (V.TabOK.cons Try.vt234OK (V.TabOK.cons Try.vt235OK (V.TabOK.cons Try.vt236OK (V.TabOK.cons Try.vt237OK (V.TabOK.cons Try.vt238OK (V.TabOK.cons Try.vt239OK (V.TabOK.cons Try.vt240OK (V.TabOK.cons Try.vt241OK (V.TabOK.cons Try.vt242OK (V.TabOK.cons Try.vt243OK (V.TabOK.cons Try.vt244OK (V.TabOK.cons Try.vt245OK (V.TabOK.cons Try.vt246OK (V.TabOK.cons Try.vt247OK (V.TabOK.cons Try.vt248OK (V.TabOK.cons Try.vt249OK (V.TabOK.cons Try.vt251OK (V.TabOK.cons Try.vt252OK (V.TabOK.cons Try.vt253OK (V.TabOK.cons Try.vt254OK (V.TabOK.cons Try.vt255OK (V.TabOK.cons Try.vt256OK (V.TabOK.cons Try.vt257OK (V.TabOK.cons Try.vt258OK (V.TabOK.cons Try.vt259OK (V.TabOK.cons Try.vt260OK (V.TabOK.cons Try.vt261OK (V.TabOK.cons Try.vt262OK (V.TabOK.cons Try.vt263OK (V.TabOK.cons Try.vt264OK (V.TabOK.cons Try.vt265OK (V.TabOK.cons Try.vt267OK (V.TabOK.cons Try.vt268OK (V.TabOK.cons Try.vt274OK (V.TabOK.cons Try.vt278OK (V.TabOK.nil)))))))))))))))))))))))))))))))))))))))))))))))))))))))))))))))))))))))))))))))))))))))))))))))))))))))))))))))))))))))))))))))))))))))))))))))))))))))))))))))))))))))))))))))))))))))))))))))))))))))))))))))))))))))))))))))))))))))))))))))))))
theorem Try.eq36 : V.EqEnt Try.prog 36 [.int .i8, .int .i8] := V.eqEnt_arr2 (e := 35) (by kernel_rfl) Try.vt35OK rfl (by kernel_rfl)
theorem Try.eq49 : V.EqEnt Try.prog 49 [.int .i64, .int .i64, .int .i64] := V.eqEnt_struct (by kernel_rfl) (by kernel_rfl) (by kernel_rfl) (by
  rw [show Try.prog.fieldsOf 49 = #[{ name := "Kind", type := 3, offset := 0, embedded := false, tag := "", pkgPath := "", byteOffset := 0 }, { name := "I", type := 3, offset := 1, embedded := false, tag := "", pkgPath := "", byteOffset := 8 }, { name := "Bit", type := 3, offset := 2, embedded := false, tag := "", pkgPath := "", byteOffset := 16 }] by kernel_rfl]
  exact ⟨rfl, rfl, ⟨_, Try.vt3OK, rfl⟩, rfl, rfl, ⟨_, Try.vt3OK, rfl⟩, rfl, rfl, ⟨_, Try.vt3OK, rfl⟩, trivial⟩)
theorem Try.eq50 : V.EqEnt Try.prog 50 [.int .i64, .int .i64, .int .i64] := V.eqEnt_struct (by kernel_rfl) (by kernel_rfl) (by kernel_rfl) (by
  rw [show Try.prog.fieldsOf 50 = #[{ name := "Kind", type := 3, offset := 0, embedded := false, tag := "", pkgPath := "", byteOffset := 0 }, { name := "I", type := 3, offset := 1, embedded := false, tag := "", pkgPath := "", byteOffset := 8 }, { name := "Bit", type := 3, offset := 2, embedded := false, tag := "", pkgPath := "", byteOffset := 16 }] by kernel_rfl]
  exact ⟨rfl, rfl, ⟨_, Try.vt3OK, rfl⟩, rfl, rfl, ⟨_, Try.vt3OK, rfl⟩, rfl, rfl, ⟨_, Try.vt3OK, rfl⟩, trivial⟩)
theorem Try.eq51 : V.EqEnt Try.prog 51 [.bool, .int .i64] := V.eqEnt_struct (by kernel_rfl) (by kernel_rfl) (by kernel_rfl) (by
  rw [show Try.prog.fieldsOf 51 = #[{ name := "Has", type := 4, offset := 0, embedded := false, tag := "", pkgPath := "", byteOffset := 0 }, { name := "V", type := 3, offset := 1, embedded := false, tag := "", pkgPath := "", byteOffset := 8 }] by kernel_rfl]
  exact ⟨rfl, rfl, ⟨_, Try.vt4OK, rfl⟩, rfl, rfl, ⟨_, Try.vt3OK, rfl⟩, trivial⟩)
theorem Try.eq52 : V.EqEnt Try.prog 52 [.bool, .int .i64] := V.eqEnt_struct (by kernel_rfl) (by kernel_rfl) (by kernel_rfl) (by
  rw [show Try.prog.fieldsOf 52 = #[{ name := "Has", type := 4, offset := 0, embedded := false, tag := "", pkgPath := "", byteOffset := 0 }, { name := "V", type := 3, offset := 1, embedded := false, tag := "", pkgPath := "", byteOffset := 8 }] by kernel_rfl]
  exact ⟨rfl, rfl, ⟨_, Try.vt4OK, rfl⟩, rfl, rfl, ⟨_, Try.vt3OK, rfl⟩, trivial⟩)
theorem Try.eq69 : V.EqEnt Try.prog 69 [.int .i64, .int .i64] := V.eqEnt_arr2 (e := 3) (by kernel_rfl) Try.vt3OK rfl (by kernel_rfl)
theorem Try.eq89 : V.EqEnt Try.prog 89 [.int .u8, .int .u8] := V.eqEnt_arr2 (e := 5) (by kernel_rfl) Try.vt5OK rfl (by kernel_rfl)
theorem Try.eq104 : V.EqEnt Try.prog 104 [.int .i64, .int .i64, .int .i64, .int .i64, .int .i64] := V.eqEnt_struct (by kernel_rfl) (by kernel_rfl) (by kernel_rfl) (by
  rw [show Try.prog.fieldsOf 104 = #[{ name := "Op", type := 3, offset := 0, embedded := false, tag := "", pkgPath := "", byteOffset := 0 }, { name := "A", type := 3, offset := 1, embedded := false, tag := "", pkgPath := "", byteOffset := 8 }, { name := "B", type := 3, offset := 2, embedded := false, tag := "", pkgPath := "", byteOffset := 16 }, { name := "C", type := 3, offset := 3, embedded := false, tag := "", pkgPath := "", byteOffset := 24 }, { name := "N", type := 3, offset := 4, embedded := false, tag := "", pkgPath := "", byteOffset := 32 }] by kernel_rfl]
  exact ⟨rfl, rfl, ⟨_, Try.vt3OK, rfl⟩, rfl, rfl, ⟨_, Try.vt3OK, rfl⟩, rfl, rfl, ⟨_, Try.vt3OK, rfl⟩, rfl, rfl, ⟨_, Try.vt3OK, rfl⟩, rfl, rfl, ⟨_, Try.vt3OK, rfl⟩, trivial⟩)
theorem Try.eq105 : V.EqEnt Try.prog 105 [.int .i64, .int .i64, .int .i64, .int .i64, .int .i64] := V.eqEnt_struct (by kernel_rfl) (by kernel_rfl) (by kernel_rfl) (by
  rw [show Try.prog.fieldsOf 105 = #[{ name := "Op", type := 3, offset := 0, embedded := false, tag := "", pkgPath := "", byteOffset := 0 }, { name := "A", type := 3, offset := 1, embedded := false, tag := "", pkgPath := "", byteOffset := 8 }, { name := "B", type := 3, offset := 2, embedded := false, tag := "", pkgPath := "", byteOffset := 16 }, { name := "C", type := 3, offset := 3, embedded := false, tag := "", pkgPath := "", byteOffset := 24 }, { name := "N", type := 3, offset := 4, embedded := false, tag := "", pkgPath := "", byteOffset := 32 }] by kernel_rfl]
  exact ⟨rfl, rfl, ⟨_, Try.vt3OK, rfl⟩, rfl, rfl, ⟨_, Try.vt3OK, rfl⟩, rfl, rfl, ⟨_, Try.vt3OK, rfl⟩, rfl, rfl, ⟨_, Try.vt3OK, rfl⟩, rfl, rfl, ⟨_, Try.vt3OK, rfl⟩, trivial⟩)
theorem Try.eq208 : V.EqEnt Try.prog 208 [.int .i64, .int .i64] := V.eqEnt_struct (by kernel_rfl) (by kernel_rfl) (by kernel_rfl) (by
  rw [show Try.prog.fieldsOf 208 = #[{ name := "kind", type := 3, offset := 0, embedded := false, tag := "", pkgPath := "wireloom/netsim", byteOffset := 0 }, { name := "i", type := 3, offset := 1, embedded := false, tag := "", pkgPath := "wireloom/netsim", byteOffset := 8 }] by kernel_rfl]
  exact ⟨rfl, rfl, ⟨_, Try.vt3OK, rfl⟩, rfl, rfl, ⟨_, Try.vt3OK, rfl⟩, trivial⟩)
theorem Try.eq209 : V.EqEnt Try.prog 209 [.int .i64, .int .i64] := V.eqEnt_struct (by kernel_rfl) (by kernel_rfl) (by kernel_rfl) (by
  rw [show Try.prog.fieldsOf 209 = #[{ name := "kind", type := 3, offset := 0, embedded := false, tag := "", pkgPath := "wireloom/netsim", byteOffset := 0 }, { name := "i", type := 3, offset := 1, embedded := false, tag := "", pkgPath := "wireloom/netsim", byteOffset := 8 }] by kernel_rfl]
  exact ⟨rfl, rfl, ⟨_, Try.vt3OK, rfl⟩, rfl, rfl, ⟨_, Try.vt3OK, rfl⟩, trivial⟩)
theorem Try.eq220 : V.EqEnt Try.prog 220 [.int .i64, .int .i64, .int .i64] := V.eqEnt_struct (by kernel_rfl) (by kernel_rfl) (by kernel_rfl) (by
  rw [show Try.prog.fieldsOf 220 = #[{ name := "Var", type := 3, offset := 0, embedded := false, tag := "", pkgPath := "", byteOffset := 0 }, { name := "Lo", type := 3, offset := 1, embedded := false, tag := "", pkgPath := "", byteOffset := 8 }, { name := "Hi", type := 3, offset := 2, embedded := false, tag := "", pkgPath := "", byteOffset := 16 }] by kernel_rfl]
  exact ⟨rfl, rfl, ⟨_, Try.vt3OK, rfl⟩, rfl, rfl, ⟨_, Try.vt3OK, rfl⟩, rfl, rfl, ⟨_, Try.vt3OK, rfl⟩, trivial⟩)
theorem Try.eq221 : V.EqEnt Try.prog 221 [.int .i64, .int .i64, .int .i64] := V.eqEnt_struct (by kernel_rfl) (by kernel_rfl) (by kernel_rfl) (by
  rw [show Try.prog.fieldsOf 221 = #[{ name := "Var", type := 3, offset := 0, embedded := false, tag := "", pkgPath := "", byteOffset := 0 }, { name := "Lo", type := 3, offset := 1, embedded := false, tag := "", pkgPath := "", byteOffset := 8 }, { name := "Hi", type := 3, offset := 2, embedded := false, tag := "", pkgPath := "", byteOffset := 16 }] by kernel_rfl]
  exact ⟨rfl, rfl, ⟨_, Try.vt3OK, rfl⟩, rfl, rfl, ⟨_, Try.vt3OK, rfl⟩, rfl, rfl, ⟨_, Try.vt3OK, rfl⟩, trivial⟩)
theorem Try.key3 : V.KeyLaw Try.prog 3 1 false := .int (by kernel_rfl)
theorem Try.mk182 : V.MapEnt Try.prog 182 ⟨1, false, .int .i64 0⟩ := ⟨3, 3, by kernel_rfl, Try.key3, V.zero_run (by kernel_rfl), rfl⟩
theorem Try.key105 : V.KeyLaw Try.prog 105 5 true := .struct (by kernel_rfl) (by kernel_rfl) (by
  rw [show Try.prog.fieldsOf 105 = #[{ name := "Op", type := 3, offset := 0, embedded := false, tag := "", pkgPath := "", byteOffset := 0 }, { name := "A", type := 3, offset := 1, embedded := false, tag := "", pkgPath := "", byteOffset := 8 }, { name := "B", type := 3, offset := 2, embedded := false, tag := "", pkgPath := "", byteOffset := 16 }, { name := "C", type := 3, offset := 3, embedded := false, tag := "", pkgPath := "", byteOffset := 24 }, { name := "N", type := 3, offset := 4, embedded := false, tag := "", pkgPath := "", byteOffset := 32 }] by kernel_rfl]
  exact ⟨rfl, rfl, ⟨_, Try.vt3OK, rfl⟩, rfl, rfl, ⟨_, Try.vt3OK, rfl⟩, rfl, rfl, ⟨_, Try.vt3OK, rfl⟩, rfl, rfl, ⟨_, Try.vt3OK, rfl⟩, rfl, rfl, ⟨_, Try.vt3OK, rfl⟩, trivial⟩)
theorem Try.mk194 : V.MapEnt Try.prog 194 ⟨5, true, .int .i64 0⟩ := ⟨105, 3, by kernel_rfl, Try.key105, V.zero_run (by kernel_rfl), rfl⟩
theorem Try.key50 : V.KeyLaw Try.prog 50 3 true := .struct (by kernel_rfl) (by kernel_rfl) (by
  rw [show Try.prog.fieldsOf 50 = #[{ name := "Kind", type := 3, offset := 0, embedded := false, tag := "", pkgPath := "", byteOffset := 0 }, { name := "I", type := 3, offset := 1, embedded := false, tag := "", pkgPath := "", byteOffset := 8 }, { name := "Bit", type := 3, offset := 2, embedded := false, tag := "", pkgPath := "", byteOffset := 16 }] by kernel_rfl]
  exact ⟨rfl, rfl, ⟨_, Try.vt3OK, rfl⟩, rfl, rfl, ⟨_, Try.vt3OK, rfl⟩, rfl, rfl, ⟨_, Try.vt3OK, rfl⟩, trivial⟩)
theorem Try.mk195 : V.MapEnt Try.prog 195 ⟨3, true, .int .i64 0⟩ := ⟨50, 3, by kernel_rfl, Try.key50, V.zero_run (by kernel_rfl), rfl⟩
theorem Try.key209 : V.KeyLaw Try.prog 209 2 true := .struct (by kernel_rfl) (by kernel_rfl) (by
  rw [show Try.prog.fieldsOf 209 = #[{ name := "kind", type := 3, offset := 0, embedded := false, tag := "", pkgPath := "wireloom/netsim", byteOffset := 0 }, { name := "i", type := 3, offset := 1, embedded := false, tag := "", pkgPath := "wireloom/netsim", byteOffset := 8 }] by kernel_rfl]
  exact ⟨rfl, rfl, ⟨_, Try.vt3OK, rfl⟩, rfl, rfl, ⟨_, Try.vt3OK, rfl⟩, trivial⟩)
theorem Try.mk206 : V.MapEnt Try.prog 206 ⟨2, true, .bool false⟩ := ⟨209, 4, by kernel_rfl, Try.key209, V.zero_run (by kernel_rfl), rfl⟩
theorem Try.mk207 : V.MapEnt Try.prog 207 ⟨2, true, .int .i64 0⟩ := ⟨209, 3, by kernel_rfl, Try.key209, V.zero_run (by kernel_rfl), rfl⟩
theorem Try.mk228 : V.MapEnt Try.prog 228 ⟨1, false, .nilFunc⟩ := ⟨3, 227, by kernel_rfl, Try.key3, V.zero_run (by kernel_rfl), rfl⟩
theorem Try.key221 : V.KeyLaw Try.prog 221 3 true := .struct (by kernel_rfl) (by kernel_rfl) (by
  rw [show Try.prog.fieldsOf 221 = #[{ name := "Var", type := 3, offset := 0, embedded := false, tag := "", pkgPath := "", byteOffset := 0 }, { name := "Lo", type := 3, offset := 1, embedded := false, tag := "", pkgPath := "", byteOffset := 8 }, { name := "Hi", type := 3, offset := 2, embedded := false, tag := "", pkgPath := "", byteOffset := 16 }] by kernel_rfl]
  exact ⟨rfl, rfl, ⟨_, Try.vt3OK, rfl⟩, rfl, rfl, ⟨_, Try.vt3OK, rfl⟩, rfl, rfl, ⟨_, Try.vt3OK, rfl⟩, trivial⟩)
theorem Try.mk237 : V.MapEnt Try.prog 237 ⟨3, true, .int .i64 0⟩ := ⟨221, 3, by kernel_rfl, Try.key221, V.zero_run (by kernel_rfl), rfl⟩
theorem Try.mk244 : V.MapEnt Try.prog 244 ⟨1, false, .bool false⟩ := ⟨3, 4, by kernel_rfl, Try.key3, V.zero_run (by kernel_rfl), rfl⟩
def Try.et : V.EqTab := ⟨[(36, [.int .i8, .int .i8]), (49, [.int .i64, .int .i64, .int .i64]), (50, [.int .i64, .int .i64, .int .i64]), (51, [.bool, .int .i64]), (52, [.bool, .int .i64]), (69, [.int .i64, .int .i64]), (89, [.int .u8, .int .u8]), (104, [.int .i64, .int .i64, .int .i64, .int .i64, .int .i64]), (105, [.int .i64, .int .i64, .int .i64, .int .i64, .int .i64]), (208, [.int .i64, .int .i64]), (209, [.int .i64, .int .i64]), (220, [.int .i64, .int .i64, .int .i64]), (221, [.int .i64, .int .i64, .int .i64])], [(182, ⟨1, false, .int .i64 0⟩), (194, ⟨5, true, .int .i64 0⟩), (195, ⟨3, true, .int .i64 0⟩), (206, ⟨2, true, .bool false⟩), (207, ⟨2, true, .int .i64 0⟩), (228, ⟨1, false, .nilFunc⟩), (237, ⟨3, true, .int .i64 0⟩), (244, ⟨1, false, .bool false⟩)]⟩
@[simp] theorem Try.lke36 : V.lk Try.et.e 36 = some [.int .i8, .int .i8] := rfl
@[simp] theorem Try.lke49 : V.lk Try.et.e 49 = some [.int .i64, .int .i64, .int .i64] := rfl
@[simp] theorem Try.lke50 : V.lk Try.et.e 50 = some [.int .i64, .int .i64, .int .i64] := rfl
@[simp] theorem Try.lke51 : V.lk Try.et.e 51 = some [.bool, .int .i64] := rfl
@[simp] theorem Try.lke52 : V.lk Try.et.e 52 = some [.bool, .int .i64] := rfl
@[simp] theorem Try.lke69 : V.lk Try.et.e 69 = some [.int .i64, .int .i64] := rfl
@[simp] theorem Try.lke89 : V.lk Try.et.e 89 = some [.int .u8, .int .u8] := rfl
@[simp] theorem Try.lke104 : V.lk Try.et.e 104 = some [.int .i64, .int .i64, .int .i64, .int .i64, .int .i64] := rfl
@[simp] theorem Try.lke105 : V.lk Try.et.e 105 = some [.int .i64, .int .i64, .int .i64, .int .i64, .int .i64] := rfl
@[simp] theorem Try.lke208 : V.lk Try.et.e 208 = some [.int .i64, .int .i64] := rfl
@[simp] theorem Try.lke209 : V.lk Try.et.e 209 = some [.int .i64, .int .i64] := rfl
@[simp] theorem Try.lke220 : V.lk Try.et.e 220 = some [.int .i64, .int .i64, .int .i64] := rfl
@[simp] theorem Try.lke221 : V.lk Try.et.e 221 = some [.int .i64, .int .i64, .int .i64] := rfl
@[simp] theorem Try.lkk182 : V.lk Try.et.k 182 = some ⟨1, false, .int .i64 0⟩ := rfl
@[simp] theorem Try.lkk194 : V.lk Try.et.k 194 = some ⟨5, true, .int .i64 0⟩ := rfl
@[simp] theorem Try.lkk195 : V.lk Try.et.k 195 = some ⟨3, true, .int .i64 0⟩ := rfl
@[simp] theorem Try.lkk206 : V.lk Try.et.k 206 = some ⟨2, true, .bool false⟩ := rfl
@[simp] theorem Try.lkk207 : V.lk Try.et.k 207 = some ⟨2, true, .int .i64 0⟩ := rfl
@[simp] theorem Try.lkk228 : V.lk Try.et.k 228 = some ⟨1, false, .nilFunc⟩ := rfl
@[simp] theorem Try.lkk237 : V.lk Try.et.k 237 = some ⟨3, true, .int .i64 0⟩ := rfl
@[simp] theorem Try.lkk244 : V.lk Try.et.k 244 = some ⟨1, false, .bool false⟩ := rfl
theorem Try.etOK : V.EqOK Try.prog Try.et := .cons Try.eq36 (.cons Try.eq49 (.cons Try.eq50 (.cons Try.eq51 (.cons Try.eq52 (.cons Try.eq69 (.cons Try.eq89 (.cons Try.eq104 (.cons Try.eq105 (.cons Try.eq208 (.cons Try.eq209 (.cons Try.eq220 (.cons Try.eq221 (.map Try.mk182 (.map Try.mk194 (.map Try.mk195 (.map Try.mk206 (.map Try.mk207 (.map Try.mk228 (.map Try.mk237 (.map Try.mk244 (.nil)))))))))))))))))))))
theorem Try.mixed : Try.prog.follows .mixedOrders = true := by kernel_rfl
end Go.Proofs
