/- The types of the seat, as a table. -/
import Derived.Test.YtekdhfppbahidaaProg
import Derived.Test.YtekdhfppbahidaaU18
namespace Go.Proofs.Ytekdhfppbahidaa
open Go Go.Vcg Go.Proofs
set_option maxRecDepth 100000
def ti2 : TI := ⟨.int .i64, 1, 8, [.int .i64 0]⟩
def ti3 : TI := ⟨.int .i64, 1, 8, [.int .i64 0]⟩
def ti4 : TI := ⟨.bool, 1, 1, [.bool false]⟩
def ti5 : TI := ⟨.int .u8, 1, 1, [.int .u8 0]⟩
def ti6 : TI := ⟨.int .u8, 1, 1, [.int .u8 0]⟩
def ti7 : TI := ⟨.struct [(0, 2), (1, 3), (2, 4), (3, 6)], 4, 24, [.int .i64 0, .int .i64 0, .bool false, .int .u8 0]⟩
def ti8 : TI := ⟨.struct [(0, 2), (1, 3), (2, 4), (3, 6)], 4, 24, [.int .i64 0, .int .i64 0, .bool false, .int .u8 0]⟩
def ti9 : TI := ⟨.str, 1, 16, [.string ⟨#[]⟩]⟩
def ti10 : TI := ⟨.str, 1, 16, [.string ⟨#[]⟩]⟩
def ti11 : TI := ⟨.str, 1, 16, [.string ⟨#[]⟩]⟩
def ti12 : TI := ⟨.int .u64, 1, 8, [.int .u64 0]⟩
def ti13 : TI := ⟨.struct [(0, 9), (1, 12)], 2, 24, [.string ⟨#[]⟩, .int .u64 0]⟩
def ti14 : TI := ⟨.struct [(0, 9), (1, 12)], 2, 24, [.string ⟨#[]⟩, .int .u64 0]⟩
def ti15 : TI := ⟨.ptr 74, 1, 8, [.pointer none]⟩
def ti16 : TI := ⟨.ptr 77, 1, 8, [.pointer none]⟩
def ti17 : TI := ⟨.ptr 86, 1, 8, [.pointer none]⟩
def ti18 : TI := ⟨.struct [(0, 17)], 1, 8, [.pointer none]⟩
def ti19 : TI := ⟨.struct [(0, 17)], 1, 8, [.pointer none]⟩
def ti20 : TI := ⟨.iface, 1, 16, [.nilIface]⟩
def ti21 : TI := ⟨.int .i32, 1, 4, [.int .i32 0]⟩
def ti25 : TI := ⟨.slice 5, 1, 24, [.slice none 0 0]⟩
def ti30 : TI := ⟨.slice 25, 1, 24, [.slice none 0 0]⟩
def ti31 : TI := ⟨.slice 63, 1, 24, [.slice none 0 0]⟩
def ti32 : TI := ⟨.struct [(0, 30), (1, 31)], 2, 48, [.slice none 0 0, .slice none 0 0]⟩
def ti33 : TI := ⟨.struct [(0, 30), (1, 31)], 2, 48, [.slice none 0 0, .slice none 0 0]⟩
def ti42 : TI := ⟨.slice 68, 1, 24, [.slice none 0 0]⟩
def ti43 : TI := ⟨.struct [(0, 30), (1, 42)], 2, 48, [.slice none 0 0, .slice none 0 0]⟩
def ti44 : TI := ⟨.struct [(0, 30), (1, 42)], 2, 48, [.slice none 0 0, .slice none 0 0]⟩
def ti49 : TI := ⟨.int .u32, 1, 4, [.int .u32 0]⟩
def ti50 : TI := ⟨.int .u64, 1, 8, [.int .u64 0]⟩
def ti56 : TI := ⟨.struct [(0, 3), (1, 3), (2, 3)], 3, 24, [.int .i64 0, .int .i64 0, .int .i64 0]⟩
def ti57 : TI := ⟨.struct [(0, 3), (1, 3), (2, 3)], 3, 24, [.int .i64 0, .int .i64 0, .int .i64 0]⟩
def ti58 : TI := ⟨.struct [(0, 57), (3, 25)], 4, 48, [.int .i64 0, .int .i64 0, .int .i64 0, .slice none 0 0]⟩
def ti59 : TI := ⟨.struct [(0, 57), (3, 25)], 4, 48, [.int .i64 0, .int .i64 0, .int .i64 0, .slice none 0 0]⟩
def ti62 : TI := ⟨.struct [(0, 3), (1, 25)], 2, 32, [.int .i64 0, .slice none 0 0]⟩
def ti63 : TI := ⟨.struct [(0, 3), (1, 25)], 2, 32, [.int .i64 0, .slice none 0 0]⟩
def ti68 : TI := ⟨.struct [(0, 3), (1, 25)], 2, 32, [.int .i64 0, .slice none 0 0]⟩
def ti73 : TI := ⟨.struct [(0, 17), (1, 17), (2, 17), (3, 9)], 4, 40, [.pointer none, .pointer none, .pointer none, .string ⟨#[]⟩]⟩
def ti74 : TI := ⟨.struct [(0, 17), (1, 17), (2, 17), (3, 9)], 4, 40, [.pointer none, .pointer none, .pointer none, .string ⟨#[]⟩]⟩
def ti75 : TI := ⟨.arr 0 16, 0, 0, []⟩
def ti76 : TI := ⟨.struct [(0, 75)], 0, 0, []⟩
def ti77 : TI := ⟨.struct [(0, 75)], 0, 0, []⟩
def ti79 : TI := ⟨.int .u8, 1, 1, [.int .u8 0]⟩
def ti80 : TI := ⟨.int .u8, 1, 1, [.int .u8 0]⟩
def ti82 : TI := ⟨.ptr 5, 1, 8, [.pointer none]⟩
def ti83 : TI := ⟨.int .i32, 1, 4, [.int .i32 0]⟩
def ti84 : TI := ⟨.int .i32, 1, 4, [.int .i32 0]⟩
def ti85 : TI := ⟨.struct [(0, 12), (1, 12), (2, 49), (3, 79), (4, 5), (5, 5), (6, 80), (7, 81), (8, 82), (9, 83), (10, 84)], 11, 48, [.int .u64 0, .int .u64 0, .int .u32 0, .int .u8 0, .int .u8 0, .int .u8 0, .int .u8 0, .nilFunc, .pointer none, .int .i32 0, .int .i32 0]⟩
def ti86 : TI := ⟨.struct [(0, 12), (1, 12), (2, 49), (3, 79), (4, 5), (5, 5), (6, 80), (7, 81), (8, 82), (9, 83), (10, 84)], 11, 48, [.int .u64 0, .int .u64 0, .int .u32 0, .int .u8 0, .int .u8 0, .int .u8 0, .int .u8 0, .nilFunc, .pointer none, .int .i32 0, .int .i32 0]⟩
def ti87 : TI := ⟨.other, 1, 8, [.pointer none]⟩
def tyL : List (Nat × TI) := [(2, ti2), (3, ti3), (4, ti4), (5, ti5), (6, ti6), (7, ti7), (8, ti8), (9, ti9), (10, ti10), (11, ti11), (12, ti12), (13, ti13), (14, ti14), (15, ti15), (16, ti16), (17, ti17), (18, ti18), (19, ti19), (20, ti20), (21, ti21), (25, ti25), (30, ti30), (31, ti31), (32, ti32), (33, ti33), (42, ti42), (43, ti43), (44, ti44), (49, ti49), (50, ti50), (56, ti56), (57, ti57), (58, ti58), (59, ti59), (62, ti62), (63, ti63), (68, ti68), (73, ti73), (74, ti74), (75, ti75), (76, ti76), (77, ti77), (79, ti79), (80, ti80), (82, ti82), (83, ti83), (84, ti84), (85, ti85), (86, ti86), (87, ti87)]
def tyT (t : Nat) : Option TI := tyL.lookup t
@[go_sem] theorem ty2 : tyT 2 = some ⟨.int .i64, 1, 8, [.int .i64 0]⟩ := Eq.trans rfl rfl
@[go_sem] theorem ty3 : tyT 3 = some ⟨.int .i64, 1, 8, [.int .i64 0]⟩ := Eq.trans rfl rfl
@[go_sem] theorem ty4 : tyT 4 = some ⟨.bool, 1, 1, [.bool false]⟩ := Eq.trans rfl rfl
@[go_sem] theorem ty5 : tyT 5 = some ⟨.int .u8, 1, 1, [.int .u8 0]⟩ := Eq.trans rfl rfl
@[go_sem] theorem ty6 : tyT 6 = some ⟨.int .u8, 1, 1, [.int .u8 0]⟩ := Eq.trans rfl rfl
@[go_sem] theorem ty7 : tyT 7 = some ⟨.struct [(0, 2), (1, 3), (2, 4), (3, 6)], 4, 24, [.int .i64 0, .int .i64 0, .bool false, .int .u8 0]⟩ := Eq.trans rfl rfl
@[go_sem] theorem ty8 : tyT 8 = some ⟨.struct [(0, 2), (1, 3), (2, 4), (3, 6)], 4, 24, [.int .i64 0, .int .i64 0, .bool false, .int .u8 0]⟩ := Eq.trans rfl rfl
@[go_sem] theorem ty9 : tyT 9 = some ⟨.str, 1, 16, [.string ⟨#[]⟩]⟩ := Eq.trans rfl rfl
@[go_sem] theorem ty10 : tyT 10 = some ⟨.str, 1, 16, [.string ⟨#[]⟩]⟩ := Eq.trans rfl rfl
@[go_sem] theorem ty11 : tyT 11 = some ⟨.str, 1, 16, [.string ⟨#[]⟩]⟩ := Eq.trans rfl rfl
@[go_sem] theorem ty12 : tyT 12 = some ⟨.int .u64, 1, 8, [.int .u64 0]⟩ := Eq.trans rfl rfl
@[go_sem] theorem ty13 : tyT 13 = some ⟨.struct [(0, 9), (1, 12)], 2, 24, [.string ⟨#[]⟩, .int .u64 0]⟩ := Eq.trans rfl rfl
@[go_sem] theorem ty14 : tyT 14 = some ⟨.struct [(0, 9), (1, 12)], 2, 24, [.string ⟨#[]⟩, .int .u64 0]⟩ := Eq.trans rfl rfl
@[go_sem] theorem ty15 : tyT 15 = some ⟨.ptr 74, 1, 8, [.pointer none]⟩ := Eq.trans rfl rfl
@[go_sem] theorem ty16 : tyT 16 = some ⟨.ptr 77, 1, 8, [.pointer none]⟩ := Eq.trans rfl rfl
@[go_sem] theorem ty17 : tyT 17 = some ⟨.ptr 86, 1, 8, [.pointer none]⟩ := Eq.trans rfl rfl
@[go_sem] theorem ty18 : tyT 18 = some ⟨.struct [(0, 17)], 1, 8, [.pointer none]⟩ := Eq.trans rfl rfl
@[go_sem] theorem ty19 : tyT 19 = some ⟨.struct [(0, 17)], 1, 8, [.pointer none]⟩ := Eq.trans rfl rfl
@[go_sem] theorem ty20 : tyT 20 = some ⟨.iface, 1, 16, [.nilIface]⟩ := Eq.trans rfl rfl
@[go_sem] theorem ty21 : tyT 21 = some ⟨.int .i32, 1, 4, [.int .i32 0]⟩ := Eq.trans rfl rfl
@[go_sem] theorem ty25 : tyT 25 = some ⟨.slice 5, 1, 24, [.slice none 0 0]⟩ := Eq.trans rfl rfl
@[go_sem] theorem ty30 : tyT 30 = some ⟨.slice 25, 1, 24, [.slice none 0 0]⟩ := Eq.trans rfl rfl
@[go_sem] theorem ty31 : tyT 31 = some ⟨.slice 63, 1, 24, [.slice none 0 0]⟩ := Eq.trans rfl rfl
@[go_sem] theorem ty32 : tyT 32 = some ⟨.struct [(0, 30), (1, 31)], 2, 48, [.slice none 0 0, .slice none 0 0]⟩ := Eq.trans rfl rfl
@[go_sem] theorem ty33 : tyT 33 = some ⟨.struct [(0, 30), (1, 31)], 2, 48, [.slice none 0 0, .slice none 0 0]⟩ := Eq.trans rfl rfl
@[go_sem] theorem ty42 : tyT 42 = some ⟨.slice 68, 1, 24, [.slice none 0 0]⟩ := Eq.trans rfl rfl
@[go_sem] theorem ty43 : tyT 43 = some ⟨.struct [(0, 30), (1, 42)], 2, 48, [.slice none 0 0, .slice none 0 0]⟩ := Eq.trans rfl rfl
@[go_sem] theorem ty44 : tyT 44 = some ⟨.struct [(0, 30), (1, 42)], 2, 48, [.slice none 0 0, .slice none 0 0]⟩ := Eq.trans rfl rfl
@[go_sem] theorem ty49 : tyT 49 = some ⟨.int .u32, 1, 4, [.int .u32 0]⟩ := Eq.trans rfl rfl
@[go_sem] theorem ty50 : tyT 50 = some ⟨.int .u64, 1, 8, [.int .u64 0]⟩ := Eq.trans rfl rfl
@[go_sem] theorem ty56 : tyT 56 = some ⟨.struct [(0, 3), (1, 3), (2, 3)], 3, 24, [.int .i64 0, .int .i64 0, .int .i64 0]⟩ := Eq.trans rfl rfl
@[go_sem] theorem ty57 : tyT 57 = some ⟨.struct [(0, 3), (1, 3), (2, 3)], 3, 24, [.int .i64 0, .int .i64 0, .int .i64 0]⟩ := Eq.trans rfl rfl
@[go_sem] theorem ty58 : tyT 58 = some ⟨.struct [(0, 57), (3, 25)], 4, 48, [.int .i64 0, .int .i64 0, .int .i64 0, .slice none 0 0]⟩ := Eq.trans rfl rfl
@[go_sem] theorem ty59 : tyT 59 = some ⟨.struct [(0, 57), (3, 25)], 4, 48, [.int .i64 0, .int .i64 0, .int .i64 0, .slice none 0 0]⟩ := Eq.trans rfl rfl
@[go_sem] theorem ty62 : tyT 62 = some ⟨.struct [(0, 3), (1, 25)], 2, 32, [.int .i64 0, .slice none 0 0]⟩ := Eq.trans rfl rfl
@[go_sem] theorem ty63 : tyT 63 = some ⟨.struct [(0, 3), (1, 25)], 2, 32, [.int .i64 0, .slice none 0 0]⟩ := Eq.trans rfl rfl
@[go_sem] theorem ty68 : tyT 68 = some ⟨.struct [(0, 3), (1, 25)], 2, 32, [.int .i64 0, .slice none 0 0]⟩ := Eq.trans rfl rfl
@[go_sem] theorem ty73 : tyT 73 = some ⟨.struct [(0, 17), (1, 17), (2, 17), (3, 9)], 4, 40, [.pointer none, .pointer none, .pointer none, .string ⟨#[]⟩]⟩ := Eq.trans rfl rfl
@[go_sem] theorem ty74 : tyT 74 = some ⟨.struct [(0, 17), (1, 17), (2, 17), (3, 9)], 4, 40, [.pointer none, .pointer none, .pointer none, .string ⟨#[]⟩]⟩ := Eq.trans rfl rfl
@[go_sem] theorem ty75 : tyT 75 = some ⟨.arr 0 16, 0, 0, []⟩ := Eq.trans rfl rfl
@[go_sem] theorem ty76 : tyT 76 = some ⟨.struct [(0, 75)], 0, 0, []⟩ := Eq.trans rfl rfl
@[go_sem] theorem ty77 : tyT 77 = some ⟨.struct [(0, 75)], 0, 0, []⟩ := Eq.trans rfl rfl
@[go_sem] theorem ty79 : tyT 79 = some ⟨.int .u8, 1, 1, [.int .u8 0]⟩ := Eq.trans rfl rfl
@[go_sem] theorem ty80 : tyT 80 = some ⟨.int .u8, 1, 1, [.int .u8 0]⟩ := Eq.trans rfl rfl
@[go_sem] theorem ty82 : tyT 82 = some ⟨.ptr 5, 1, 8, [.pointer none]⟩ := Eq.trans rfl rfl
@[go_sem] theorem ty83 : tyT 83 = some ⟨.int .i32, 1, 4, [.int .i32 0]⟩ := Eq.trans rfl rfl
@[go_sem] theorem ty84 : tyT 84 = some ⟨.int .i32, 1, 4, [.int .i32 0]⟩ := Eq.trans rfl rfl
@[go_sem] theorem ty85 : tyT 85 = some ⟨.struct [(0, 12), (1, 12), (2, 49), (3, 79), (4, 5), (5, 5), (6, 80), (7, 81), (8, 82), (9, 83), (10, 84)], 11, 48, [.int .u64 0, .int .u64 0, .int .u32 0, .int .u8 0, .int .u8 0, .int .u8 0, .int .u8 0, .nilFunc, .pointer none, .int .i32 0, .int .i32 0]⟩ := Eq.trans rfl rfl
@[go_sem] theorem ty86 : tyT 86 = some ⟨.struct [(0, 12), (1, 12), (2, 49), (3, 79), (4, 5), (5, 5), (6, 80), (7, 81), (8, 82), (9, 83), (10, 84)], 11, 48, [.int .u64 0, .int .u64 0, .int .u32 0, .int .u8 0, .int .u8 0, .int .u8 0, .int .u8 0, .nilFunc, .pointer none, .int .i32 0, .int .i32 0]⟩ := Eq.trans rfl rfl
@[go_sem] theorem ty87 : tyT 87 = some ⟨.other, 1, 8, [.pointer none]⟩ := Eq.trans rfl rfl
theorem ok2 : TI.Ok Try.prog 2 ti2 := ⟨by kernel_rfl, by kernel_rfl⟩
theorem ok3 : TI.Ok Try.prog 3 ti3 := ⟨by kernel_rfl, by kernel_rfl⟩
theorem ok4 : TI.Ok Try.prog 4 ti4 := ⟨by kernel_rfl, by kernel_rfl⟩
theorem ok5 : TI.Ok Try.prog 5 ti5 := ⟨by kernel_rfl, by kernel_rfl⟩
theorem ok6 : TI.Ok Try.prog 6 ti6 := ⟨by kernel_rfl, by kernel_rfl⟩
theorem ok7 : TI.Ok Try.prog 7 ti7 := ⟨by kernel_rfl, by kernel_rfl⟩
theorem ok8 : TI.Ok Try.prog 8 ti8 := ⟨by kernel_rfl, by kernel_rfl⟩
theorem ok9 : TI.Ok Try.prog 9 ti9 := ⟨by kernel_rfl, by kernel_rfl⟩
theorem ok10 : TI.Ok Try.prog 10 ti10 := ⟨by kernel_rfl, by kernel_rfl⟩
theorem ok11 : TI.Ok Try.prog 11 ti11 := ⟨by kernel_rfl, by kernel_rfl⟩
theorem ok12 : TI.Ok Try.prog 12 ti12 := ⟨by kernel_rfl, by kernel_rfl⟩
theorem ok13 : TI.Ok Try.prog 13 ti13 := ⟨by kernel_rfl, by kernel_rfl⟩
theorem ok14 : TI.Ok Try.prog 14 ti14 := ⟨by kernel_rfl, by kernel_rfl⟩
theorem ok15 : TI.Ok Try.prog 15 ti15 := ⟨by kernel_rfl, by kernel_rfl⟩
theorem ok16 : TI.Ok Try.prog 16 ti16 := ⟨by kernel_rfl, by kernel_rfl⟩
theorem ok17 : TI.Ok Try.prog 17 ti17 := ⟨by kernel_rfl, by kernel_rfl⟩
theorem ok18 : TI.Ok Try.prog 18 ti18 := ⟨by kernel_rfl, by kernel_rfl⟩
theorem ok19 : TI.Ok Try.prog 19 ti19 := ⟨by kernel_rfl, by kernel_rfl⟩
theorem ok20 : TI.Ok Try.prog 20 ti20 := ⟨by kernel_rfl, by kernel_rfl⟩
theorem ok21 : TI.Ok Try.prog 21 ti21 := ⟨by kernel_rfl, by kernel_rfl⟩
theorem ok25 : TI.Ok Try.prog 25 ti25 := ⟨by kernel_rfl, by kernel_rfl⟩
theorem ok30 : TI.Ok Try.prog 30 ti30 := ⟨by kernel_rfl, by kernel_rfl⟩
theorem ok31 : TI.Ok Try.prog 31 ti31 := ⟨by kernel_rfl, by kernel_rfl⟩
theorem ok32 : TI.Ok Try.prog 32 ti32 := ⟨by kernel_rfl, by kernel_rfl⟩
theorem ok33 : TI.Ok Try.prog 33 ti33 := ⟨by kernel_rfl, by kernel_rfl⟩
theorem ok42 : TI.Ok Try.prog 42 ti42 := ⟨by kernel_rfl, by kernel_rfl⟩
theorem ok43 : TI.Ok Try.prog 43 ti43 := ⟨by kernel_rfl, by kernel_rfl⟩
theorem ok44 : TI.Ok Try.prog 44 ti44 := ⟨by kernel_rfl, by kernel_rfl⟩
theorem ok49 : TI.Ok Try.prog 49 ti49 := ⟨by kernel_rfl, by kernel_rfl⟩
theorem ok50 : TI.Ok Try.prog 50 ti50 := ⟨by kernel_rfl, by kernel_rfl⟩
theorem ok56 : TI.Ok Try.prog 56 ti56 := ⟨by kernel_rfl, by kernel_rfl⟩
theorem ok57 : TI.Ok Try.prog 57 ti57 := ⟨by kernel_rfl, by kernel_rfl⟩
theorem ok58 : TI.Ok Try.prog 58 ti58 := ⟨by kernel_rfl, by kernel_rfl⟩
theorem ok59 : TI.Ok Try.prog 59 ti59 := ⟨by kernel_rfl, by kernel_rfl⟩
theorem ok62 : TI.Ok Try.prog 62 ti62 := ⟨by kernel_rfl, by kernel_rfl⟩
theorem ok63 : TI.Ok Try.prog 63 ti63 := ⟨by kernel_rfl, by kernel_rfl⟩
theorem ok68 : TI.Ok Try.prog 68 ti68 := ⟨by kernel_rfl, by kernel_rfl⟩
theorem ok73 : TI.Ok Try.prog 73 ti73 := ⟨by kernel_rfl, by kernel_rfl⟩
theorem ok74 : TI.Ok Try.prog 74 ti74 := ⟨by kernel_rfl, by kernel_rfl⟩
theorem ok75 : TI.Ok Try.prog 75 ti75 := ⟨by kernel_rfl, by kernel_rfl⟩
theorem ok76 : TI.Ok Try.prog 76 ti76 := ⟨by kernel_rfl, by kernel_rfl⟩
theorem ok77 : TI.Ok Try.prog 77 ti77 := ⟨by kernel_rfl, by kernel_rfl⟩
theorem ok79 : TI.Ok Try.prog 79 ti79 := ⟨by kernel_rfl, by kernel_rfl⟩
theorem ok80 : TI.Ok Try.prog 80 ti80 := ⟨by kernel_rfl, by kernel_rfl⟩
theorem ok82 : TI.Ok Try.prog 82 ti82 := ⟨by kernel_rfl, by kernel_rfl⟩
theorem ok83 : TI.Ok Try.prog 83 ti83 := ⟨by kernel_rfl, by kernel_rfl⟩
theorem ok84 : TI.Ok Try.prog 84 ti84 := ⟨by kernel_rfl, by kernel_rfl⟩
theorem ok85 : TI.Ok Try.prog 85 ti85 := ⟨by kernel_rfl, by kernel_rfl⟩
theorem ok86 : TI.Ok Try.prog 86 ti86 := ⟨by kernel_rfl, by kernel_rfl⟩
theorem ok87 : TI.Ok Try.prog 87 ti87 := ⟨by kernel_rfl, by kernel_rfl⟩
theorem tyOk : TOk Try.prog tyT := tok_of tyL Try.prog (.cons ok2 (.cons ok3 (.cons ok4 (.cons ok5 (.cons ok6 (.cons ok7 (.cons ok8 (.cons ok9 (.cons ok10 (.cons ok11 (.cons ok12 (.cons ok13 (.cons ok14 (.cons ok15 (.cons ok16 (.cons ok17 (.cons ok18 (.cons ok19 (.cons ok20 (.cons ok21 (.cons ok25 (.cons ok30 (.cons ok31 (.cons ok32 (.cons ok33 (.cons ok42 (.cons ok43 (.cons ok44 (.cons ok49 (.cons ok50 (.cons ok56 (.cons ok57 (.cons ok58 (.cons ok59 (.cons ok62 (.cons ok63 (.cons ok68 (.cons ok73 (.cons ok74 (.cons ok75 (.cons ok76 (.cons ok77 (.cons ok79 (.cons ok80 (.cons ok82 (.cons ok83 (.cons ok84 (.cons ok85 (.cons ok86 (.cons ok87 (.nil)))))))))))))))))))))))))))))))))))))))))))))))))))
theorem mixed : Try.prog.follows .mixedOrders = true := by kernel_rfl
end Go.Proofs.Ytekdhfppbahidaa
