/- The types of the seat, as a table. -/
import Derived.Test.YtcmnbefdbckhcaaProg
import Derived.Test.YtcmnbefdbckhcaaUc
namespace Go.Proofs.Ytcmnbefdbckhcaa
open Go Go.Vcg Go.Proofs
set_option maxRecDepth 100000
def ti2 : TI := ⟨.int .i64, 1, 8, [.int .i64 0]⟩
def ti3 : TI := ⟨.int .i64, 1, 8, [.int .i64 0]⟩
def ti4 : TI := ⟨.bool, 1, 1, [.bool false]⟩
def ti5 : TI := ⟨.int .u8, 1, 1, [.int .u8 0]⟩
def ti6 : TI := ⟨.int .u8, 1, 1, [.int .u8 0]⟩
def ti7 : TI := ⟨.struct [(0, 2), (1, 3), (2, 4), (3, 6)], 4, 24, [.int .i64 0, .int .i64 0, .bool false, .int .u8 0]⟩
def ti8 : TI := ⟨.struct [(0, 2), (1, 3), (2, 4), (3, 6)], 4, 24, [.int .i64 0, .int .i64 0, .bool false, .int .u8 0]⟩
def ti9 : TI := ⟨.str, 1, 16, [.string ⟨#[]⟩]⟩
def ti10 : TI := ⟨.str, 1, 16, [.string ⟨#[]⟩]⟩
def ti11 : TI := ⟨.str, 1, 16, [.string ⟨#[]⟩]⟩
def ti12 : TI := ⟨.int .u64, 1, 8, [.int .u64 0]⟩
def ti13 : TI := ⟨.struct [(0, 9), (1, 12)], 2, 24, [.string ⟨#[]⟩, .int .u64 0]⟩
def ti14 : TI := ⟨.struct [(0, 9), (1, 12)], 2, 24, [.string ⟨#[]⟩, .int .u64 0]⟩
def ti15 : TI := ⟨.ptr 193, 1, 8, [.pointer none]⟩
def ti16 : TI := ⟨.ptr 196, 1, 8, [.pointer none]⟩
def ti17 : TI := ⟨.ptr 204, 1, 8, [.pointer none]⟩
def ti18 : TI := ⟨.struct [(0, 17)], 1, 8, [.pointer none]⟩
def ti19 : TI := ⟨.struct [(0, 17)], 1, 8, [.pointer none]⟩
def ti20 : TI := ⟨.iface, 1, 16, [.nilIface]⟩
def ti21 : TI := ⟨.int .i32, 1, 4, [.int .i32 0]⟩
def ti22 : TI := ⟨.slice 5, 1, 24, [.slice none 0 0]⟩
def ti23 : TI := ⟨.arr 32 5, 32, 32, (List.replicate 32 (.int .u8 0))⟩
def ti24 : TI := ⟨.arr 32 5, 32, 32, (List.replicate 32 (.int .u8 0))⟩
def ti30 : TI := ⟨.slice 97, 1, 24, [.slice none 0 0]⟩
def ti40 : TI := ⟨.slice 23, 1, 24, [.slice none 0 0]⟩
def ti43 : TI := ⟨.slice 24, 1, 24, [.slice none 0 0]⟩
def ti47 : TI := ⟨.struct [(0, 3), (1, 3), (2, 3), (3, 3)], 4, 32, [.int .i64 0, .int .i64 0, .int .i64 0, .int .i64 0]⟩
def ti48 : TI := ⟨.struct [(0, 3), (1, 3), (2, 3), (3, 3)], 4, 32, [.int .i64 0, .int .i64 0, .int .i64 0, .int .i64 0]⟩
def ti50 : TI := ⟨.struct [(0, 3), (1, 3), (2, 3), (3, 3)], 4, 32, [.int .i64 0, .int .i64 0, .int .i64 0, .int .i64 0]⟩
def ti53 : TI := ⟨.slice 166, 1, 24, [.slice none 0 0]⟩
def ti54 : TI := ⟨.slice 3, 1, 24, [.slice none 0 0]⟩
def ti55 : TI := ⟨.struct [(0, 53), (1, 54), (2, 3)], 3, 56, [.slice none 0 0, .slice none 0 0, .int .i64 0]⟩
def ti56 : TI := ⟨.struct [(0, 53), (1, 54), (2, 3)], 3, 56, [.slice none 0 0, .slice none 0 0, .int .i64 0]⟩
def ti60 : TI := ⟨.slice 122, 1, 24, [.slice none 0 0]⟩
def ti61 : TI := ⟨.struct [(0, 60), (1, 54), (2, 3)], 3, 56, [.slice none 0 0, .slice none 0 0, .int .i64 0]⟩
def ti62 : TI := ⟨.struct [(0, 60), (1, 54), (2, 3)], 3, 56, [.slice none 0 0, .slice none 0 0, .int .i64 0]⟩
def ti72 : TI := ⟨.slice 62, 1, 24, [.slice none 0 0]⟩
def ti73 : TI := ⟨.struct [(0, 24), (32, 24), (64, 3), (65, 72)], 66, 96, (List.replicate 32 (.int .u8 0) ++ (List.replicate 32 (.int .u8 0) ++ ([.int .i64 0, .slice none 0 0])))⟩
def ti74 : TI := ⟨.struct [(0, 24), (32, 24), (64, 3), (65, 72)], 66, 96, (List.replicate 32 (.int .u8 0) ++ (List.replicate 32 (.int .u8 0) ++ ([.int .i64 0, .slice none 0 0])))⟩
def ti81 : TI := ⟨.slice 56, 1, 24, [.slice none 0 0]⟩
def ti82 : TI := ⟨.struct [(0, 23), (32, 23), (64, 3), (65, 81)], 66, 96, (List.replicate 32 (.int .u8 0) ++ (List.replicate 32 (.int .u8 0) ++ ([.int .i64 0, .slice none 0 0])))⟩
def ti83 : TI := ⟨.struct [(0, 23), (32, 23), (64, 3), (65, 81)], 66, 96, (List.replicate 32 (.int .u8 0) ++ (List.replicate 32 (.int .u8 0) ++ ([.int .i64 0, .slice none 0 0])))⟩
def ti92 : TI := ⟨.ptr 158, 1, 8, [.pointer none]⟩
def ti96 : TI := ⟨.struct [(0, 3), (1, 3), (2, 22)], 3, 40, [.int .i64 0, .int .i64 0, .slice none 0 0]⟩
def ti97 : TI := ⟨.struct [(0, 3), (1, 3), (2, 22)], 3, 40, [.int .i64 0, .int .i64 0, .slice none 0 0]⟩
def ti100 : TI := ⟨.struct [(0, 3), (1, 3), (2, 3)], 3, 24, [.int .i64 0, .int .i64 0, .int .i64 0]⟩
def ti101 : TI := ⟨.struct [(0, 3), (1, 3), (2, 3)], 3, 24, [.int .i64 0, .int .i64 0, .int .i64 0]⟩
def ti102 : TI := ⟨.struct [(0, 101), (3, 22)], 4, 48, [.int .i64 0, .int .i64 0, .int .i64 0, .slice none 0 0]⟩
def ti103 : TI := ⟨.struct [(0, 101), (3, 22)], 4, 48, [.int .i64 0, .int .i64 0, .int .i64 0, .slice none 0 0]⟩
def ti104 : TI := ⟨.iface, 1, 16, [.nilIface]⟩
def ti105 : TI := ⟨.iface, 1, 16, [.nilIface]⟩
def ti109 : TI := ⟨.str, 1, 16, [.string ⟨#[]⟩]⟩
def ti117 : TI := ⟨.slice 22, 1, 24, [.slice none 0 0]⟩
def ti121 : TI := ⟨.struct [(0, 24), (32, 3)], 33, 40, (List.replicate 32 (.int .u8 0) ++ ([.int .i64 0]))⟩
def ti122 : TI := ⟨.struct [(0, 24), (32, 3)], 33, 40, (List.replicate 32 (.int .u8 0) ++ ([.int .i64 0]))⟩
def ti129 : TI := ⟨.ptr 170, 1, 8, [.pointer none]⟩
def ti134 : TI := ⟨.ptr 136, 1, 8, [.pointer none]⟩
def ti135 : TI := ⟨.struct [(0, 22), (1, 3), (2, 4)], 3, 40, [.slice none 0 0, .int .i64 0, .bool false]⟩
def ti136 : TI := ⟨.struct [(0, 22), (1, 3), (2, 4)], 3, 40, [.slice none 0 0, .int .i64 0, .bool false]⟩
def ti139 : TI := ⟨.ptr 141, 1, 8, [.pointer none]⟩
def ti140 : TI := ⟨.struct [(0, 22), (1, 4)], 2, 32, [.slice none 0 0, .bool false]⟩
def ti141 : TI := ⟨.struct [(0, 22), (1, 4)], 2, 32, [.slice none 0 0, .bool false]⟩
def ti153 : TI := ⟨.int .u32, 1, 4, [.int .u32 0]⟩
def ti154 : TI := ⟨.arr 8 153, 8, 32, [.int .u32 0, .int .u32 0, .int .u32 0, .int .u32 0, .int .u32 0, .int .u32 0, .int .u32 0, .int .u32 0]⟩
def ti155 : TI := ⟨.arr 64 153, 64, 256, (List.replicate 64 (.int .u32 0))⟩
def ti157 : TI := ⟨.struct [(0, 154), (8, 155), (72, 22), (73, 3)], 74, 320, (List.replicate 72 (.int .u32 0) ++ ([.slice none 0 0, .int .i64 0]))⟩
def ti158 : TI := ⟨.struct [(0, 154), (8, 155), (72, 22), (73, 3)], 74, 320, (List.replicate 72 (.int .u32 0) ++ ([.slice none 0 0, .int .i64 0]))⟩
def ti159 : TI := ⟨.iface, 1, 16, [.nilIface]⟩
def ti160 : TI := ⟨.iface, 1, 16, [.nilIface]⟩
def ti165 : TI := ⟨.struct [(0, 23), (32, 3)], 33, 40, (List.replicate 32 (.int .u8 0) ++ ([.int .i64 0]))⟩
def ti166 : TI := ⟨.struct [(0, 23), (32, 3)], 33, 40, (List.replicate 32 (.int .u8 0) ++ ([.int .i64 0]))⟩
def ti169 : TI := ⟨.struct [(0, 22), (1, 3)], 2, 32, [.slice none 0 0, .int .i64 0]⟩
def ti170 : TI := ⟨.struct [(0, 22), (1, 3)], 2, 32, [.slice none 0 0, .int .i64 0]⟩
def ti174 : TI := ⟨.int .u64, 1, 8, [.int .u64 0]⟩
def ti176 : TI := ⟨.struct [(0, 17)], 1, 8, [.pointer none]⟩
def ti177 : TI := ⟨.struct [(0, 17)], 1, 8, [.pointer none]⟩
def ti178 : TI := ⟨.ptr 212, 1, 8, [.pointer none]⟩
def ti179 : TI := ⟨.iface, 1, 16, [.nilIface]⟩
def ti182 : TI := ⟨.iface, 1, 16, [.nilIface]⟩
def ti184 : TI := ⟨.iface, 1, 16, [.nilIface]⟩
def ti185 : TI := ⟨.slice 105, 1, 24, [.slice none 0 0]⟩
def ti192 : TI := ⟨.struct [(0, 17), (1, 17), (2, 17), (3, 9)], 4, 40, [.pointer none, .pointer none, .pointer none, .string ⟨#[]⟩]⟩
def ti193 : TI := ⟨.struct [(0, 17), (1, 17), (2, 17), (3, 9)], 4, 40, [.pointer none, .pointer none, .pointer none, .string ⟨#[]⟩]⟩
def ti194 : TI := ⟨.arr 0 16, 0, 0, []⟩
def ti195 : TI := ⟨.struct [(0, 194)], 0, 0, []⟩
def ti196 : TI := ⟨.struct [(0, 194)], 0, 0, []⟩
def ti197 : TI := ⟨.int .u8, 1, 1, [.int .u8 0]⟩
def ti198 : TI := ⟨.int .u8, 1, 1, [.int .u8 0]⟩
def ti200 : TI := ⟨.ptr 5, 1, 8, [.pointer none]⟩
def ti201 : TI := ⟨.int .i32, 1, 4, [.int .i32 0]⟩
def ti202 : TI := ⟨.int .i32, 1, 4, [.int .i32 0]⟩
def ti203 : TI := ⟨.struct [(0, 12), (1, 12), (2, 153), (3, 197), (4, 5), (5, 5), (6, 198), (7, 199), (8, 200), (9, 201), (10, 202)], 11, 48, [.int .u64 0, .int .u64 0, .int .u32 0, .int .u8 0, .int .u8 0, .int .u8 0, .int .u8 0, .nilFunc, .pointer none, .int .i32 0, .int .i32 0]⟩
def ti204 : TI := ⟨.struct [(0, 12), (1, 12), (2, 153), (3, 197), (4, 5), (5, 5), (6, 198), (7, 199), (8, 200), (9, 201), (10, 202)], 11, 48, [.int .u64 0, .int .u64 0, .int .u32 0, .int .u8 0, .int .u8 0, .int .u8 0, .int .u8 0, .nilFunc, .pointer none, .int .i32 0, .int .i32 0]⟩
def ti211 : TI := ⟨.struct [(0, 9), (1, 198)], 2, 24, [.string ⟨#[]⟩, .int .u8 0]⟩
def ti212 : TI := ⟨.struct [(0, 9), (1, 198)], 2, 24, [.string ⟨#[]⟩, .int .u8 0]⟩
def ti213 : TI := ⟨.other, 1, 8, [.pointer none]⟩
def ti214 : TI := ⟨.ptr 218, 1, 8, [.pointer none]⟩
def ti216 : TI := ⟨.int .u16, 1, 2, [.int .u16 0]⟩
def ti217 : TI := ⟨.struct [(0, 201), (1, 216), (2, 216), (3, 153), (4, 153)], 5, 16, [.int .i32 0, .int .u16 0, .int .u16 0, .int .u32 0, .int .u32 0]⟩
def ti218 : TI := ⟨.struct [(0, 201), (1, 216), (2, 216), (3, 153), (4, 153)], 5, 16, [.int .i32 0, .int .u16 0, .int .u16 0, .int .u32 0, .int .u32 0]⟩
def ti219 : TI := ⟨.slice 222, 1, 24, [.slice none 0 0]⟩
def ti220 : TI := ⟨.int .i32, 1, 4, [.int .i32 0]⟩
def ti221 : TI := ⟨.struct [(0, 201), (1, 202), (2, 220), (3, 220)], 4, 16, [.int .i32 0, .int .i32 0, .int .i32 0, .int .i32 0]⟩
def ti222 : TI := ⟨.struct [(0, 201), (1, 202), (2, 220), (3, 220)], 4, 16, [.int .i32 0, .int .i32 0, .int .i32 0, .int .i32 0]⟩
def tyL : List (Nat × TI) := [(2, ti2), (3, ti3), (4, ti4), (5, ti5), (6, ti6), (7, ti7), (8, ti8), (9, ti9), (10, ti10), (11, ti11), (12, ti12), (13, ti13), (14, ti14), (15, ti15), (16, ti16), (17, ti17), (18, ti18), (19, ti19), (20, ti20), (21, ti21), (22, ti22), (23, ti23), (24, ti24), (30, ti30), (40, ti40), (43, ti43), (47, ti47), (48, ti48), (50, ti50), (53, ti53), (54, ti54), (55, ti55), (56, ti56), (60, ti60), (61, ti61), (62, ti62), (72, ti72), (73, ti73), (74, ti74), (81, ti81), (82, ti82), (83, ti83), (92, ti92), (96, ti96), (97, ti97), (100, ti100), (101, ti101), (102, ti102), (103, ti103), (104, ti104), (105, ti105), (109, ti109), (117, ti117), (121, ti121), (122, ti122), (129, ti129), (134, ti134), (135, ti135), (136, ti136), (139, ti139), (140, ti140), (141, ti141), (153, ti153), (154, ti154), (155, ti155), (157, ti157), (158, ti158), (159, ti159), (160, ti160), (165, ti165), (166, ti166), (169, ti169), (170, ti170), (174, ti174), (176, ti176), (177, ti177), (178, ti178), (179, ti179), (182, ti182), (184, ti184), (185, ti185), (192, ti192), (193, ti193), (194, ti194), (195, ti195), (196, ti196), (197, ti197), (198, ti198), (200, ti200), (201, ti201), (202, ti202), (203, ti203), (204, ti204), (211, ti211), (212, ti212), (213, ti213), (214, ti214), (216, ti216), (217, ti217), (218, ti218), (219, ti219), (220, ti220), (221, ti221), (222, ti222)]
def tyT (t : Nat) : Option TI := tyL.lookup t
@[go_sem] theorem ty2 : tyT 2 = some ⟨.int .i64, 1, 8, [.int .i64 0]⟩ := Eq.trans rfl rfl
@[go_sem] theorem ty3 : tyT 3 = some ⟨.int .i64, 1, 8, [.int .i64 0]⟩ := Eq.trans rfl rfl
@[go_sem] theorem ty4 : tyT 4 = some ⟨.bool, 1, 1, [.bool false]⟩ := Eq.trans rfl rfl
@[go_sem] theorem ty5 : tyT 5 = some ⟨.int .u8, 1, 1, [.int .u8 0]⟩ := Eq.trans rfl rfl
@[go_sem] theorem ty6 : tyT 6 = some ⟨.int .u8, 1, 1, [.int .u8 0]⟩ := Eq.trans rfl rfl
@[go_sem] theorem ty7 : tyT 7 = some ⟨.struct [(0, 2), (1, 3), (2, 4), (3, 6)], 4, 24, [.int .i64 0, .int .i64 0, .bool false, .int .u8 0]⟩ := Eq.trans rfl rfl
@[go_sem] theorem ty8 : tyT 8 = some ⟨.struct [(0, 2), (1, 3), (2, 4), (3, 6)], 4, 24, [.int .i64 0, .int .i64 0, .bool false, .int .u8 0]⟩ := Eq.trans rfl rfl
@[go_sem] theorem ty9 : tyT 9 = some ⟨.str, 1, 16, [.string ⟨#[]⟩]⟩ := Eq.trans rfl rfl
@[go_sem] theorem ty10 : tyT 10 = some ⟨.str, 1, 16, [.string ⟨#[]⟩]⟩ := Eq.trans rfl rfl
@[go_sem] theorem ty11 : tyT 11 = some ⟨.str, 1, 16, [.string ⟨#[]⟩]⟩ := Eq.trans rfl rfl
@[go_sem] theorem ty12 : tyT 12 = some ⟨.int .u64, 1, 8, [.int .u64 0]⟩ := Eq.trans rfl rfl
@[go_sem] theorem ty13 : tyT 13 = some ⟨.struct [(0, 9), (1, 12)], 2, 24, [.string ⟨#[]⟩, .int .u64 0]⟩ := Eq.trans rfl rfl
@[go_sem] theorem ty14 : tyT 14 = some ⟨.struct [(0, 9), (1, 12)], 2, 24, [.string ⟨#[]⟩, .int .u64 0]⟩ := Eq.trans rfl rfl
@[go_sem] theorem ty15 : tyT 15 = some ⟨.ptr 193, 1, 8, [.pointer none]⟩ := Eq.trans rfl rfl
@[go_sem] theorem ty16 : tyT 16 = some ⟨.ptr 196, 1, 8, [.pointer none]⟩ := Eq.trans rfl rfl
@[go_sem] theorem ty17 : tyT 17 = some ⟨.ptr 204, 1, 8, [.pointer none]⟩ := Eq.trans rfl rfl
@[go_sem] theorem ty18 : tyT 18 = some ⟨.struct [(0, 17)], 1, 8, [.pointer none]⟩ := Eq.trans rfl rfl
@[go_sem] theorem ty19 : tyT 19 = some ⟨.struct [(0, 17)], 1, 8, [.pointer none]⟩ := Eq.trans rfl rfl
@[go_sem] theorem ty20 : tyT 20 = some ⟨.iface, 1, 16, [.nilIface]⟩ := Eq.trans rfl rfl
@[go_sem] theorem ty21 : tyT 21 = some ⟨.int .i32, 1, 4, [.int .i32 0]⟩ := Eq.trans rfl rfl
@[go_sem] theorem ty22 : tyT 22 = some ⟨.slice 5, 1, 24, [.slice none 0 0]⟩ := Eq.trans rfl rfl
@[go_sem] theorem ty23 : tyT 23 = some ⟨.arr 32 5, 32, 32, (List.replicate 32 (.int .u8 0))⟩ := Eq.trans rfl rfl
@[go_sem] theorem ty24 : tyT 24 = some ⟨.arr 32 5, 32, 32, (List.replicate 32 (.int .u8 0))⟩ := Eq.trans rfl rfl
@[go_sem] theorem ty30 : tyT 30 = some ⟨.slice 97, 1, 24, [.slice none 0 0]⟩ := Eq.trans rfl rfl
@[go_sem] theorem ty40 : tyT 40 = some ⟨.slice 23, 1, 24, [.slice none 0 0]⟩ := Eq.trans rfl rfl
@[go_sem] theorem ty43 : tyT 43 = some ⟨.slice 24, 1, 24, [.slice none 0 0]⟩ := Eq.trans rfl rfl
@[go_sem] theorem ty47 : tyT 47 = some ⟨.struct [(0, 3), (1, 3), (2, 3), (3, 3)], 4, 32, [.int .i64 0, .int .i64 0, .int .i64 0, .int .i64 0]⟩ := Eq.trans rfl rfl
@[go_sem] theorem ty48 : tyT 48 = some ⟨.struct [(0, 3), (1, 3), (2, 3), (3, 3)], 4, 32, [.int .i64 0, .int .i64 0, .int .i64 0, .int .i64 0]⟩ := Eq.trans rfl rfl
@[go_sem] theorem ty50 : tyT 50 = some ⟨.struct [(0, 3), (1, 3), (2, 3), (3, 3)], 4, 32, [.int .i64 0, .int .i64 0, .int .i64 0, .int .i64 0]⟩ := Eq.trans rfl rfl
@[go_sem] theorem ty53 : tyT 53 = some ⟨.slice 166, 1, 24, [.slice none 0 0]⟩ := Eq.trans rfl rfl
@[go_sem] theorem ty54 : tyT 54 = some ⟨.slice 3, 1, 24, [.slice none 0 0]⟩ := Eq.trans rfl rfl
@[go_sem] theorem ty55 : tyT 55 = some ⟨.struct [(0, 53), (1, 54), (2, 3)], 3, 56, [.slice none 0 0, .slice none 0 0, .int .i64 0]⟩ := Eq.trans rfl rfl
@[go_sem] theorem ty56 : tyT 56 = some ⟨.struct [(0, 53), (1, 54), (2, 3)], 3, 56, [.slice none 0 0, .slice none 0 0, .int .i64 0]⟩ := Eq.trans rfl rfl
@[go_sem] theorem ty60 : tyT 60 = some ⟨.slice 122, 1, 24, [.slice none 0 0]⟩ := Eq.trans rfl rfl
@[go_sem] theorem ty61 : tyT 61 = some ⟨.struct [(0, 60), (1, 54), (2, 3)], 3, 56, [.slice none 0 0, .slice none 0 0, .int .i64 0]⟩ := Eq.trans rfl rfl
@[go_sem] theorem ty62 : tyT 62 = some ⟨.struct [(0, 60), (1, 54), (2, 3)], 3, 56, [.slice none 0 0, .slice none 0 0, .int .i64 0]⟩ := Eq.trans rfl rfl
@[go_sem] theorem ty72 : tyT 72 = some ⟨.slice 62, 1, 24, [.slice none 0 0]⟩ := Eq.trans rfl rfl
@[go_sem] theorem ty73 : tyT 73 = some ⟨.struct [(0, 24), (32, 24), (64, 3), (65, 72)], 66, 96, (List.replicate 32 (.int .u8 0) ++ (List.replicate 32 (.int .u8 0) ++ ([.int .i64 0, .slice none 0 0])))⟩ := Eq.trans rfl rfl
@[go_sem] theorem ty74 : tyT 74 = some ⟨.struct [(0, 24), (32, 24), (64, 3), (65, 72)], 66, 96, (List.replicate 32 (.int .u8 0) ++ (List.replicate 32 (.int .u8 0) ++ ([.int .i64 0, .slice none 0 0])))⟩ := Eq.trans rfl rfl
@[go_sem] theorem ty81 : tyT 81 = some ⟨.slice 56, 1, 24, [.slice none 0 0]⟩ := Eq.trans rfl rfl
@[go_sem] theorem ty82 : tyT 82 = some ⟨.struct [(0, 23), (32, 23), (64, 3), (65, 81)], 66, 96, (List.replicate 32 (.int .u8 0) ++ (List.replicate 32 (.int .u8 0) ++ ([.int .i64 0, .slice none 0 0])))⟩ := Eq.trans rfl rfl
@[go_sem] theorem ty83 : tyT 83 = some ⟨.struct [(0, 23), (32, 23), (64, 3), (65, 81)], 66, 96, (List.replicate 32 (.int .u8 0) ++ (List.replicate 32 (.int .u8 0) ++ ([.int .i64 0, .slice none 0 0])))⟩ := Eq.trans rfl rfl
@[go_sem] theorem ty92 : tyT 92 = some ⟨.ptr 158, 1, 8, [.pointer none]⟩ := Eq.trans rfl rfl
@[go_sem] theorem ty96 : tyT 96 = some ⟨.struct [(0, 3), (1, 3), (2, 22)], 3, 40, [.int .i64 0, .int .i64 0, .slice none 0 0]⟩ := Eq.trans rfl rfl
@[go_sem] theorem ty97 : tyT 97 = some ⟨.struct [(0, 3), (1, 3), (2, 22)], 3, 40, [.int .i64 0, .int .i64 0, .slice none 0 0]⟩ := Eq.trans rfl rfl
@[go_sem] theorem ty100 : tyT 100 = some ⟨.struct [(0, 3), (1, 3), (2, 3)], 3, 24, [.int .i64 0, .int .i64 0, .int .i64 0]⟩ := Eq.trans rfl rfl
@[go_sem] theorem ty101 : tyT 101 = some ⟨.struct [(0, 3), (1, 3), (2, 3)], 3, 24, [.int .i64 0, .int .i64 0, .int .i64 0]⟩ := Eq.trans rfl rfl
@[go_sem] theorem ty102 : tyT 102 = some ⟨.struct [(0, 101), (3, 22)], 4, 48, [.int .i64 0, .int .i64 0, .int .i64 0, .slice none 0 0]⟩ := Eq.trans rfl rfl
@[go_sem] theorem ty103 : tyT 103 = some ⟨.struct [(0, 101), (3, 22)], 4, 48, [.int .i64 0, .int .i64 0, .int .i64 0, .slice none 0 0]⟩ := Eq.trans rfl rfl
@[go_sem] theorem ty104 : tyT 104 = some ⟨.iface, 1, 16, [.nilIface]⟩ := Eq.trans rfl rfl
@[go_sem] theorem ty105 : tyT 105 = some ⟨.iface, 1, 16, [.nilIface]⟩ := Eq.trans rfl rfl
@[go_sem] theorem ty109 : tyT 109 = some ⟨.str, 1, 16, [.string ⟨#[]⟩]⟩ := Eq.trans rfl rfl
@[go_sem] theorem ty117 : tyT 117 = some ⟨.slice 22, 1, 24, [.slice none 0 0]⟩ := Eq.trans rfl rfl
@[go_sem] theorem ty121 : tyT 121 = some ⟨.struct [(0, 24), (32, 3)], 33, 40, (List.replicate 32 (.int .u8 0) ++ ([.int .i64 0]))⟩ := Eq.trans rfl rfl
@[go_sem] theorem ty122 : tyT 122 = some ⟨.struct [(0, 24), (32, 3)], 33, 40, (List.replicate 32 (.int .u8 0) ++ ([.int .i64 0]))⟩ := Eq.trans rfl rfl
@[go_sem] theorem ty129 : tyT 129 = some ⟨.ptr 170, 1, 8, [.pointer none]⟩ := Eq.trans rfl rfl
@[go_sem] theorem ty134 : tyT 134 = some ⟨.ptr 136, 1, 8, [.pointer none]⟩ := Eq.trans rfl rfl
@[go_sem] theorem ty135 : tyT 135 = some ⟨.struct [(0, 22), (1, 3), (2, 4)], 3, 40, [.slice none 0 0, .int .i64 0, .bool false]⟩ := Eq.trans rfl rfl
@[go_sem] theorem ty136 : tyT 136 = some ⟨.struct [(0, 22), (1, 3), (2, 4)], 3, 40, [.slice none 0 0, .int .i64 0, .bool false]⟩ := Eq.trans rfl rfl
@[go_sem] theorem ty139 : tyT 139 = some ⟨.ptr 141, 1, 8, [.pointer none]⟩ := Eq.trans rfl rfl
@[go_sem] theorem ty140 : tyT 140 = some ⟨.struct [(0, 22), (1, 4)], 2, 32, [.slice none 0 0, .bool false]⟩ := Eq.trans rfl rfl
@[go_sem] theorem ty141 : tyT 141 = some ⟨.struct [(0, 22), (1, 4)], 2, 32, [.slice none 0 0, .bool false]⟩ := Eq.trans rfl rfl
@[go_sem] theorem ty153 : tyT 153 = some ⟨.int .u32, 1, 4, [.int .u32 0]⟩ := Eq.trans rfl rfl
@[go_sem] theorem ty154 : tyT 154 = some ⟨.arr 8 153, 8, 32, [.int .u32 0, .int .u32 0, .int .u32 0, .int .u32 0, .int .u32 0, .int .u32 0, .int .u32 0, .int .u32 0]⟩ := Eq.trans rfl rfl
@[go_sem] theorem ty155 : tyT 155 = some ⟨.arr 64 153, 64, 256, (List.replicate 64 (.int .u32 0))⟩ := Eq.trans rfl rfl
@[go_sem] theorem ty157 : tyT 157 = some ⟨.struct [(0, 154), (8, 155), (72, 22), (73, 3)], 74, 320, (List.replicate 72 (.int .u32 0) ++ ([.slice none 0 0, .int .i64 0]))⟩ := Eq.trans rfl rfl
@[go_sem] theorem ty158 : tyT 158 = some ⟨.struct [(0, 154), (8, 155), (72, 22), (73, 3)], 74, 320, (List.replicate 72 (.int .u32 0) ++ ([.slice none 0 0, .int .i64 0]))⟩ := Eq.trans rfl rfl
@[go_sem] theorem ty159 : tyT 159 = some ⟨.iface, 1, 16, [.nilIface]⟩ := Eq.trans rfl rfl
@[go_sem] theorem ty160 : tyT 160 = some ⟨.iface, 1, 16, [.nilIface]⟩ := Eq.trans rfl rfl
@[go_sem] theorem ty165 : tyT 165 = some ⟨.struct [(0, 23), (32, 3)], 33, 40, (List.replicate 32 (.int .u8 0) ++ ([.int .i64 0]))⟩ := Eq.trans rfl rfl
@[go_sem] theorem ty166 : tyT 166 = some ⟨.struct [(0, 23), (32, 3)], 33, 40, (List.replicate 32 (.int .u8 0) ++ ([.int .i64 0]))⟩ := Eq.trans rfl rfl
@[go_sem] theorem ty169 : tyT 169 = some ⟨.struct [(0, 22), (1, 3)], 2, 32, [.slice none 0 0, .int .i64 0]⟩ := Eq.trans rfl rfl
@[go_sem] theorem ty170 : tyT 170 = some ⟨.struct [(0, 22), (1, 3)], 2, 32, [.slice none 0 0, .int .i64 0]⟩ := Eq.trans rfl rfl
@[go_sem] theorem ty174 : tyT 174 = some ⟨.int .u64, 1, 8, [.int .u64 0]⟩ := Eq.trans rfl rfl
@[go_sem] theorem ty176 : tyT 176 = some ⟨.struct [(0, 17)], 1, 8, [.pointer none]⟩ := Eq.trans rfl rfl
@[go_sem] theorem ty177 : tyT 177 = some ⟨.struct [(0, 17)], 1, 8, [.pointer none]⟩ := Eq.trans rfl rfl
@[go_sem] theorem ty178 : tyT 178 = some ⟨.ptr 212, 1, 8, [.pointer none]⟩ := Eq.trans rfl rfl
@[go_sem] theorem ty179 : tyT 179 = some ⟨.iface, 1, 16, [.nilIface]⟩ := Eq.trans rfl rfl
@[go_sem] theorem ty182 : tyT 182 = some ⟨.iface, 1, 16, [.nilIface]⟩ := Eq.trans rfl rfl
@[go_sem] theorem ty184 : tyT 184 = some ⟨.iface, 1, 16, [.nilIface]⟩ := Eq.trans rfl rfl
@[go_sem] theorem ty185 : tyT 185 = some ⟨.slice 105, 1, 24, [.slice none 0 0]⟩ := Eq.trans rfl rfl
@[go_sem] theorem ty192 : tyT 192 = some ⟨.struct [(0, 17), (1, 17), (2, 17), (3, 9)], 4, 40, [.pointer none, .pointer none, .pointer none, .string ⟨#[]⟩]⟩ := Eq.trans rfl rfl
@[go_sem] theorem ty193 : tyT 193 = some ⟨.struct [(0, 17), (1, 17), (2, 17), (3, 9)], 4, 40, [.pointer none, .pointer none, .pointer none, .string ⟨#[]⟩]⟩ := Eq.trans rfl rfl
@[go_sem] theorem ty194 : tyT 194 = some ⟨.arr 0 16, 0, 0, []⟩ := Eq.trans rfl rfl
@[go_sem] theorem ty195 : tyT 195 = some ⟨.struct [(0, 194)], 0, 0, []⟩ := Eq.trans rfl rfl
@[go_sem] theorem ty196 : tyT 196 = some ⟨.struct [(0, 194)], 0, 0, []⟩ := Eq.trans rfl rfl
@[go_sem] theorem ty197 : tyT 197 = some ⟨.int .u8, 1, 1, [.int .u8 0]⟩ := Eq.trans rfl rfl
@[go_sem] theorem ty198 : tyT 198 = some ⟨.int .u8, 1, 1, [.int .u8 0]⟩ := Eq.trans rfl rfl
@[go_sem] theorem ty200 : tyT 200 = some ⟨.ptr 5, 1, 8, [.pointer none]⟩ := Eq.trans rfl rfl
@[go_sem] theorem ty201 : tyT 201 = some ⟨.int .i32, 1, 4, [.int .i32 0]⟩ := Eq.trans rfl rfl
@[go_sem] theorem ty202 : tyT 202 = some ⟨.int .i32, 1, 4, [.int .i32 0]⟩ := Eq.trans rfl rfl
@[go_sem] theorem ty203 : tyT 203 = some ⟨.struct [(0, 12), (1, 12), (2, 153), (3, 197), (4, 5), (5, 5), (6, 198), (7, 199), (8, 200), (9, 201), (10, 202)], 11, 48, [.int .u64 0, .int .u64 0, .int .u32 0, .int .u8 0, .int .u8 0, .int .u8 0, .int .u8 0, .nilFunc, .pointer none, .int .i32 0, .int .i32 0]⟩ := Eq.trans rfl rfl
@[go_sem] theorem ty204 : tyT 204 = some ⟨.struct [(0, 12), (1, 12), (2, 153), (3, 197), (4, 5), (5, 5), (6, 198), (7, 199), (8, 200), (9, 201), (10, 202)], 11, 48, [.int .u64 0, .int .u64 0, .int .u32 0, .int .u8 0, .int .u8 0, .int .u8 0, .int .u8 0, .nilFunc, .pointer none, .int .i32 0, .int .i32 0]⟩ := Eq.trans rfl rfl
@[go_sem] theorem ty211 : tyT 211 = some ⟨.struct [(0, 9), (1, 198)], 2, 24, [.string ⟨#[]⟩, .int .u8 0]⟩ := Eq.trans rfl rfl
@[go_sem] theorem ty212 : tyT 212 = some ⟨.struct [(0, 9), (1, 198)], 2, 24, [.string ⟨#[]⟩, .int .u8 0]⟩ := Eq.trans rfl rfl
@[go_sem] theorem ty213 : tyT 213 = some ⟨.other, 1, 8, [.pointer none]⟩ := Eq.trans rfl rfl
@[go_sem] theorem ty214 : tyT 214 = some ⟨.ptr 218, 1, 8, [.pointer none]⟩ := Eq.trans rfl rfl
@[go_sem] theorem ty216 : tyT 216 = some ⟨.int .u16, 1, 2, [.int .u16 0]⟩ := Eq.trans rfl rfl
@[go_sem] theorem ty217 : tyT 217 = some ⟨.struct [(0, 201), (1, 216), (2, 216), (3, 153), (4, 153)], 5, 16, [.int .i32 0, .int .u16 0, .int .u16 0, .int .u32 0, .int .u32 0]⟩ := Eq.trans rfl rfl
@[go_sem] theorem ty218 : tyT 218 = some ⟨.struct [(0, 201), (1, 216), (2, 216), (3, 153), (4, 153)], 5, 16, [.int .i32 0, .int .u16 0, .int .u16 0, .int .u32 0, .int .u32 0]⟩ := Eq.trans rfl rfl
@[go_sem] theorem ty219 : tyT 219 = some ⟨.slice 222, 1, 24, [.slice none 0 0]⟩ := Eq.trans rfl rfl
@[go_sem] theorem ty220 : tyT 220 = some ⟨.int .i32, 1, 4, [.int .i32 0]⟩ := Eq.trans rfl rfl
@[go_sem] theorem ty221 : tyT 221 = some ⟨.struct [(0, 201), (1, 202), (2, 220), (3, 220)], 4, 16, [.int .i32 0, .int .i32 0, .int .i32 0, .int .i32 0]⟩ := Eq.trans rfl rfl
@[go_sem] theorem ty222 : tyT 222 = some ⟨.struct [(0, 201), (1, 202), (2, 220), (3, 220)], 4, 16, [.int .i32 0, .int .i32 0, .int .i32 0, .int .i32 0]⟩ := Eq.trans rfl rfl
theorem ok2 : TI.Ok Try.prog 2 ti2 := ⟨by kernel_rfl, by kernel_rfl⟩
theorem ok3 : TI.Ok Try.prog 3 ti3 := ⟨by kernel_rfl, by kernel_rfl⟩
theorem ok4 : TI.Ok Try.prog 4 ti4 := ⟨by kernel_rfl, by kernel_rfl⟩
theorem ok5 : TI.Ok Try.prog 5 ti5 := ⟨by kernel_rfl, by kernel_rfl⟩
theorem ok6 : TI.Ok Try.prog 6 ti6 := ⟨by kernel_rfl, by kernel_rfl⟩
theorem ok7 : TI.Ok Try.prog 7 ti7 := ⟨by kernel_rfl, by kernel_rfl⟩
theorem ok8 : TI.Ok Try.prog 8 ti8 := ⟨by kernel_rfl, by kernel_rfl⟩
theorem ok9 : TI.Ok Try.prog 9 ti9 := ⟨by kernel_rfl, by kernel_rfl⟩
theorem ok10 : TI.Ok Try.prog 10 ti10 := ⟨by kernel_rfl, by kernel_rfl⟩
theorem ok11 : TI.Ok Try.prog 11 ti11 := ⟨by kernel_rfl, by kernel_rfl⟩
theorem ok12 : TI.Ok Try.prog 12 ti12 := ⟨by kernel_rfl, by kernel_rfl⟩
theorem ok13 : TI.Ok Try.prog 13 ti13 := ⟨by kernel_rfl, by kernel_rfl⟩
theorem ok14 : TI.Ok Try.prog 14 ti14 := ⟨by kernel_rfl, by kernel_rfl⟩
theorem ok15 : TI.Ok Try.prog 15 ti15 := ⟨by kernel_rfl, by kernel_rfl⟩
theorem ok16 : TI.Ok Try.prog 16 ti16 := ⟨by kernel_rfl, by kernel_rfl⟩
theorem ok17 : TI.Ok Try.prog 17 ti17 := ⟨by kernel_rfl, by kernel_rfl⟩
theorem ok18 : TI.Ok Try.prog 18 ti18 := ⟨by kernel_rfl, by kernel_rfl⟩
theorem ok19 : TI.Ok Try.prog 19 ti19 := ⟨by kernel_rfl, by kernel_rfl⟩
theorem ok20 : TI.Ok Try.prog 20 ti20 := ⟨by kernel_rfl, by kernel_rfl⟩
theorem ok21 : TI.Ok Try.prog 21 ti21 := ⟨by kernel_rfl, by kernel_rfl⟩
theorem ok22 : TI.Ok Try.prog 22 ti22 := ⟨by kernel_rfl, by kernel_rfl⟩
theorem ok23 : TI.Ok Try.prog 23 ti23 := ⟨by kernel_rfl, by kernel_rfl⟩
theorem ok24 : TI.Ok Try.prog 24 ti24 := ⟨by kernel_rfl, by kernel_rfl⟩
theorem ok30 : TI.Ok Try.prog 30 ti30 := ⟨by kernel_rfl, by kernel_rfl⟩
theorem ok40 : TI.Ok Try.prog 40 ti40 := ⟨by kernel_rfl, by kernel_rfl⟩
theorem ok43 : TI.Ok Try.prog 43 ti43 := ⟨by kernel_rfl, by kernel_rfl⟩
theorem ok47 : TI.Ok Try.prog 47 ti47 := ⟨by kernel_rfl, by kernel_rfl⟩
theorem ok48 : TI.Ok Try.prog 48 ti48 := ⟨by kernel_rfl, by kernel_rfl⟩
theorem ok50 : TI.Ok Try.prog 50 ti50 := ⟨by kernel_rfl, by kernel_rfl⟩
theorem ok53 : TI.Ok Try.prog 53 ti53 := ⟨by kernel_rfl, by kernel_rfl⟩
theorem ok54 : TI.Ok Try.prog 54 ti54 := ⟨by kernel_rfl, by kernel_rfl⟩
theorem ok55 : TI.Ok Try.prog 55 ti55 := ⟨by kernel_rfl, by kernel_rfl⟩
theorem ok56 : TI.Ok Try.prog 56 ti56 := ⟨by kernel_rfl, by kernel_rfl⟩
theorem ok60 : TI.Ok Try.prog 60 ti60 := ⟨by kernel_rfl, by kernel_rfl⟩
theorem ok61 : TI.Ok Try.prog 61 ti61 := ⟨by kernel_rfl, by kernel_rfl⟩
theorem ok62 : TI.Ok Try.prog 62 ti62 := ⟨by kernel_rfl, by kernel_rfl⟩
theorem ok72 : TI.Ok Try.prog 72 ti72 := ⟨by kernel_rfl, by kernel_rfl⟩
theorem ok73 : TI.Ok Try.prog 73 ti73 := ⟨by kernel_rfl, by kernel_rfl⟩
theorem ok74 : TI.Ok Try.prog 74 ti74 := ⟨by kernel_rfl, by kernel_rfl⟩
theorem ok81 : TI.Ok Try.prog 81 ti81 := ⟨by kernel_rfl, by kernel_rfl⟩
theorem ok82 : TI.Ok Try.prog 82 ti82 := ⟨by kernel_rfl, by kernel_rfl⟩
theorem ok83 : TI.Ok Try.prog 83 ti83 := ⟨by kernel_rfl, by kernel_rfl⟩
theorem ok92 : TI.Ok Try.prog 92 ti92 := ⟨by kernel_rfl, by kernel_rfl⟩
theorem ok96 : TI.Ok Try.prog 96 ti96 := ⟨by kernel_rfl, by kernel_rfl⟩
theorem ok97 : TI.Ok Try.prog 97 ti97 := ⟨by kernel_rfl, by kernel_rfl⟩
theorem ok100 : TI.Ok Try.prog 100 ti100 := ⟨by kernel_rfl, by kernel_rfl⟩
theorem ok101 : TI.Ok Try.prog 101 ti101 := ⟨by kernel_rfl, by kernel_rfl⟩
theorem ok102 : TI.Ok Try.prog 102 ti102 := ⟨by kernel_rfl, by kernel_rfl⟩
theorem ok103 : TI.Ok Try.prog 103 ti103 := ⟨by kernel_rfl, by kernel_rfl⟩
theorem ok104 : TI.Ok Try.prog 104 ti104 := ⟨by kernel_rfl, by kernel_rfl⟩
theorem ok105 : TI.Ok Try.prog 105 ti105 := ⟨by kernel_rfl, by kernel_rfl⟩
theorem ok109 : TI.Ok Try.prog 109 ti109 := ⟨by kernel_rfl, by kernel_rfl⟩
theorem ok117 : TI.Ok Try.prog 117 ti117 := ⟨by kernel_rfl, by kernel_rfl⟩
theorem ok121 : TI.Ok Try.prog 121 ti121 := ⟨by kernel_rfl, by kernel_rfl⟩
theorem ok122 : TI.Ok Try.prog 122 ti122 := ⟨by kernel_rfl, by kernel_rfl⟩
theorem ok129 : TI.Ok Try.prog 129 ti129 := ⟨by kernel_rfl, by kernel_rfl⟩
theorem ok134 : TI.Ok Try.prog 134 ti134 := ⟨by kernel_rfl, by kernel_rfl⟩
theorem ok135 : TI.Ok Try.prog 135 ti135 := ⟨by kernel_rfl, by kernel_rfl⟩
theorem ok136 : TI.Ok Try.prog 136 ti136 := ⟨by kernel_rfl, by kernel_rfl⟩
theorem ok139 : TI.Ok Try.prog 139 ti139 := ⟨by kernel_rfl, by kernel_rfl⟩
theorem ok140 : TI.Ok Try.prog 140 ti140 := ⟨by kernel_rfl, by kernel_rfl⟩
theorem ok141 : TI.Ok Try.prog 141 ti141 := ⟨by kernel_rfl, by kernel_rfl⟩
theorem ok153 : TI.Ok Try.prog 153 ti153 := ⟨by kernel_rfl, by kernel_rfl⟩
theorem ok154 : TI.Ok Try.prog 154 ti154 := ⟨by kernel_rfl, by kernel_rfl⟩
theorem ok155 : TI.Ok Try.prog 155 ti155 := ⟨by kernel_rfl, by kernel_rfl⟩
theorem ok157 : TI.Ok Try.prog 157 ti157 := ⟨by kernel_rfl, by kernel_rfl⟩
theorem ok158 : TI.Ok Try.prog 158 ti158 := ⟨by kernel_rfl, by kernel_rfl⟩
theorem ok159 : TI.Ok Try.prog 159 ti159 := ⟨by kernel_rfl, by kernel_rfl⟩
theorem ok160 : TI.Ok Try.prog 160 ti160 := ⟨by kernel_rfl, by kernel_rfl⟩
theorem ok165 : TI.Ok Try.prog 165 ti165 := ⟨by kernel_rfl, by kernel_rfl⟩
theorem ok166 : TI.Ok Try.prog 166 ti166 := ⟨by kernel_rfl, by kernel_rfl⟩
theorem ok169 : TI.Ok Try.prog 169 ti169 := ⟨by kernel_rfl, by kernel_rfl⟩
theorem ok170 : TI.Ok Try.prog 170 ti170 := ⟨by kernel_rfl, by kernel_rfl⟩
theorem ok174 : TI.Ok Try.prog 174 ti174 := ⟨by kernel_rfl, by kernel_rfl⟩
theorem ok176 : TI.Ok Try.prog 176 ti176 := ⟨by kernel_rfl, by kernel_rfl⟩
theorem ok177 : TI.Ok Try.prog 177 ti177 := ⟨by kernel_rfl, by kernel_rfl⟩
theorem ok178 : TI.Ok Try.prog 178 ti178 := ⟨by kernel_rfl, by kernel_rfl⟩
theorem ok179 : TI.Ok Try.prog 179 ti179 := ⟨by kernel_rfl, by kernel_rfl⟩
theorem ok182 : TI.Ok Try.prog 182 ti182 := ⟨by kernel_rfl, by kernel_rfl⟩
theorem ok184 : TI.Ok Try.prog 184 ti184 := ⟨by kernel_rfl, by kernel_rfl⟩
theorem ok185 : TI.Ok Try.prog 185 ti185 := ⟨by kernel_rfl, by kernel_rfl⟩
theorem ok192 : TI.Ok Try.prog 192 ti192 := ⟨by kernel_rfl, by kernel_rfl⟩
theorem ok193 : TI.Ok Try.prog 193 ti193 := ⟨by kernel_rfl, by kernel_rfl⟩
theorem ok194 : TI.Ok Try.prog 194 ti194 := ⟨by kernel_rfl, by kernel_rfl⟩
theorem ok195 : TI.Ok Try.prog 195 ti195 := ⟨by kernel_rfl, by kernel_rfl⟩
theorem ok196 : TI.Ok Try.prog 196 ti196 := ⟨by kernel_rfl, by kernel_rfl⟩
theorem ok197 : TI.Ok Try.prog 197 ti197 := ⟨by kernel_rfl, by kernel_rfl⟩
theorem ok198 : TI.Ok Try.prog 198 ti198 := ⟨by kernel_rfl, by kernel_rfl⟩
theorem ok200 : TI.Ok Try.prog 200 ti200 := ⟨by kernel_rfl, by kernel_rfl⟩
theorem ok201 : TI.Ok Try.prog 201 ti201 := ⟨by kernel_rfl, by kernel_rfl⟩
theorem ok202 : TI.Ok Try.prog 202 ti202 := ⟨by kernel_rfl, by kernel_rfl⟩
theorem ok203 : TI.Ok Try.prog 203 ti203 := ⟨by kernel_rfl, by kernel_rfl⟩
theorem ok204 : TI.Ok Try.prog 204 ti204 := ⟨by kernel_rfl, by kernel_rfl⟩
theorem ok211 : TI.Ok Try.prog 211 ti211 := ⟨by kernel_rfl, by kernel_rfl⟩
theorem ok212 : TI.Ok Try.prog 212 ti212 := ⟨by kernel_rfl, by kernel_rfl⟩
theorem ok213 : TI.Ok Try.prog 213 ti213 := ⟨by kernel_rfl, by kernel_rfl⟩
theorem ok214 : TI.Ok Try.prog 214 ti214 := ⟨by kernel_rfl, by kernel_rfl⟩
theorem ok216 : TI.Ok Try.prog 216 ti216 := ⟨by kernel_rfl, by kernel_rfl⟩
theorem ok217 : TI.Ok Try.prog 217 ti217 := ⟨by kernel_rfl, by kernel_rfl⟩
theorem ok218 : TI.Ok Try.prog 218 ti218 := ⟨by kernel_rfl, by kernel_rfl⟩
theorem ok219 : TI.Ok Try.prog 219 ti219 := ⟨by kernel_rfl, by kernel_rfl⟩
theorem ok220 : TI.Ok Try.prog 220 ti220 := ⟨by kernel_rfl, by kernel_rfl⟩
theorem ok221 : TI.Ok Try.prog 221 ti221 := ⟨by kernel_rfl, by kernel_rfl⟩
theorem ok222 : TI.Ok Try.prog 222 ti222 := ⟨by kernel_rfl, by kernel_rfl⟩
theorem tyOk : TOk Try.prog tyT := tok_of tyL Try.prog (.cons ok2 (.cons ok3 (.cons ok4 (.cons ok5 (.cons ok6 (.cons ok7 (.cons ok8 (.cons ok9 (.cons ok10 (.cons ok11 (.cons ok12 (.cons ok13 (.cons ok14 (.cons ok15 (.cons ok16 (.cons ok17 (.cons ok18 (.cons ok19 (.cons ok20 (.cons ok21 (.cons ok22 (.cons ok23 (.cons ok24 (.cons ok30 (.cons ok40 (.cons ok43 (.cons ok47 (.cons ok48 (.cons ok50 (.cons ok53 (.cons ok54 (.cons ok55 (.cons ok56 (.cons ok60 (.cons ok61 (.cons ok62 (.cons ok72 (.cons ok73 (.cons ok74 (.cons ok81 (.cons ok82 (.cons ok83 (.cons ok92 (.cons ok96 (.cons ok97 (.cons ok100 (.cons ok101 (.cons ok102 (.cons ok103 (.cons ok104 (.cons ok105 (.cons ok109 (.cons ok117 (.cons ok121 (.cons ok122 (.cons ok129 (.cons ok134 (.cons ok135 (.cons ok136 (.cons ok139 (.cons ok140 (.cons ok141 (.cons ok153 (.cons ok154 (.cons ok155 (.cons ok157 (.cons ok158 (.cons ok159 (.cons ok160 (.cons ok165 (.cons ok166 (.cons ok169 (.cons ok170 (.cons ok174 (.cons ok176 (.cons ok177 (.cons ok178 (.cons ok179 (.cons ok182 (.cons ok184 (.cons ok185 (.cons ok192 (.cons ok193 (.cons ok194 (.cons ok195 (.cons ok196 (.cons ok197 (.cons ok198 (.cons ok200 (.cons ok201 (.cons ok202 (.cons ok203 (.cons ok204 (.cons ok211 (.cons ok212 (.cons ok213 (.cons ok214 (.cons ok216 (.cons ok217 (.cons ok218 (.cons ok219 (.cons ok220 (.cons ok221 (.cons ok222 (.nil)))))))))))))))))))))))))))))))))))))))))))))))))))))))))))))))))))))))))))))))))))))))))))))))))))))))))
theorem mixed : Try.prog.follows .mixedOrders = true := by kernel_rfl
end Go.Proofs.Ytcmnbefdbckhcaa
