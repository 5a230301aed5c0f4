/- The types of the seat, as a table. -/
import Derived.Test.YtnancifnodbkdaaProg
import Derived.Test.YtnancifnodbkdaaUc
namespace Go.Proofs.Ytnancifnodbkdaa
open Go Go.Vcg Go.Proofs
set_option maxRecDepth 100000
def ti2 : TI := ⟨.int .i64, 1, 8, [.int .i64 0]⟩
def ti3 : TI := ⟨.int .i64, 1, 8, [.int .i64 0]⟩
def ti4 : TI := ⟨.bool, 1, 1, [.bool false]⟩
def ti5 : TI := ⟨.int .u8, 1, 1, [.int .u8 0]⟩
def ti6 : TI := ⟨.int .u8, 1, 1, [.int .u8 0]⟩
def ti7 : TI := ⟨.struct [(0, 2), (1, 3), (2, 4), (3, 6)], 4, 24, [.int .i64 0, .int .i64 0, .bool false, .int .u8 0]⟩
def ti8 : TI := ⟨.struct [(0, 2), (1, 3), (2, 4), (3, 6)], 4, 24, [.int .i64 0, .int .i64 0, .bool false, .int .u8 0]⟩
def ti9 : TI := ⟨.str, 1, 16, [.string ⟨#[]⟩]⟩
def ti10 : TI := ⟨.str, 1, 16, [.string ⟨#[]⟩]⟩
def ti11 : TI := ⟨.str, 1, 16, [.string ⟨#[]⟩]⟩
def ti12 : TI := ⟨.int .u64, 1, 8, [.int .u64 0]⟩
def ti13 : TI := ⟨.struct [(0, 9), (1, 12)], 2, 24, [.string ⟨#[]⟩, .int .u64 0]⟩
def ti14 : TI := ⟨.struct [(0, 9), (1, 12)], 2, 24, [.string ⟨#[]⟩, .int .u64 0]⟩
def ti15 : TI := ⟨.ptr 277, 1, 8, [.pointer none]⟩
def ti16 : TI := ⟨.ptr 280, 1, 8, [.pointer none]⟩
def ti17 : TI := ⟨.ptr 288, 1, 8, [.pointer none]⟩
def ti18 : TI := ⟨.struct [(0, 17)], 1, 8, [.pointer none]⟩
def ti19 : TI := ⟨.struct [(0, 17)], 1, 8, [.pointer none]⟩
def ti20 : TI := ⟨.iface, 1, 16, [.nilIface]⟩
def ti21 : TI := ⟨.int .i32, 1, 4, [.int .i32 0]⟩
def ti22 : TI := ⟨.slice 5, 1, 24, [.slice none 0 0]⟩
def ti36 : TI := ⟨.slice 22, 1, 24, [.slice none 0 0]⟩
def ti37 : TI := ⟨.slice 191, 1, 24, [.slice none 0 0]⟩
def ti38 : TI := ⟨.struct [(0, 36), (1, 37)], 2, 48, [.slice none 0 0, .slice none 0 0]⟩
def ti39 : TI := ⟨.struct [(0, 36), (1, 37)], 2, 48, [.slice none 0 0, .slice none 0 0]⟩
def ti42 : TI := ⟨.slice 180, 1, 24, [.slice none 0 0]⟩
def ti43 : TI := ⟨.struct [(0, 36), (1, 42)], 2, 48, [.slice none 0 0, .slice none 0 0]⟩
def ti44 : TI := ⟨.struct [(0, 36), (1, 42)], 2, 48, [.slice none 0 0, .slice none 0 0]⟩
def ti49 : TI := ⟨.arr 32 5, 32, 32, (List.replicate 32 (.int .u8 0))⟩
def ti50 : TI := ⟨.arr 32 5, 32, 32, (List.replicate 32 (.int .u8 0))⟩
def ti51 : TI := ⟨.slice 138, 1, 24, [.slice none 0 0]⟩
def ti52 : TI := ⟨.struct [(0, 50), (32, 50), (64, 3), (65, 51)], 66, 96, (List.replicate 32 (.int .u8 0) ++ (List.replicate 32 (.int .u8 0) ++ ([.int .i64 0, .slice none 0 0])))⟩
def ti53 : TI := ⟨.struct [(0, 50), (32, 50), (64, 3), (65, 51)], 66, 96, (List.replicate 32 (.int .u8 0) ++ (List.replicate 32 (.int .u8 0) ++ ([.int .i64 0, .slice none 0 0])))⟩
def ti58 : TI := ⟨.struct [(0, 3), (1, 3), (2, 22)], 3, 40, [.int .i64 0, .int .i64 0, .slice none 0 0]⟩
def ti59 : TI := ⟨.struct [(0, 3), (1, 3), (2, 22)], 3, 40, [.int .i64 0, .int .i64 0, .slice none 0 0]⟩
def ti63 : TI := ⟨.struct [(0, 3), (1, 3), (2, 22)], 3, 40, [.int .i64 0, .int .i64 0, .slice none 0 0]⟩
def ti68 : TI := ⟨.slice 59, 1, 24, [.slice none 0 0]⟩
def ti72 : TI := ⟨.slice 63, 1, 24, [.slice none 0 0]⟩
def ti78 : TI := ⟨.struct [(0, 3), (1, 3), (2, 3), (3, 3)], 4, 32, [.int .i64 0, .int .i64 0, .int .i64 0, .int .i64 0]⟩
def ti79 : TI := ⟨.struct [(0, 3), (1, 3), (2, 3), (3, 3)], 4, 32, [.int .i64 0, .int .i64 0, .int .i64 0, .int .i64 0]⟩
def ti101 : TI := ⟨.struct [(0, 3), (1, 3), (2, 3)], 3, 24, [.int .i64 0, .int .i64 0, .int .i64 0]⟩
def ti102 : TI := ⟨.struct [(0, 3), (1, 3), (2, 3)], 3, 24, [.int .i64 0, .int .i64 0, .int .i64 0]⟩
def ti103 : TI := ⟨.struct [(0, 102), (3, 22)], 4, 48, [.int .i64 0, .int .i64 0, .int .i64 0, .slice none 0 0]⟩
def ti104 : TI := ⟨.struct [(0, 102), (3, 22)], 4, 48, [.int .i64 0, .int .i64 0, .int .i64 0, .slice none 0 0]⟩
def ti105 : TI := ⟨.iface, 1, 16, [.nilIface]⟩
def ti106 : TI := ⟨.iface, 1, 16, [.nilIface]⟩
def ti110 : TI := ⟨.str, 1, 16, [.string ⟨#[]⟩]⟩
def ti111 : TI := ⟨.ptr 189, 1, 8, [.pointer none]⟩
def ti124 : TI := ⟨.ptr 161, 1, 8, [.pointer none]⟩
def ti130 : TI := ⟨.ptr 132, 1, 8, [.pointer none]⟩
def ti131 : TI := ⟨.struct [(0, 22), (1, 3), (2, 4)], 3, 40, [.slice none 0 0, .int .i64 0, .bool false]⟩
def ti132 : TI := ⟨.struct [(0, 22), (1, 3), (2, 4)], 3, 40, [.slice none 0 0, .int .i64 0, .bool false]⟩
def ti135 : TI := ⟨.slice 196, 1, 24, [.slice none 0 0]⟩
def ti136 : TI := ⟨.slice 3, 1, 24, [.slice none 0 0]⟩
def ti137 : TI := ⟨.struct [(0, 135), (1, 136), (2, 3)], 3, 56, [.slice none 0 0, .slice none 0 0, .int .i64 0]⟩
def ti138 : TI := ⟨.struct [(0, 135), (1, 136), (2, 3)], 3, 56, [.slice none 0 0, .slice none 0 0, .int .i64 0]⟩
def ti140 : TI := ⟨.ptr 142, 1, 8, [.pointer none]⟩
def ti141 : TI := ⟨.struct [(0, 22), (1, 4)], 2, 32, [.slice none 0 0, .bool false]⟩
def ti142 : TI := ⟨.struct [(0, 22), (1, 4)], 2, 32, [.slice none 0 0, .bool false]⟩
def ti149 : TI := ⟨.ptr 44, 1, 8, [.pointer none]⟩
def ti152 : TI := ⟨.struct [], 0, 0, []⟩
def ti153 : TI := ⟨.struct [], 0, 0, []⟩
def ti154 : TI := ⟨.int .u32, 1, 4, [.int .u32 0]⟩
def ti155 : TI := ⟨.struct [(0, 21), (1, 154)], 2, 8, [.int .i32 0, .int .u32 0]⟩
def ti156 : TI := ⟨.struct [(0, 21), (1, 154)], 2, 8, [.int .i32 0, .int .u32 0]⟩
def ti157 : TI := ⟨.struct [(0, 153), (0, 156)], 2, 8, [.int .i32 0, .int .u32 0]⟩
def ti158 : TI := ⟨.struct [(0, 153), (0, 156)], 2, 8, [.int .i32 0, .int .u32 0]⟩
def ti159 : TI := ⟨.map 3 3, 1, 8, [.map none]⟩
def ti160 : TI := ⟨.struct [(0, 158), (2, 44), (4, 159)], 5, 64, [.int .i32 0, .int .u32 0, .slice none 0 0, .slice none 0 0, .map none]⟩
def ti161 : TI := ⟨.struct [(0, 158), (2, 44), (4, 159)], 5, 64, [.int .i32 0, .int .u32 0, .slice none 0 0, .slice none 0 0, .map none]⟩
def ti162 : TI := ⟨.struct [(0, 36)], 1, 24, [.slice none 0 0]⟩
def ti163 : TI := ⟨.struct [(0, 36)], 1, 24, [.slice none 0 0]⟩
def ti179 : TI := ⟨.struct [(0, 3), (1, 22)], 2, 32, [.int .i64 0, .slice none 0 0]⟩
def ti180 : TI := ⟨.struct [(0, 3), (1, 22)], 2, 32, [.int .i64 0, .slice none 0 0]⟩
def ti184 : TI := ⟨.iface, 1, 16, [.nilIface]⟩
def ti185 : TI := ⟨.iface, 1, 16, [.nilIface]⟩
def ti188 : TI := ⟨.struct [(0, 22), (1, 3)], 2, 32, [.slice none 0 0, .int .i64 0]⟩
def ti189 : TI := ⟨.struct [(0, 22), (1, 3)], 2, 32, [.slice none 0 0, .int .i64 0]⟩
def ti191 : TI := ⟨.struct [(0, 3), (1, 22)], 2, 32, [.int .i64 0, .slice none 0 0]⟩
def ti195 : TI := ⟨.struct [(0, 50), (32, 3)], 33, 40, (List.replicate 32 (.int .u8 0) ++ ([.int .i64 0]))⟩
def ti196 : TI := ⟨.struct [(0, 50), (32, 3)], 33, 40, (List.replicate 32 (.int .u8 0) ++ ([.int .i64 0]))⟩
def ti207 : TI := ⟨.map 3 36, 1, 8, [.map none]⟩
def ti209 : TI := ⟨.struct [(0, 17)], 1, 8, [.pointer none]⟩
def ti210 : TI := ⟨.struct [(0, 17)], 1, 8, [.pointer none]⟩
def ti211 : TI := ⟨.ptr 296, 1, 8, [.pointer none]⟩
def ti212 : TI := ⟨.iface, 1, 16, [.nilIface]⟩
def ti215 : TI := ⟨.iface, 1, 16, [.nilIface]⟩
def ti217 : TI := ⟨.iface, 1, 16, [.nilIface]⟩
def ti218 : TI := ⟨.slice 106, 1, 24, [.slice none 0 0]⟩
def ti220 : TI := ⟨.int .u64, 1, 8, [.int .u64 0]⟩
def ti221 : TI := ⟨.ptr 158, 1, 8, [.pointer none]⟩
def ti228 : TI := ⟨.ptr 249, 1, 8, [.pointer none]⟩
def ti232 : TI := ⟨.ptr 156, 1, 8, [.pointer none]⟩
def ti234 : TI := ⟨.ptr 21, 1, 8, [.pointer none]⟩
def ti236 : TI := ⟨.other, 1, 8, [.pointer none]⟩
def ti245 : TI := ⟨.arr 8 154, 8, 32, [.int .u32 0, .int .u32 0, .int .u32 0, .int .u32 0, .int .u32 0, .int .u32 0, .int .u32 0, .int .u32 0]⟩
def ti246 : TI := ⟨.arr 64 154, 64, 256, (List.replicate 64 (.int .u32 0))⟩
def ti248 : TI := ⟨.struct [(0, 245), (8, 246), (72, 22), (73, 3)], 74, 320, (List.replicate 72 (.int .u32 0) ++ ([.slice none 0 0, .int .i64 0]))⟩
def ti249 : TI := ⟨.struct [(0, 245), (8, 246), (72, 22), (73, 3)], 74, 320, (List.replicate 72 (.int .u32 0) ++ ([.slice none 0 0, .int .i64 0]))⟩
def ti251 : TI := ⟨.int .i64, 1, 8, [.int .i64 0]⟩
def ti260 : TI := ⟨.int .u64, 1, 8, [.int .u64 0]⟩
def ti264 : TI := ⟨.ptr 154, 1, 8, [.pointer none]⟩
def ti266 : TI := ⟨.int .u64, 1, 8, [.int .u64 0]⟩
def ti270 : TI := ⟨.ptr 3, 1, 8, [.pointer none]⟩
def ti272 : TI := ⟨.ptr 266, 1, 8, [.pointer none]⟩
def ti276 : TI := ⟨.struct [(0, 17), (1, 17), (2, 17), (3, 9)], 4, 40, [.pointer none, .pointer none, .pointer none, .string ⟨#[]⟩]⟩
def ti277 : TI := ⟨.struct [(0, 17), (1, 17), (2, 17), (3, 9)], 4, 40, [.pointer none, .pointer none, .pointer none, .string ⟨#[]⟩]⟩
def ti278 : TI := ⟨.arr 0 16, 0, 0, []⟩
def ti279 : TI := ⟨.struct [(0, 278)], 0, 0, []⟩
def ti280 : TI := ⟨.struct [(0, 278)], 0, 0, []⟩
def ti281 : TI := ⟨.int .u8, 1, 1, [.int .u8 0]⟩
def ti282 : TI := ⟨.int .u8, 1, 1, [.int .u8 0]⟩
def ti284 : TI := ⟨.ptr 5, 1, 8, [.pointer none]⟩
def ti285 : TI := ⟨.int .i32, 1, 4, [.int .i32 0]⟩
def ti286 : TI := ⟨.int .i32, 1, 4, [.int .i32 0]⟩
def ti287 : TI := ⟨.struct [(0, 12), (1, 12), (2, 154), (3, 281), (4, 5), (5, 5), (6, 282), (7, 283), (8, 284), (9, 285), (10, 286)], 11, 48, [.int .u64 0, .int .u64 0, .int .u32 0, .int .u8 0, .int .u8 0, .int .u8 0, .int .u8 0, .nilFunc, .pointer none, .int .i32 0, .int .i32 0]⟩
def ti288 : TI := ⟨.struct [(0, 12), (1, 12), (2, 154), (3, 281), (4, 5), (5, 5), (6, 282), (7, 283), (8, 284), (9, 285), (10, 286)], 11, 48, [.int .u64 0, .int .u64 0, .int .u32 0, .int .u8 0, .int .u8 0, .int .u8 0, .int .u8 0, .nilFunc, .pointer none, .int .i32 0, .int .i32 0]⟩
def ti295 : TI := ⟨.struct [(0, 9), (1, 282)], 2, 24, [.string ⟨#[]⟩, .int .u8 0]⟩
def ti296 : TI := ⟨.struct [(0, 9), (1, 282)], 2, 24, [.string ⟨#[]⟩, .int .u8 0]⟩
def ti297 : TI := ⟨.ptr 301, 1, 8, [.pointer none]⟩
def ti299 : TI := ⟨.int .u16, 1, 2, [.int .u16 0]⟩
def ti300 : TI := ⟨.struct [(0, 285), (1, 299), (2, 299), (3, 154), (4, 154)], 5, 16, [.int .i32 0, .int .u16 0, .int .u16 0, .int .u32 0, .int .u32 0]⟩
def ti301 : TI := ⟨.struct [(0, 285), (1, 299), (2, 299), (3, 154), (4, 154)], 5, 16, [.int .i32 0, .int .u16 0, .int .u16 0, .int .u32 0, .int .u32 0]⟩
def ti302 : TI := ⟨.slice 305, 1, 24, [.slice none 0 0]⟩
def ti303 : TI := ⟨.int .i32, 1, 4, [.int .i32 0]⟩
def ti304 : TI := ⟨.struct [(0, 285), (1, 286), (2, 303), (3, 303)], 4, 16, [.int .i32 0, .int .i32 0, .int .i32 0, .int .i32 0]⟩
def ti305 : TI := ⟨.struct [(0, 285), (1, 286), (2, 303), (3, 303)], 4, 16, [.int .i32 0, .int .i32 0, .int .i32 0, .int .i32 0]⟩
def tyL : List (Nat × TI) := [(2, ti2), (3, ti3), (4, ti4), (5, ti5), (6, ti6), (7, ti7), (8, ti8), (9, ti9), (10, ti10), (11, ti11), (12, ti12), (13, ti13), (14, ti14), (15, ti15), (16, ti16), (17, ti17), (18, ti18), (19, ti19), (20, ti20), (21, ti21), (22, ti22), (36, ti36), (37, ti37), (38, ti38), (39, ti39), (42, ti42), (43, ti43), (44, ti44), (49, ti49), (50, ti50), (51, ti51), (52, ti52), (53, ti53), (58, ti58), (59, ti59), (63, ti63), (68, ti68), (72, ti72), (78, ti78), (79, ti79), (101, ti101), (102, ti102), (103, ti103), (104, ti104), (105, ti105), (106, ti106), (110, ti110), (111, ti111), (124, ti124), (130, ti130), (131, ti131), (132, ti132), (135, ti135), (136, ti136), (137, ti137), (138, ti138), (140, ti140), (141, ti141), (142, ti142), (149, ti149), (152, ti152), (153, ti153), (154, ti154), (155, ti155), (156, ti156), (157, ti157), (158, ti158), (159, ti159), (160, ti160), (161, ti161), (162, ti162), (163, ti163), (179, ti179), (180, ti180), (184, ti184), (185, ti185), (188, ti188), (189, ti189), (191, ti191), (195, ti195), (196, ti196), (207, ti207), (209, ti209), (210, ti210), (211, ti211), (212, ti212), (215, ti215), (217, ti217), (218, ti218), (220, ti220), (221, ti221), (228, ti228), (232, ti232), (234, ti234), (236, ti236), (245, ti245), (246, ti246), (248, ti248), (249, ti249), (251, ti251), (260, ti260), (264, ti264), (266, ti266), (270, ti270), (272, ti272), (276, ti276), (277, ti277), (278, ti278), (279, ti279), (280, ti280), (281, ti281), (282, ti282), (284, ti284), (285, ti285), (286, ti286), (287, ti287), (288, ti288), (295, ti295), (296, ti296), (297, ti297), (299, ti299), (300, ti300), (301, ti301), (302, ti302), (303, ti303), (304, ti304), (305, ti305)]
def tyT (t : Nat) : Option TI := tyL.lookup t
@[go_sem] theorem ty2 : tyT 2 = some ⟨.int .i64, 1, 8, [.int .i64 0]⟩ := Eq.trans rfl rfl
@[go_sem] theorem ty3 : tyT 3 = some ⟨.int .i64, 1, 8, [.int .i64 0]⟩ := Eq.trans rfl rfl
@[go_sem] theorem ty4 : tyT 4 = some ⟨.bool, 1, 1, [.bool false]⟩ := Eq.trans rfl rfl
@[go_sem] theorem ty5 : tyT 5 = some ⟨.int .u8, 1, 1, [.int .u8 0]⟩ := Eq.trans rfl rfl
@[go_sem] theorem ty6 : tyT 6 = some ⟨.int .u8, 1, 1, [.int .u8 0]⟩ := Eq.trans rfl rfl
@[go_sem] theorem ty7 : tyT 7 = some ⟨.struct [(0, 2), (1, 3), (2, 4), (3, 6)], 4, 24, [.int .i64 0, .int .i64 0, .bool false, .int .u8 0]⟩ := Eq.trans rfl rfl
@[go_sem] theorem ty8 : tyT 8 = some ⟨.struct [(0, 2), (1, 3), (2, 4), (3, 6)], 4, 24, [.int .i64 0, .int .i64 0, .bool false, .int .u8 0]⟩ := Eq.trans rfl rfl
@[go_sem] theorem ty9 : tyT 9 = some ⟨.str, 1, 16, [.string ⟨#[]⟩]⟩ := Eq.trans rfl rfl
@[go_sem] theorem ty10 : tyT 10 = some ⟨.str, 1, 16, [.string ⟨#[]⟩]⟩ := Eq.trans rfl rfl
@[go_sem] theorem ty11 : tyT 11 = some ⟨.str, 1, 16, [.string ⟨#[]⟩]⟩ := Eq.trans rfl rfl
@[go_sem] theorem ty12 : tyT 12 = some ⟨.int .u64, 1, 8, [.int .u64 0]⟩ := Eq.trans rfl rfl
@[go_sem] theorem ty13 : tyT 13 = some ⟨.struct [(0, 9), (1, 12)], 2, 24, [.string ⟨#[]⟩, .int .u64 0]⟩ := Eq.trans rfl rfl
@[go_sem] theorem ty14 : tyT 14 = some ⟨.struct [(0, 9), (1, 12)], 2, 24, [.string ⟨#[]⟩, .int .u64 0]⟩ := Eq.trans rfl rfl
@[go_sem] theorem ty15 : tyT 15 = some ⟨.ptr 277, 1, 8, [.pointer none]⟩ := Eq.trans rfl rfl
@[go_sem] theorem ty16 : tyT 16 = some ⟨.ptr 280, 1, 8, [.pointer none]⟩ := Eq.trans rfl rfl
@[go_sem] theorem ty17 : tyT 17 = some ⟨.ptr 288, 1, 8, [.pointer none]⟩ := Eq.trans rfl rfl
@[go_sem] theorem ty18 : tyT 18 = some ⟨.struct [(0, 17)], 1, 8, [.pointer none]⟩ := Eq.trans rfl rfl
@[go_sem] theorem ty19 : tyT 19 = some ⟨.struct [(0, 17)], 1, 8, [.pointer none]⟩ := Eq.trans rfl rfl
@[go_sem] theorem ty20 : tyT 20 = some ⟨.iface, 1, 16, [.nilIface]⟩ := Eq.trans rfl rfl
@[go_sem] theorem ty21 : tyT 21 = some ⟨.int .i32, 1, 4, [.int .i32 0]⟩ := Eq.trans rfl rfl
@[go_sem] theorem ty22 : tyT 22 = some ⟨.slice 5, 1, 24, [.slice none 0 0]⟩ := Eq.trans rfl rfl
@[go_sem] theorem ty36 : tyT 36 = some ⟨.slice 22, 1, 24, [.slice none 0 0]⟩ := Eq.trans rfl rfl
@[go_sem] theorem ty37 : tyT 37 = some ⟨.slice 191, 1, 24, [.slice none 0 0]⟩ := Eq.trans rfl rfl
@[go_sem] theorem ty38 : tyT 38 = some ⟨.struct [(0, 36), (1, 37)], 2, 48, [.slice none 0 0, .slice none 0 0]⟩ := Eq.trans rfl rfl
@[go_sem] theorem ty39 : tyT 39 = some ⟨.struct [(0, 36), (1, 37)], 2, 48, [.slice none 0 0, .slice none 0 0]⟩ := Eq.trans rfl rfl
@[go_sem] theorem ty42 : tyT 42 = some ⟨.slice 180, 1, 24, [.slice none 0 0]⟩ := Eq.trans rfl rfl
@[go_sem] theorem ty43 : tyT 43 = some ⟨.struct [(0, 36), (1, 42)], 2, 48, [.slice none 0 0, .slice none 0 0]⟩ := Eq.trans rfl rfl
@[go_sem] theorem ty44 : tyT 44 = some ⟨.struct [(0, 36), (1, 42)], 2, 48, [.slice none 0 0, .slice none 0 0]⟩ := Eq.trans rfl rfl
@[go_sem] theorem ty49 : tyT 49 = some ⟨.arr 32 5, 32, 32, (List.replicate 32 (.int .u8 0))⟩ := Eq.trans rfl rfl
@[go_sem] theorem ty50 : tyT 50 = some ⟨.arr 32 5, 32, 32, (List.replicate 32 (.int .u8 0))⟩ := Eq.trans rfl rfl
@[go_sem] theorem ty51 : tyT 51 = some ⟨.slice 138, 1, 24, [.slice none 0 0]⟩ := Eq.trans rfl rfl
@[go_sem] theorem ty52 : tyT 52 = some ⟨.struct [(0, 50), (32, 50), (64, 3), (65, 51)], 66, 96, (List.replicate 32 (.int .u8 0) ++ (List.replicate 32 (.int .u8 0) ++ ([.int .i64 0, .slice none 0 0])))⟩ := Eq.trans rfl rfl
@[go_sem] theorem ty53 : tyT 53 = some ⟨.struct [(0, 50), (32, 50), (64, 3), (65, 51)], 66, 96, (List.replicate 32 (.int .u8 0) ++ (List.replicate 32 (.int .u8 0) ++ ([.int .i64 0, .slice none 0 0])))⟩ := Eq.trans rfl rfl
@[go_sem] theorem ty58 : tyT 58 = some ⟨.struct [(0, 3), (1, 3), (2, 22)], 3, 40, [.int .i64 0, .int .i64 0, .slice none 0 0]⟩ := Eq.trans rfl rfl
@[go_sem] theorem ty59 : tyT 59 = some ⟨.struct [(0, 3), (1, 3), (2, 22)], 3, 40, [.int .i64 0, .int .i64 0, .slice none 0 0]⟩ := Eq.trans rfl rfl
@[go_sem] theorem ty63 : tyT 63 = some ⟨.struct [(0, 3), (1, 3), (2, 22)], 3, 40, [.int .i64 0, .int .i64 0, .slice none 0 0]⟩ := Eq.trans rfl rfl
@[go_sem] theorem ty68 : tyT 68 = some ⟨.slice 59, 1, 24, [.slice none 0 0]⟩ := Eq.trans rfl rfl
@[go_sem] theorem ty72 : tyT 72 = some ⟨.slice 63, 1, 24, [.slice none 0 0]⟩ := Eq.trans rfl rfl
@[go_sem] theorem ty78 : tyT 78 = some ⟨.struct [(0, 3), (1, 3), (2, 3), (3, 3)], 4, 32, [.int .i64 0, .int .i64 0, .int .i64 0, .int .i64 0]⟩ := Eq.trans rfl rfl
@[go_sem] theorem ty79 : tyT 79 = some ⟨.struct [(0, 3), (1, 3), (2, 3), (3, 3)], 4, 32, [.int .i64 0, .int .i64 0, .int .i64 0, .int .i64 0]⟩ := Eq.trans rfl rfl
@[go_sem] theorem ty101 : tyT 101 = some ⟨.struct [(0, 3), (1, 3), (2, 3)], 3, 24, [.int .i64 0, .int .i64 0, .int .i64 0]⟩ := Eq.trans rfl rfl
@[go_sem] theorem ty102 : tyT 102 = some ⟨.struct [(0, 3), (1, 3), (2, 3)], 3, 24, [.int .i64 0, .int .i64 0, .int .i64 0]⟩ := Eq.trans rfl rfl
@[go_sem] theorem ty103 : tyT 103 = some ⟨.struct [(0, 102), (3, 22)], 4, 48, [.int .i64 0, .int .i64 0, .int .i64 0, .slice none 0 0]⟩ := Eq.trans rfl rfl
@[go_sem] theorem ty104 : tyT 104 = some ⟨.struct [(0, 102), (3, 22)], 4, 48, [.int .i64 0, .int .i64 0, .int .i64 0, .slice none 0 0]⟩ := Eq.trans rfl rfl
@[go_sem] theorem ty105 : tyT 105 = some ⟨.iface, 1, 16, [.nilIface]⟩ := Eq.trans rfl rfl
@[go_sem] theorem ty106 : tyT 106 = some ⟨.iface, 1, 16, [.nilIface]⟩ := Eq.trans rfl rfl
@[go_sem] theorem ty110 : tyT 110 = some ⟨.str, 1, 16, [.string ⟨#[]⟩]⟩ := Eq.trans rfl rfl
@[go_sem] theorem ty111 : tyT 111 = some ⟨.ptr 189, 1, 8, [.pointer none]⟩ := Eq.trans rfl rfl
@[go_sem] theorem ty124 : tyT 124 = some ⟨.ptr 161, 1, 8, [.pointer none]⟩ := Eq.trans rfl rfl
@[go_sem] theorem ty130 : tyT 130 = some ⟨.ptr 132, 1, 8, [.pointer none]⟩ := Eq.trans rfl rfl
@[go_sem] theorem ty131 : tyT 131 = some ⟨.struct [(0, 22), (1, 3), (2, 4)], 3, 40, [.slice none 0 0, .int .i64 0, .bool false]⟩ := Eq.trans rfl rfl
@[go_sem] theorem ty132 : tyT 132 = some ⟨.struct [(0, 22), (1, 3), (2, 4)], 3, 40, [.slice none 0 0, .int .i64 0, .bool false]⟩ := Eq.trans rfl rfl
@[go_sem] theorem ty135 : tyT 135 = some ⟨.slice 196, 1, 24, [.slice none 0 0]⟩ := Eq.trans rfl rfl
@[go_sem] theorem ty136 : tyT 136 = some ⟨.slice 3, 1, 24, [.slice none 0 0]⟩ := Eq.trans rfl rfl
@[go_sem] theorem ty137 : tyT 137 = some ⟨.struct [(0, 135), (1, 136), (2, 3)], 3, 56, [.slice none 0 0, .slice none 0 0, .int .i64 0]⟩ := Eq.trans rfl rfl
@[go_sem] theorem ty138 : tyT 138 = some ⟨.struct [(0, 135), (1, 136), (2, 3)], 3, 56, [.slice none 0 0, .slice none 0 0, .int .i64 0]⟩ := Eq.trans rfl rfl
@[go_sem] theorem ty140 : tyT 140 = some ⟨.ptr 142, 1, 8, [.pointer none]⟩ := Eq.trans rfl rfl
@[go_sem] theorem ty141 : tyT 141 = some ⟨.struct [(0, 22), (1, 4)], 2, 32, [.slice none 0 0, .bool false]⟩ := Eq.trans rfl rfl
@[go_sem] theorem ty142 : tyT 142 = some ⟨.struct [(0, 22), (1, 4)], 2, 32, [.slice none 0 0, .bool false]⟩ := Eq.trans rfl rfl
@[go_sem] theorem ty149 : tyT 149 = some ⟨.ptr 44, 1, 8, [.pointer none]⟩ := Eq.trans rfl rfl
@[go_sem] theorem ty152 : tyT 152 = some ⟨.struct [], 0, 0, []⟩ := Eq.trans rfl rfl
@[go_sem] theorem ty153 : tyT 153 = some ⟨.struct [], 0, 0, []⟩ := Eq.trans rfl rfl
@[go_sem] theorem ty154 : tyT 154 = some ⟨.int .u32, 1, 4, [.int .u32 0]⟩ := Eq.trans rfl rfl
@[go_sem] theorem ty155 : tyT 155 = some ⟨.struct [(0, 21), (1, 154)], 2, 8, [.int .i32 0, .int .u32 0]⟩ := Eq.trans rfl rfl
@[go_sem] theorem ty156 : tyT 156 = some ⟨.struct [(0, 21), (1, 154)], 2, 8, [.int .i32 0, .int .u32 0]⟩ := Eq.trans rfl rfl
@[go_sem] theorem ty157 : tyT 157 = some ⟨.struct [(0, 153), (0, 156)], 2, 8, [.int .i32 0, .int .u32 0]⟩ := Eq.trans rfl rfl
@[go_sem] theorem ty158 : tyT 158 = some ⟨.struct [(0, 153), (0, 156)], 2, 8, [.int .i32 0, .int .u32 0]⟩ := Eq.trans rfl rfl
@[go_sem] theorem ty159 : tyT 159 = some ⟨.map 3 3, 1, 8, [.map none]⟩ := Eq.trans rfl rfl
@[go_sem] theorem ty160 : tyT 160 = some ⟨.struct [(0, 158), (2, 44), (4, 159)], 5, 64, [.int .i32 0, .int .u32 0, .slice none 0 0, .slice none 0 0, .map none]⟩ := Eq.trans rfl rfl
@[go_sem] theorem ty161 : tyT 161 = some ⟨.struct [(0, 158), (2, 44), (4, 159)], 5, 64, [.int .i32 0, .int .u32 0, .slice none 0 0, .slice none 0 0, .map none]⟩ := Eq.trans rfl rfl
@[go_sem] theorem ty162 : tyT 162 = some ⟨.struct [(0, 36)], 1, 24, [.slice none 0 0]⟩ := Eq.trans rfl rfl
@[go_sem] theorem ty163 : tyT 163 = some ⟨.struct [(0, 36)], 1, 24, [.slice none 0 0]⟩ := Eq.trans rfl rfl
@[go_sem] theorem ty179 : tyT 179 = some ⟨.struct [(0, 3), (1, 22)], 2, 32, [.int .i64 0, .slice none 0 0]⟩ := Eq.trans rfl rfl
@[go_sem] theorem ty180 : tyT 180 = some ⟨.struct [(0, 3), (1, 22)], 2, 32, [.int .i64 0, .slice none 0 0]⟩ := Eq.trans rfl rfl
@[go_sem] theorem ty184 : tyT 184 = some ⟨.iface, 1, 16, [.nilIface]⟩ := Eq.trans rfl rfl
@[go_sem] theorem ty185 : tyT 185 = some ⟨.iface, 1, 16, [.nilIface]⟩ := Eq.trans rfl rfl
@[go_sem] theorem ty188 : tyT 188 = some ⟨.struct [(0, 22), (1, 3)], 2, 32, [.slice none 0 0, .int .i64 0]⟩ := Eq.trans rfl rfl
@[go_sem] theorem ty189 : tyT 189 = some ⟨.struct [(0, 22), (1, 3)], 2, 32, [.slice none 0 0, .int .i64 0]⟩ := Eq.trans rfl rfl
@[go_sem] theorem ty191 : tyT 191 = some ⟨.struct [(0, 3), (1, 22)], 2, 32, [.int .i64 0, .slice none 0 0]⟩ := Eq.trans rfl rfl
@[go_sem] theorem ty195 : tyT 195 = some ⟨.struct [(0, 50), (32, 3)], 33, 40, (List.replicate 32 (.int .u8 0) ++ ([.int .i64 0]))⟩ := Eq.trans rfl rfl
@[go_sem] theorem ty196 : tyT 196 = some ⟨.struct [(0, 50), (32, 3)], 33, 40, (List.replicate 32 (.int .u8 0) ++ ([.int .i64 0]))⟩ := Eq.trans rfl rfl
@[go_sem] theorem ty207 : tyT 207 = some ⟨.map 3 36, 1, 8, [.map none]⟩ := Eq.trans rfl rfl
@[go_sem] theorem ty209 : tyT 209 = some ⟨.struct [(0, 17)], 1, 8, [.pointer none]⟩ := Eq.trans rfl rfl
@[go_sem] theorem ty210 : tyT 210 = some ⟨.struct [(0, 17)], 1, 8, [.pointer none]⟩ := Eq.trans rfl rfl
@[go_sem] theorem ty211 : tyT 211 = some ⟨.ptr 296, 1, 8, [.pointer none]⟩ := Eq.trans rfl rfl
@[go_sem] theorem ty212 : tyT 212 = some ⟨.iface, 1, 16, [.nilIface]⟩ := Eq.trans rfl rfl
@[go_sem] theorem ty215 : tyT 215 = some ⟨.iface, 1, 16, [.nilIface]⟩ := Eq.trans rfl rfl
@[go_sem] theorem ty217 : tyT 217 = some ⟨.iface, 1, 16, [.nilIface]⟩ := Eq.trans rfl rfl
@[go_sem] theorem ty218 : tyT 218 = some ⟨.slice 106, 1, 24, [.slice none 0 0]⟩ := Eq.trans rfl rfl
@[go_sem] theorem ty220 : tyT 220 = some ⟨.int .u64, 1, 8, [.int .u64 0]⟩ := Eq.trans rfl rfl
@[go_sem] theorem ty221 : tyT 221 = some ⟨.ptr 158, 1, 8, [.pointer none]⟩ := Eq.trans rfl rfl
@[go_sem] theorem ty228 : tyT 228 = some ⟨.ptr 249, 1, 8, [.pointer none]⟩ := Eq.trans rfl rfl
@[go_sem] theorem ty232 : tyT 232 = some ⟨.ptr 156, 1, 8, [.pointer none]⟩ := Eq.trans rfl rfl
@[go_sem] theorem ty234 : tyT 234 = some ⟨.ptr 21, 1, 8, [.pointer none]⟩ := Eq.trans rfl rfl
@[go_sem] theorem ty236 : tyT 236 = some ⟨.other, 1, 8, [.pointer none]⟩ := Eq.trans rfl rfl
@[go_sem] theorem ty245 : tyT 245 = some ⟨.arr 8 154, 8, 32, [.int .u32 0, .int .u32 0, .int .u32 0, .int .u32 0, .int .u32 0, .int .u32 0, .int .u32 0, .int .u32 0]⟩ := Eq.trans rfl rfl
@[go_sem] theorem ty246 : tyT 246 = some ⟨.arr 64 154, 64, 256, (List.replicate 64 (.int .u32 0))⟩ := Eq.trans rfl rfl
@[go_sem] theorem ty248 : tyT 248 = some ⟨.struct [(0, 245), (8, 246), (72, 22), (73, 3)], 74, 320, (List.replicate 72 (.int .u32 0) ++ ([.slice none 0 0, .int .i64 0]))⟩ := Eq.trans rfl rfl
@[go_sem] theorem ty249 : tyT 249 = some ⟨.struct [(0, 245), (8, 246), (72, 22), (73, 3)], 74, 320, (List.replicate 72 (.int .u32 0) ++ ([.slice none 0 0, .int .i64 0]))⟩ := Eq.trans rfl rfl
@[go_sem] theorem ty251 : tyT 251 = some ⟨.int .i64, 1, 8, [.int .i64 0]⟩ := Eq.trans rfl rfl
@[go_sem] theorem ty260 : tyT 260 = some ⟨.int .u64, 1, 8, [.int .u64 0]⟩ := Eq.trans rfl rfl
@[go_sem] theorem ty264 : tyT 264 = some ⟨.ptr 154, 1, 8, [.pointer none]⟩ := Eq.trans rfl rfl
@[go_sem] theorem ty266 : tyT 266 = some ⟨.int .u64, 1, 8, [.int .u64 0]⟩ := Eq.trans rfl rfl
@[go_sem] theorem ty270 : tyT 270 = some ⟨.ptr 3, 1, 8, [.pointer none]⟩ := Eq.trans rfl rfl
@[go_sem] theorem ty272 : tyT 272 = some ⟨.ptr 266, 1, 8, [.pointer none]⟩ := Eq.trans rfl rfl
@[go_sem] theorem ty276 : tyT 276 = some ⟨.struct [(0, 17), (1, 17), (2, 17), (3, 9)], 4, 40, [.pointer none, .pointer none, .pointer none, .string ⟨#[]⟩]⟩ := Eq.trans rfl rfl
@[go_sem] theorem ty277 : tyT 277 = some ⟨.struct [(0, 17), (1, 17), (2, 17), (3, 9)], 4, 40, [.pointer none, .pointer none, .pointer none, .string ⟨#[]⟩]⟩ := Eq.trans rfl rfl
@[go_sem] theorem ty278 : tyT 278 = some ⟨.arr 0 16, 0, 0, []⟩ := Eq.trans rfl rfl
@[go_sem] theorem ty279 : tyT 279 = some ⟨.struct [(0, 278)], 0, 0, []⟩ := Eq.trans rfl rfl
@[go_sem] theorem ty280 : tyT 280 = some ⟨.struct [(0, 278)], 0, 0, []⟩ := Eq.trans rfl rfl
@[go_sem] theorem ty281 : tyT 281 = some ⟨.int .u8, 1, 1, [.int .u8 0]⟩ := Eq.trans rfl rfl
@[go_sem] theorem ty282 : tyT 282 = some ⟨.int .u8, 1, 1, [.int .u8 0]⟩ := Eq.trans rfl rfl
@[go_sem] theorem ty284 : tyT 284 = some ⟨.ptr 5, 1, 8, [.pointer none]⟩ := Eq.trans rfl rfl
@[go_sem] theorem ty285 : tyT 285 = some ⟨.int .i32, 1, 4, [.int .i32 0]⟩ := Eq.trans rfl rfl
@[go_sem] theorem ty286 : tyT 286 = some ⟨.int .i32, 1, 4, [.int .i32 0]⟩ := Eq.trans rfl rfl
@[go_sem] theorem ty287 : tyT 287 = some ⟨.struct [(0, 12), (1, 12), (2, 154), (3, 281), (4, 5), (5, 5), (6, 282), (7, 283), (8, 284), (9, 285), (10, 286)], 11, 48, [.int .u64 0, .int .u64 0, .int .u32 0, .int .u8 0, .int .u8 0, .int .u8 0, .int .u8 0, .nilFunc, .pointer none, .int .i32 0, .int .i32 0]⟩ := Eq.trans rfl rfl
@[go_sem] theorem ty288 : tyT 288 = some ⟨.struct [(0, 12), (1, 12), (2, 154), (3, 281), (4, 5), (5, 5), (6, 282), (7, 283), (8, 284), (9, 285), (10, 286)], 11, 48, [.int .u64 0, .int .u64 0, .int .u32 0, .int .u8 0, .int .u8 0, .int .u8 0, .int .u8 0, .nilFunc, .pointer none, .int .i32 0, .int .i32 0]⟩ := Eq.trans rfl rfl
@[go_sem] theorem ty295 : tyT 295 = some ⟨.struct [(0, 9), (1, 282)], 2, 24, [.string ⟨#[]⟩, .int .u8 0]⟩ := Eq.trans rfl rfl
@[go_sem] theorem ty296 : tyT 296 = some ⟨.struct [(0, 9), (1, 282)], 2, 24, [.string ⟨#[]⟩, .int .u8 0]⟩ := Eq.trans rfl rfl
@[go_sem] theorem ty297 : tyT 297 = some ⟨.ptr 301, 1, 8, [.pointer none]⟩ := Eq.trans rfl rfl
@[go_sem] theorem ty299 : tyT 299 = some ⟨.int .u16, 1, 2, [.int .u16 0]⟩ := Eq.trans rfl rfl
@[go_sem] theorem ty300 : tyT 300 = some ⟨.struct [(0, 285), (1, 299), (2, 299), (3, 154), (4, 154)], 5, 16, [.int .i32 0, .int .u16 0, .int .u16 0, .int .u32 0, .int .u32 0]⟩ := Eq.trans rfl rfl
@[go_sem] theorem ty301 : tyT 301 = some ⟨.struct [(0, 285), (1, 299), (2, 299), (3, 154), (4, 154)], 5, 16, [.int .i32 0, .int .u16 0, .int .u16 0, .int .u32 0, .int .u32 0]⟩ := Eq.trans rfl rfl
@[go_sem] theorem ty302 : tyT 302 = some ⟨.slice 305, 1, 24, [.slice none 0 0]⟩ := Eq.trans rfl rfl
@[go_sem] theorem ty303 : tyT 303 = some ⟨.int .i32, 1, 4, [.int .i32 0]⟩ := Eq.trans rfl rfl
@[go_sem] theorem ty304 : tyT 304 = some ⟨.struct [(0, 285), (1, 286), (2, 303), (3, 303)], 4, 16, [.int .i32 0, .int .i32 0, .int .i32 0, .int .i32 0]⟩ := Eq.trans rfl rfl
@[go_sem] theorem ty305 : tyT 305 = some ⟨.struct [(0, 285), (1, 286), (2, 303), (3, 303)], 4, 16, [.int .i32 0, .int .i32 0, .int .i32 0, .int .i32 0]⟩ := Eq.trans rfl rfl
theorem ok2 : TI.Ok Try.prog 2 ti2 := ⟨by kernel_rfl, by kernel_rfl⟩
theorem ok3 : TI.Ok Try.prog 3 ti3 := ⟨by kernel_rfl, by kernel_rfl⟩
theorem ok4 : TI.Ok Try.prog 4 ti4 := ⟨by kernel_rfl, by kernel_rfl⟩
theorem ok5 : TI.Ok Try.prog 5 ti5 := ⟨by kernel_rfl, by kernel_rfl⟩
theorem ok6 : TI.Ok Try.prog 6 ti6 := ⟨by kernel_rfl, by kernel_rfl⟩
theorem ok7 : TI.Ok Try.prog 7 ti7 := ⟨by kernel_rfl, by kernel_rfl⟩
theorem ok8 : TI.Ok Try.prog 8 ti8 := ⟨by kernel_rfl, by kernel_rfl⟩
theorem ok9 : TI.Ok Try.prog 9 ti9 := ⟨by kernel_rfl, by kernel_rfl⟩
theorem ok10 : TI.Ok Try.prog 10 ti10 := ⟨by kernel_rfl, by kernel_rfl⟩
theorem ok11 : TI.Ok Try.prog 11 ti11 := ⟨by kernel_rfl, by kernel_rfl⟩
theorem ok12 : TI.Ok Try.prog 12 ti12 := ⟨by kernel_rfl, by kernel_rfl⟩
theorem ok13 : TI.Ok Try.prog 13 ti13 := ⟨by kernel_rfl, by kernel_rfl⟩
theorem ok14 : TI.Ok Try.prog 14 ti14 := ⟨by kernel_rfl, by kernel_rfl⟩
theorem ok15 : TI.Ok Try.prog 15 ti15 := ⟨by kernel_rfl, by kernel_rfl⟩
theorem ok16 : TI.Ok Try.prog 16 ti16 := ⟨by kernel_rfl, by kernel_rfl⟩
theorem ok17 : TI.Ok Try.prog 17 ti17 := ⟨by kernel_rfl, by kernel_rfl⟩
theorem ok18 : TI.Ok Try.prog 18 ti18 := ⟨by kernel_rfl, by kernel_rfl⟩
theorem ok19 : TI.Ok Try.prog 19 ti19 := ⟨by kernel_rfl, by kernel_rfl⟩
theorem ok20 : TI.Ok Try.prog 20 ti20 := ⟨by kernel_rfl, by kernel_rfl⟩
theorem ok21 : TI.Ok Try.prog 21 ti21 := ⟨by kernel_rfl, by kernel_rfl⟩
theorem ok22 : TI.Ok Try.prog 22 ti22 := ⟨by kernel_rfl, by kernel_rfl⟩
theorem ok36 : TI.Ok Try.prog 36 ti36 := ⟨by kernel_rfl, by kernel_rfl⟩
theorem ok37 : TI.Ok Try.prog 37 ti37 := ⟨by kernel_rfl, by kernel_rfl⟩
theorem ok38 : TI.Ok Try.prog 38 ti38 := ⟨by kernel_rfl, by kernel_rfl⟩
theorem ok39 : TI.Ok Try.prog 39 ti39 := ⟨by kernel_rfl, by kernel_rfl⟩
theorem ok42 : TI.Ok Try.prog 42 ti42 := ⟨by kernel_rfl, by kernel_rfl⟩
theorem ok43 : TI.Ok Try.prog 43 ti43 := ⟨by kernel_rfl, by kernel_rfl⟩
theorem ok44 : TI.Ok Try.prog 44 ti44 := ⟨by kernel_rfl, by kernel_rfl⟩
theorem ok49 : TI.Ok Try.prog 49 ti49 := ⟨by kernel_rfl, by kernel_rfl⟩
theorem ok50 : TI.Ok Try.prog 50 ti50 := ⟨by kernel_rfl, by kernel_rfl⟩
theorem ok51 : TI.Ok Try.prog 51 ti51 := ⟨by kernel_rfl, by kernel_rfl⟩
theorem ok52 : TI.Ok Try.prog 52 ti52 := ⟨by kernel_rfl, by kernel_rfl⟩
theorem ok53 : TI.Ok Try.prog 53 ti53 := ⟨by kernel_rfl, by kernel_rfl⟩
theorem ok58 : TI.Ok Try.prog 58 ti58 := ⟨by kernel_rfl, by kernel_rfl⟩
theorem ok59 : TI.Ok Try.prog 59 ti59 := ⟨by kernel_rfl, by kernel_rfl⟩
theorem ok63 : TI.Ok Try.prog 63 ti63 := ⟨by kernel_rfl, by kernel_rfl⟩
theorem ok68 : TI.Ok Try.prog 68 ti68 := ⟨by kernel_rfl, by kernel_rfl⟩
theorem ok72 : TI.Ok Try.prog 72 ti72 := ⟨by kernel_rfl, by kernel_rfl⟩
theorem ok78 : TI.Ok Try.prog 78 ti78 := ⟨by kernel_rfl, by kernel_rfl⟩
theorem ok79 : TI.Ok Try.prog 79 ti79 := ⟨by kernel_rfl, by kernel_rfl⟩
theorem ok101 : TI.Ok Try.prog 101 ti101 := ⟨by kernel_rfl, by kernel_rfl⟩
theorem ok102 : TI.Ok Try.prog 102 ti102 := ⟨by kernel_rfl, by kernel_rfl⟩
theorem ok103 : TI.Ok Try.prog 103 ti103 := ⟨by kernel_rfl, by kernel_rfl⟩
theorem ok104 : TI.Ok Try.prog 104 ti104 := ⟨by kernel_rfl, by kernel_rfl⟩
theorem ok105 : TI.Ok Try.prog 105 ti105 := ⟨by kernel_rfl, by kernel_rfl⟩
theorem ok106 : TI.Ok Try.prog 106 ti106 := ⟨by kernel_rfl, by kernel_rfl⟩
theorem ok110 : TI.Ok Try.prog 110 ti110 := ⟨by kernel_rfl, by kernel_rfl⟩
theorem ok111 : TI.Ok Try.prog 111 ti111 := ⟨by kernel_rfl, by kernel_rfl⟩
theorem ok124 : TI.Ok Try.prog 124 ti124 := ⟨by kernel_rfl, by kernel_rfl⟩
theorem ok130 : TI.Ok Try.prog 130 ti130 := ⟨by kernel_rfl, by kernel_rfl⟩
theorem ok131 : TI.Ok Try.prog 131 ti131 := ⟨by kernel_rfl, by kernel_rfl⟩
theorem ok132 : TI.Ok Try.prog 132 ti132 := ⟨by kernel_rfl, by kernel_rfl⟩
theorem ok135 : TI.Ok Try.prog 135 ti135 := ⟨by kernel_rfl, by kernel_rfl⟩
theorem ok136 : TI.Ok Try.prog 136 ti136 := ⟨by kernel_rfl, by kernel_rfl⟩
theorem ok137 : TI.Ok Try.prog 137 ti137 := ⟨by kernel_rfl, by kernel_rfl⟩
theorem ok138 : TI.Ok Try.prog 138 ti138 := ⟨by kernel_rfl, by kernel_rfl⟩
theorem ok140 : TI.Ok Try.prog 140 ti140 := ⟨by kernel_rfl, by kernel_rfl⟩
theorem ok141 : TI.Ok Try.prog 141 ti141 := ⟨by kernel_rfl, by kernel_rfl⟩
theorem ok142 : TI.Ok Try.prog 142 ti142 := ⟨by kernel_rfl, by kernel_rfl⟩
theorem ok149 : TI.Ok Try.prog 149 ti149 := ⟨by kernel_rfl, by kernel_rfl⟩
theorem ok152 : TI.Ok Try.prog 152 ti152 := ⟨by kernel_rfl, by kernel_rfl⟩
theorem ok153 : TI.Ok Try.prog 153 ti153 := ⟨by kernel_rfl, by kernel_rfl⟩
theorem ok154 : TI.Ok Try.prog 154 ti154 := ⟨by kernel_rfl, by kernel_rfl⟩
theorem ok155 : TI.Ok Try.prog 155 ti155 := ⟨by kernel_rfl, by kernel_rfl⟩
theorem ok156 : TI.Ok Try.prog 156 ti156 := ⟨by kernel_rfl, by kernel_rfl⟩
theorem ok157 : TI.Ok Try.prog 157 ti157 := ⟨by kernel_rfl, by kernel_rfl⟩
theorem ok158 : TI.Ok Try.prog 158 ti158 := ⟨by kernel_rfl, by kernel_rfl⟩
theorem ok159 : TI.Ok Try.prog 159 ti159 := ⟨by kernel_rfl, by kernel_rfl⟩
theorem ok160 : TI.Ok Try.prog 160 ti160 := ⟨by kernel_rfl, by kernel_rfl⟩
theorem ok161 : TI.Ok Try.prog 161 ti161 := ⟨by kernel_rfl, by kernel_rfl⟩
theorem ok162 : TI.Ok Try.prog 162 ti162 := ⟨by kernel_rfl, by kernel_rfl⟩
theorem ok163 : TI.Ok Try.prog 163 ti163 := ⟨by kernel_rfl, by kernel_rfl⟩
theorem ok179 : TI.Ok Try.prog 179 ti179 := ⟨by kernel_rfl, by kernel_rfl⟩
theorem ok180 : TI.Ok Try.prog 180 ti180 := ⟨by kernel_rfl, by kernel_rfl⟩
theorem ok184 : TI.Ok Try.prog 184 ti184 := ⟨by kernel_rfl, by kernel_rfl⟩
theorem ok185 : TI.Ok Try.prog 185 ti185 := ⟨by kernel_rfl, by kernel_rfl⟩
theorem ok188 : TI.Ok Try.prog 188 ti188 := ⟨by kernel_rfl, by kernel_rfl⟩
theorem ok189 : TI.Ok Try.prog 189 ti189 := ⟨by kernel_rfl, by kernel_rfl⟩
theorem ok191 : TI.Ok Try.prog 191 ti191 := ⟨by kernel_rfl, by kernel_rfl⟩
theorem ok195 : TI.Ok Try.prog 195 ti195 := ⟨by kernel_rfl, by kernel_rfl⟩
theorem ok196 : TI.Ok Try.prog 196 ti196 := ⟨by kernel_rfl, by kernel_rfl⟩
theorem ok207 : TI.Ok Try.prog 207 ti207 := ⟨by kernel_rfl, by kernel_rfl⟩
theorem ok209 : TI.Ok Try.prog 209 ti209 := ⟨by kernel_rfl, by kernel_rfl⟩
theorem ok210 : TI.Ok Try.prog 210 ti210 := ⟨by kernel_rfl, by kernel_rfl⟩
theorem ok211 : TI.Ok Try.prog 211 ti211 := ⟨by kernel_rfl, by kernel_rfl⟩
theorem ok212 : TI.Ok Try.prog 212 ti212 := ⟨by kernel_rfl, by kernel_rfl⟩
theorem ok215 : TI.Ok Try.prog 215 ti215 := ⟨by kernel_rfl, by kernel_rfl⟩
theorem ok217 : TI.Ok Try.prog 217 ti217 := ⟨by kernel_rfl, by kernel_rfl⟩
theorem ok218 : TI.Ok Try.prog 218 ti218 := ⟨by kernel_rfl, by kernel_rfl⟩
theorem ok220 : TI.Ok Try.prog 220 ti220 := ⟨by kernel_rfl, by kernel_rfl⟩
theorem ok221 : TI.Ok Try.prog 221 ti221 := ⟨by kernel_rfl, by kernel_rfl⟩
theorem ok228 : TI.Ok Try.prog 228 ti228 := ⟨by kernel_rfl, by kernel_rfl⟩
theorem ok232 : TI.Ok Try.prog 232 ti232 := ⟨by kernel_rfl, by kernel_rfl⟩
theorem ok234 : TI.Ok Try.prog 234 ti234 := ⟨by kernel_rfl, by kernel_rfl⟩
theorem ok236 : TI.Ok Try.prog 236 ti236 := ⟨by kernel_rfl, by kernel_rfl⟩
theorem ok245 : TI.Ok Try.prog 245 ti245 := ⟨by kernel_rfl, by kernel_rfl⟩
theorem ok246 : TI.Ok Try.prog 246 ti246 := ⟨by kernel_rfl, by kernel_rfl⟩
theorem ok248 : TI.Ok Try.prog 248 ti248 := ⟨by kernel_rfl, by kernel_rfl⟩
theorem ok249 : TI.Ok Try.prog 249 ti249 := ⟨by kernel_rfl, by kernel_rfl⟩
theorem ok251 : TI.Ok Try.prog 251 ti251 := ⟨by kernel_rfl, by kernel_rfl⟩
theorem ok260 : TI.Ok Try.prog 260 ti260 := ⟨by kernel_rfl, by kernel_rfl⟩
theorem ok264 : TI.Ok Try.prog 264 ti264 := ⟨by kernel_rfl, by kernel_rfl⟩
theorem ok266 : TI.Ok Try.prog 266 ti266 := ⟨by kernel_rfl, by kernel_rfl⟩
theorem ok270 : TI.Ok Try.prog 270 ti270 := ⟨by kernel_rfl, by kernel_rfl⟩
theorem ok272 : TI.Ok Try.prog 272 ti272 := ⟨by kernel_rfl, by kernel_rfl⟩
theorem ok276 : TI.Ok Try.prog 276 ti276 := ⟨by kernel_rfl, by kernel_rfl⟩
theorem ok277 : TI.Ok Try.prog 277 ti277 := ⟨by kernel_rfl, by kernel_rfl⟩
theorem ok278 : TI.Ok Try.prog 278 ti278 := ⟨by kernel_rfl, by kernel_rfl⟩
theorem ok279 : TI.Ok Try.prog 279 ti279 := ⟨by kernel_rfl, by kernel_rfl⟩
theorem ok280 : TI.Ok Try.prog 280 ti280 := ⟨by kernel_rfl, by kernel_rfl⟩
theorem ok281 : TI.Ok Try.prog 281 ti281 := ⟨by kernel_rfl, by kernel_rfl⟩
theorem ok282 : TI.Ok Try.prog 282 ti282 := ⟨by kernel_rfl, by kernel_rfl⟩
theorem ok284 : TI.Ok Try.prog 284 ti284 := ⟨by kernel_rfl, by kernel_rfl⟩
theorem ok285 : TI.Ok Try.prog 285 ti285 := ⟨by kernel_rfl, by kernel_rfl⟩
theorem ok286 : TI.Ok Try.prog 286 ti286 := ⟨by kernel_rfl, by kernel_rfl⟩
theorem ok287 : TI.Ok Try.prog 287 ti287 := ⟨by kernel_rfl, by kernel_rfl⟩
theorem ok288 : TI.Ok Try.prog 288 ti288 := ⟨by kernel_rfl, by kernel_rfl⟩
theorem ok295 : TI.Ok Try.prog 295 ti295 := ⟨by kernel_rfl, by kernel_rfl⟩
theorem ok296 : TI.Ok Try.prog 296 ti296 := ⟨by kernel_rfl, by kernel_rfl⟩
theorem ok297 : TI.Ok Try.prog 297 ti297 := ⟨by kernel_rfl, by kernel_rfl⟩
theorem ok299 : TI.Ok Try.prog 299 ti299 := ⟨by kernel_rfl, by kernel_rfl⟩
theorem ok300 : TI.Ok Try.prog 300 ti300 := ⟨by kernel_rfl, by kernel_rfl⟩
theorem ok301 : TI.Ok Try.prog 301 ti301 := ⟨by kernel_rfl, by kernel_rfl⟩
theorem ok302 : TI.Ok Try.prog 302 ti302 := ⟨by kernel_rfl, by kernel_rfl⟩
theorem ok303 : TI.Ok Try.prog 303 ti303 := ⟨by kernel_rfl, by kernel_rfl⟩
theorem ok304 : TI.Ok Try.prog 304 ti304 := ⟨by kernel_rfl, by kernel_rfl⟩
theorem ok305 : TI.Ok Try.prog 305 ti305 := ⟨by kernel_rfl, by kernel_rfl⟩
theorem tyOk : TOk Try.prog tyT := tok_of tyL Try.prog (.cons ok2 (.cons ok3 (.cons ok4 (.cons ok5 (.cons ok6 (.cons ok7 (.cons ok8 (.cons ok9 (.cons ok10 (.cons ok11 (.cons ok12 (.cons ok13 (.cons ok14 (.cons ok15 (.cons ok16 (.cons ok17 (.cons ok18 (.cons ok19 (.cons ok20 (.cons ok21 (.cons ok22 (.cons ok36 (.cons ok37 (.cons ok38 (.cons ok39 (.cons ok42 (.cons ok43 (.cons ok44 (.cons ok49 (.cons ok50 (.cons ok51 (.cons ok52 (.cons ok53 (.cons ok58 (.cons ok59 (.cons ok63 (.cons ok68 (.cons ok72 (.cons ok78 (.cons ok79 (.cons ok101 (.cons ok102 (.cons ok103 (.cons ok104 (.cons ok105 (.cons ok106 (.cons ok110 (.cons ok111 (.cons ok124 (.cons ok130 (.cons ok131 (.cons ok132 (.cons ok135 (.cons ok136 (.cons ok137 (.cons ok138 (.cons ok140 (.cons ok141 (.cons ok142 (.cons ok149 (.cons ok152 (.cons ok153 (.cons ok154 (.cons ok155 (.cons ok156 (.cons ok157 (.cons ok158 (.cons ok159 (.cons ok160 (.cons ok161 (.cons ok162 (.cons ok163 (.cons ok179 (.cons ok180 (.cons ok184 (.cons ok185 (.cons ok188 (.cons ok189 (.cons ok191 (.cons ok195 (.cons ok196 (.cons ok207 (.cons ok209 (.cons ok210 (.cons ok211 (.cons ok212 (.cons ok215 (.cons ok217 (.cons ok218 (.cons ok220 (.cons ok221 (.cons ok228 (.cons ok232 (.cons ok234 (.cons ok236 (.cons ok245 (.cons ok246 (.cons ok248 (.cons ok249 (.cons ok251 (.cons ok260 (.cons ok264 (.cons ok266 (.cons ok270 (.cons ok272 (.cons ok276 (.cons ok277 (.cons ok278 (.cons ok279 (.cons ok280 (.cons ok281 (.cons ok282 (.cons ok284 (.cons ok285 (.cons ok286 (.cons ok287 (.cons ok288 (.cons ok295 (.cons ok296 (.cons ok297 (.cons ok299 (.cons ok300 (.cons ok301 (.cons ok302 (.cons ok303 (.cons ok304 (.cons ok305 (.nil))))))))))))))))))))))))))))))))))))))))))))))))))))))))))))))))))))))))))))))))))))))))))))))))))))))))))))))))))))))))))))))))
theorem mixed : Try.prog.follows .mixedOrders = true := by kernel_rfl
end Go.Proofs.Ytnancifnodbkdaa
