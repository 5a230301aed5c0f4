/- The types of the seat, as a table. -/
import Derived.Test.YtfmbifnbmlhhjaaProg
import Derived.Test.YtfmbifnbmlhhjaaUc
namespace Go.Proofs.Ytfmbifnbmlhhjaa
open Go Go.Vcg Go.Proofs
set_option maxRecDepth 100000
def ti2 : TI := ⟨.int .i64, 1, 8, [.int .i64 0]⟩
def ti3 : TI := ⟨.int .i64, 1, 8, [.int .i64 0]⟩
def ti4 : TI := ⟨.bool, 1, 1, [.bool false]⟩
def ti5 : TI := ⟨.int .u8, 1, 1, [.int .u8 0]⟩
def ti6 : TI := ⟨.int .u8, 1, 1, [.int .u8 0]⟩
def ti7 : TI := ⟨.struct [(0, 2), (1, 3), (2, 4), (3, 6)], 4, 24, [.int .i64 0, .int .i64 0, .bool false, .int .u8 0]⟩
def ti8 : TI := ⟨.struct [(0, 2), (1, 3), (2, 4), (3, 6)], 4, 24, [.int .i64 0, .int .i64 0, .bool false, .int .u8 0]⟩
def ti9 : TI := ⟨.str, 1, 16, [.string ⟨#[]⟩]⟩
def ti10 : TI := ⟨.str, 1, 16, [.string ⟨#[]⟩]⟩
def ti11 : TI := ⟨.str, 1, 16, [.string ⟨#[]⟩]⟩
def ti12 : TI := ⟨.int .u64, 1, 8, [.int .u64 0]⟩
def ti13 : TI := ⟨.struct [(0, 9), (1, 12)], 2, 24, [.string ⟨#[]⟩, .int .u64 0]⟩
def ti14 : TI := ⟨.struct [(0, 9), (1, 12)], 2, 24, [.string ⟨#[]⟩, .int .u64 0]⟩
def ti15 : TI := ⟨.ptr 313, 1, 8, [.pointer none]⟩
def ti16 : TI := ⟨.ptr 316, 1, 8, [.pointer none]⟩
def ti17 : TI := ⟨.ptr 324, 1, 8, [.pointer none]⟩
def ti18 : TI := ⟨.struct [(0, 17)], 1, 8, [.pointer none]⟩
def ti19 : TI := ⟨.struct [(0, 17)], 1, 8, [.pointer none]⟩
def ti20 : TI := ⟨.iface, 1, 16, [.nilIface]⟩
def ti21 : TI := ⟨.int .i32, 1, 4, [.int .i32 0]⟩
def ti22 : TI := ⟨.slice 5, 1, 24, [.slice none 0 0]⟩
def ti32 : TI := ⟨.slice 22, 1, 24, [.slice none 0 0]⟩
def ti33 : TI := ⟨.slice 193, 1, 24, [.slice none 0 0]⟩
def ti34 : TI := ⟨.struct [(0, 32), (1, 33)], 2, 48, [.slice none 0 0, .slice none 0 0]⟩
def ti35 : TI := ⟨.struct [(0, 32), (1, 33)], 2, 48, [.slice none 0 0, .slice none 0 0]⟩
def ti41 : TI := ⟨.slice 208, 1, 24, [.slice none 0 0]⟩
def ti42 : TI := ⟨.struct [(0, 32), (1, 41)], 2, 48, [.slice none 0 0, .slice none 0 0]⟩
def ti43 : TI := ⟨.struct [(0, 32), (1, 41)], 2, 48, [.slice none 0 0, .slice none 0 0]⟩
def ti50 : TI := ⟨.struct [(0, 3), (1, 3), (2, 3), (3, 3)], 4, 32, [.int .i64 0, .int .i64 0, .int .i64 0, .int .i64 0]⟩
def ti51 : TI := ⟨.struct [(0, 3), (1, 3), (2, 3), (3, 3)], 4, 32, [.int .i64 0, .int .i64 0, .int .i64 0, .int .i64 0]⟩
def ti56 : TI := ⟨.arr 32 5, 32, 32, (List.replicate 32 (.int .u8 0))⟩
def ti57 : TI := ⟨.arr 32 5, 32, 32, (List.replicate 32 (.int .u8 0))⟩
def ti58 : TI := ⟨.slice 150, 1, 24, [.slice none 0 0]⟩
def ti59 : TI := ⟨.struct [(0, 57), (32, 57), (64, 3), (65, 58)], 66, 96, (List.replicate 32 (.int .u8 0) ++ (List.replicate 32 (.int .u8 0) ++ ([.int .i64 0, .slice none 0 0])))⟩
def ti60 : TI := ⟨.struct [(0, 57), (32, 57), (64, 3), (65, 58)], 66, 96, (List.replicate 32 (.int .u8 0) ++ (List.replicate 32 (.int .u8 0) ++ ([.int .i64 0, .slice none 0 0])))⟩
def ti68 : TI := ⟨.struct [(0, 3), (1, 3), (2, 3), (3, 3)], 4, 32, [.int .i64 0, .int .i64 0, .int .i64 0, .int .i64 0]⟩
def ti69 : TI := ⟨.slice 3, 1, 24, [.slice none 0 0]⟩
def ti78 : TI := ⟨.slice 91, 1, 24, [.slice none 0 0]⟩
def ti83 : TI := ⟨.slice 189, 1, 24, [.slice none 0 0]⟩
def ti90 : TI := ⟨.struct [(0, 3), (1, 3), (2, 22)], 3, 40, [.int .i64 0, .int .i64 0, .slice none 0 0]⟩
def ti91 : TI := ⟨.struct [(0, 3), (1, 3), (2, 22)], 3, 40, [.int .i64 0, .int .i64 0, .slice none 0 0]⟩
def ti99 : TI := ⟨.ptr 201, 1, 8, [.pointer none]⟩
def ti106 : TI := ⟨.struct [(0, 3), (1, 3), (2, 3)], 3, 24, [.int .i64 0, .int .i64 0, .int .i64 0]⟩
def ti107 : TI := ⟨.struct [(0, 3), (1, 3), (2, 3)], 3, 24, [.int .i64 0, .int .i64 0, .int .i64 0]⟩
def ti108 : TI := ⟨.struct [(0, 107), (3, 22)], 4, 48, [.int .i64 0, .int .i64 0, .int .i64 0, .slice none 0 0]⟩
def ti109 : TI := ⟨.struct [(0, 107), (3, 22)], 4, 48, [.int .i64 0, .int .i64 0, .int .i64 0, .slice none 0 0]⟩
def ti112 : TI := ⟨.iface, 1, 16, [.nilIface]⟩
def ti113 : TI := ⟨.iface, 1, 16, [.nilIface]⟩
def ti117 : TI := ⟨.str, 1, 16, [.string ⟨#[]⟩]⟩
def ti118 : TI := ⟨.ptr 130, 1, 8, [.pointer none]⟩
def ti121 : TI := ⟨.struct [], 0, 0, []⟩
def ti122 : TI := ⟨.struct [], 0, 0, []⟩
def ti123 : TI := ⟨.int .u32, 1, 4, [.int .u32 0]⟩
def ti124 : TI := ⟨.struct [(0, 21), (1, 123)], 2, 8, [.int .i32 0, .int .u32 0]⟩
def ti125 : TI := ⟨.struct [(0, 21), (1, 123)], 2, 8, [.int .i32 0, .int .u32 0]⟩
def ti126 : TI := ⟨.struct [(0, 122), (0, 125)], 2, 8, [.int .i32 0, .int .u32 0]⟩
def ti127 : TI := ⟨.struct [(0, 122), (0, 125)], 2, 8, [.int .i32 0, .int .u32 0]⟩
def ti128 : TI := ⟨.map 3 3, 1, 8, [.map none]⟩
def ti129 : TI := ⟨.struct [(0, 127), (2, 35), (4, 128)], 5, 64, [.int .i32 0, .int .u32 0, .slice none 0 0, .slice none 0 0, .map none]⟩
def ti130 : TI := ⟨.struct [(0, 127), (2, 35), (4, 128)], 5, 64, [.int .i32 0, .int .u32 0, .slice none 0 0, .slice none 0 0, .map none]⟩
def ti137 : TI := ⟨.struct [(0, 32)], 1, 24, [.slice none 0 0]⟩
def ti138 : TI := ⟨.struct [(0, 32)], 1, 24, [.slice none 0 0]⟩
def ti148 : TI := ⟨.slice 215, 1, 24, [.slice none 0 0]⟩
def ti149 : TI := ⟨.struct [(0, 148), (1, 69), (2, 3)], 3, 56, [.slice none 0 0, .slice none 0 0, .int .i64 0]⟩
def ti150 : TI := ⟨.struct [(0, 148), (1, 69), (2, 3)], 3, 56, [.slice none 0 0, .slice none 0 0, .int .i64 0]⟩
def ti151 : TI := ⟨.ptr 153, 1, 8, [.pointer none]⟩
def ti152 : TI := ⟨.struct [(0, 22), (1, 4)], 2, 32, [.slice none 0 0, .bool false]⟩
def ti153 : TI := ⟨.struct [(0, 22), (1, 4)], 2, 32, [.slice none 0 0, .bool false]⟩
def ti160 : TI := ⟨.ptr 162, 1, 8, [.pointer none]⟩
def ti161 : TI := ⟨.struct [(0, 22), (1, 3), (2, 4)], 3, 40, [.slice none 0 0, .int .i64 0, .bool false]⟩
def ti162 : TI := ⟨.struct [(0, 22), (1, 3), (2, 4)], 3, 40, [.slice none 0 0, .int .i64 0, .bool false]⟩
def ti163 : TI := ⟨.slice 4, 1, 24, [.slice none 0 0]⟩
def ti173 : TI := ⟨.slice 223, 1, 24, [.slice none 0 0]⟩
def ti174 : TI := ⟨.struct [(0, 173), (1, 3), (2, 163), (3, 3), (4, 4)], 5, 72, [.slice none 0 0, .int .i64 0, .slice none 0 0, .int .i64 0, .bool false]⟩
def ti175 : TI := ⟨.struct [(0, 173), (1, 3), (2, 163), (3, 3), (4, 4)], 5, 72, [.slice none 0 0, .int .i64 0, .slice none 0 0, .int .i64 0, .bool false]⟩
def ti179 : TI := ⟨.iface, 1, 16, [.nilIface]⟩
def ti180 : TI := ⟨.iface, 1, 16, [.nilIface]⟩
def ti181 : TI := ⟨.ptr 186, 1, 8, [.pointer none]⟩
def ti184 : TI := ⟨.map 3 4, 1, 8, [.map none]⟩
def ti185 : TI := ⟨.struct [(0, 118), (1, 184), (2, 3), (3, 83)], 4, 48, [.pointer none, .map none, .int .i64 0, .slice none 0 0]⟩
def ti186 : TI := ⟨.struct [(0, 118), (1, 184), (2, 3), (3, 83)], 4, 48, [.pointer none, .map none, .int .i64 0, .slice none 0 0]⟩
def ti188 : TI := ⟨.struct [(0, 9), (1, 9)], 2, 32, [.string ⟨#[]⟩, .string ⟨#[]⟩]⟩
def ti189 : TI := ⟨.struct [(0, 9), (1, 9)], 2, 32, [.string ⟨#[]⟩, .string ⟨#[]⟩]⟩
def ti192 : TI := ⟨.struct [(0, 3), (1, 22)], 2, 32, [.int .i64 0, .slice none 0 0]⟩
def ti193 : TI := ⟨.struct [(0, 3), (1, 22)], 2, 32, [.int .i64 0, .slice none 0 0]⟩
def ti198 : TI := ⟨.ptr 35, 1, 8, [.pointer none]⟩
def ti200 : TI := ⟨.struct [(0, 22), (1, 3)], 2, 32, [.slice none 0 0, .int .i64 0]⟩
def ti201 : TI := ⟨.struct [(0, 22), (1, 3)], 2, 32, [.slice none 0 0, .int .i64 0]⟩
def ti202 : TI := ⟨.iface, 1, 16, [.nilIface]⟩
def ti203 : TI := ⟨.iface, 1, 16, [.nilIface]⟩
def ti208 : TI := ⟨.struct [(0, 3), (1, 22)], 2, 32, [.int .i64 0, .slice none 0 0]⟩
def ti214 : TI := ⟨.struct [(0, 57), (32, 3)], 33, 40, (List.replicate 32 (.int .u8 0) ++ ([.int .i64 0]))⟩
def ti215 : TI := ⟨.struct [(0, 57), (32, 3)], 33, 40, (List.replicate 32 (.int .u8 0) ++ ([.int .i64 0]))⟩
def ti220 : TI := ⟨.ptr 175, 1, 8, [.pointer none]⟩
def ti221 : TI := ⟨.slice 9, 1, 24, [.slice none 0 0]⟩
def ti222 : TI := ⟨.struct [(0, 3), (1, 4), (2, 221), (3, 221), (4, 69), (5, 221)], 6, 112, [.int .i64 0, .bool false, .slice none 0 0, .slice none 0 0, .slice none 0 0, .slice none 0 0]⟩
def ti223 : TI := ⟨.struct [(0, 3), (1, 4), (2, 221), (3, 221), (4, 69), (5, 221)], 6, 112, [.int .i64 0, .bool false, .slice none 0 0, .slice none 0 0, .slice none 0 0, .slice none 0 0]⟩
def ti224 : TI := ⟨.struct [], 0, 0, []⟩
def ti227 : TI := ⟨.map 3 32, 1, 8, [.map none]⟩
def ti230 : TI := ⟨.int .u64, 1, 8, [.int .u64 0]⟩
def ti231 : TI := ⟨.struct [(0, 17)], 1, 8, [.pointer none]⟩
def ti232 : TI := ⟨.struct [(0, 17)], 1, 8, [.pointer none]⟩
def ti233 : TI := ⟨.ptr 336, 1, 8, [.pointer none]⟩
def ti234 : TI := ⟨.iface, 1, 16, [.nilIface]⟩
def ti237 : TI := ⟨.iface, 1, 16, [.nilIface]⟩
def ti239 : TI := ⟨.iface, 1, 16, [.nilIface]⟩
def ti240 : TI := ⟨.slice 113, 1, 24, [.slice none 0 0]⟩
def ti242 : TI := ⟨.ptr 127, 1, 8, [.pointer none]⟩
def ti247 : TI := ⟨.ptr 284, 1, 8, [.pointer none]⟩
def ti251 : TI := ⟨.ptr 9, 1, 8, [.pointer none]⟩
def ti253 : TI := ⟨.ptr 257, 1, 8, [.pointer none]⟩
def ti254 : TI := ⟨.struct [(0, 3)], 1, 8, [.int .i64 0]⟩
def ti255 : TI := ⟨.struct [(0, 3)], 1, 8, [.int .i64 0]⟩
def ti256 : TI := ⟨.struct [(0, 255), (1, 83)], 2, 32, [.int .i64 0, .slice none 0 0]⟩
def ti257 : TI := ⟨.struct [(0, 255), (1, 83)], 2, 32, [.int .i64 0, .slice none 0 0]⟩
def ti260 : TI := ⟨.ptr 263, 1, 8, [.pointer none]⟩
def ti261 : TI := ⟨.slice 265, 1, 24, [.slice none 0 0]⟩
def ti262 : TI := ⟨.struct [(0, 255), (1, 261)], 2, 32, [.int .i64 0, .slice none 0 0]⟩
def ti263 : TI := ⟨.struct [(0, 255), (1, 261)], 2, 32, [.int .i64 0, .slice none 0 0]⟩
def ti264 : TI := ⟨.struct [(0, 9), (1, 180)], 2, 32, [.string ⟨#[]⟩, .nilIface]⟩
def ti265 : TI := ⟨.struct [(0, 9), (1, 180)], 2, 32, [.string ⟨#[]⟩, .nilIface]⟩
def ti268 : TI := ⟨.ptr 125, 1, 8, [.pointer none]⟩
def ti270 : TI := ⟨.ptr 21, 1, 8, [.pointer none]⟩
def ti272 : TI := ⟨.other, 1, 8, [.pointer none]⟩
def ti280 : TI := ⟨.arr 8 123, 8, 32, [.int .u32 0, .int .u32 0, .int .u32 0, .int .u32 0, .int .u32 0, .int .u32 0, .int .u32 0, .int .u32 0]⟩
def ti281 : TI := ⟨.arr 64 123, 64, 256, (List.replicate 64 (.int .u32 0))⟩
def ti283 : TI := ⟨.struct [(0, 280), (8, 281), (72, 22), (73, 3)], 74, 320, (List.replicate 72 (.int .u32 0) ++ ([.slice none 0 0, .int .i64 0]))⟩
def ti284 : TI := ⟨.struct [(0, 280), (8, 281), (72, 22), (73, 3)], 74, 320, (List.replicate 72 (.int .u32 0) ++ ([.slice none 0 0, .int .i64 0]))⟩
def ti287 : TI := ⟨.int .i64, 1, 8, [.int .i64 0]⟩
def ti296 : TI := ⟨.int .u64, 1, 8, [.int .u64 0]⟩
def ti300 : TI := ⟨.ptr 123, 1, 8, [.pointer none]⟩
def ti302 : TI := ⟨.int .u64, 1, 8, [.int .u64 0]⟩
def ti306 : TI := ⟨.ptr 3, 1, 8, [.pointer none]⟩
def ti308 : TI := ⟨.ptr 302, 1, 8, [.pointer none]⟩
def ti312 : TI := ⟨.struct [(0, 17), (1, 17), (2, 17), (3, 9)], 4, 40, [.pointer none, .pointer none, .pointer none, .string ⟨#[]⟩]⟩
def ti313 : TI := ⟨.struct [(0, 17), (1, 17), (2, 17), (3, 9)], 4, 40, [.pointer none, .pointer none, .pointer none, .string ⟨#[]⟩]⟩
def ti314 : TI := ⟨.arr 0 16, 0, 0, []⟩
def ti315 : TI := ⟨.struct [(0, 314)], 0, 0, []⟩
def ti316 : TI := ⟨.struct [(0, 314)], 0, 0, []⟩
def ti317 : TI := ⟨.int .u8, 1, 1, [.int .u8 0]⟩
def ti318 : TI := ⟨.int .u8, 1, 1, [.int .u8 0]⟩
def ti320 : TI := ⟨.ptr 5, 1, 8, [.pointer none]⟩
def ti321 : TI := ⟨.int .i32, 1, 4, [.int .i32 0]⟩
def ti322 : TI := ⟨.int .i32, 1, 4, [.int .i32 0]⟩
def ti323 : TI := ⟨.struct [(0, 12), (1, 12), (2, 123), (3, 317), (4, 5), (5, 5), (6, 318), (7, 319), (8, 320), (9, 321), (10, 322)], 11, 48, [.int .u64 0, .int .u64 0, .int .u32 0, .int .u8 0, .int .u8 0, .int .u8 0, .int .u8 0, .nilFunc, .pointer none, .int .i32 0, .int .i32 0]⟩
def ti324 : TI := ⟨.struct [(0, 12), (1, 12), (2, 123), (3, 317), (4, 5), (5, 5), (6, 318), (7, 319), (8, 320), (9, 321), (10, 322)], 11, 48, [.int .u64 0, .int .u64 0, .int .u32 0, .int .u8 0, .int .u8 0, .int .u8 0, .int .u8 0, .nilFunc, .pointer none, .int .i32 0, .int .i32 0]⟩
def ti335 : TI := ⟨.struct [(0, 9), (1, 318)], 2, 24, [.string ⟨#[]⟩, .int .u8 0]⟩
def ti336 : TI := ⟨.struct [(0, 9), (1, 318)], 2, 24, [.string ⟨#[]⟩, .int .u8 0]⟩
def ti338 : TI := ⟨.ptr 342, 1, 8, [.pointer none]⟩
def ti340 : TI := ⟨.int .u16, 1, 2, [.int .u16 0]⟩
def ti341 : TI := ⟨.struct [(0, 321), (1, 340), (2, 340), (3, 123), (4, 123)], 5, 16, [.int .i32 0, .int .u16 0, .int .u16 0, .int .u32 0, .int .u32 0]⟩
def ti342 : TI := ⟨.struct [(0, 321), (1, 340), (2, 340), (3, 123), (4, 123)], 5, 16, [.int .i32 0, .int .u16 0, .int .u16 0, .int .u32 0, .int .u32 0]⟩
def ti343 : TI := ⟨.slice 346, 1, 24, [.slice none 0 0]⟩
def ti344 : TI := ⟨.int .i32, 1, 4, [.int .i32 0]⟩
def ti345 : TI := ⟨.struct [(0, 321), (1, 322), (2, 344), (3, 344)], 4, 16, [.int .i32 0, .int .i32 0, .int .i32 0, .int .i32 0]⟩
def ti346 : TI := ⟨.struct [(0, 321), (1, 322), (2, 344), (3, 344)], 4, 16, [.int .i32 0, .int .i32 0, .int .i32 0, .int .i32 0]⟩
def ti347 : TI := ⟨.ptr 255, 1, 8, [.pointer none]⟩
def tyL : List (Nat × TI) := [(2, ti2), (3, ti3), (4, ti4), (5, ti5), (6, ti6), (7, ti7), (8, ti8), (9, ti9), (10, ti10), (11, ti11), (12, ti12), (13, ti13), (14, ti14), (15, ti15), (16, ti16), (17, ti17), (18, ti18), (19, ti19), (20, ti20), (21, ti21), (22, ti22), (32, ti32), (33, ti33), (34, ti34), (35, ti35), (41, ti41), (42, ti42), (43, ti43), (50, ti50), (51, ti51), (56, ti56), (57, ti57), (58, ti58), (59, ti59), (60, ti60), (68, ti68), (69, ti69), (78, ti78), (83, ti83), (90, ti90), (91, ti91), (99, ti99), (106, ti106), (107, ti107), (108, ti108), (109, ti109), (112, ti112), (113, ti113), (117, ti117), (118, ti118), (121, ti121), (122, ti122), (123, ti123), (124, ti124), (125, ti125), (126, ti126), (127, ti127), (128, ti128), (129, ti129), (130, ti130), (137, ti137), (138, ti138), (148, ti148), (149, ti149), (150, ti150), (151, ti151), (152, ti152), (153, ti153), (160, ti160), (161, ti161), (162, ti162), (163, ti163), (173, ti173), (174, ti174), (175, ti175), (179, ti179), (180, ti180), (181, ti181), (184, ti184), (185, ti185), (186, ti186), (188, ti188), (189, ti189), (192, ti192), (193, ti193), (198, ti198), (200, ti200), (201, ti201), (202, ti202), (203, ti203), (208, ti208), (214, ti214), (215, ti215), (220, ti220), (221, ti221), (222, ti222), (223, ti223), (224, ti224), (227, ti227), (230, ti230), (231, ti231), (232, ti232), (233, ti233), (234, ti234), (237, ti237), (239, ti239), (240, ti240), (242, ti242), (247, ti247), (251, ti251), (253, ti253), (254, ti254), (255, ti255), (256, ti256), (257, ti257), (260, ti260), (261, ti261), (262, ti262), (263, ti263), (264, ti264), (265, ti265), (268, ti268), (270, ti270), (272, ti272), (280, ti280), (281, ti281), (283, ti283), (284, ti284), (287, ti287), (296, ti296), (300, ti300), (302, ti302), (306, ti306), (308, ti308), (312, ti312), (313, ti313), (314, ti314), (315, ti315), (316, ti316), (317, ti317), (318, ti318), (320, ti320), (321, ti321), (322, ti322), (323, ti323), (324, ti324), (335, ti335), (336, ti336), (338, ti338), (340, ti340), (341, ti341), (342, ti342), (343, ti343), (344, ti344), (345, ti345), (346, ti346), (347, ti347)]
def tyT (t : Nat) : Option TI := tyL.lookup t
@[go_sem] theorem ty2 : tyT 2 = some ⟨.int .i64, 1, 8, [.int .i64 0]⟩ := Eq.trans rfl rfl
@[go_sem] theorem ty3 : tyT 3 = some ⟨.int .i64, 1, 8, [.int .i64 0]⟩ := Eq.trans rfl rfl
@[go_sem] theorem ty4 : tyT 4 = some ⟨.bool, 1, 1, [.bool false]⟩ := Eq.trans rfl rfl
@[go_sem] theorem ty5 : tyT 5 = some ⟨.int .u8, 1, 1, [.int .u8 0]⟩ := Eq.trans rfl rfl
@[go_sem] theorem ty6 : tyT 6 = some ⟨.int .u8, 1, 1, [.int .u8 0]⟩ := Eq.trans rfl rfl
@[go_sem] theorem ty7 : tyT 7 = some ⟨.struct [(0, 2), (1, 3), (2, 4), (3, 6)], 4, 24, [.int .i64 0, .int .i64 0, .bool false, .int .u8 0]⟩ := Eq.trans rfl rfl
@[go_sem] theorem ty8 : tyT 8 = some ⟨.struct [(0, 2), (1, 3), (2, 4), (3, 6)], 4, 24, [.int .i64 0, .int .i64 0, .bool false, .int .u8 0]⟩ := Eq.trans rfl rfl
@[go_sem] theorem ty9 : tyT 9 = some ⟨.str, 1, 16, [.string ⟨#[]⟩]⟩ := Eq.trans rfl rfl
@[go_sem] theorem ty10 : tyT 10 = some ⟨.str, 1, 16, [.string ⟨#[]⟩]⟩ := Eq.trans rfl rfl
@[go_sem] theorem ty11 : tyT 11 = some ⟨.str, 1, 16, [.string ⟨#[]⟩]⟩ := Eq.trans rfl rfl
@[go_sem] theorem ty12 : tyT 12 = some ⟨.int .u64, 1, 8, [.int .u64 0]⟩ := Eq.trans rfl rfl
@[go_sem] theorem ty13 : tyT 13 = some ⟨.struct [(0, 9), (1, 12)], 2, 24, [.string ⟨#[]⟩, .int .u64 0]⟩ := Eq.trans rfl rfl
@[go_sem] theorem ty14 : tyT 14 = some ⟨.struct [(0, 9), (1, 12)], 2, 24, [.string ⟨#[]⟩, .int .u64 0]⟩ := Eq.trans rfl rfl
@[go_sem] theorem ty15 : tyT 15 = some ⟨.ptr 313, 1, 8, [.pointer none]⟩ := Eq.trans rfl rfl
@[go_sem] theorem ty16 : tyT 16 = some ⟨.ptr 316, 1, 8, [.pointer none]⟩ := Eq.trans rfl rfl
@[go_sem] theorem ty17 : tyT 17 = some ⟨.ptr 324, 1, 8, [.pointer none]⟩ := Eq.trans rfl rfl
@[go_sem] theorem ty18 : tyT 18 = some ⟨.struct [(0, 17)], 1, 8, [.pointer none]⟩ := Eq.trans rfl rfl
@[go_sem] theorem ty19 : tyT 19 = some ⟨.struct [(0, 17)], 1, 8, [.pointer none]⟩ := Eq.trans rfl rfl
@[go_sem] theorem ty20 : tyT 20 = some ⟨.iface, 1, 16, [.nilIface]⟩ := Eq.trans rfl rfl
@[go_sem] theorem ty21 : tyT 21 = some ⟨.int .i32, 1, 4, [.int .i32 0]⟩ := Eq.trans rfl rfl
@[go_sem] theorem ty22 : tyT 22 = some ⟨.slice 5, 1, 24, [.slice none 0 0]⟩ := Eq.trans rfl rfl
@[go_sem] theorem ty32 : tyT 32 = some ⟨.slice 22, 1, 24, [.slice none 0 0]⟩ := Eq.trans rfl rfl
@[go_sem] theorem ty33 : tyT 33 = some ⟨.slice 193, 1, 24, [.slice none 0 0]⟩ := Eq.trans rfl rfl
@[go_sem] theorem ty34 : tyT 34 = some ⟨.struct [(0, 32), (1, 33)], 2, 48, [.slice none 0 0, .slice none 0 0]⟩ := Eq.trans rfl rfl
@[go_sem] theorem ty35 : tyT 35 = some ⟨.struct [(0, 32), (1, 33)], 2, 48, [.slice none 0 0, .slice none 0 0]⟩ := Eq.trans rfl rfl
@[go_sem] theorem ty41 : tyT 41 = some ⟨.slice 208, 1, 24, [.slice none 0 0]⟩ := Eq.trans rfl rfl
@[go_sem] theorem ty42 : tyT 42 = some ⟨.struct [(0, 32), (1, 41)], 2, 48, [.slice none 0 0, .slice none 0 0]⟩ := Eq.trans rfl rfl
@[go_sem] theorem ty43 : tyT 43 = some ⟨.struct [(0, 32), (1, 41)], 2, 48, [.slice none 0 0, .slice none 0 0]⟩ := Eq.trans rfl rfl
@[go_sem] theorem ty50 : tyT 50 = some ⟨.struct [(0, 3), (1, 3), (2, 3), (3, 3)], 4, 32, [.int .i64 0, .int .i64 0, .int .i64 0, .int .i64 0]⟩ := Eq.trans rfl rfl
@[go_sem] theorem ty51 : tyT 51 = some ⟨.struct [(0, 3), (1, 3), (2, 3), (3, 3)], 4, 32, [.int .i64 0, .int .i64 0, .int .i64 0, .int .i64 0]⟩ := Eq.trans rfl rfl
@[go_sem] theorem ty56 : tyT 56 = some ⟨.arr 32 5, 32, 32, (List.replicate 32 (.int .u8 0))⟩ := Eq.trans rfl rfl
@[go_sem] theorem ty57 : tyT 57 = some ⟨.arr 32 5, 32, 32, (List.replicate 32 (.int .u8 0))⟩ := Eq.trans rfl rfl
@[go_sem] theorem ty58 : tyT 58 = some ⟨.slice 150, 1, 24, [.slice none 0 0]⟩ := Eq.trans rfl rfl
@[go_sem] theorem ty59 : tyT 59 = some ⟨.struct [(0, 57), (32, 57), (64, 3), (65, 58)], 66, 96, (List.replicate 32 (.int .u8 0) ++ (List.replicate 32 (.int .u8 0) ++ ([.int .i64 0, .slice none 0 0])))⟩ := Eq.trans rfl rfl
@[go_sem] theorem ty60 : tyT 60 = some ⟨.struct [(0, 57), (32, 57), (64, 3), (65, 58)], 66, 96, (List.replicate 32 (.int .u8 0) ++ (List.replicate 32 (.int .u8 0) ++ ([.int .i64 0, .slice none 0 0])))⟩ := Eq.trans rfl rfl
@[go_sem] theorem ty68 : tyT 68 = some ⟨.struct [(0, 3), (1, 3), (2, 3), (3, 3)], 4, 32, [.int .i64 0, .int .i64 0, .int .i64 0, .int .i64 0]⟩ := Eq.trans rfl rfl
@[go_sem] theorem ty69 : tyT 69 = some ⟨.slice 3, 1, 24, [.slice none 0 0]⟩ := Eq.trans rfl rfl
@[go_sem] theorem ty78 : tyT 78 = some ⟨.slice 91, 1, 24, [.slice none 0 0]⟩ := Eq.trans rfl rfl
@[go_sem] theorem ty83 : tyT 83 = some ⟨.slice 189, 1, 24, [.slice none 0 0]⟩ := Eq.trans rfl rfl
@[go_sem] theorem ty90 : tyT 90 = some ⟨.struct [(0, 3), (1, 3), (2, 22)], 3, 40, [.int .i64 0, .int .i64 0, .slice none 0 0]⟩ := Eq.trans rfl rfl
@[go_sem] theorem ty91 : tyT 91 = some ⟨.struct [(0, 3), (1, 3), (2, 22)], 3, 40, [.int .i64 0, .int .i64 0, .slice none 0 0]⟩ := Eq.trans rfl rfl
@[go_sem] theorem ty99 : tyT 99 = some ⟨.ptr 201, 1, 8, [.pointer none]⟩ := Eq.trans rfl rfl
@[go_sem] theorem ty106 : tyT 106 = some ⟨.struct [(0, 3), (1, 3), (2, 3)], 3, 24, [.int .i64 0, .int .i64 0, .int .i64 0]⟩ := Eq.trans rfl rfl
@[go_sem] theorem ty107 : tyT 107 = some ⟨.struct [(0, 3), (1, 3), (2, 3)], 3, 24, [.int .i64 0, .int .i64 0, .int .i64 0]⟩ := Eq.trans rfl rfl
@[go_sem] theorem ty108 : tyT 108 = some ⟨.struct [(0, 107), (3, 22)], 4, 48, [.int .i64 0, .int .i64 0, .int .i64 0, .slice none 0 0]⟩ := Eq.trans rfl rfl
@[go_sem] theorem ty109 : tyT 109 = some ⟨.struct [(0, 107), (3, 22)], 4, 48, [.int .i64 0, .int .i64 0, .int .i64 0, .slice none 0 0]⟩ := Eq.trans rfl rfl
@[go_sem] theorem ty112 : tyT 112 = some ⟨.iface, 1, 16, [.nilIface]⟩ := Eq.trans rfl rfl
@[go_sem] theorem ty113 : tyT 113 = some ⟨.iface, 1, 16, [.nilIface]⟩ := Eq.trans rfl rfl
@[go_sem] theorem ty117 : tyT 117 = some ⟨.str, 1, 16, [.string ⟨#[]⟩]⟩ := Eq.trans rfl rfl
@[go_sem] theorem ty118 : tyT 118 = some ⟨.ptr 130, 1, 8, [.pointer none]⟩ := Eq.trans rfl rfl
@[go_sem] theorem ty121 : tyT 121 = some ⟨.struct [], 0, 0, []⟩ := Eq.trans rfl rfl
@[go_sem] theorem ty122 : tyT 122 = some ⟨.struct [], 0, 0, []⟩ := Eq.trans rfl rfl
@[go_sem] theorem ty123 : tyT 123 = some ⟨.int .u32, 1, 4, [.int .u32 0]⟩ := Eq.trans rfl rfl
@[go_sem] theorem ty124 : tyT 124 = some ⟨.struct [(0, 21), (1, 123)], 2, 8, [.int .i32 0, .int .u32 0]⟩ := Eq.trans rfl rfl
@[go_sem] theorem ty125 : tyT 125 = some ⟨.struct [(0, 21), (1, 123)], 2, 8, [.int .i32 0, .int .u32 0]⟩ := Eq.trans rfl rfl
@[go_sem] theorem ty126 : tyT 126 = some ⟨.struct [(0, 122), (0, 125)], 2, 8, [.int .i32 0, .int .u32 0]⟩ := Eq.trans rfl rfl
@[go_sem] theorem ty127 : tyT 127 = some ⟨.struct [(0, 122), (0, 125)], 2, 8, [.int .i32 0, .int .u32 0]⟩ := Eq.trans rfl rfl
@[go_sem] theorem ty128 : tyT 128 = some ⟨.map 3 3, 1, 8, [.map none]⟩ := Eq.trans rfl rfl
@[go_sem] theorem ty129 : tyT 129 = some ⟨.struct [(0, 127), (2, 35), (4, 128)], 5, 64, [.int .i32 0, .int .u32 0, .slice none 0 0, .slice none 0 0, .map none]⟩ := Eq.trans rfl rfl
@[go_sem] theorem ty130 : tyT 130 = some ⟨.struct [(0, 127), (2, 35), (4, 128)], 5, 64, [.int .i32 0, .int .u32 0, .slice none 0 0, .slice none 0 0, .map none]⟩ := Eq.trans rfl rfl
@[go_sem] theorem ty137 : tyT 137 = some ⟨.struct [(0, 32)], 1, 24, [.slice none 0 0]⟩ := Eq.trans rfl rfl
@[go_sem] theorem ty138 : tyT 138 = some ⟨.struct [(0, 32)], 1, 24, [.slice none 0 0]⟩ := Eq.trans rfl rfl
@[go_sem] theorem ty148 : tyT 148 = some ⟨.slice 215, 1, 24, [.slice none 0 0]⟩ := Eq.trans rfl rfl
@[go_sem] theorem ty149 : tyT 149 = some ⟨.struct [(0, 148), (1, 69), (2, 3)], 3, 56, [.slice none 0 0, .slice none 0 0, .int .i64 0]⟩ := Eq.trans rfl rfl
@[go_sem] theorem ty150 : tyT 150 = some ⟨.struct [(0, 148), (1, 69), (2, 3)], 3, 56, [.slice none 0 0, .slice none 0 0, .int .i64 0]⟩ := Eq.trans rfl rfl
@[go_sem] theorem ty151 : tyT 151 = some ⟨.ptr 153, 1, 8, [.pointer none]⟩ := Eq.trans rfl rfl
@[go_sem] theorem ty152 : tyT 152 = some ⟨.struct [(0, 22), (1, 4)], 2, 32, [.slice none 0 0, .bool false]⟩ := Eq.trans rfl rfl
@[go_sem] theorem ty153 : tyT 153 = some ⟨.struct [(0, 22), (1, 4)], 2, 32, [.slice none 0 0, .bool false]⟩ := Eq.trans rfl rfl
@[go_sem] theorem ty160 : tyT 160 = some ⟨.ptr 162, 1, 8, [.pointer none]⟩ := Eq.trans rfl rfl
@[go_sem] theorem ty161 : tyT 161 = some ⟨.struct [(0, 22), (1, 3), (2, 4)], 3, 40, [.slice none 0 0, .int .i64 0, .bool false]⟩ := Eq.trans rfl rfl
@[go_sem] theorem ty162 : tyT 162 = some ⟨.struct [(0, 22), (1, 3), (2, 4)], 3, 40, [.slice none 0 0, .int .i64 0, .bool false]⟩ := Eq.trans rfl rfl
@[go_sem] theorem ty163 : tyT 163 = some ⟨.slice 4, 1, 24, [.slice none 0 0]⟩ := Eq.trans rfl rfl
@[go_sem] theorem ty173 : tyT 173 = some ⟨.slice 223, 1, 24, [.slice none 0 0]⟩ := Eq.trans rfl rfl
@[go_sem] theorem ty174 : tyT 174 = some ⟨.struct [(0, 173), (1, 3), (2, 163), (3, 3), (4, 4)], 5, 72, [.slice none 0 0, .int .i64 0, .slice none 0 0, .int .i64 0, .bool false]⟩ := Eq.trans rfl rfl
@[go_sem] theorem ty175 : tyT 175 = some ⟨.struct [(0, 173), (1, 3), (2, 163), (3, 3), (4, 4)], 5, 72, [.slice none 0 0, .int .i64 0, .slice none 0 0, .int .i64 0, .bool false]⟩ := Eq.trans rfl rfl
@[go_sem] theorem ty179 : tyT 179 = some ⟨.iface, 1, 16, [.nilIface]⟩ := Eq.trans rfl rfl
@[go_sem] theorem ty180 : tyT 180 = some ⟨.iface, 1, 16, [.nilIface]⟩ := Eq.trans rfl rfl
@[go_sem] theorem ty181 : tyT 181 = some ⟨.ptr 186, 1, 8, [.pointer none]⟩ := Eq.trans rfl rfl
@[go_sem] theorem ty184 : tyT 184 = some ⟨.map 3 4, 1, 8, [.map none]⟩ := Eq.trans rfl rfl
@[go_sem] theorem ty185 : tyT 185 = some ⟨.struct [(0, 118), (1, 184), (2, 3), (3, 83)], 4, 48, [.pointer none, .map none, .int .i64 0, .slice none 0 0]⟩ := Eq.trans rfl rfl
@[go_sem] theorem ty186 : tyT 186 = some ⟨.struct [(0, 118), (1, 184), (2, 3), (3, 83)], 4, 48, [.pointer none, .map none, .int .i64 0, .slice none 0 0]⟩ := Eq.trans rfl rfl
@[go_sem] theorem ty188 : tyT 188 = some ⟨.struct [(0, 9), (1, 9)], 2, 32, [.string ⟨#[]⟩, .string ⟨#[]⟩]⟩ := Eq.trans rfl rfl
@[go_sem] theorem ty189 : tyT 189 = some ⟨.struct [(0, 9), (1, 9)], 2, 32, [.string ⟨#[]⟩, .string ⟨#[]⟩]⟩ := Eq.trans rfl rfl
@[go_sem] theorem ty192 : tyT 192 = some ⟨.struct [(0, 3), (1, 22)], 2, 32, [.int .i64 0, .slice none 0 0]⟩ := Eq.trans rfl rfl
@[go_sem] theorem ty193 : tyT 193 = some ⟨.struct [(0, 3), (1, 22)], 2, 32, [.int .i64 0, .slice none 0 0]⟩ := Eq.trans rfl rfl
@[go_sem] theorem ty198 : tyT 198 = some ⟨.ptr 35, 1, 8, [.pointer none]⟩ := Eq.trans rfl rfl
@[go_sem] theorem ty200 : tyT 200 = some ⟨.struct [(0, 22), (1, 3)], 2, 32, [.slice none 0 0, .int .i64 0]⟩ := Eq.trans rfl rfl
@[go_sem] theorem ty201 : tyT 201 = some ⟨.struct [(0, 22), (1, 3)], 2, 32, [.slice none 0 0, .int .i64 0]⟩ := Eq.trans rfl rfl
@[go_sem] theorem ty202 : tyT 202 = some ⟨.iface, 1, 16, [.nilIface]⟩ := Eq.trans rfl rfl
@[go_sem] theorem ty203 : tyT 203 = some ⟨.iface, 1, 16, [.nilIface]⟩ := Eq.trans rfl rfl
@[go_sem] theorem ty208 : tyT 208 = some ⟨.struct [(0, 3), (1, 22)], 2, 32, [.int .i64 0, .slice none 0 0]⟩ := Eq.trans rfl rfl
@[go_sem] theorem ty214 : tyT 214 = some ⟨.struct [(0, 57), (32, 3)], 33, 40, (List.replicate 32 (.int .u8 0) ++ ([.int .i64 0]))⟩ := Eq.trans rfl rfl
@[go_sem] theorem ty215 : tyT 215 = some ⟨.struct [(0, 57), (32, 3)], 33, 40, (List.replicate 32 (.int .u8 0) ++ ([.int .i64 0]))⟩ := Eq.trans rfl rfl
@[go_sem] theorem ty220 : tyT 220 = some ⟨.ptr 175, 1, 8, [.pointer none]⟩ := Eq.trans rfl rfl
@[go_sem] theorem ty221 : tyT 221 = some ⟨.slice 9, 1, 24, [.slice none 0 0]⟩ := Eq.trans rfl rfl
@[go_sem] theorem ty222 : tyT 222 = some ⟨.struct [(0, 3), (1, 4), (2, 221), (3, 221), (4, 69), (5, 221)], 6, 112, [.int .i64 0, .bool false, .slice none 0 0, .slice none 0 0, .slice none 0 0, .slice none 0 0]⟩ := Eq.trans rfl rfl
@[go_sem] theorem ty223 : tyT 223 = some ⟨.struct [(0, 3), (1, 4), (2, 221), (3, 221), (4, 69), (5, 221)], 6, 112, [.int .i64 0, .bool false, .slice none 0 0, .slice none 0 0, .slice none 0 0, .slice none 0 0]⟩ := Eq.trans rfl rfl
@[go_sem] theorem ty224 : tyT 224 = some ⟨.struct [], 0, 0, []⟩ := Eq.trans rfl rfl
@[go_sem] theorem ty227 : tyT 227 = some ⟨.map 3 32, 1, 8, [.map none]⟩ := Eq.trans rfl rfl
@[go_sem] theorem ty230 : tyT 230 = some ⟨.int .u64, 1, 8, [.int .u64 0]⟩ := Eq.trans rfl rfl
@[go_sem] theorem ty231 : tyT 231 = some ⟨.struct [(0, 17)], 1, 8, [.pointer none]⟩ := Eq.trans rfl rfl
@[go_sem] theorem ty232 : tyT 232 = some ⟨.struct [(0, 17)], 1, 8, [.pointer none]⟩ := Eq.trans rfl rfl
@[go_sem] theorem ty233 : tyT 233 = some ⟨.ptr 336, 1, 8, [.pointer none]⟩ := Eq.trans rfl rfl
@[go_sem] theorem ty234 : tyT 234 = some ⟨.iface, 1, 16, [.nilIface]⟩ := Eq.trans rfl rfl
@[go_sem] theorem ty237 : tyT 237 = some ⟨.iface, 1, 16, [.nilIface]⟩ := Eq.trans rfl rfl
@[go_sem] theorem ty239 : tyT 239 = some ⟨.iface, 1, 16, [.nilIface]⟩ := Eq.trans rfl rfl
@[go_sem] theorem ty240 : tyT 240 = some ⟨.slice 113, 1, 24, [.slice none 0 0]⟩ := Eq.trans rfl rfl
@[go_sem] theorem ty242 : tyT 242 = some ⟨.ptr 127, 1, 8, [.pointer none]⟩ := Eq.trans rfl rfl
@[go_sem] theorem ty247 : tyT 247 = some ⟨.ptr 284, 1, 8, [.pointer none]⟩ := Eq.trans rfl rfl
@[go_sem] theorem ty251 : tyT 251 = some ⟨.ptr 9, 1, 8, [.pointer none]⟩ := Eq.trans rfl rfl
@[go_sem] theorem ty253 : tyT 253 = some ⟨.ptr 257, 1, 8, [.pointer none]⟩ := Eq.trans rfl rfl
@[go_sem] theorem ty254 : tyT 254 = some ⟨.struct [(0, 3)], 1, 8, [.int .i64 0]⟩ := Eq.trans rfl rfl
@[go_sem] theorem ty255 : tyT 255 = some ⟨.struct [(0, 3)], 1, 8, [.int .i64 0]⟩ := Eq.trans rfl rfl
@[go_sem] theorem ty256 : tyT 256 = some ⟨.struct [(0, 255), (1, 83)], 2, 32, [.int .i64 0, .slice none 0 0]⟩ := Eq.trans rfl rfl
@[go_sem] theorem ty257 : tyT 257 = some ⟨.struct [(0, 255), (1, 83)], 2, 32, [.int .i64 0, .slice none 0 0]⟩ := Eq.trans rfl rfl
@[go_sem] theorem ty260 : tyT 260 = some ⟨.ptr 263, 1, 8, [.pointer none]⟩ := Eq.trans rfl rfl
@[go_sem] theorem ty261 : tyT 261 = some ⟨.slice 265, 1, 24, [.slice none 0 0]⟩ := Eq.trans rfl rfl
@[go_sem] theorem ty262 : tyT 262 = some ⟨.struct [(0, 255), (1, 261)], 2, 32, [.int .i64 0, .slice none 0 0]⟩ := Eq.trans rfl rfl
@[go_sem] theorem ty263 : tyT 263 = some ⟨.struct [(0, 255), (1, 261)], 2, 32, [.int .i64 0, .slice none 0 0]⟩ := Eq.trans rfl rfl
@[go_sem] theorem ty264 : tyT 264 = some ⟨.struct [(0, 9), (1, 180)], 2, 32, [.string ⟨#[]⟩, .nilIface]⟩ := Eq.trans rfl rfl
@[go_sem] theorem ty265 : tyT 265 = some ⟨.struct [(0, 9), (1, 180)], 2, 32, [.string ⟨#[]⟩, .nilIface]⟩ := Eq.trans rfl rfl
@[go_sem] theorem ty268 : tyT 268 = some ⟨.ptr 125, 1, 8, [.pointer none]⟩ := Eq.trans rfl rfl
@[go_sem] theorem ty270 : tyT 270 = some ⟨.ptr 21, 1, 8, [.pointer none]⟩ := Eq.trans rfl rfl
@[go_sem] theorem ty272 : tyT 272 = some ⟨.other, 1, 8, [.pointer none]⟩ := Eq.trans rfl rfl
@[go_sem] theorem ty280 : tyT 280 = some ⟨.arr 8 123, 8, 32, [.int .u32 0, .int .u32 0, .int .u32 0, .int .u32 0, .int .u32 0, .int .u32 0, .int .u32 0, .int .u32 0]⟩ := Eq.trans rfl rfl
@[go_sem] theorem ty281 : tyT 281 = some ⟨.arr 64 123, 64, 256, (List.replicate 64 (.int .u32 0))⟩ := Eq.trans rfl rfl
@[go_sem] theorem ty283 : tyT 283 = some ⟨.struct [(0, 280), (8, 281), (72, 22), (73, 3)], 74, 320, (List.replicate 72 (.int .u32 0) ++ ([.slice none 0 0, .int .i64 0]))⟩ := Eq.trans rfl rfl
@[go_sem] theorem ty284 : tyT 284 = some ⟨.struct [(0, 280), (8, 281), (72, 22), (73, 3)], 74, 320, (List.replicate 72 (.int .u32 0) ++ ([.slice none 0 0, .int .i64 0]))⟩ := Eq.trans rfl rfl
@[go_sem] theorem ty287 : tyT 287 = some ⟨.int .i64, 1, 8, [.int .i64 0]⟩ := Eq.trans rfl rfl
@[go_sem] theorem ty296 : tyT 296 = some ⟨.int .u64, 1, 8, [.int .u64 0]⟩ := Eq.trans rfl rfl
@[go_sem] theorem ty300 : tyT 300 = some ⟨.ptr 123, 1, 8, [.pointer none]⟩ := Eq.trans rfl rfl
@[go_sem] theorem ty302 : tyT 302 = some ⟨.int .u64, 1, 8, [.int .u64 0]⟩ := Eq.trans rfl rfl
@[go_sem] theorem ty306 : tyT 306 = some ⟨.ptr 3, 1, 8, [.pointer none]⟩ := Eq.trans rfl rfl
@[go_sem] theorem ty308 : tyT 308 = some ⟨.ptr 302, 1, 8, [.pointer none]⟩ := Eq.trans rfl rfl
@[go_sem] theorem ty312 : tyT 312 = some ⟨.struct [(0, 17), (1, 17), (2, 17), (3, 9)], 4, 40, [.pointer none, .pointer none, .pointer none, .string ⟨#[]⟩]⟩ := Eq.trans rfl rfl
@[go_sem] theorem ty313 : tyT 313 = some ⟨.struct [(0, 17), (1, 17), (2, 17), (3, 9)], 4, 40, [.pointer none, .pointer none, .pointer none, .string ⟨#[]⟩]⟩ := Eq.trans rfl rfl
@[go_sem] theorem ty314 : tyT 314 = some ⟨.arr 0 16, 0, 0, []⟩ := Eq.trans rfl rfl
@[go_sem] theorem ty315 : tyT 315 = some ⟨.struct [(0, 314)], 0, 0, []⟩ := Eq.trans rfl rfl
@[go_sem] theorem ty316 : tyT 316 = some ⟨.struct [(0, 314)], 0, 0, []⟩ := Eq.trans rfl rfl
@[go_sem] theorem ty317 : tyT 317 = some ⟨.int .u8, 1, 1, [.int .u8 0]⟩ := Eq.trans rfl rfl
@[go_sem] theorem ty318 : tyT 318 = some ⟨.int .u8, 1, 1, [.int .u8 0]⟩ := Eq.trans rfl rfl
@[go_sem] theorem ty320 : tyT 320 = some ⟨.ptr 5, 1, 8, [.pointer none]⟩ := Eq.trans rfl rfl
@[go_sem] theorem ty321 : tyT 321 = some ⟨.int .i32, 1, 4, [.int .i32 0]⟩ := Eq.trans rfl rfl
@[go_sem] theorem ty322 : tyT 322 = some ⟨.int .i32, 1, 4, [.int .i32 0]⟩ := Eq.trans rfl rfl
@[go_sem] theorem ty323 : tyT 323 = some ⟨.struct [(0, 12), (1, 12), (2, 123), (3, 317), (4, 5), (5, 5), (6, 318), (7, 319), (8, 320), (9, 321), (10, 322)], 11, 48, [.int .u64 0, .int .u64 0, .int .u32 0, .int .u8 0, .int .u8 0, .int .u8 0, .int .u8 0, .nilFunc, .pointer none, .int .i32 0, .int .i32 0]⟩ := Eq.trans rfl rfl
@[go_sem] theorem ty324 : tyT 324 = some ⟨.struct [(0, 12), (1, 12), (2, 123), (3, 317), (4, 5), (5, 5), (6, 318), (7, 319), (8, 320), (9, 321), (10, 322)], 11, 48, [.int .u64 0, .int .u64 0, .int .u32 0, .int .u8 0, .int .u8 0, .int .u8 0, .int .u8 0, .nilFunc, .pointer none, .int .i32 0, .int .i32 0]⟩ := Eq.trans rfl rfl
@[go_sem] theorem ty335 : tyT 335 = some ⟨.struct [(0, 9), (1, 318)], 2, 24, [.string ⟨#[]⟩, .int .u8 0]⟩ := Eq.trans rfl rfl
@[go_sem] theorem ty336 : tyT 336 = some ⟨.struct [(0, 9), (1, 318)], 2, 24, [.string ⟨#[]⟩, .int .u8 0]⟩ := Eq.trans rfl rfl
@[go_sem] theorem ty338 : tyT 338 = some ⟨.ptr 342, 1, 8, [.pointer none]⟩ := Eq.trans rfl rfl
@[go_sem] theorem ty340 : tyT 340 = some ⟨.int .u16, 1, 2, [.int .u16 0]⟩ := Eq.trans rfl rfl
@[go_sem] theorem ty341 : tyT 341 = some ⟨.struct [(0, 321), (1, 340), (2, 340), (3, 123), (4, 123)], 5, 16, [.int .i32 0, .int .u16 0, .int .u16 0, .int .u32 0, .int .u32 0]⟩ := Eq.trans rfl rfl
@[go_sem] theorem ty342 : tyT 342 = some ⟨.struct [(0, 321), (1, 340), (2, 340), (3, 123), (4, 123)], 5, 16, [.int .i32 0, .int .u16 0, .int .u16 0, .int .u32 0, .int .u32 0]⟩ := Eq.trans rfl rfl
@[go_sem] theorem ty343 : tyT 343 = some ⟨.slice 346, 1, 24, [.slice none 0 0]⟩ := Eq.trans rfl rfl
@[go_sem] theorem ty344 : tyT 344 = some ⟨.int .i32, 1, 4, [.int .i32 0]⟩ := Eq.trans rfl rfl
@[go_sem] theorem ty345 : tyT 345 = some ⟨.struct [(0, 321), (1, 322), (2, 344), (3, 344)], 4, 16, [.int .i32 0, .int .i32 0, .int .i32 0, .int .i32 0]⟩ := Eq.trans rfl rfl
@[go_sem] theorem ty346 : tyT 346 = some ⟨.struct [(0, 321), (1, 322), (2, 344), (3, 344)], 4, 16, [.int .i32 0, .int .i32 0, .int .i32 0, .int .i32 0]⟩ := Eq.trans rfl rfl
@[go_sem] theorem ty347 : tyT 347 = some ⟨.ptr 255, 1, 8, [.pointer none]⟩ := Eq.trans rfl rfl
theorem ok2 : TI.Ok Try.prog 2 ti2 := ⟨by kernel_rfl, by kernel_rfl⟩
theorem ok3 : TI.Ok Try.prog 3 ti3 := ⟨by kernel_rfl, by kernel_rfl⟩
theorem ok4 : TI.Ok Try.prog 4 ti4 := ⟨by kernel_rfl, by kernel_rfl⟩
theorem ok5 : TI.Ok Try.prog 5 ti5 := ⟨by kernel_rfl, by kernel_rfl⟩
theorem ok6 : TI.Ok Try.prog 6 ti6 := ⟨by kernel_rfl, by kernel_rfl⟩
theorem ok7 : TI.Ok Try.prog 7 ti7 := ⟨by kernel_rfl, by kernel_rfl⟩
theorem ok8 : TI.Ok Try.prog 8 ti8 := ⟨by kernel_rfl, by kernel_rfl⟩
theorem ok9 : TI.Ok Try.prog 9 ti9 := ⟨by kernel_rfl, by kernel_rfl⟩
theorem ok10 : TI.Ok Try.prog 10 ti10 := ⟨by kernel_rfl, by kernel_rfl⟩
theorem ok11 : TI.Ok Try.prog 11 ti11 := ⟨by kernel_rfl, by kernel_rfl⟩
theorem ok12 : TI.Ok Try.prog 12 ti12 := ⟨by kernel_rfl, by kernel_rfl⟩
theorem ok13 : TI.Ok Try.prog 13 ti13 := ⟨by kernel_rfl, by kernel_rfl⟩
theorem ok14 : TI.Ok Try.prog 14 ti14 := ⟨by kernel_rfl, by kernel_rfl⟩
theorem ok15 : TI.Ok Try.prog 15 ti15 := ⟨by kernel_rfl, by kernel_rfl⟩
theorem ok16 : TI.Ok Try.prog 16 ti16 := ⟨by kernel_rfl, by kernel_rfl⟩
theorem ok17 : TI.Ok Try.prog 17 ti17 := ⟨by kernel_rfl, by kernel_rfl⟩
theorem ok18 : TI.Ok Try.prog 18 ti18 := ⟨by kernel_rfl, by kernel_rfl⟩
theorem ok19 : TI.Ok Try.prog 19 ti19 := ⟨by kernel_rfl, by kernel_rfl⟩
theorem ok20 : TI.Ok Try.prog 20 ti20 := ⟨by kernel_rfl, by kernel_rfl⟩
theorem ok21 : TI.Ok Try.prog 21 ti21 := ⟨by kernel_rfl, by kernel_rfl⟩
theorem ok22 : TI.Ok Try.prog 22 ti22 := ⟨by kernel_rfl, by kernel_rfl⟩
theorem ok32 : TI.Ok Try.prog 32 ti32 := ⟨by kernel_rfl, by kernel_rfl⟩
theorem ok33 : TI.Ok Try.prog 33 ti33 := ⟨by kernel_rfl, by kernel_rfl⟩
theorem ok34 : TI.Ok Try.prog 34 ti34 := ⟨by kernel_rfl, by kernel_rfl⟩
theorem ok35 : TI.Ok Try.prog 35 ti35 := ⟨by kernel_rfl, by kernel_rfl⟩
theorem ok41 : TI.Ok Try.prog 41 ti41 := ⟨by kernel_rfl, by kernel_rfl⟩
theorem ok42 : TI.Ok Try.prog 42 ti42 := ⟨by kernel_rfl, by kernel_rfl⟩
theorem ok43 : TI.Ok Try.prog 43 ti43 := ⟨by kernel_rfl, by kernel_rfl⟩
theorem ok50 : TI.Ok Try.prog 50 ti50 := ⟨by kernel_rfl, by kernel_rfl⟩
theorem ok51 : TI.Ok Try.prog 51 ti51 := ⟨by kernel_rfl, by kernel_rfl⟩
theorem ok56 : TI.Ok Try.prog 56 ti56 := ⟨by kernel_rfl, by kernel_rfl⟩
theorem ok57 : TI.Ok Try.prog 57 ti57 := ⟨by kernel_rfl, by kernel_rfl⟩
theorem ok58 : TI.Ok Try.prog 58 ti58 := ⟨by kernel_rfl, by kernel_rfl⟩
theorem ok59 : TI.Ok Try.prog 59 ti59 := ⟨by kernel_rfl, by kernel_rfl⟩
theorem ok60 : TI.Ok Try.prog 60 ti60 := ⟨by kernel_rfl, by kernel_rfl⟩
theorem ok68 : TI.Ok Try.prog 68 ti68 := ⟨by kernel_rfl, by kernel_rfl⟩
theorem ok69 : TI.Ok Try.prog 69 ti69 := ⟨by kernel_rfl, by kernel_rfl⟩
theorem ok78 : TI.Ok Try.prog 78 ti78 := ⟨by kernel_rfl, by kernel_rfl⟩
theorem ok83 : TI.Ok Try.prog 83 ti83 := ⟨by kernel_rfl, by kernel_rfl⟩
theorem ok90 : TI.Ok Try.prog 90 ti90 := ⟨by kernel_rfl, by kernel_rfl⟩
theorem ok91 : TI.Ok Try.prog 91 ti91 := ⟨by kernel_rfl, by kernel_rfl⟩
theorem ok99 : TI.Ok Try.prog 99 ti99 := ⟨by kernel_rfl, by kernel_rfl⟩
theorem ok106 : TI.Ok Try.prog 106 ti106 := ⟨by kernel_rfl, by kernel_rfl⟩
theorem ok107 : TI.Ok Try.prog 107 ti107 := ⟨by kernel_rfl, by kernel_rfl⟩
theorem ok108 : TI.Ok Try.prog 108 ti108 := ⟨by kernel_rfl, by kernel_rfl⟩
theorem ok109 : TI.Ok Try.prog 109 ti109 := ⟨by kernel_rfl, by kernel_rfl⟩
theorem ok112 : TI.Ok Try.prog 112 ti112 := ⟨by kernel_rfl, by kernel_rfl⟩
theorem ok113 : TI.Ok Try.prog 113 ti113 := ⟨by kernel_rfl, by kernel_rfl⟩
theorem ok117 : TI.Ok Try.prog 117 ti117 := ⟨by kernel_rfl, by kernel_rfl⟩
theorem ok118 : TI.Ok Try.prog 118 ti118 := ⟨by kernel_rfl, by kernel_rfl⟩
theorem ok121 : TI.Ok Try.prog 121 ti121 := ⟨by kernel_rfl, by kernel_rfl⟩
theorem ok122 : TI.Ok Try.prog 122 ti122 := ⟨by kernel_rfl, by kernel_rfl⟩
theorem ok123 : TI.Ok Try.prog 123 ti123 := ⟨by kernel_rfl, by kernel_rfl⟩
theorem ok124 : TI.Ok Try.prog 124 ti124 := ⟨by kernel_rfl, by kernel_rfl⟩
theorem ok125 : TI.Ok Try.prog 125 ti125 := ⟨by kernel_rfl, by kernel_rfl⟩
theorem ok126 : TI.Ok Try.prog 126 ti126 := ⟨by kernel_rfl, by kernel_rfl⟩
theorem ok127 : TI.Ok Try.prog 127 ti127 := ⟨by kernel_rfl, by kernel_rfl⟩
theorem ok128 : TI.Ok Try.prog 128 ti128 := ⟨by kernel_rfl, by kernel_rfl⟩
theorem ok129 : TI.Ok Try.prog 129 ti129 := ⟨by kernel_rfl, by kernel_rfl⟩
theorem ok130 : TI.Ok Try.prog 130 ti130 := ⟨by kernel_rfl, by kernel_rfl⟩
theorem ok137 : TI.Ok Try.prog 137 ti137 := ⟨by kernel_rfl, by kernel_rfl⟩
theorem ok138 : TI.Ok Try.prog 138 ti138 := ⟨by kernel_rfl, by kernel_rfl⟩
theorem ok148 : TI.Ok Try.prog 148 ti148 := ⟨by kernel_rfl, by kernel_rfl⟩
theorem ok149 : TI.Ok Try.prog 149 ti149 := ⟨by kernel_rfl, by kernel_rfl⟩
theorem ok150 : TI.Ok Try.prog 150 ti150 := ⟨by kernel_rfl, by kernel_rfl⟩
theorem ok151 : TI.Ok Try.prog 151 ti151 := ⟨by kernel_rfl, by kernel_rfl⟩
theorem ok152 : TI.Ok Try.prog 152 ti152 := ⟨by kernel_rfl, by kernel_rfl⟩
theorem ok153 : TI.Ok Try.prog 153 ti153 := ⟨by kernel_rfl, by kernel_rfl⟩
theorem ok160 : TI.Ok Try.prog 160 ti160 := ⟨by kernel_rfl, by kernel_rfl⟩
theorem ok161 : TI.Ok Try.prog 161 ti161 := ⟨by kernel_rfl, by kernel_rfl⟩
theorem ok162 : TI.Ok Try.prog 162 ti162 := ⟨by kernel_rfl, by kernel_rfl⟩
theorem ok163 : TI.Ok Try.prog 163 ti163 := ⟨by kernel_rfl, by kernel_rfl⟩
theorem ok173 : TI.Ok Try.prog 173 ti173 := ⟨by kernel_rfl, by kernel_rfl⟩
theorem ok174 : TI.Ok Try.prog 174 ti174 := ⟨by kernel_rfl, by kernel_rfl⟩
theorem ok175 : TI.Ok Try.prog 175 ti175 := ⟨by kernel_rfl, by kernel_rfl⟩
theorem ok179 : TI.Ok Try.prog 179 ti179 := ⟨by kernel_rfl, by kernel_rfl⟩
theorem ok180 : TI.Ok Try.prog 180 ti180 := ⟨by kernel_rfl, by kernel_rfl⟩
theorem ok181 : TI.Ok Try.prog 181 ti181 := ⟨by kernel_rfl, by kernel_rfl⟩
theorem ok184 : TI.Ok Try.prog 184 ti184 := ⟨by kernel_rfl, by kernel_rfl⟩
theorem ok185 : TI.Ok Try.prog 185 ti185 := ⟨by kernel_rfl, by kernel_rfl⟩
theorem ok186 : TI.Ok Try.prog 186 ti186 := ⟨by kernel_rfl, by kernel_rfl⟩
theorem ok188 : TI.Ok Try.prog 188 ti188 := ⟨by kernel_rfl, by kernel_rfl⟩
theorem ok189 : TI.Ok Try.prog 189 ti189 := ⟨by kernel_rfl, by kernel_rfl⟩
theorem ok192 : TI.Ok Try.prog 192 ti192 := ⟨by kernel_rfl, by kernel_rfl⟩
theorem ok193 : TI.Ok Try.prog 193 ti193 := ⟨by kernel_rfl, by kernel_rfl⟩
theorem ok198 : TI.Ok Try.prog 198 ti198 := ⟨by kernel_rfl, by kernel_rfl⟩
theorem ok200 : TI.Ok Try.prog 200 ti200 := ⟨by kernel_rfl, by kernel_rfl⟩
theorem ok201 : TI.Ok Try.prog 201 ti201 := ⟨by kernel_rfl, by kernel_rfl⟩
theorem ok202 : TI.Ok Try.prog 202 ti202 := ⟨by kernel_rfl, by kernel_rfl⟩
theorem ok203 : TI.Ok Try.prog 203 ti203 := ⟨by kernel_rfl, by kernel_rfl⟩
theorem ok208 : TI.Ok Try.prog 208 ti208 := ⟨by kernel_rfl, by kernel_rfl⟩
theorem ok214 : TI.Ok Try.prog 214 ti214 := ⟨by kernel_rfl, by kernel_rfl⟩
theorem ok215 : TI.Ok Try.prog 215 ti215 := ⟨by kernel_rfl, by kernel_rfl⟩
theorem ok220 : TI.Ok Try.prog 220 ti220 := ⟨by kernel_rfl, by kernel_rfl⟩
theorem ok221 : TI.Ok Try.prog 221 ti221 := ⟨by kernel_rfl, by kernel_rfl⟩
theorem ok222 : TI.Ok Try.prog 222 ti222 := ⟨by kernel_rfl, by kernel_rfl⟩
theorem ok223 : TI.Ok Try.prog 223 ti223 := ⟨by kernel_rfl, by kernel_rfl⟩
theorem ok224 : TI.Ok Try.prog 224 ti224 := ⟨by kernel_rfl, by kernel_rfl⟩
theorem ok227 : TI.Ok Try.prog 227 ti227 := ⟨by kernel_rfl, by kernel_rfl⟩
theorem ok230 : TI.Ok Try.prog 230 ti230 := ⟨by kernel_rfl, by kernel_rfl⟩
theorem ok231 : TI.Ok Try.prog 231 ti231 := ⟨by kernel_rfl, by kernel_rfl⟩
theorem ok232 : TI.Ok Try.prog 232 ti232 := ⟨by kernel_rfl, by kernel_rfl⟩
theorem ok233 : TI.Ok Try.prog 233 ti233 := ⟨by kernel_rfl, by kernel_rfl⟩
theorem ok234 : TI.Ok Try.prog 234 ti234 := ⟨by kernel_rfl, by kernel_rfl⟩
theorem ok237 : TI.Ok Try.prog 237 ti237 := ⟨by kernel_rfl, by kernel_rfl⟩
theorem ok239 : TI.Ok Try.prog 239 ti239 := ⟨by kernel_rfl, by kernel_rfl⟩
theorem ok240 : TI.Ok Try.prog 240 ti240 := ⟨by kernel_rfl, by kernel_rfl⟩
theorem ok242 : TI.Ok Try.prog 242 ti242 := ⟨by kernel_rfl, by kernel_rfl⟩
theorem ok247 : TI.Ok Try.prog 247 ti247 := ⟨by kernel_rfl, by kernel_rfl⟩
theorem ok251 : TI.Ok Try.prog 251 ti251 := ⟨by kernel_rfl, by kernel_rfl⟩
theorem ok253 : TI.Ok Try.prog 253 ti253 := ⟨by kernel_rfl, by kernel_rfl⟩
theorem ok254 : TI.Ok Try.prog 254 ti254 := ⟨by kernel_rfl, by kernel_rfl⟩
theorem ok255 : TI.Ok Try.prog 255 ti255 := ⟨by kernel_rfl, by kernel_rfl⟩
theorem ok256 : TI.Ok Try.prog 256 ti256 := ⟨by kernel_rfl, by kernel_rfl⟩
theorem ok257 : TI.Ok Try.prog 257 ti257 := ⟨by kernel_rfl, by kernel_rfl⟩
theorem ok260 : TI.Ok Try.prog 260 ti260 := ⟨by kernel_rfl, by kernel_rfl⟩
theorem ok261 : TI.Ok Try.prog 261 ti261 := ⟨by kernel_rfl, by kernel_rfl⟩
theorem ok262 : TI.Ok Try.prog 262 ti262 := ⟨by kernel_rfl, by kernel_rfl⟩
theorem ok263 : TI.Ok Try.prog 263 ti263 := ⟨by kernel_rfl, by kernel_rfl⟩
theorem ok264 : TI.Ok Try.prog 264 ti264 := ⟨by kernel_rfl, by kernel_rfl⟩
theorem ok265 : TI.Ok Try.prog 265 ti265 := ⟨by kernel_rfl, by kernel_rfl⟩
theorem ok268 : TI.Ok Try.prog 268 ti268 := ⟨by kernel_rfl, by kernel_rfl⟩
theorem ok270 : TI.Ok Try.prog 270 ti270 := ⟨by kernel_rfl, by kernel_rfl⟩
theorem ok272 : TI.Ok Try.prog 272 ti272 := ⟨by kernel_rfl, by kernel_rfl⟩
theorem ok280 : TI.Ok Try.prog 280 ti280 := ⟨by kernel_rfl, by kernel_rfl⟩
theorem ok281 : TI.Ok Try.prog 281 ti281 := ⟨by kernel_rfl, by kernel_rfl⟩
theorem ok283 : TI.Ok Try.prog 283 ti283 := ⟨by kernel_rfl, by kernel_rfl⟩
theorem ok284 : TI.Ok Try.prog 284 ti284 := ⟨by kernel_rfl, by kernel_rfl⟩
theorem ok287 : TI.Ok Try.prog 287 ti287 := ⟨by kernel_rfl, by kernel_rfl⟩
theorem ok296 : TI.Ok Try.prog 296 ti296 := ⟨by kernel_rfl, by kernel_rfl⟩
theorem ok300 : TI.Ok Try.prog 300 ti300 := ⟨by kernel_rfl, by kernel_rfl⟩
theorem ok302 : TI.Ok Try.prog 302 ti302 := ⟨by kernel_rfl, by kernel_rfl⟩
theorem ok306 : TI.Ok Try.prog 306 ti306 := ⟨by kernel_rfl, by kernel_rfl⟩
theorem ok308 : TI.Ok Try.prog 308 ti308 := ⟨by kernel_rfl, by kernel_rfl⟩
theorem ok312 : TI.Ok Try.prog 312 ti312 := ⟨by kernel_rfl, by kernel_rfl⟩
theorem ok313 : TI.Ok Try.prog 313 ti313 := ⟨by kernel_rfl, by kernel_rfl⟩
theorem ok314 : TI.Ok Try.prog 314 ti314 := ⟨by kernel_rfl, by kernel_rfl⟩
theorem ok315 : TI.Ok Try.prog 315 ti315 := ⟨by kernel_rfl, by kernel_rfl⟩
theorem ok316 : TI.Ok Try.prog 316 ti316 := ⟨by kernel_rfl, by kernel_rfl⟩
theorem ok317 : TI.Ok Try.prog 317 ti317 := ⟨by kernel_rfl, by kernel_rfl⟩
theorem ok318 : TI.Ok Try.prog 318 ti318 := ⟨by kernel_rfl, by kernel_rfl⟩
theorem ok320 : TI.Ok Try.prog 320 ti320 := ⟨by kernel_rfl, by kernel_rfl⟩
theorem ok321 : TI.Ok Try.prog 321 ti321 := ⟨by kernel_rfl, by kernel_rfl⟩
theorem ok322 : TI.Ok Try.prog 322 ti322 := ⟨by kernel_rfl, by kernel_rfl⟩
theorem ok323 : TI.Ok Try.prog 323 ti323 := ⟨by kernel_rfl, by kernel_rfl⟩
theorem ok324 : TI.Ok Try.prog 324 ti324 := ⟨by kernel_rfl, by kernel_rfl⟩
theorem ok335 : TI.Ok Try.prog 335 ti335 := ⟨by kernel_rfl, by kernel_rfl⟩
theorem ok336 : TI.Ok Try.prog 336 ti336 := ⟨by kernel_rfl, by kernel_rfl⟩
theorem ok338 : TI.Ok Try.prog 338 ti338 := ⟨by kernel_rfl, by kernel_rfl⟩
theorem ok340 : TI.Ok Try.prog 340 ti340 := ⟨by kernel_rfl, by kernel_rfl⟩
theorem ok341 : TI.Ok Try.prog 341 ti341 := ⟨by kernel_rfl, by kernel_rfl⟩
theorem ok342 : TI.Ok Try.prog 342 ti342 := ⟨by kernel_rfl, by kernel_rfl⟩
theorem ok343 : TI.Ok Try.prog 343 ti343 := ⟨by kernel_rfl, by kernel_rfl⟩
theorem ok344 : TI.Ok Try.prog 344 ti344 := ⟨by kernel_rfl, by kernel_rfl⟩
theorem ok345 : TI.Ok Try.prog 345 ti345 := ⟨by kernel_rfl, by kernel_rfl⟩
theorem ok346 : TI.Ok Try.prog 346 ti346 := ⟨by kernel_rfl, by kernel_rfl⟩
theorem ok347 : TI.Ok Try.prog 347 ti347 := ⟨by kernel_rfl, by kernel_rfl⟩
theorem tyOk : TOk Try.prog tyT := tok_of tyL Try.prog (.cons ok2 (.cons ok3 (.cons ok4 (.cons ok5 (.cons ok6 (.cons ok7 (.cons ok8 (.cons ok9 (.cons ok10 (.cons ok11 (.cons ok12 (.cons ok13 (.cons ok14 (.cons ok15 (.cons ok16 (.cons ok17 (.cons ok18 (.cons ok19 (.cons ok20 (.cons ok21 (.cons ok22 (.cons ok32 (.cons ok33 (.cons ok34 (.cons ok35 (.cons ok41 (.cons ok42 (.cons ok43 (.cons ok50 (.cons ok51 (.cons ok56 (.cons ok57 (.cons ok58 (.cons ok59 (.cons ok60 (.cons ok68 (.cons ok69 (.cons ok78 (.cons ok83 (.cons ok90 (.cons ok91 (.cons ok99 (.cons ok106 (.cons ok107 (.cons ok108 (.cons ok109 (.cons ok112 (.cons ok113 (.cons ok117 (.cons ok118 (.cons ok121 (.cons ok122 (.cons ok123 (.cons ok124 (.cons ok125 (.cons ok126 (.cons ok127 (.cons ok128 (.cons ok129 (.cons ok130 (.cons ok137 (.cons ok138 (.cons ok148 (.cons ok149 (.cons ok150 (.cons ok151 (.cons ok152 (.cons ok153 (.cons ok160 (.cons ok161 (.cons ok162 (.cons ok163 (.cons ok173 (.cons ok174 (.cons ok175 (.cons ok179 (.cons ok180 (.cons ok181 (.cons ok184 (.cons ok185 (.cons ok186 (.cons ok188 (.cons ok189 (.cons ok192 (.cons ok193 (.cons ok198 (.cons ok200 (.cons ok201 (.cons ok202 (.cons ok203 (.cons ok208 (.cons ok214 (.cons ok215 (.cons ok220 (.cons ok221 (.cons ok222 (.cons ok223 (.cons ok224 (.cons ok227 (.cons ok230 (.cons ok231 (.cons ok232 (.cons ok233 (.cons ok234 (.cons ok237 (.cons ok239 (.cons ok240 (.cons ok242 (.cons ok247 (.cons ok251 (.cons ok253 (.cons ok254 (.cons ok255 (.cons ok256 (.cons ok257 (.cons ok260 (.cons ok261 (.cons ok262 (.cons ok263 (.cons ok264 (.cons ok265 (.cons ok268 (.cons ok270 (.cons ok272 (.cons ok280 (.cons ok281 (.cons ok283 (.cons ok284 (.cons ok287 (.cons ok296 (.cons ok300 (.cons ok302 (.cons ok306 (.cons ok308 (.cons ok312 (.cons ok313 (.cons ok314 (.cons ok315 (.cons ok316 (.cons ok317 (.cons ok318 (.cons ok320 (.cons ok321 (.cons ok322 (.cons ok323 (.cons ok324 (.cons ok335 (.cons ok336 (.cons ok338 (.cons ok340 (.cons ok341 (.cons ok342 (.cons ok343 (.cons ok344 (.cons ok345 (.cons ok346 (.cons ok347 (.nil))))))))))))))))))))))))))))))))))))))))))))))))))))))))))))))))))))))))))))))))))))))))))))))))))))))))))))))))))))))))))))))))))))))))))))))))))))))))))))))
theorem mixed : Try.prog.follows .mixedOrders = true := by kernel_rfl
end Go.Proofs.Ytfmbifnbmlhhjaa
