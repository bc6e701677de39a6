/- The zeros of the seat's types. -/
import Derived.Test.YtbfpgigbakhplaaXs
import Derived.Test.YtbfpgigbakhplaaTab
namespace Go.Proofs.Ytbfpgigbakhplaa
open Go.Proofs.Ytbfpgigbakhplaa.Stm Go.Proofs.Ytbfpgigbakhplaa.By Go.Proofs.Ytbfpgigbakhplaa.Mx Go.Proofs.Ytbfpgigbakhplaa.Ap
theorem zr2 : zeroOf Try.prog 2 = some (Value.int IntKind.i64 0) := by kernel_rfl
theorem zr3 : zeroOf Try.prog 3 = some (Value.int IntKind.i64 0) := by kernel_rfl
theorem zr4 : zeroOf Try.prog 4 = some (Value.bool false) := by kernel_rfl
theorem zr5 : zeroOf Try.prog 5 = some (Value.int IntKind.u8 0) := by kernel_rfl
theorem zr6 : zeroOf Try.prog 6 = some (Value.int IntKind.u8 0) := by kernel_rfl
theorem zr7 : zeroOf Try.prog 7 = some (Value.agg ([Value.int IntKind.i64 0, Value.int IntKind.i64 0, Value.bool false, Value.int IntKind.u8 0]).toArray) := by kernel_rfl
theorem zr8 : zeroOf Try.prog 8 = some (Value.agg ([Value.int IntKind.i64 0, Value.int IntKind.i64 0, Value.bool false, Value.int IntKind.u8 0]).toArray) := by kernel_rfl
theorem zr9 : zeroOf Try.prog 9 = some (str []) := by kernel_rfl
theorem zr10 : zeroOf Try.prog 10 = some (str []) := by kernel_rfl
theorem zr11 : zeroOf Try.prog 11 = some (str []) := by kernel_rfl
theorem zr12 : zeroOf Try.prog 12 = some (Value.int IntKind.u64 0) := by kernel_rfl
theorem zr13 : zeroOf Try.prog 13 = some (Value.agg ([str [], Value.int IntKind.u64 0]).toArray) := by kernel_rfl
theorem zr14 : zeroOf Try.prog 14 = some (Value.agg ([str [], Value.int IntKind.u64 0]).toArray) := by kernel_rfl
theorem zr15 : zeroOf Try.prog 15 = some (Value.pointer none) := by kernel_rfl
theorem zr16 : zeroOf Try.prog 16 = some (Value.pointer none) := by kernel_rfl
theorem zr17 : zeroOf Try.prog 17 = some (Value.pointer none) := by kernel_rfl
theorem zr18 : zeroOf Try.prog 18 = some (Value.agg ([Value.pointer none]).toArray) := by kernel_rfl
theorem zr19 : zeroOf Try.prog 19 = some (Value.agg ([Value.pointer none]).toArray) := by kernel_rfl
theorem zr21 : zeroOf Try.prog 21 = some (Value.int IntKind.i32 0) := by kernel_rfl
theorem zr22 : zeroOf Try.prog 22 = some (Value.agg (cb (zb 256)).toArray) := by kernel_rfl
theorem zr23 : zeroOf Try.prog 23 = some (Value.agg (cb (zb 256)).toArray) := by kernel_rfl
theorem zr25 : zeroOf Try.prog 25 = some (Value.int IntKind.i64 0) := by kernel_rfl
theorem zr28 : zeroOf Try.prog 28 = some (Value.agg (cb (zb 256)).toArray) := by kernel_rfl
theorem zr35 : zeroOf Try.prog 35 = some (Value.slice none 0 0) := by kernel_rfl
theorem zr37 : zeroOf Try.prog 37 = some (Value.slice none 0 0) := by kernel_rfl
theorem zr42 : zeroOf Try.prog 42 = some (Value.int IntKind.u32 0) := by kernel_rfl
theorem zr43 : zeroOf Try.prog 43 = some (Value.int IntKind.u64 0) := by kernel_rfl
theorem zr44 : zeroOf Try.prog 44 = some (Value.agg ([Value.int IntKind.i64 0, Value.int IntKind.i64 0, str [], Value.int IntKind.u32 0, Value.int IntKind.u64 0]).toArray) := by kernel_rfl
theorem zr45 : zeroOf Try.prog 45 = some (Value.agg ([Value.int IntKind.i64 0, Value.int IntKind.i64 0, str [], Value.int IntKind.u32 0, Value.int IntKind.u64 0]).toArray) := by kernel_rfl
theorem zr53 : zeroOf Try.prog 53 = some (Value.slice none 0 0) := by kernel_rfl
theorem zr55 : zeroOf Try.prog 55 = some (Value.slice none 0 0) := by kernel_rfl
theorem zr57 : zeroOf Try.prog 57 = some (Value.slice none 0 0) := by kernel_rfl
theorem zr59 : zeroOf Try.prog 59 = some (Value.agg ([Value.int IntKind.i64 0, str []]).toArray) := by kernel_rfl
theorem zr60 : zeroOf Try.prog 60 = some (Value.agg ([Value.int IntKind.i64 0, str []]).toArray) := by kernel_rfl
theorem zr61 : zeroOf Try.prog 61 = some (Value.slice none 0 0) := by kernel_rfl
theorem zr76 : zeroOf Try.prog 76 = some (Value.pointer none) := by kernel_rfl
theorem zr78 : zeroOf Try.prog 78 = some (Value.agg (cb (zb 32)).toArray) := by kernel_rfl
theorem zr79 : zeroOf Try.prog 79 = some (Value.agg (cb (zb 32)).toArray) := by kernel_rfl
theorem zr88 : zeroOf Try.prog 88 = some (Value.agg ([Value.int IntKind.u32 0] ++ cb (zb 32)).toArray) := by kernel_rfl
theorem zr89 : zeroOf Try.prog 89 = some (Value.agg ([Value.int IntKind.u32 0] ++ cb (zb 32)).toArray) := by kernel_rfl
theorem zr92 : zeroOf Try.prog 92 = some (Value.agg ([Value.int IntKind.u32 0] ++ cb (zb 32)).toArray) := by kernel_rfl
theorem zr93 : zeroOf Try.prog 93 = some (Value.agg ([Value.int IntKind.u32 0] ++ cb (zb 32)).toArray) := by kernel_rfl
theorem zr103 : zeroOf Try.prog 103 = some (Value.agg (repC 4 ([Value.int IntKind.u32 0] ++ cb (zb 32))).toArray) := by kernel_rfl
theorem zr104 : zeroOf Try.prog 104 = some (Value.agg ([Value.int IntKind.i64 0] ++ (repC 4 ([Value.int IntKind.u32 0] ++ cb (zb 32)))).toArray) := by kernel_rfl
theorem zr105 : zeroOf Try.prog 105 = some (Value.agg ([Value.int IntKind.i64 0] ++ (repC 4 ([Value.int IntKind.u32 0] ++ cb (zb 32)))).toArray) := by kernel_rfl
theorem zr108 : zeroOf Try.prog 108 = some (Value.agg (repC 4 ([Value.int IntKind.u32 0] ++ cb (zb 32))).toArray) := by kernel_rfl
theorem zr109 : zeroOf Try.prog 109 = some (Value.agg ([Value.int IntKind.i64 0] ++ (repC 4 ([Value.int IntKind.u32 0] ++ cb (zb 32)))).toArray) := by kernel_rfl
theorem zr110 : zeroOf Try.prog 110 = some (Value.agg ([Value.int IntKind.i64 0] ++ (repC 4 ([Value.int IntKind.u32 0] ++ cb (zb 32)))).toArray) := by kernel_rfl
theorem zr122 : zeroOf Try.prog 122 = some (Value.slice none 0 0) := by kernel_rfl
theorem zr123 : zeroOf Try.prog 123 = some (Value.slice none 0 0) := by kernel_rfl
theorem zr129 : zeroOf Try.prog 129 = some (Value.map none) := by kernel_rfl
theorem zr132 : zeroOf Try.prog 132 = some (Value.agg (cb (zb 4)).toArray) := by kernel_rfl
theorem zr134 : zeroOf Try.prog 134 = some (Value.agg (cb (zb 8)).toArray) := by kernel_rfl
theorem zr140 : zeroOf Try.prog 140 = some (Value.map none) := by kernel_rfl
theorem zr141 : zeroOf Try.prog 141 = some (Value.map none) := by kernel_rfl
theorem zr142 : zeroOf Try.prog 142 = some (Value.slice none 0 0) := by kernel_rfl
theorem zr143 : zeroOf Try.prog 143 = some (Value.agg ([Value.slice none 0 0, Value.map none, Value.map none, Value.int IntKind.i64 0, Value.int IntKind.i64 0, Value.bool false]).toArray) := by kernel_rfl
theorem zr144 : zeroOf Try.prog 144 = some (Value.agg ([Value.slice none 0 0, Value.map none, Value.map none, Value.int IntKind.i64 0, Value.int IntKind.i64 0, Value.bool false]).toArray) := by kernel_rfl
theorem zr145 : zeroOf Try.prog 145 = some (Value.pointer none) := by kernel_rfl
theorem zr149 : zeroOf Try.prog 149 = some (Value.agg ([Value.int IntKind.u8 0, str []]).toArray) := by kernel_rfl
theorem zr150 : zeroOf Try.prog 150 = some (Value.agg ([Value.int IntKind.u8 0, str []]).toArray) := by kernel_rfl
theorem zr156 : zeroOf Try.prog 156 = some (Value.map none) := by kernel_rfl
theorem zr159 : zeroOf Try.prog 159 = some (Value.agg (repC 8 [Value.int IntKind.u32 0]).toArray) := by kernel_rfl
theorem zr160 : zeroOf Try.prog 160 = some (Value.agg (repC 8 [Value.int IntKind.u32 0] ++ [Value.slice none 0 0, Value.int IntKind.i64 0]).toArray) := by kernel_rfl
theorem zr161 : zeroOf Try.prog 161 = some (Value.agg (repC 8 [Value.int IntKind.u32 0] ++ [Value.slice none 0 0, Value.int IntKind.i64 0]).toArray) := by kernel_rfl
theorem zr162 : zeroOf Try.prog 162 = some (Value.int IntKind.u64 0) := by kernel_rfl
theorem zr171 : zeroOf Try.prog 171 = some (Value.int IntKind.i64 0) := by kernel_rfl
theorem zr179 : zeroOf Try.prog 179 = some (Value.agg (repC 16 [Value.int IntKind.u32 0]).toArray) := by kernel_rfl
theorem zr180 : zeroOf Try.prog 180 = some (Value.agg (repC 16 [Value.int IntKind.u32 0]).toArray) := by kernel_rfl
theorem zr181 : zeroOf Try.prog 181 = some (Value.slice none 0 0) := by kernel_rfl
theorem zr185 : zeroOf Try.prog 185 = some (Value.int IntKind.u64 0) := by kernel_rfl
theorem zr189 : zeroOf Try.prog 189 = some (Value.pointer none) := by kernel_rfl
theorem zr193 : zeroOf Try.prog 193 = some (Value.pointer none) := by kernel_rfl
theorem zr200 : zeroOf Try.prog 200 = some (Value.agg ([Value.pointer none, Value.pointer none, Value.pointer none, str []]).toArray) := by kernel_rfl
theorem zr201 : zeroOf Try.prog 201 = some (Value.agg ([Value.pointer none, Value.pointer none, Value.pointer none, str []]).toArray) := by kernel_rfl
theorem zr202 : zeroOf Try.prog 202 = some (Value.agg ([]).toArray) := by kernel_rfl
theorem zr203 : zeroOf Try.prog 203 = some (Value.agg ([]).toArray) := by kernel_rfl
theorem zr204 : zeroOf Try.prog 204 = some (Value.agg ([]).toArray) := by kernel_rfl
theorem zr205 : zeroOf Try.prog 205 = some (Value.int IntKind.u8 0) := by kernel_rfl
theorem zr206 : zeroOf Try.prog 206 = some (Value.int IntKind.u8 0) := by kernel_rfl
theorem zr208 : zeroOf Try.prog 208 = some (Value.pointer none) := by kernel_rfl
theorem zr209 : zeroOf Try.prog 209 = some (Value.int IntKind.i32 0) := by kernel_rfl
theorem zr210 : zeroOf Try.prog 210 = some (Value.int IntKind.i32 0) := by kernel_rfl
theorem bt7 : Try.prog.built 7 [] = some ([Value.int IntKind.i64 0, Value.int IntKind.i64 0, Value.bool false, Value.int IntKind.u8 0]).toArray := by kernel_rfl
theorem bt8 : Try.prog.built 8 [] = some ([Value.int IntKind.i64 0, Value.int IntKind.i64 0, Value.bool false, Value.int IntKind.u8 0]).toArray := by kernel_rfl
theorem bt13 : Try.prog.built 13 [] = some ([str [], Value.int IntKind.u64 0]).toArray := by kernel_rfl
theorem bt14 : Try.prog.built 14 [] = some ([str [], Value.int IntKind.u64 0]).toArray := by kernel_rfl
theorem bt18 : Try.prog.built 18 [] = some ([Value.pointer none]).toArray := by kernel_rfl
theorem bt19 : Try.prog.built 19 [] = some ([Value.pointer none]).toArray := by kernel_rfl
theorem bt22 : Try.prog.built 22 [] = some (cb (zb 256)).toArray := by kernel_rfl
theorem bt23 : Try.prog.built 23 [] = some (cb (zb 256)).toArray := by kernel_rfl
theorem bt28 : Try.prog.built 28 [] = some (cb (zb 256)).toArray := by kernel_rfl
theorem bt44 : Try.prog.built 44 [] = some ([Value.int IntKind.i64 0, Value.int IntKind.i64 0, str [], Value.int IntKind.u32 0, Value.int IntKind.u64 0]).toArray := by kernel_rfl
theorem bt45 : Try.prog.built 45 [] = some ([Value.int IntKind.i64 0, Value.int IntKind.i64 0, str [], Value.int IntKind.u32 0, Value.int IntKind.u64 0]).toArray := by kernel_rfl
theorem bt59 : Try.prog.built 59 [] = some ([Value.int IntKind.i64 0, str []]).toArray := by kernel_rfl
theorem bt60 : Try.prog.built 60 [] = some ([Value.int IntKind.i64 0, str []]).toArray := by kernel_rfl
theorem bt78 : Try.prog.built 78 [] = some (cb (zb 32)).toArray := by kernel_rfl
theorem bt79 : Try.prog.built 79 [] = some (cb (zb 32)).toArray := by kernel_rfl
theorem bt88 : Try.prog.built 88 [] = some ([Value.int IntKind.u32 0] ++ cb (zb 32)).toArray := by kernel_rfl
theorem bt89 : Try.prog.built 89 [] = some ([Value.int IntKind.u32 0] ++ cb (zb 32)).toArray := by kernel_rfl
theorem bt92 : Try.prog.built 92 [] = some ([Value.int IntKind.u32 0] ++ cb (zb 32)).toArray := by kernel_rfl
theorem bt93 : Try.prog.built 93 [] = some ([Value.int IntKind.u32 0] ++ cb (zb 32)).toArray := by kernel_rfl
theorem bt103 : Try.prog.built 103 [] = some (repC 4 ([Value.int IntKind.u32 0] ++ cb (zb 32))).toArray := by kernel_rfl
theorem bt104 : Try.prog.built 104 [] = some ([Value.int IntKind.i64 0] ++ (repC 4 ([Value.int IntKind.u32 0] ++ cb (zb 32)))).toArray := by kernel_rfl
theorem bt105 : Try.prog.built 105 [] = some ([Value.int IntKind.i64 0] ++ (repC 4 ([Value.int IntKind.u32 0] ++ cb (zb 32)))).toArray := by kernel_rfl
theorem bt108 : Try.prog.built 108 [] = some (repC 4 ([Value.int IntKind.u32 0] ++ cb (zb 32))).toArray := by kernel_rfl
theorem bt109 : Try.prog.built 109 [] = some ([Value.int IntKind.i64 0] ++ (repC 4 ([Value.int IntKind.u32 0] ++ cb (zb 32)))).toArray := by kernel_rfl
theorem bt110 : Try.prog.built 110 [] = some ([Value.int IntKind.i64 0] ++ (repC 4 ([Value.int IntKind.u32 0] ++ cb (zb 32)))).toArray := by kernel_rfl
theorem bt132 : Try.prog.built 132 [] = some (cb (zb 4)).toArray := by kernel_rfl
theorem bt134 : Try.prog.built 134 [] = some (cb (zb 8)).toArray := by kernel_rfl
theorem bt143 : Try.prog.built 143 [] = some ([Value.slice none 0 0, Value.map none, Value.map none, Value.int IntKind.i64 0, Value.int IntKind.i64 0, Value.bool false]).toArray := by kernel_rfl
theorem bt144 : Try.prog.built 144 [] = some ([Value.slice none 0 0, Value.map none, Value.map none, Value.int IntKind.i64 0, Value.int IntKind.i64 0, Value.bool false]).toArray := by kernel_rfl
theorem bt149 : Try.prog.built 149 [] = some ([Value.int IntKind.u8 0, str []]).toArray := by kernel_rfl
theorem bt150 : Try.prog.built 150 [] = some ([Value.int IntKind.u8 0, str []]).toArray := by kernel_rfl
theorem bt159 : Try.prog.built 159 [] = some (repC 8 [Value.int IntKind.u32 0]).toArray := by kernel_rfl
theorem bt160 : Try.prog.built 160 [] = some (repC 8 [Value.int IntKind.u32 0] ++ [Value.slice none 0 0, Value.int IntKind.i64 0]).toArray := by kernel_rfl
theorem bt161 : Try.prog.built 161 [] = some (repC 8 [Value.int IntKind.u32 0] ++ [Value.slice none 0 0, Value.int IntKind.i64 0]).toArray := by kernel_rfl
theorem bt179 : Try.prog.built 179 [] = some (repC 16 [Value.int IntKind.u32 0]).toArray := by kernel_rfl
theorem bt180 : Try.prog.built 180 [] = some (repC 16 [Value.int IntKind.u32 0]).toArray := by kernel_rfl
theorem bt200 : Try.prog.built 200 [] = some ([Value.pointer none, Value.pointer none, Value.pointer none, str []]).toArray := by kernel_rfl
theorem bt201 : Try.prog.built 201 [] = some ([Value.pointer none, Value.pointer none, Value.pointer none, str []]).toArray := by kernel_rfl
theorem bt202 : Try.prog.built 202 [] = some ([]).toArray := by kernel_rfl
theorem bt203 : Try.prog.built 203 [] = some ([]).toArray := by kernel_rfl
theorem bt204 : Try.prog.built 204 [] = some ([]).toArray := by kernel_rfl
def zlist : List (Nat × Value) := [
  (2, Value.int IntKind.i64 0),
  (3, Value.int IntKind.i64 0),
  (4, Value.bool false),
  (5, Value.int IntKind.u8 0),
  (6, Value.int IntKind.u8 0),
  (7, Value.agg ([Value.int IntKind.i64 0, Value.int IntKind.i64 0, Value.bool false, Value.int IntKind.u8 0]).toArray),
  (8, Value.agg ([Value.int IntKind.i64 0, Value.int IntKind.i64 0, Value.bool false, Value.int IntKind.u8 0]).toArray),
  (9, str []),
  (10, str []),
  (11, str []),
  (12, Value.int IntKind.u64 0),
  (13, Value.agg ([str [], Value.int IntKind.u64 0]).toArray),
  (14, Value.agg ([str [], Value.int IntKind.u64 0]).toArray),
  (15, Value.pointer none),
  (16, Value.pointer none),
  (17, Value.pointer none),
  (18, Value.agg ([Value.pointer none]).toArray),
  (19, Value.agg ([Value.pointer none]).toArray),
  (21, Value.int IntKind.i32 0),
  (22, Value.agg (cb (zb 256)).toArray),
  (23, Value.agg (cb (zb 256)).toArray),
  (25, Value.int IntKind.i64 0),
  (28, Value.agg (cb (zb 256)).toArray),
  (35, Value.slice none 0 0),
  (37, Value.slice none 0 0),
  (42, Value.int IntKind.u32 0),
  (43, Value.int IntKind.u64 0),
  (44, Value.agg ([Value.int IntKind.i64 0, Value.int IntKind.i64 0, str [], Value.int IntKind.u32 0, Value.int IntKind.u64 0]).toArray),
  (45, Value.agg ([Value.int IntKind.i64 0, Value.int IntKind.i64 0, str [], Value.int IntKind.u32 0, Value.int IntKind.u64 0]).toArray),
  (53, Value.slice none 0 0),
  (55, Value.slice none 0 0),
  (57, Value.slice none 0 0),
  (59, Value.agg ([Value.int IntKind.i64 0, str []]).toArray),
  (60, Value.agg ([Value.int IntKind.i64 0, str []]).toArray),
  (61, Value.slice none 0 0),
  (76, Value.pointer none),
  (78, Value.agg (cb (zb 32)).toArray),
  (79, Value.agg (cb (zb 32)).toArray),
  (88, Value.agg ([Value.int IntKind.u32 0] ++ cb (zb 32)).toArray),
  (89, Value.agg ([Value.int IntKind.u32 0] ++ cb (zb 32)).toArray),
  (92, Value.agg ([Value.int IntKind.u32 0] ++ cb (zb 32)).toArray),
  (93, Value.agg ([Value.int IntKind.u32 0] ++ cb (zb 32)).toArray),
  (103, Value.agg (repC 4 ([Value.int IntKind.u32 0] ++ cb (zb 32))).toArray),
  (104, Value.agg ([Value.int IntKind.i64 0] ++ (repC 4 ([Value.int IntKind.u32 0] ++ cb (zb 32)))).toArray),
  (105, Value.agg ([Value.int IntKind.i64 0] ++ (repC 4 ([Value.int IntKind.u32 0] ++ cb (zb 32)))).toArray),
  (108, Value.agg (repC 4 ([Value.int IntKind.u32 0] ++ cb (zb 32))).toArray),
  (109, Value.agg ([Value.int IntKind.i64 0] ++ (repC 4 ([Value.int IntKind.u32 0] ++ cb (zb 32)))).toArray),
  (110, Value.agg ([Value.int IntKind.i64 0] ++ (repC 4 ([Value.int IntKind.u32 0] ++ cb (zb 32)))).toArray),
  (122, Value.slice none 0 0),
  (123, Value.slice none 0 0),
  (129, Value.map none),
  (132, Value.agg (cb (zb 4)).toArray),
  (134, Value.agg (cb (zb 8)).toArray),
  (140, Value.map none),
  (141, Value.map none),
  (142, Value.slice none 0 0),
  (143, Value.agg ([Value.slice none 0 0, Value.map none, Value.map none, Value.int IntKind.i64 0, Value.int IntKind.i64 0, Value.bool false]).toArray),
  (144, Value.agg ([Value.slice none 0 0, Value.map none, Value.map none, Value.int IntKind.i64 0, Value.int IntKind.i64 0, Value.bool false]).toArray),
  (145, Value.pointer none),
  (149, Value.agg ([Value.int IntKind.u8 0, str []]).toArray),
  (150, Value.agg ([Value.int IntKind.u8 0, str []]).toArray),
  (156, Value.map none),
  (159, Value.agg (repC 8 [Value.int IntKind.u32 0]).toArray),
  (160, Value.agg (repC 8 [Value.int IntKind.u32 0] ++ [Value.slice none 0 0, Value.int IntKind.i64 0]).toArray),
  (161, Value.agg (repC 8 [Value.int IntKind.u32 0] ++ [Value.slice none 0 0, Value.int IntKind.i64 0]).toArray),
  (162, Value.int IntKind.u64 0),
  (171, Value.int IntKind.i64 0),
  (179, Value.agg (repC 16 [Value.int IntKind.u32 0]).toArray),
  (180, Value.agg (repC 16 [Value.int IntKind.u32 0]).toArray),
  (181, Value.slice none 0 0),
  (185, Value.int IntKind.u64 0),
  (189, Value.pointer none),
  (193, Value.pointer none),
  (200, Value.agg ([Value.pointer none, Value.pointer none, Value.pointer none, str []]).toArray),
  (201, Value.agg ([Value.pointer none, Value.pointer none, Value.pointer none, str []]).toArray),
  (202, Value.agg ([]).toArray),
  (203, Value.agg ([]).toArray),
  (204, Value.agg ([]).toArray),
  (205, Value.int IntKind.u8 0),
  (206, Value.int IntKind.u8 0),
  (208, Value.pointer none),
  (209, Value.int IntKind.i32 0),
  (210, Value.int IntKind.i32 0)]
def blist : List (Nat × List Value) := [
  (7, [Value.int IntKind.i64 0, Value.int IntKind.i64 0, Value.bool false, Value.int IntKind.u8 0]),
  (8, [Value.int IntKind.i64 0, Value.int IntKind.i64 0, Value.bool false, Value.int IntKind.u8 0]),
  (13, [str [], Value.int IntKind.u64 0]),
  (14, [str [], Value.int IntKind.u64 0]),
  (18, [Value.pointer none]),
  (19, [Value.pointer none]),
  (22, cb (zb 256)),
  (23, cb (zb 256)),
  (28, cb (zb 256)),
  (44, [Value.int IntKind.i64 0, Value.int IntKind.i64 0, str [], Value.int IntKind.u32 0, Value.int IntKind.u64 0]),
  (45, [Value.int IntKind.i64 0, Value.int IntKind.i64 0, str [], Value.int IntKind.u32 0, Value.int IntKind.u64 0]),
  (59, [Value.int IntKind.i64 0, str []]),
  (60, [Value.int IntKind.i64 0, str []]),
  (78, cb (zb 32)),
  (79, cb (zb 32)),
  (88, [Value.int IntKind.u32 0] ++ cb (zb 32)),
  (89, [Value.int IntKind.u32 0] ++ cb (zb 32)),
  (92, [Value.int IntKind.u32 0] ++ cb (zb 32)),
  (93, [Value.int IntKind.u32 0] ++ cb (zb 32)),
  (103, repC 4 ([Value.int IntKind.u32 0] ++ cb (zb 32))),
  (104, [Value.int IntKind.i64 0] ++ (repC 4 ([Value.int IntKind.u32 0] ++ cb (zb 32)))),
  (105, [Value.int IntKind.i64 0] ++ (repC 4 ([Value.int IntKind.u32 0] ++ cb (zb 32)))),
  (108, repC 4 ([Value.int IntKind.u32 0] ++ cb (zb 32))),
  (109, [Value.int IntKind.i64 0] ++ (repC 4 ([Value.int IntKind.u32 0] ++ cb (zb 32)))),
  (110, [Value.int IntKind.i64 0] ++ (repC 4 ([Value.int IntKind.u32 0] ++ cb (zb 32)))),
  (132, cb (zb 4)),
  (134, cb (zb 8)),
  (143, [Value.slice none 0 0, Value.map none, Value.map none, Value.int IntKind.i64 0, Value.int IntKind.i64 0, Value.bool false]),
  (144, [Value.slice none 0 0, Value.map none, Value.map none, Value.int IntKind.i64 0, Value.int IntKind.i64 0, Value.bool false]),
  (149, [Value.int IntKind.u8 0, str []]),
  (150, [Value.int IntKind.u8 0, str []]),
  (159, repC 8 [Value.int IntKind.u32 0]),
  (160, repC 8 [Value.int IntKind.u32 0] ++ [Value.slice none 0 0, Value.int IntKind.i64 0]),
  (161, repC 8 [Value.int IntKind.u32 0] ++ [Value.slice none 0 0, Value.int IntKind.i64 0]),
  (179, repC 16 [Value.int IntKind.u32 0]),
  (180, repC 16 [Value.int IntKind.u32 0]),
  (200, [Value.pointer none, Value.pointer none, Value.pointer none, str []]),
  (201, [Value.pointer none, Value.pointer none, Value.pointer none, str []]),
  (202, []),
  (203, []),
  (204, [])]
theorem zlist_ok : AllZr Try.prog zlist := ⟨zr2, zr3, zr4, zr5, zr6, zr7, zr8, zr9, zr10, zr11, zr12, zr13, zr14, zr15, zr16, zr17, zr18, zr19, zr21, zr22, zr23, zr25, zr28, zr35, zr37, zr42, zr43, zr44, zr45, zr53, zr55, zr57, zr59, zr60, zr61, zr76, zr78, zr79, zr88, zr89, zr92, zr93, zr103, zr104, zr105, zr108, zr109, zr110, zr122, zr123, zr129, zr132, zr134, zr140, zr141, zr142, zr143, zr144, zr145, zr149, zr150, zr156, zr159, zr160, zr161, zr162, zr171, zr179, zr180, zr181, zr185, zr189, zr193, zr200, zr201, zr202, zr203, zr204, zr205, zr206, zr208, zr209, zr210, trivial⟩
theorem blist_ok : AllBt Try.prog blist := ⟨bt7, bt8, bt13, bt14, bt18, bt19, bt22, bt23, bt28, bt44, bt45, bt59, bt60, bt78, bt79, bt88, bt89, bt92, bt93, bt103, bt104, bt105, bt108, bt109, bt110, bt132, bt134, bt143, bt144, bt149, bt150, bt159, bt160, bt161, bt179, bt180, bt200, bt201, bt202, bt203, bt204, trivial⟩
theorem if2 : infoOf Try.prog 2 = some (some (Value.int IntKind.i64 0), 1, 8) ∧ (Value.int IntKind.i64 0 : Value).cells.size = 1 ∧ 0 < 1 ∧ 0 < 8 ∧ 1 ≤ 16777216 := ⟨by kernel_rfl, rfl, by decide, by decide, by decide⟩
theorem if3 : infoOf Try.prog 3 = some (some (Value.int IntKind.i64 0), 1, 8) ∧ (Value.int IntKind.i64 0 : Value).cells.size = 1 ∧ 0 < 1 ∧ 0 < 8 ∧ 1 ≤ 16777216 := ⟨by kernel_rfl, rfl, by decide, by decide, by decide⟩
theorem if4 : infoOf Try.prog 4 = some (some (Value.bool false), 1, 1) ∧ (Value.bool false : Value).cells.size = 1 ∧ 0 < 1 ∧ 0 < 1 ∧ 1 ≤ 16777216 := ⟨by kernel_rfl, rfl, by decide, by decide, by decide⟩
theorem if5 : infoOf Try.prog 5 = some (some (Value.int IntKind.u8 0), 1, 1) ∧ (Value.int IntKind.u8 0 : Value).cells.size = 1 ∧ 0 < 1 ∧ 0 < 1 ∧ 1 ≤ 16777216 := ⟨by kernel_rfl, rfl, by decide, by decide, by decide⟩
theorem if6 : infoOf Try.prog 6 = some (some (Value.int IntKind.u8 0), 1, 1) ∧ (Value.int IntKind.u8 0 : Value).cells.size = 1 ∧ 0 < 1 ∧ 0 < 1 ∧ 1 ≤ 16777216 := ⟨by kernel_rfl, rfl, by decide, by decide, by decide⟩
theorem if7 : infoOf Try.prog 7 = some (some (Value.agg ([Value.int IntKind.i64 0, Value.int IntKind.i64 0, Value.bool false, Value.int IntKind.u8 0]).toArray), 4, 24) ∧ (Value.agg ([Value.int IntKind.i64 0, Value.int IntKind.i64 0, Value.bool false, Value.int IntKind.u8 0]).toArray : Value).cells.size = 4 ∧ 0 < 4 ∧ 0 < 24 ∧ 4 ≤ 16777216 := ⟨by kernel_rfl, rfl, by decide, by decide, by decide⟩
theorem if8 : infoOf Try.prog 8 = some (some (Value.agg ([Value.int IntKind.i64 0, Value.int IntKind.i64 0, Value.bool false, Value.int IntKind.u8 0]).toArray), 4, 24) ∧ (Value.agg ([Value.int IntKind.i64 0, Value.int IntKind.i64 0, Value.bool false, Value.int IntKind.u8 0]).toArray : Value).cells.size = 4 ∧ 0 < 4 ∧ 0 < 24 ∧ 4 ≤ 16777216 := ⟨by kernel_rfl, rfl, by decide, by decide, by decide⟩
theorem if9 : infoOf Try.prog 9 = some (some (str []), 1, 16) ∧ (str [] : Value).cells.size = 1 ∧ 0 < 1 ∧ 0 < 16 ∧ 1 ≤ 16777216 := ⟨by kernel_rfl, rfl, by decide, by decide, by decide⟩
theorem if10 : infoOf Try.prog 10 = some (some (str []), 1, 16) ∧ (str [] : Value).cells.size = 1 ∧ 0 < 1 ∧ 0 < 16 ∧ 1 ≤ 16777216 := ⟨by kernel_rfl, rfl, by decide, by decide, by decide⟩
theorem if11 : infoOf Try.prog 11 = some (some (str []), 1, 16) ∧ (str [] : Value).cells.size = 1 ∧ 0 < 1 ∧ 0 < 16 ∧ 1 ≤ 16777216 := ⟨by kernel_rfl, rfl, by decide, by decide, by decide⟩
theorem if12 : infoOf Try.prog 12 = some (some (Value.int IntKind.u64 0), 1, 8) ∧ (Value.int IntKind.u64 0 : Value).cells.size = 1 ∧ 0 < 1 ∧ 0 < 8 ∧ 1 ≤ 16777216 := ⟨by kernel_rfl, rfl, by decide, by decide, by decide⟩
theorem if13 : infoOf Try.prog 13 = some (some (Value.agg ([str [], Value.int IntKind.u64 0]).toArray), 2, 24) ∧ (Value.agg ([str [], Value.int IntKind.u64 0]).toArray : Value).cells.size = 2 ∧ 0 < 2 ∧ 0 < 24 ∧ 2 ≤ 16777216 := ⟨by kernel_rfl, rfl, by decide, by decide, by decide⟩
theorem if14 : infoOf Try.prog 14 = some (some (Value.agg ([str [], Value.int IntKind.u64 0]).toArray), 2, 24) ∧ (Value.agg ([str [], Value.int IntKind.u64 0]).toArray : Value).cells.size = 2 ∧ 0 < 2 ∧ 0 < 24 ∧ 2 ≤ 16777216 := ⟨by kernel_rfl, rfl, by decide, by decide, by decide⟩
theorem if15 : infoOf Try.prog 15 = some (some (Value.pointer none), 1, 8) ∧ (Value.pointer none : Value).cells.size = 1 ∧ 0 < 1 ∧ 0 < 8 ∧ 1 ≤ 16777216 := ⟨by kernel_rfl, rfl, by decide, by decide, by decide⟩
theorem if16 : infoOf Try.prog 16 = some (some (Value.pointer none), 1, 8) ∧ (Value.pointer none : Value).cells.size = 1 ∧ 0 < 1 ∧ 0 < 8 ∧ 1 ≤ 16777216 := ⟨by kernel_rfl, rfl, by decide, by decide, by decide⟩
theorem if17 : infoOf Try.prog 17 = some (some (Value.pointer none), 1, 8) ∧ (Value.pointer none : Value).cells.size = 1 ∧ 0 < 1 ∧ 0 < 8 ∧ 1 ≤ 16777216 := ⟨by kernel_rfl, rfl, by decide, by decide, by decide⟩
theorem if18 : infoOf Try.prog 18 = some (some (Value.agg ([Value.pointer none]).toArray), 1, 8) ∧ (Value.agg ([Value.pointer none]).toArray : Value).cells.size = 1 ∧ 0 < 1 ∧ 0 < 8 ∧ 1 ≤ 16777216 := ⟨by kernel_rfl, rfl, by decide, by decide, by decide⟩
theorem if19 : infoOf Try.prog 19 = some (some (Value.agg ([Value.pointer none]).toArray), 1, 8) ∧ (Value.agg ([Value.pointer none]).toArray : Value).cells.size = 1 ∧ 0 < 1 ∧ 0 < 8 ∧ 1 ≤ 16777216 := ⟨by kernel_rfl, rfl, by decide, by decide, by decide⟩
theorem if21 : infoOf Try.prog 21 = some (some (Value.int IntKind.i32 0), 1, 4) ∧ (Value.int IntKind.i32 0 : Value).cells.size = 1 ∧ 0 < 1 ∧ 0 < 4 ∧ 1 ≤ 16777216 := ⟨by kernel_rfl, rfl, by decide, by decide, by decide⟩
theorem if22 : infoOf Try.prog 22 = some (some (Value.agg (cb (zb 256)).toArray), 256, 256) ∧ (Value.agg (cb (zb 256)).toArray : Value).cells.size = 256 ∧ 0 < 256 ∧ 0 < 256 ∧ 256 ≤ 16777216 := ⟨by kernel_rfl, by decide +kernel, by decide, by decide, by decide⟩
theorem if23 : infoOf Try.prog 23 = some (some (Value.agg (cb (zb 256)).toArray), 256, 256) ∧ (Value.agg (cb (zb 256)).toArray : Value).cells.size = 256 ∧ 0 < 256 ∧ 0 < 256 ∧ 256 ≤ 16777216 := ⟨by kernel_rfl, by decide +kernel, by decide, by decide, by decide⟩
theorem if25 : infoOf Try.prog 25 = some (some (Value.int IntKind.i64 0), 1, 8) ∧ (Value.int IntKind.i64 0 : Value).cells.size = 1 ∧ 0 < 1 ∧ 0 < 8 ∧ 1 ≤ 16777216 := ⟨by kernel_rfl, rfl, by decide, by decide, by decide⟩
theorem if28 : infoOf Try.prog 28 = some (some (Value.agg (cb (zb 256)).toArray), 256, 256) ∧ (Value.agg (cb (zb 256)).toArray : Value).cells.size = 256 ∧ 0 < 256 ∧ 0 < 256 ∧ 256 ≤ 16777216 := ⟨by kernel_rfl, by decide +kernel, by decide, by decide, by decide⟩
theorem if35 : infoOf Try.prog 35 = some (some (Value.slice none 0 0), 1, 24) ∧ (Value.slice none 0 0 : Value).cells.size = 1 ∧ 0 < 1 ∧ 0 < 24 ∧ 1 ≤ 16777216 := ⟨by kernel_rfl, rfl, by decide, by decide, by decide⟩
theorem if37 : infoOf Try.prog 37 = some (some (Value.slice none 0 0), 1, 24) ∧ (Value.slice none 0 0 : Value).cells.size = 1 ∧ 0 < 1 ∧ 0 < 24 ∧ 1 ≤ 16777216 := ⟨by kernel_rfl, rfl, by decide, by decide, by decide⟩
theorem if42 : infoOf Try.prog 42 = some (some (Value.int IntKind.u32 0), 1, 4) ∧ (Value.int IntKind.u32 0 : Value).cells.size = 1 ∧ 0 < 1 ∧ 0 < 4 ∧ 1 ≤ 16777216 := ⟨by kernel_rfl, rfl, by decide, by decide, by decide⟩
theorem if43 : infoOf Try.prog 43 = some (some (Value.int IntKind.u64 0), 1, 8) ∧ (Value.int IntKind.u64 0 : Value).cells.size = 1 ∧ 0 < 1 ∧ 0 < 8 ∧ 1 ≤ 16777216 := ⟨by kernel_rfl, rfl, by decide, by decide, by decide⟩
theorem if44 : infoOf Try.prog 44 = some (some (Value.agg ([Value.int IntKind.i64 0, Value.int IntKind.i64 0, str [], Value.int IntKind.u32 0, Value.int IntKind.u64 0]).toArray), 5, 48) ∧ (Value.agg ([Value.int IntKind.i64 0, Value.int IntKind.i64 0, str [], Value.int IntKind.u32 0, Value.int IntKind.u64 0]).toArray : Value).cells.size = 5 ∧ 0 < 5 ∧ 0 < 48 ∧ 5 ≤ 16777216 := ⟨by kernel_rfl, rfl, by decide, by decide, by decide⟩
theorem if45 : infoOf Try.prog 45 = some (some (Value.agg ([Value.int IntKind.i64 0, Value.int IntKind.i64 0, str [], Value.int IntKind.u32 0, Value.int IntKind.u64 0]).toArray), 5, 48) ∧ (Value.agg ([Value.int IntKind.i64 0, Value.int IntKind.i64 0, str [], Value.int IntKind.u32 0, Value.int IntKind.u64 0]).toArray : Value).cells.size = 5 ∧ 0 < 5 ∧ 0 < 48 ∧ 5 ≤ 16777216 := ⟨by kernel_rfl, rfl, by decide, by decide, by decide⟩
theorem if53 : infoOf Try.prog 53 = some (some (Value.slice none 0 0), 1, 24) ∧ (Value.slice none 0 0 : Value).cells.size = 1 ∧ 0 < 1 ∧ 0 < 24 ∧ 1 ≤ 16777216 := ⟨by kernel_rfl, rfl, by decide, by decide, by decide⟩
theorem if55 : infoOf Try.prog 55 = some (some (Value.slice none 0 0), 1, 24) ∧ (Value.slice none 0 0 : Value).cells.size = 1 ∧ 0 < 1 ∧ 0 < 24 ∧ 1 ≤ 16777216 := ⟨by kernel_rfl, rfl, by decide, by decide, by decide⟩
theorem if57 : infoOf Try.prog 57 = some (some (Value.slice none 0 0), 1, 24) ∧ (Value.slice none 0 0 : Value).cells.size = 1 ∧ 0 < 1 ∧ 0 < 24 ∧ 1 ≤ 16777216 := ⟨by kernel_rfl, rfl, by decide, by decide, by decide⟩
theorem if59 : infoOf Try.prog 59 = some (some (Value.agg ([Value.int IntKind.i64 0, str []]).toArray), 2, 24) ∧ (Value.agg ([Value.int IntKind.i64 0, str []]).toArray : Value).cells.size = 2 ∧ 0 < 2 ∧ 0 < 24 ∧ 2 ≤ 16777216 := ⟨by kernel_rfl, rfl, by decide, by decide, by decide⟩
theorem if60 : infoOf Try.prog 60 = some (some (Value.agg ([Value.int IntKind.i64 0, str []]).toArray), 2, 24) ∧ (Value.agg ([Value.int IntKind.i64 0, str []]).toArray : Value).cells.size = 2 ∧ 0 < 2 ∧ 0 < 24 ∧ 2 ≤ 16777216 := ⟨by kernel_rfl, rfl, by decide, by decide, by decide⟩
theorem if61 : infoOf Try.prog 61 = some (some (Value.slice none 0 0), 1, 24) ∧ (Value.slice none 0 0 : Value).cells.size = 1 ∧ 0 < 1 ∧ 0 < 24 ∧ 1 ≤ 16777216 := ⟨by kernel_rfl, rfl, by decide, by decide, by decide⟩
theorem if76 : infoOf Try.prog 76 = some (some (Value.pointer none), 1, 8) ∧ (Value.pointer none : Value).cells.size = 1 ∧ 0 < 1 ∧ 0 < 8 ∧ 1 ≤ 16777216 := ⟨by kernel_rfl, rfl, by decide, by decide, by decide⟩
theorem if78 : infoOf Try.prog 78 = some (some (Value.agg (cb (zb 32)).toArray), 32, 32) ∧ (Value.agg (cb (zb 32)).toArray : Value).cells.size = 32 ∧ 0 < 32 ∧ 0 < 32 ∧ 32 ≤ 16777216 := ⟨by kernel_rfl, by decide +kernel, by decide, by decide, by decide⟩
theorem if79 : infoOf Try.prog 79 = some (some (Value.agg (cb (zb 32)).toArray), 32, 32) ∧ (Value.agg (cb (zb 32)).toArray : Value).cells.size = 32 ∧ 0 < 32 ∧ 0 < 32 ∧ 32 ≤ 16777216 := ⟨by kernel_rfl, by decide +kernel, by decide, by decide, by decide⟩
theorem if88 : infoOf Try.prog 88 = some (some (Value.agg ([Value.int IntKind.u32 0] ++ cb (zb 32)).toArray), 33, 36) ∧ (Value.agg ([Value.int IntKind.u32 0] ++ cb (zb 32)).toArray : Value).cells.size = 33 ∧ 0 < 33 ∧ 0 < 36 ∧ 33 ≤ 16777216 := ⟨by kernel_rfl, by decide +kernel, by decide, by decide, by decide⟩
theorem if89 : infoOf Try.prog 89 = some (some (Value.agg ([Value.int IntKind.u32 0] ++ cb (zb 32)).toArray), 33, 36) ∧ (Value.agg ([Value.int IntKind.u32 0] ++ cb (zb 32)).toArray : Value).cells.size = 33 ∧ 0 < 33 ∧ 0 < 36 ∧ 33 ≤ 16777216 := ⟨by kernel_rfl, by decide +kernel, by decide, by decide, by decide⟩
theorem if92 : infoOf Try.prog 92 = some (some (Value.agg ([Value.int IntKind.u32 0] ++ cb (zb 32)).toArray), 33, 36) ∧ (Value.agg ([Value.int IntKind.u32 0] ++ cb (zb 32)).toArray : Value).cells.size = 33 ∧ 0 < 33 ∧ 0 < 36 ∧ 33 ≤ 16777216 := ⟨by kernel_rfl, by decide +kernel, by decide, by decide, by decide⟩
theorem if93 : infoOf Try.prog 93 = some (some (Value.agg ([Value.int IntKind.u32 0] ++ cb (zb 32)).toArray), 33, 36) ∧ (Value.agg ([Value.int IntKind.u32 0] ++ cb (zb 32)).toArray : Value).cells.size = 33 ∧ 0 < 33 ∧ 0 < 36 ∧ 33 ≤ 16777216 := ⟨by kernel_rfl, by decide +kernel, by decide, by decide, by decide⟩
theorem if103 : infoOf Try.prog 103 = some (some (Value.agg (repC 4 ([Value.int IntKind.u32 0] ++ cb (zb 32))).toArray), 132, 144) ∧ (Value.agg (repC 4 ([Value.int IntKind.u32 0] ++ cb (zb 32))).toArray : Value).cells.size = 132 ∧ 0 < 132 ∧ 0 < 144 ∧ 132 ≤ 16777216 := ⟨by kernel_rfl, by decide +kernel, by decide, by decide, by decide⟩
theorem if104 : infoOf Try.prog 104 = some (some (Value.agg ([Value.int IntKind.i64 0] ++ (repC 4 ([Value.int IntKind.u32 0] ++ cb (zb 32)))).toArray), 133, 152) ∧ (Value.agg ([Value.int IntKind.i64 0] ++ (repC 4 ([Value.int IntKind.u32 0] ++ cb (zb 32)))).toArray : Value).cells.size = 133 ∧ 0 < 133 ∧ 0 < 152 ∧ 133 ≤ 16777216 := ⟨by kernel_rfl, by decide +kernel, by decide, by decide, by decide⟩
theorem if105 : infoOf Try.prog 105 = some (some (Value.agg ([Value.int IntKind.i64 0] ++ (repC 4 ([Value.int IntKind.u32 0] ++ cb (zb 32)))).toArray), 133, 152) ∧ (Value.agg ([Value.int IntKind.i64 0] ++ (repC 4 ([Value.int IntKind.u32 0] ++ cb (zb 32)))).toArray : Value).cells.size = 133 ∧ 0 < 133 ∧ 0 < 152 ∧ 133 ≤ 16777216 := ⟨by kernel_rfl, by decide +kernel, by decide, by decide, by decide⟩
theorem if108 : infoOf Try.prog 108 = some (some (Value.agg (repC 4 ([Value.int IntKind.u32 0] ++ cb (zb 32))).toArray), 132, 144) ∧ (Value.agg (repC 4 ([Value.int IntKind.u32 0] ++ cb (zb 32))).toArray : Value).cells.size = 132 ∧ 0 < 132 ∧ 0 < 144 ∧ 132 ≤ 16777216 := ⟨by kernel_rfl, by decide +kernel, by decide, by decide, by decide⟩
theorem if109 : infoOf Try.prog 109 = some (some (Value.agg ([Value.int IntKind.i64 0] ++ (repC 4 ([Value.int IntKind.u32 0] ++ cb (zb 32)))).toArray), 133, 152) ∧ (Value.agg ([Value.int IntKind.i64 0] ++ (repC 4 ([Value.int IntKind.u32 0] ++ cb (zb 32)))).toArray : Value).cells.size = 133 ∧ 0 < 133 ∧ 0 < 152 ∧ 133 ≤ 16777216 := ⟨by kernel_rfl, by decide +kernel, by decide, by decide, by decide⟩
theorem if110 : infoOf Try.prog 110 = some (some (Value.agg ([Value.int IntKind.i64 0] ++ (repC 4 ([Value.int IntKind.u32 0] ++ cb (zb 32)))).toArray), 133, 152) ∧ (Value.agg ([Value.int IntKind.i64 0] ++ (repC 4 ([Value.int IntKind.u32 0] ++ cb (zb 32)))).toArray : Value).cells.size = 133 ∧ 0 < 133 ∧ 0 < 152 ∧ 133 ≤ 16777216 := ⟨by kernel_rfl, by decide +kernel, by decide, by decide, by decide⟩
theorem if122 : infoOf Try.prog 122 = some (some (Value.slice none 0 0), 1, 24) ∧ (Value.slice none 0 0 : Value).cells.size = 1 ∧ 0 < 1 ∧ 0 < 24 ∧ 1 ≤ 16777216 := ⟨by kernel_rfl, rfl, by decide, by decide, by decide⟩
theorem if123 : infoOf Try.prog 123 = some (some (Value.slice none 0 0), 1, 24) ∧ (Value.slice none 0 0 : Value).cells.size = 1 ∧ 0 < 1 ∧ 0 < 24 ∧ 1 ≤ 16777216 := ⟨by kernel_rfl, rfl, by decide, by decide, by decide⟩
theorem if129 : infoOf Try.prog 129 = some (some (Value.map none), 1, 8) ∧ (Value.map none : Value).cells.size = 1 ∧ 0 < 1 ∧ 0 < 8 ∧ 1 ≤ 16777216 := ⟨by kernel_rfl, rfl, by decide, by decide, by decide⟩
theorem if132 : infoOf Try.prog 132 = some (some (Value.agg (cb (zb 4)).toArray), 4, 4) ∧ (Value.agg (cb (zb 4)).toArray : Value).cells.size = 4 ∧ 0 < 4 ∧ 0 < 4 ∧ 4 ≤ 16777216 := ⟨by kernel_rfl, by decide +kernel, by decide, by decide, by decide⟩
theorem if134 : infoOf Try.prog 134 = some (some (Value.agg (cb (zb 8)).toArray), 8, 8) ∧ (Value.agg (cb (zb 8)).toArray : Value).cells.size = 8 ∧ 0 < 8 ∧ 0 < 8 ∧ 8 ≤ 16777216 := ⟨by kernel_rfl, by decide +kernel, by decide, by decide, by decide⟩
theorem if140 : infoOf Try.prog 140 = some (some (Value.map none), 1, 8) ∧ (Value.map none : Value).cells.size = 1 ∧ 0 < 1 ∧ 0 < 8 ∧ 1 ≤ 16777216 := ⟨by kernel_rfl, rfl, by decide, by decide, by decide⟩
theorem if141 : infoOf Try.prog 141 = some (some (Value.map none), 1, 8) ∧ (Value.map none : Value).cells.size = 1 ∧ 0 < 1 ∧ 0 < 8 ∧ 1 ≤ 16777216 := ⟨by kernel_rfl, rfl, by decide, by decide, by decide⟩
theorem if142 : infoOf Try.prog 142 = some (some (Value.slice none 0 0), 1, 24) ∧ (Value.slice none 0 0 : Value).cells.size = 1 ∧ 0 < 1 ∧ 0 < 24 ∧ 1 ≤ 16777216 := ⟨by kernel_rfl, rfl, by decide, by decide, by decide⟩
theorem if143 : infoOf Try.prog 143 = some (some (Value.agg ([Value.slice none 0 0, Value.map none, Value.map none, Value.int IntKind.i64 0, Value.int IntKind.i64 0, Value.bool false]).toArray), 6, 64) ∧ (Value.agg ([Value.slice none 0 0, Value.map none, Value.map none, Value.int IntKind.i64 0, Value.int IntKind.i64 0, Value.bool false]).toArray : Value).cells.size = 6 ∧ 0 < 6 ∧ 0 < 64 ∧ 6 ≤ 16777216 := ⟨by kernel_rfl, rfl, by decide, by decide, by decide⟩
theorem if144 : infoOf Try.prog 144 = some (some (Value.agg ([Value.slice none 0 0, Value.map none, Value.map none, Value.int IntKind.i64 0, Value.int IntKind.i64 0, Value.bool false]).toArray), 6, 64) ∧ (Value.agg ([Value.slice none 0 0, Value.map none, Value.map none, Value.int IntKind.i64 0, Value.int IntKind.i64 0, Value.bool false]).toArray : Value).cells.size = 6 ∧ 0 < 6 ∧ 0 < 64 ∧ 6 ≤ 16777216 := ⟨by kernel_rfl, rfl, by decide, by decide, by decide⟩
theorem if145 : infoOf Try.prog 145 = some (some (Value.pointer none), 1, 8) ∧ (Value.pointer none : Value).cells.size = 1 ∧ 0 < 1 ∧ 0 < 8 ∧ 1 ≤ 16777216 := ⟨by kernel_rfl, rfl, by decide, by decide, by decide⟩
theorem if149 : infoOf Try.prog 149 = some (some (Value.agg ([Value.int IntKind.u8 0, str []]).toArray), 2, 24) ∧ (Value.agg ([Value.int IntKind.u8 0, str []]).toArray : Value).cells.size = 2 ∧ 0 < 2 ∧ 0 < 24 ∧ 2 ≤ 16777216 := ⟨by kernel_rfl, rfl, by decide, by decide, by decide⟩
theorem if150 : infoOf Try.prog 150 = some (some (Value.agg ([Value.int IntKind.u8 0, str []]).toArray), 2, 24) ∧ (Value.agg ([Value.int IntKind.u8 0, str []]).toArray : Value).cells.size = 2 ∧ 0 < 2 ∧ 0 < 24 ∧ 2 ≤ 16777216 := ⟨by kernel_rfl, rfl, by decide, by decide, by decide⟩
theorem if156 : infoOf Try.prog 156 = some (some (Value.map none), 1, 8) ∧ (Value.map none : Value).cells.size = 1 ∧ 0 < 1 ∧ 0 < 8 ∧ 1 ≤ 16777216 := ⟨by kernel_rfl, rfl, by decide, by decide, by decide⟩
theorem if159 : infoOf Try.prog 159 = some (some (Value.agg (repC 8 [Value.int IntKind.u32 0]).toArray), 8, 32) ∧ (Value.agg (repC 8 [Value.int IntKind.u32 0]).toArray : Value).cells.size = 8 ∧ 0 < 8 ∧ 0 < 32 ∧ 8 ≤ 16777216 := ⟨by kernel_rfl, by decide +kernel, by decide, by decide, by decide⟩
theorem if160 : infoOf Try.prog 160 = some (some (Value.agg (repC 8 [Value.int IntKind.u32 0] ++ [Value.slice none 0 0, Value.int IntKind.i64 0]).toArray), 10, 64) ∧ (Value.agg (repC 8 [Value.int IntKind.u32 0] ++ [Value.slice none 0 0, Value.int IntKind.i64 0]).toArray : Value).cells.size = 10 ∧ 0 < 10 ∧ 0 < 64 ∧ 10 ≤ 16777216 := ⟨by kernel_rfl, by decide +kernel, by decide, by decide, by decide⟩
theorem if161 : infoOf Try.prog 161 = some (some (Value.agg (repC 8 [Value.int IntKind.u32 0] ++ [Value.slice none 0 0, Value.int IntKind.i64 0]).toArray), 10, 64) ∧ (Value.agg (repC 8 [Value.int IntKind.u32 0] ++ [Value.slice none 0 0, Value.int IntKind.i64 0]).toArray : Value).cells.size = 10 ∧ 0 < 10 ∧ 0 < 64 ∧ 10 ≤ 16777216 := ⟨by kernel_rfl, by decide +kernel, by decide, by decide, by decide⟩
theorem if162 : infoOf Try.prog 162 = some (some (Value.int IntKind.u64 0), 1, 8) ∧ (Value.int IntKind.u64 0 : Value).cells.size = 1 ∧ 0 < 1 ∧ 0 < 8 ∧ 1 ≤ 16777216 := ⟨by kernel_rfl, rfl, by decide, by decide, by decide⟩
theorem if171 : infoOf Try.prog 171 = some (some (Value.int IntKind.i64 0), 1, 8) ∧ (Value.int IntKind.i64 0 : Value).cells.size = 1 ∧ 0 < 1 ∧ 0 < 8 ∧ 1 ≤ 16777216 := ⟨by kernel_rfl, rfl, by decide, by decide, by decide⟩
theorem if179 : infoOf Try.prog 179 = some (some (Value.agg (repC 16 [Value.int IntKind.u32 0]).toArray), 16, 64) ∧ (Value.agg (repC 16 [Value.int IntKind.u32 0]).toArray : Value).cells.size = 16 ∧ 0 < 16 ∧ 0 < 64 ∧ 16 ≤ 16777216 := ⟨by kernel_rfl, by decide +kernel, by decide, by decide, by decide⟩
theorem if180 : infoOf Try.prog 180 = some (some (Value.agg (repC 16 [Value.int IntKind.u32 0]).toArray), 16, 64) ∧ (Value.agg (repC 16 [Value.int IntKind.u32 0]).toArray : Value).cells.size = 16 ∧ 0 < 16 ∧ 0 < 64 ∧ 16 ≤ 16777216 := ⟨by kernel_rfl, by decide +kernel, by decide, by decide, by decide⟩
theorem if181 : infoOf Try.prog 181 = some (some (Value.slice none 0 0), 1, 24) ∧ (Value.slice none 0 0 : Value).cells.size = 1 ∧ 0 < 1 ∧ 0 < 24 ∧ 1 ≤ 16777216 := ⟨by kernel_rfl, rfl, by decide, by decide, by decide⟩
theorem if185 : infoOf Try.prog 185 = some (some (Value.int IntKind.u64 0), 1, 8) ∧ (Value.int IntKind.u64 0 : Value).cells.size = 1 ∧ 0 < 1 ∧ 0 < 8 ∧ 1 ≤ 16777216 := ⟨by kernel_rfl, rfl, by decide, by decide, by decide⟩
theorem if189 : infoOf Try.prog 189 = some (some (Value.pointer none), 1, 8) ∧ (Value.pointer none : Value).cells.size = 1 ∧ 0 < 1 ∧ 0 < 8 ∧ 1 ≤ 16777216 := ⟨by kernel_rfl, rfl, by decide, by decide, by decide⟩
theorem if193 : infoOf Try.prog 193 = some (some (Value.pointer none), 1, 8) ∧ (Value.pointer none : Value).cells.size = 1 ∧ 0 < 1 ∧ 0 < 8 ∧ 1 ≤ 16777216 := ⟨by kernel_rfl, rfl, by decide, by decide, by decide⟩
theorem if200 : infoOf Try.prog 200 = some (some (Value.agg ([Value.pointer none, Value.pointer none, Value.pointer none, str []]).toArray), 4, 40) ∧ (Value.agg ([Value.pointer none, Value.pointer none, Value.pointer none, str []]).toArray : Value).cells.size = 4 ∧ 0 < 4 ∧ 0 < 40 ∧ 4 ≤ 16777216 := ⟨by kernel_rfl, rfl, by decide, by decide, by decide⟩
theorem if201 : infoOf Try.prog 201 = some (some (Value.agg ([Value.pointer none, Value.pointer none, Value.pointer none, str []]).toArray), 4, 40) ∧ (Value.agg ([Value.pointer none, Value.pointer none, Value.pointer none, str []]).toArray : Value).cells.size = 4 ∧ 0 < 4 ∧ 0 < 40 ∧ 4 ≤ 16777216 := ⟨by kernel_rfl, rfl, by decide, by decide, by decide⟩
theorem if205 : infoOf Try.prog 205 = some (some (Value.int IntKind.u8 0), 1, 1) ∧ (Value.int IntKind.u8 0 : Value).cells.size = 1 ∧ 0 < 1 ∧ 0 < 1 ∧ 1 ≤ 16777216 := ⟨by kernel_rfl, rfl, by decide, by decide, by decide⟩
theorem if206 : infoOf Try.prog 206 = some (some (Value.int IntKind.u8 0), 1, 1) ∧ (Value.int IntKind.u8 0 : Value).cells.size = 1 ∧ 0 < 1 ∧ 0 < 1 ∧ 1 ≤ 16777216 := ⟨by kernel_rfl, rfl, by decide, by decide, by decide⟩
theorem if208 : infoOf Try.prog 208 = some (some (Value.pointer none), 1, 8) ∧ (Value.pointer none : Value).cells.size = 1 ∧ 0 < 1 ∧ 0 < 8 ∧ 1 ≤ 16777216 := ⟨by kernel_rfl, rfl, by decide, by decide, by decide⟩
theorem if209 : infoOf Try.prog 209 = some (some (Value.int IntKind.i32 0), 1, 4) ∧ (Value.int IntKind.i32 0 : Value).cells.size = 1 ∧ 0 < 1 ∧ 0 < 4 ∧ 1 ≤ 16777216 := ⟨by kernel_rfl, rfl, by decide, by decide, by decide⟩
theorem if210 : infoOf Try.prog 210 = some (some (Value.int IntKind.i32 0), 1, 4) ∧ (Value.int IntKind.i32 0 : Value).cells.size = 1 ∧ 0 < 1 ∧ 0 < 4 ∧ 1 ≤ 16777216 := ⟨by kernel_rfl, rfl, by decide, by decide, by decide⟩
def ilist : List (Nat × Value × Nat × Nat) := [
  (2, Value.int IntKind.i64 0, 1, 8),
  (3, Value.int IntKind.i64 0, 1, 8),
  (4, Value.bool false, 1, 1),
  (5, Value.int IntKind.u8 0, 1, 1),
  (6, Value.int IntKind.u8 0, 1, 1),
  (7, Value.agg ([Value.int IntKind.i64 0, Value.int IntKind.i64 0, Value.bool false, Value.int IntKind.u8 0]).toArray, 4, 24),
  (8, Value.agg ([Value.int IntKind.i64 0, Value.int IntKind.i64 0, Value.bool false, Value.int IntKind.u8 0]).toArray, 4, 24),
  (9, str [], 1, 16),
  (10, str [], 1, 16),
  (11, str [], 1, 16),
  (12, Value.int IntKind.u64 0, 1, 8),
  (13, Value.agg ([str [], Value.int IntKind.u64 0]).toArray, 2, 24),
  (14, Value.agg ([str [], Value.int IntKind.u64 0]).toArray, 2, 24),
  (15, Value.pointer none, 1, 8),
  (16, Value.pointer none, 1, 8),
  (17, Value.pointer none, 1, 8),
  (18, Value.agg ([Value.pointer none]).toArray, 1, 8),
  (19, Value.agg ([Value.pointer none]).toArray, 1, 8),
  (21, Value.int IntKind.i32 0, 1, 4),
  (22, Value.agg (cb (zb 256)).toArray, 256, 256),
  (23, Value.agg (cb (zb 256)).toArray, 256, 256),
  (25, Value.int IntKind.i64 0, 1, 8),
  (28, Value.agg (cb (zb 256)).toArray, 256, 256),
  (35, Value.slice none 0 0, 1, 24),
  (37, Value.slice none 0 0, 1, 24),
  (42, Value.int IntKind.u32 0, 1, 4),
  (43, Value.int IntKind.u64 0, 1, 8),
  (44, Value.agg ([Value.int IntKind.i64 0, Value.int IntKind.i64 0, str [], Value.int IntKind.u32 0, Value.int IntKind.u64 0]).toArray, 5, 48),
  (45, Value.agg ([Value.int IntKind.i64 0, Value.int IntKind.i64 0, str [], Value.int IntKind.u32 0, Value.int IntKind.u64 0]).toArray, 5, 48),
  (53, Value.slice none 0 0, 1, 24),
  (55, Value.slice none 0 0, 1, 24),
  (57, Value.slice none 0 0, 1, 24),
  (59, Value.agg ([Value.int IntKind.i64 0, str []]).toArray, 2, 24),
  (60, Value.agg ([Value.int IntKind.i64 0, str []]).toArray, 2, 24),
  (61, Value.slice none 0 0, 1, 24),
  (76, Value.pointer none, 1, 8),
  (78, Value.agg (cb (zb 32)).toArray, 32, 32),
  (79, Value.agg (cb (zb 32)).toArray, 32, 32),
  (88, Value.agg ([Value.int IntKind.u32 0] ++ cb (zb 32)).toArray, 33, 36),
  (89, Value.agg ([Value.int IntKind.u32 0] ++ cb (zb 32)).toArray, 33, 36),
  (92, Value.agg ([Value.int IntKind.u32 0] ++ cb (zb 32)).toArray, 33, 36),
  (93, Value.agg ([Value.int IntKind.u32 0] ++ cb (zb 32)).toArray, 33, 36),
  (103, Value.agg (repC 4 ([Value.int IntKind.u32 0] ++ cb (zb 32))).toArray, 132, 144),
  (104, Value.agg ([Value.int IntKind.i64 0] ++ (repC 4 ([Value.int IntKind.u32 0] ++ cb (zb 32)))).toArray, 133, 152),
  (105, Value.agg ([Value.int IntKind.i64 0] ++ (repC 4 ([Value.int IntKind.u32 0] ++ cb (zb 32)))).toArray, 133, 152),
  (108, Value.agg (repC 4 ([Value.int IntKind.u32 0] ++ cb (zb 32))).toArray, 132, 144),
  (109, Value.agg ([Value.int IntKind.i64 0] ++ (repC 4 ([Value.int IntKind.u32 0] ++ cb (zb 32)))).toArray, 133, 152),
  (110, Value.agg ([Value.int IntKind.i64 0] ++ (repC 4 ([Value.int IntKind.u32 0] ++ cb (zb 32)))).toArray, 133, 152),
  (122, Value.slice none 0 0, 1, 24),
  (123, Value.slice none 0 0, 1, 24),
  (129, Value.map none, 1, 8),
  (132, Value.agg (cb (zb 4)).toArray, 4, 4),
  (134, Value.agg (cb (zb 8)).toArray, 8, 8),
  (140, Value.map none, 1, 8),
  (141, Value.map none, 1, 8),
  (142, Value.slice none 0 0, 1, 24),
  (143, Value.agg ([Value.slice none 0 0, Value.map none, Value.map none, Value.int IntKind.i64 0, Value.int IntKind.i64 0, Value.bool false]).toArray, 6, 64),
  (144, Value.agg ([Value.slice none 0 0, Value.map none, Value.map none, Value.int IntKind.i64 0, Value.int IntKind.i64 0, Value.bool false]).toArray, 6, 64),
  (145, Value.pointer none, 1, 8),
  (149, Value.agg ([Value.int IntKind.u8 0, str []]).toArray, 2, 24),
  (150, Value.agg ([Value.int IntKind.u8 0, str []]).toArray, 2, 24),
  (156, Value.map none, 1, 8),
  (159, Value.agg (repC 8 [Value.int IntKind.u32 0]).toArray, 8, 32),
  (160, Value.agg (repC 8 [Value.int IntKind.u32 0] ++ [Value.slice none 0 0, Value.int IntKind.i64 0]).toArray, 10, 64),
  (161, Value.agg (repC 8 [Value.int IntKind.u32 0] ++ [Value.slice none 0 0, Value.int IntKind.i64 0]).toArray, 10, 64),
  (162, Value.int IntKind.u64 0, 1, 8),
  (171, Value.int IntKind.i64 0, 1, 8),
  (179, Value.agg (repC 16 [Value.int IntKind.u32 0]).toArray, 16, 64),
  (180, Value.agg (repC 16 [Value.int IntKind.u32 0]).toArray, 16, 64),
  (181, Value.slice none 0 0, 1, 24),
  (185, Value.int IntKind.u64 0, 1, 8),
  (189, Value.pointer none, 1, 8),
  (193, Value.pointer none, 1, 8),
  (200, Value.agg ([Value.pointer none, Value.pointer none, Value.pointer none, str []]).toArray, 4, 40),
  (201, Value.agg ([Value.pointer none, Value.pointer none, Value.pointer none, str []]).toArray, 4, 40),
  (205, Value.int IntKind.u8 0, 1, 1),
  (206, Value.int IntKind.u8 0, 1, 1),
  (208, Value.pointer none, 1, 8),
  (209, Value.int IntKind.i32 0, 1, 4),
  (210, Value.int IntKind.i32 0, 1, 4)]
theorem ilist_ok : AllIf Try.prog ilist := ⟨if2, if3, if4, if5, if6, if7, if8, if9, if10, if11, if12, if13, if14, if15, if16, if17, if18, if19, if21, if22, if23, if25, if28, if35, if37, if42, if43, if44, if45, if53, if55, if57, if59, if60, if61, if76, if78, if79, if88, if89, if92, if93, if103, if104, if105, if108, if109, if110, if122, if123, if129, if132, if134, if140, if141, if142, if143, if144, if145, if149, if150, if156, if159, if160, if161, if162, if171, if179, if180, if181, if185, if189, if193, if200, if201, if205, if206, if208, if209, if210, trivial⟩
def zrs : Zs Try.prog := Zs.mk' zlist_ok blist_ok ilist_ok
instance tcI : X.TC Try.prog := ⟨tab, zrs⟩
end Go.Proofs.Ytbfpgigbakhplaa
