/- The zeros of the seat's types. -/
import Derived.Test.YtbgjhmdedillhaaXs
import Derived.Test.YtbgjhmdedillhaaTab
namespace Go.Proofs.Ytbgjhmdedillhaa
open Go.Proofs.Ytbgjhmdedillhaa.Stm Go.Proofs.Ytbgjhmdedillhaa.By Go.Proofs.Ytbgjhmdedillhaa.Mx Go.Proofs.Ytbgjhmdedillhaa.Ap
theorem zr2 : zeroOf Try.prog 2 = some (Value.int IntKind.i64 0) := by kernel_rfl
theorem zr3 : zeroOf Try.prog 3 = some (Value.int IntKind.i64 0) := by kernel_rfl
theorem zr4 : zeroOf Try.prog 4 = some (Value.bool false) := by kernel_rfl
theorem zr5 : zeroOf Try.prog 5 = some (Value.int IntKind.u8 0) := by kernel_rfl
theorem zr6 : zeroOf Try.prog 6 = some (Value.int IntKind.u8 0) := by kernel_rfl
theorem zr7 : zeroOf Try.prog 7 = some (Value.agg ([Value.int IntKind.i64 0, Value.int IntKind.i64 0, Value.bool false, Value.int IntKind.u8 0]).toArray) := by kernel_rfl
theorem zr8 : zeroOf Try.prog 8 = some (Value.agg ([Value.int IntKind.i64 0, Value.int IntKind.i64 0, Value.bool false, Value.int IntKind.u8 0]).toArray) := by kernel_rfl
theorem zr9 : zeroOf Try.prog 9 = some (str []) := by kernel_rfl
theorem zr10 : zeroOf Try.prog 10 = some (str []) := by kernel_rfl
theorem zr11 : zeroOf Try.prog 11 = some (str []) := by kernel_rfl
theorem zr12 : zeroOf Try.prog 12 = some (Value.int IntKind.u64 0) := by kernel_rfl
theorem zr13 : zeroOf Try.prog 13 = some (Value.agg ([str [], Value.int IntKind.u64 0]).toArray) := by kernel_rfl
theorem zr14 : zeroOf Try.prog 14 = some (Value.agg ([str [], Value.int IntKind.u64 0]).toArray) := by kernel_rfl
theorem zr15 : zeroOf Try.prog 15 = some (Value.pointer none) := by kernel_rfl
theorem zr16 : zeroOf Try.prog 16 = some (Value.pointer none) := by kernel_rfl
theorem zr17 : zeroOf Try.prog 17 = some (Value.pointer none) := by kernel_rfl
theorem zr18 : zeroOf Try.prog 18 = some (Value.agg ([Value.pointer none]).toArray) := by kernel_rfl
theorem zr19 : zeroOf Try.prog 19 = some (Value.agg ([Value.pointer none]).toArray) := by kernel_rfl
theorem zr21 : zeroOf Try.prog 21 = some (Value.int IntKind.i32 0) := by kernel_rfl
theorem zr22 : zeroOf Try.prog 22 = some (Value.int IntKind.i64 0) := by kernel_rfl
theorem zr25 : zeroOf Try.prog 25 = some (Value.slice none 0 0) := by kernel_rfl
theorem zr35 : zeroOf Try.prog 35 = some (Value.int IntKind.u64 0) := by kernel_rfl
theorem zr36 : zeroOf Try.prog 36 = some (Value.int IntKind.u32 0) := by kernel_rfl
theorem zr37 : zeroOf Try.prog 37 = some (Value.agg (cb (zb 32)).toArray) := by kernel_rfl
theorem zr38 : zeroOf Try.prog 38 = some (Value.agg (cb (zb 32)).toArray) := by kernel_rfl
theorem zr39 : zeroOf Try.prog 39 = some (Value.agg ([Value.int IntKind.u32 0] ++ cb (zb 32)).toArray) := by kernel_rfl
theorem zr40 : zeroOf Try.prog 40 = some (Value.agg ([Value.int IntKind.u32 0] ++ cb (zb 32)).toArray) := by kernel_rfl
theorem zr41 : zeroOf Try.prog 41 = some (Value.agg ([Value.int IntKind.i64 0] ++ ([Value.int IntKind.u32 0] ++ cb (zb 32))).toArray) := by kernel_rfl
theorem zr42 : zeroOf Try.prog 42 = some (Value.agg ([Value.int IntKind.i64 0] ++ ([Value.int IntKind.u32 0] ++ cb (zb 32))).toArray) := by kernel_rfl
theorem zr43 : zeroOf Try.prog 43 = some (Value.agg ([Value.int IntKind.i64 0, Value.int IntKind.i64 0, Value.int IntKind.i64 0, Value.int IntKind.u64 0] ++ ([Value.int IntKind.i64 0] ++ ([Value.int IntKind.u32 0] ++ cb (zb 32)))).toArray) := by kernel_rfl
theorem zr44 : zeroOf Try.prog 44 = some (Value.agg ([Value.int IntKind.i64 0, Value.int IntKind.i64 0, Value.int IntKind.i64 0, Value.int IntKind.u64 0] ++ ([Value.int IntKind.i64 0] ++ ([Value.int IntKind.u32 0] ++ cb (zb 32)))).toArray) := by kernel_rfl
theorem zr45 : zeroOf Try.prog 45 = some (Value.slice none 0 0) := by kernel_rfl
theorem zr50 : zeroOf Try.prog 50 = some (Value.agg ([Value.int IntKind.u32 0] ++ cb (zb 32)).toArray) := by kernel_rfl
theorem zr51 : zeroOf Try.prog 51 = some (Value.agg ([Value.int IntKind.u32 0] ++ cb (zb 32)).toArray) := by kernel_rfl
theorem zr52 : zeroOf Try.prog 52 = some (Value.agg ([Value.int IntKind.i64 0] ++ ([Value.int IntKind.u32 0] ++ cb (zb 32))).toArray) := by kernel_rfl
theorem zr53 : zeroOf Try.prog 53 = some (Value.agg ([Value.int IntKind.i64 0] ++ ([Value.int IntKind.u32 0] ++ cb (zb 32))).toArray) := by kernel_rfl
theorem zr54 : zeroOf Try.prog 54 = some (Value.agg ([Value.int IntKind.i64 0, Value.int IntKind.i64 0, Value.int IntKind.i64 0, Value.int IntKind.u64 0] ++ ([Value.int IntKind.i64 0] ++ ([Value.int IntKind.u32 0] ++ cb (zb 32)))).toArray) := by kernel_rfl
theorem zr55 : zeroOf Try.prog 55 = some (Value.agg ([Value.int IntKind.i64 0, Value.int IntKind.i64 0, Value.int IntKind.i64 0, Value.int IntKind.u64 0] ++ ([Value.int IntKind.i64 0] ++ ([Value.int IntKind.u32 0] ++ cb (zb 32)))).toArray) := by kernel_rfl
theorem zr63 : zeroOf Try.prog 63 = some (Value.agg (repC 4 ([Value.int IntKind.i64 0, Value.int IntKind.i64 0, Value.int IntKind.i64 0, Value.int IntKind.u64 0] ++ ([Value.int IntKind.i64 0] ++ ([Value.int IntKind.u32 0] ++ cb (zb 32))))).toArray) := by kernel_rfl
theorem zr64 : zeroOf Try.prog 64 = some (Value.agg (cb (zb 256)).toArray) := by kernel_rfl
theorem zr65 : zeroOf Try.prog 65 = some (Value.agg (cb (zb 256)).toArray) := by kernel_rfl
theorem zr70 : zeroOf Try.prog 70 = some (Value.agg (repC 4 ([Value.int IntKind.i64 0, Value.int IntKind.i64 0, Value.int IntKind.i64 0, Value.int IntKind.u64 0] ++ ([Value.int IntKind.i64 0] ++ ([Value.int IntKind.u32 0] ++ cb (zb 32))))).toArray) := by kernel_rfl
theorem zr75 : zeroOf Try.prog 75 = some (Value.agg ([Value.int IntKind.i64 0, Value.int IntKind.u64 0] ++ ([Value.int IntKind.i64 0] ++ ([Value.int IntKind.u32 0] ++ cb (zb 32))) ++ [Value.int IntKind.i64 0] ++ ([Value.int IntKind.i64 0] ++ ([Value.int IntKind.u32 0] ++ cb (zb 32))) ++ [Value.int IntKind.i64 0]).toArray) := by kernel_rfl
theorem zr76 : zeroOf Try.prog 76 = some (Value.agg ([Value.int IntKind.i64 0, Value.int IntKind.u64 0] ++ ([Value.int IntKind.i64 0] ++ ([Value.int IntKind.u32 0] ++ cb (zb 32))) ++ [Value.int IntKind.i64 0] ++ ([Value.int IntKind.i64 0] ++ ([Value.int IntKind.u32 0] ++ cb (zb 32))) ++ [Value.int IntKind.i64 0]).toArray) := by kernel_rfl
theorem zr77 : zeroOf Try.prog 77 = some (Value.agg ([Value.int IntKind.u64 0] ++ ([Value.int IntKind.u32 0] ++ cb (zb 32))).toArray) := by kernel_rfl
theorem zr78 : zeroOf Try.prog 78 = some (Value.agg ([Value.int IntKind.u64 0] ++ ([Value.int IntKind.u32 0] ++ cb (zb 32))).toArray) := by kernel_rfl
theorem zr83 : zeroOf Try.prog 83 = some (Value.agg ([Value.int IntKind.i64 0, Value.int IntKind.u64 0] ++ ([Value.int IntKind.i64 0] ++ ([Value.int IntKind.u32 0] ++ cb (zb 32))) ++ [Value.int IntKind.i64 0] ++ ([Value.int IntKind.i64 0] ++ ([Value.int IntKind.u32 0] ++ cb (zb 32))) ++ [Value.int IntKind.i64 0]).toArray) := by kernel_rfl
theorem zr84 : zeroOf Try.prog 84 = some (Value.agg ([Value.int IntKind.i64 0, Value.int IntKind.u64 0] ++ ([Value.int IntKind.i64 0] ++ ([Value.int IntKind.u32 0] ++ cb (zb 32))) ++ [Value.int IntKind.i64 0] ++ ([Value.int IntKind.i64 0] ++ ([Value.int IntKind.u32 0] ++ cb (zb 32))) ++ [Value.int IntKind.i64 0]).toArray) := by kernel_rfl
theorem zr97 : zeroOf Try.prog 97 = some (Value.agg (cb (zb 2)).toArray) := by kernel_rfl
theorem zr99 : zeroOf Try.prog 99 = some (Value.int IntKind.u16 0) := by kernel_rfl
theorem zr100 : zeroOf Try.prog 100 = some (Value.slice none 0 0) := by kernel_rfl
theorem zr101 : zeroOf Try.prog 101 = some (Value.agg (cb (zb 8)).toArray) := by kernel_rfl
theorem zr125 : zeroOf Try.prog 125 = some (Value.int IntKind.u64 0) := by kernel_rfl
theorem zr127 : zeroOf Try.prog 127 = some (Value.agg (cb (zb 4)).toArray) := by kernel_rfl
theorem zr132 : zeroOf Try.prog 132 = some (Value.agg ([Value.pointer none, Value.pointer none, Value.pointer none, str []]).toArray) := by kernel_rfl
theorem zr133 : zeroOf Try.prog 133 = some (Value.agg ([Value.pointer none, Value.pointer none, Value.pointer none, str []]).toArray) := by kernel_rfl
theorem zr134 : zeroOf Try.prog 134 = some (Value.agg ([]).toArray) := by kernel_rfl
theorem zr135 : zeroOf Try.prog 135 = some (Value.agg ([]).toArray) := by kernel_rfl
theorem zr136 : zeroOf Try.prog 136 = some (Value.agg ([]).toArray) := by kernel_rfl
theorem zr138 : zeroOf Try.prog 138 = some (Value.int IntKind.u8 0) := by kernel_rfl
theorem zr139 : zeroOf Try.prog 139 = some (Value.int IntKind.u8 0) := by kernel_rfl
theorem zr141 : zeroOf Try.prog 141 = some (Value.pointer none) := by kernel_rfl
theorem zr142 : zeroOf Try.prog 142 = some (Value.int IntKind.i32 0) := by kernel_rfl
theorem zr143 : zeroOf Try.prog 143 = some (Value.int IntKind.i32 0) := by kernel_rfl
theorem bt7 : Try.prog.built 7 [] = some ([Value.int IntKind.i64 0, Value.int IntKind.i64 0, Value.bool false, Value.int IntKind.u8 0]).toArray := by kernel_rfl
theorem bt8 : Try.prog.built 8 [] = some ([Value.int IntKind.i64 0, Value.int IntKind.i64 0, Value.bool false, Value.int IntKind.u8 0]).toArray := by kernel_rfl
theorem bt13 : Try.prog.built 13 [] = some ([str [], Value.int IntKind.u64 0]).toArray := by kernel_rfl
theorem bt14 : Try.prog.built 14 [] = some ([str [], Value.int IntKind.u64 0]).toArray := by kernel_rfl
theorem bt18 : Try.prog.built 18 [] = some ([Value.pointer none]).toArray := by kernel_rfl
theorem bt19 : Try.prog.built 19 [] = some ([Value.pointer none]).toArray := by kernel_rfl
theorem bt37 : Try.prog.built 37 [] = some (cb (zb 32)).toArray := by kernel_rfl
theorem bt38 : Try.prog.built 38 [] = some (cb (zb 32)).toArray := by kernel_rfl
theorem bt39 : Try.prog.built 39 [] = some ([Value.int IntKind.u32 0] ++ cb (zb 32)).toArray := by kernel_rfl
theorem bt40 : Try.prog.built 40 [] = some ([Value.int IntKind.u32 0] ++ cb (zb 32)).toArray := by kernel_rfl
theorem bt41 : Try.prog.built 41 [] = some ([Value.int IntKind.i64 0] ++ ([Value.int IntKind.u32 0] ++ cb (zb 32))).toArray := by kernel_rfl
theorem bt42 : Try.prog.built 42 [] = some ([Value.int IntKind.i64 0] ++ ([Value.int IntKind.u32 0] ++ cb (zb 32))).toArray := by kernel_rfl
theorem bt43 : Try.prog.built 43 [] = some ([Value.int IntKind.i64 0, Value.int IntKind.i64 0, Value.int IntKind.i64 0, Value.int IntKind.u64 0] ++ ([Value.int IntKind.i64 0] ++ ([Value.int IntKind.u32 0] ++ cb (zb 32)))).toArray := by kernel_rfl
theorem bt44 : Try.prog.built 44 [] = some ([Value.int IntKind.i64 0, Value.int IntKind.i64 0, Value.int IntKind.i64 0, Value.int IntKind.u64 0] ++ ([Value.int IntKind.i64 0] ++ ([Value.int IntKind.u32 0] ++ cb (zb 32)))).toArray := by kernel_rfl
theorem bt50 : Try.prog.built 50 [] = some ([Value.int IntKind.u32 0] ++ cb (zb 32)).toArray := by kernel_rfl
theorem bt51 : Try.prog.built 51 [] = some ([Value.int IntKind.u32 0] ++ cb (zb 32)).toArray := by kernel_rfl
theorem bt52 : Try.prog.built 52 [] = some ([Value.int IntKind.i64 0] ++ ([Value.int IntKind.u32 0] ++ cb (zb 32))).toArray := by kernel_rfl
theorem bt53 : Try.prog.built 53 [] = some ([Value.int IntKind.i64 0] ++ ([Value.int IntKind.u32 0] ++ cb (zb 32))).toArray := by kernel_rfl
theorem bt54 : Try.prog.built 54 [] = some ([Value.int IntKind.i64 0, Value.int IntKind.i64 0, Value.int IntKind.i64 0, Value.int IntKind.u64 0] ++ ([Value.int IntKind.i64 0] ++ ([Value.int IntKind.u32 0] ++ cb (zb 32)))).toArray := by kernel_rfl
theorem bt55 : Try.prog.built 55 [] = some ([Value.int IntKind.i64 0, Value.int IntKind.i64 0, Value.int IntKind.i64 0, Value.int IntKind.u64 0] ++ ([Value.int IntKind.i64 0] ++ ([Value.int IntKind.u32 0] ++ cb (zb 32)))).toArray := by kernel_rfl
theorem bt63 : Try.prog.built 63 [] = some (repC 4 ([Value.int IntKind.i64 0, Value.int IntKind.i64 0, Value.int IntKind.i64 0, Value.int IntKind.u64 0] ++ ([Value.int IntKind.i64 0] ++ ([Value.int IntKind.u32 0] ++ cb (zb 32))))).toArray := by kernel_rfl
theorem bt64 : Try.prog.built 64 [] = some (cb (zb 256)).toArray := by kernel_rfl
theorem bt65 : Try.prog.built 65 [] = some (cb (zb 256)).toArray := by kernel_rfl
theorem bt70 : Try.prog.built 70 [] = some (repC 4 ([Value.int IntKind.i64 0, Value.int IntKind.i64 0, Value.int IntKind.i64 0, Value.int IntKind.u64 0] ++ ([Value.int IntKind.i64 0] ++ ([Value.int IntKind.u32 0] ++ cb (zb 32))))).toArray := by kernel_rfl
theorem bt75 : Try.prog.built 75 [] = some ([Value.int IntKind.i64 0, Value.int IntKind.u64 0] ++ ([Value.int IntKind.i64 0] ++ ([Value.int IntKind.u32 0] ++ cb (zb 32))) ++ [Value.int IntKind.i64 0] ++ ([Value.int IntKind.i64 0] ++ ([Value.int IntKind.u32 0] ++ cb (zb 32))) ++ [Value.int IntKind.i64 0]).toArray := by kernel_rfl
theorem bt76 : Try.prog.built 76 [] = some ([Value.int IntKind.i64 0, Value.int IntKind.u64 0] ++ ([Value.int IntKind.i64 0] ++ ([Value.int IntKind.u32 0] ++ cb (zb 32))) ++ [Value.int IntKind.i64 0] ++ ([Value.int IntKind.i64 0] ++ ([Value.int IntKind.u32 0] ++ cb (zb 32))) ++ [Value.int IntKind.i64 0]).toArray := by kernel_rfl
theorem bt77 : Try.prog.built 77 [] = some ([Value.int IntKind.u64 0] ++ ([Value.int IntKind.u32 0] ++ cb (zb 32))).toArray := by kernel_rfl
theorem bt78 : Try.prog.built 78 [] = some ([Value.int IntKind.u64 0] ++ ([Value.int IntKind.u32 0] ++ cb (zb 32))).toArray := by kernel_rfl
theorem bt83 : Try.prog.built 83 [] = some ([Value.int IntKind.i64 0, Value.int IntKind.u64 0] ++ ([Value.int IntKind.i64 0] ++ ([Value.int IntKind.u32 0] ++ cb (zb 32))) ++ [Value.int IntKind.i64 0] ++ ([Value.int IntKind.i64 0] ++ ([Value.int IntKind.u32 0] ++ cb (zb 32))) ++ [Value.int IntKind.i64 0]).toArray := by kernel_rfl
theorem bt84 : Try.prog.built 84 [] = some ([Value.int IntKind.i64 0, Value.int IntKind.u64 0] ++ ([Value.int IntKind.i64 0] ++ ([Value.int IntKind.u32 0] ++ cb (zb 32))) ++ [Value.int IntKind.i64 0] ++ ([Value.int IntKind.i64 0] ++ ([Value.int IntKind.u32 0] ++ cb (zb 32))) ++ [Value.int IntKind.i64 0]).toArray := by kernel_rfl
theorem bt97 : Try.prog.built 97 [] = some (cb (zb 2)).toArray := by kernel_rfl
theorem bt101 : Try.prog.built 101 [] = some (cb (zb 8)).toArray := by kernel_rfl
theorem bt127 : Try.prog.built 127 [] = some (cb (zb 4)).toArray := by kernel_rfl
theorem bt132 : Try.prog.built 132 [] = some ([Value.pointer none, Value.pointer none, Value.pointer none, str []]).toArray := by kernel_rfl
theorem bt133 : Try.prog.built 133 [] = some ([Value.pointer none, Value.pointer none, Value.pointer none, str []]).toArray := by kernel_rfl
theorem bt134 : Try.prog.built 134 [] = some ([]).toArray := by kernel_rfl
theorem bt135 : Try.prog.built 135 [] = some ([]).toArray := by kernel_rfl
theorem bt136 : Try.prog.built 136 [] = some ([]).toArray := by kernel_rfl
def zlist : List (Nat × Value) := [
  (2, Value.int IntKind.i64 0),
  (3, Value.int IntKind.i64 0),
  (4, Value.bool false),
  (5, Value.int IntKind.u8 0),
  (6, Value.int IntKind.u8 0),
  (7, Value.agg ([Value.int IntKind.i64 0, Value.int IntKind.i64 0, Value.bool false, Value.int IntKind.u8 0]).toArray),
  (8, Value.agg ([Value.int IntKind.i64 0, Value.int IntKind.i64 0, Value.bool false, Value.int IntKind.u8 0]).toArray),
  (9, str []),
  (10, str []),
  (11, str []),
  (12, Value.int IntKind.u64 0),
  (13, Value.agg ([str [], Value.int IntKind.u64 0]).toArray),
  (14, Value.agg ([str [], Value.int IntKind.u64 0]).toArray),
  (15, Value.pointer none),
  (16, Value.pointer none),
  (17, Value.pointer none),
  (18, Value.agg ([Value.pointer none]).toArray),
  (19, Value.agg ([Value.pointer none]).toArray),
  (21, Value.int IntKind.i32 0),
  (22, Value.int IntKind.i64 0),
  (25, Value.slice none 0 0),
  (35, Value.int IntKind.u64 0),
  (36, Value.int IntKind.u32 0),
  (37, Value.agg (cb (zb 32)).toArray),
  (38, Value.agg (cb (zb 32)).toArray),
  (39, Value.agg ([Value.int IntKind.u32 0] ++ cb (zb 32)).toArray),
  (40, Value.agg ([Value.int IntKind.u32 0] ++ cb (zb 32)).toArray),
  (41, Value.agg ([Value.int IntKind.i64 0] ++ ([Value.int IntKind.u32 0] ++ cb (zb 32))).toArray),
  (42, Value.agg ([Value.int IntKind.i64 0] ++ ([Value.int IntKind.u32 0] ++ cb (zb 32))).toArray),
  (43, Value.agg ([Value.int IntKind.i64 0, Value.int IntKind.i64 0, Value.int IntKind.i64 0, Value.int IntKind.u64 0] ++ ([Value.int IntKind.i64 0] ++ ([Value.int IntKind.u32 0] ++ cb (zb 32)))).toArray),
  (44, Value.agg ([Value.int IntKind.i64 0, Value.int IntKind.i64 0, Value.int IntKind.i64 0, Value.int IntKind.u64 0] ++ ([Value.int IntKind.i64 0] ++ ([Value.int IntKind.u32 0] ++ cb (zb 32)))).toArray),
  (45, Value.slice none 0 0),
  (50, Value.agg ([Value.int IntKind.u32 0] ++ cb (zb 32)).toArray),
  (51, Value.agg ([Value.int IntKind.u32 0] ++ cb (zb 32)).toArray),
  (52, Value.agg ([Value.int IntKind.i64 0] ++ ([Value.int IntKind.u32 0] ++ cb (zb 32))).toArray),
  (53, Value.agg ([Value.int IntKind.i64 0] ++ ([Value.int IntKind.u32 0] ++ cb (zb 32))).toArray),
  (54, Value.agg ([Value.int IntKind.i64 0, Value.int IntKind.i64 0, Value.int IntKind.i64 0, Value.int IntKind.u64 0] ++ ([Value.int IntKind.i64 0] ++ ([Value.int IntKind.u32 0] ++ cb (zb 32)))).toArray),
  (55, Value.agg ([Value.int IntKind.i64 0, Value.int IntKind.i64 0, Value.int IntKind.i64 0, Value.int IntKind.u64 0] ++ ([Value.int IntKind.i64 0] ++ ([Value.int IntKind.u32 0] ++ cb (zb 32)))).toArray),
  (63, Value.agg (repC 4 ([Value.int IntKind.i64 0, Value.int IntKind.i64 0, Value.int IntKind.i64 0, Value.int IntKind.u64 0] ++ ([Value.int IntKind.i64 0] ++ ([Value.int IntKind.u32 0] ++ cb (zb 32))))).toArray),
  (64, Value.agg (cb (zb 256)).toArray),
  (65, Value.agg (cb (zb 256)).toArray),
  (70, Value.agg (repC 4 ([Value.int IntKind.i64 0, Value.int IntKind.i64 0, Value.int IntKind.i64 0, Value.int IntKind.u64 0] ++ ([Value.int IntKind.i64 0] ++ ([Value.int IntKind.u32 0] ++ cb (zb 32))))).toArray),
  (75, Value.agg ([Value.int IntKind.i64 0, Value.int IntKind.u64 0] ++ ([Value.int IntKind.i64 0] ++ ([Value.int IntKind.u32 0] ++ cb (zb 32))) ++ [Value.int IntKind.i64 0] ++ ([Value.int IntKind.i64 0] ++ ([Value.int IntKind.u32 0] ++ cb (zb 32))) ++ [Value.int IntKind.i64 0]).toArray),
  (76, Value.agg ([Value.int IntKind.i64 0, Value.int IntKind.u64 0] ++ ([Value.int IntKind.i64 0] ++ ([Value.int IntKind.u32 0] ++ cb (zb 32))) ++ [Value.int IntKind.i64 0] ++ ([Value.int IntKind.i64 0] ++ ([Value.int IntKind.u32 0] ++ cb (zb 32))) ++ [Value.int IntKind.i64 0]).toArray),
  (77, Value.agg ([Value.int IntKind.u64 0] ++ ([Value.int IntKind.u32 0] ++ cb (zb 32))).toArray),
  (78, Value.agg ([Value.int IntKind.u64 0] ++ ([Value.int IntKind.u32 0] ++ cb (zb 32))).toArray),
  (83, Value.agg ([Value.int IntKind.i64 0, Value.int IntKind.u64 0] ++ ([Value.int IntKind.i64 0] ++ ([Value.int IntKind.u32 0] ++ cb (zb 32))) ++ [Value.int IntKind.i64 0] ++ ([Value.int IntKind.i64 0] ++ ([Value.int IntKind.u32 0] ++ cb (zb 32))) ++ [Value.int IntKind.i64 0]).toArray),
  (84, Value.agg ([Value.int IntKind.i64 0, Value.int IntKind.u64 0] ++ ([Value.int IntKind.i64 0] ++ ([Value.int IntKind.u32 0] ++ cb (zb 32))) ++ [Value.int IntKind.i64 0] ++ ([Value.int IntKind.i64 0] ++ ([Value.int IntKind.u32 0] ++ cb (zb 32))) ++ [Value.int IntKind.i64 0]).toArray),
  (97, Value.agg (cb (zb 2)).toArray),
  (99, Value.int IntKind.u16 0),
  (100, Value.slice none 0 0),
  (101, Value.agg (cb (zb 8)).toArray),
  (125, Value.int IntKind.u64 0),
  (127, Value.agg (cb (zb 4)).toArray),
  (132, Value.agg ([Value.pointer none, Value.pointer none, Value.pointer none, str []]).toArray),
  (133, Value.agg ([Value.pointer none, Value.pointer none, Value.pointer none, str []]).toArray),
  (134, Value.agg ([]).toArray),
  (135, Value.agg ([]).toArray),
  (136, Value.agg ([]).toArray),
  (138, Value.int IntKind.u8 0),
  (139, Value.int IntKind.u8 0),
  (141, Value.pointer none),
  (142, Value.int IntKind.i32 0),
  (143, Value.int IntKind.i32 0)]
def blist : List (Nat × List Value) := [
  (7, [Value.int IntKind.i64 0, Value.int IntKind.i64 0, Value.bool false, Value.int IntKind.u8 0]),
  (8, [Value.int IntKind.i64 0, Value.int IntKind.i64 0, Value.bool false, Value.int IntKind.u8 0]),
  (13, [str [], Value.int IntKind.u64 0]),
  (14, [str [], Value.int IntKind.u64 0]),
  (18, [Value.pointer none]),
  (19, [Value.pointer none]),
  (37, cb (zb 32)),
  (38, cb (zb 32)),
  (39, [Value.int IntKind.u32 0] ++ cb (zb 32)),
  (40, [Value.int IntKind.u32 0] ++ cb (zb 32)),
  (41, [Value.int IntKind.i64 0] ++ ([Value.int IntKind.u32 0] ++ cb (zb 32))),
  (42, [Value.int IntKind.i64 0] ++ ([Value.int IntKind.u32 0] ++ cb (zb 32))),
  (43, [Value.int IntKind.i64 0, Value.int IntKind.i64 0, Value.int IntKind.i64 0, Value.int IntKind.u64 0] ++ ([Value.int IntKind.i64 0] ++ ([Value.int IntKind.u32 0] ++ cb (zb 32)))),
  (44, [Value.int IntKind.i64 0, Value.int IntKind.i64 0, Value.int IntKind.i64 0, Value.int IntKind.u64 0] ++ ([Value.int IntKind.i64 0] ++ ([Value.int IntKind.u32 0] ++ cb (zb 32)))),
  (50, [Value.int IntKind.u32 0] ++ cb (zb 32)),
  (51, [Value.int IntKind.u32 0] ++ cb (zb 32)),
  (52, [Value.int IntKind.i64 0] ++ ([Value.int IntKind.u32 0] ++ cb (zb 32))),
  (53, [Value.int IntKind.i64 0] ++ ([Value.int IntKind.u32 0] ++ cb (zb 32))),
  (54, [Value.int IntKind.i64 0, Value.int IntKind.i64 0, Value.int IntKind.i64 0, Value.int IntKind.u64 0] ++ ([Value.int IntKind.i64 0] ++ ([Value.int IntKind.u32 0] ++ cb (zb 32)))),
  (55, [Value.int IntKind.i64 0, Value.int IntKind.i64 0, Value.int IntKind.i64 0, Value.int IntKind.u64 0] ++ ([Value.int IntKind.i64 0] ++ ([Value.int IntKind.u32 0] ++ cb (zb 32)))),
  (63, repC 4 ([Value.int IntKind.i64 0, Value.int IntKind.i64 0, Value.int IntKind.i64 0, Value.int IntKind.u64 0] ++ ([Value.int IntKind.i64 0] ++ ([Value.int IntKind.u32 0] ++ cb (zb 32))))),
  (64, cb (zb 256)),
  (65, cb (zb 256)),
  (70, repC 4 ([Value.int IntKind.i64 0, Value.int IntKind.i64 0, Value.int IntKind.i64 0, Value.int IntKind.u64 0] ++ ([Value.int IntKind.i64 0] ++ ([Value.int IntKind.u32 0] ++ cb (zb 32))))),
  (75, [Value.int IntKind.i64 0, Value.int IntKind.u64 0] ++ ([Value.int IntKind.i64 0] ++ ([Value.int IntKind.u32 0] ++ cb (zb 32))) ++ [Value.int IntKind.i64 0] ++ ([Value.int IntKind.i64 0] ++ ([Value.int IntKind.u32 0] ++ cb (zb 32))) ++ [Value.int IntKind.i64 0]),
  (76, [Value.int IntKind.i64 0, Value.int IntKind.u64 0] ++ ([Value.int IntKind.i64 0] ++ ([Value.int IntKind.u32 0] ++ cb (zb 32))) ++ [Value.int IntKind.i64 0] ++ ([Value.int IntKind.i64 0] ++ ([Value.int IntKind.u32 0] ++ cb (zb 32))) ++ [Value.int IntKind.i64 0]),
  (77, [Value.int IntKind.u64 0] ++ ([Value.int IntKind.u32 0] ++ cb (zb 32))),
  (78, [Value.int IntKind.u64 0] ++ ([Value.int IntKind.u32 0] ++ cb (zb 32))),
  (83, [Value.int IntKind.i64 0, Value.int IntKind.u64 0] ++ ([Value.int IntKind.i64 0] ++ ([Value.int IntKind.u32 0] ++ cb (zb 32))) ++ [Value.int IntKind.i64 0] ++ ([Value.int IntKind.i64 0] ++ ([Value.int IntKind.u32 0] ++ cb (zb 32))) ++ [Value.int IntKind.i64 0]),
  (84, [Value.int IntKind.i64 0, Value.int IntKind.u64 0] ++ ([Value.int IntKind.i64 0] ++ ([Value.int IntKind.u32 0] ++ cb (zb 32))) ++ [Value.int IntKind.i64 0] ++ ([Value.int IntKind.i64 0] ++ ([Value.int IntKind.u32 0] ++ cb (zb 32))) ++ [Value.int IntKind.i64 0]),
  (97, cb (zb 2)),
  (101, cb (zb 8)),
  (127, cb (zb 4)),
  (132, [Value.pointer none, Value.pointer none, Value.pointer none, str []]),
  (133, [Value.pointer none, Value.pointer none, Value.pointer none, str []]),
  (134, []),
  (135, []),
  (136, [])]
theorem zlist_ok : AllZr Try.prog zlist := ⟨zr2, zr3, zr4, zr5, zr6, zr7, zr8, zr9, zr10, zr11, zr12, zr13, zr14, zr15, zr16, zr17, zr18, zr19, zr21, zr22, zr25, zr35, zr36, zr37, zr38, zr39, zr40, zr41, zr42, zr43, zr44, zr45, zr50, zr51, zr52, zr53, zr54, zr55, zr63, zr64, zr65, zr70, zr75, zr76, zr77, zr78, zr83, zr84, zr97, zr99, zr100, zr101, zr125, zr127, zr132, zr133, zr134, zr135, zr136, zr138, zr139, zr141, zr142, zr143, trivial⟩
theorem blist_ok : AllBt Try.prog blist := ⟨bt7, bt8, bt13, bt14, bt18, bt19, bt37, bt38, bt39, bt40, bt41, bt42, bt43, bt44, bt50, bt51, bt52, bt53, bt54, bt55, bt63, bt64, bt65, bt70, bt75, bt76, bt77, bt78, bt83, bt84, bt97, bt101, bt127, bt132, bt133, bt134, bt135, bt136, trivial⟩
theorem if2 : infoOf Try.prog 2 = some (some (Value.int IntKind.i64 0), 1, 8) ∧ (Value.int IntKind.i64 0 : Value).cells.size = 1 ∧ 0 < 1 ∧ 0 < 8 ∧ 1 ≤ 16777216 := ⟨by kernel_rfl, rfl, by decide, by decide, by decide⟩
theorem if3 : infoOf Try.prog 3 = some (some (Value.int IntKind.i64 0), 1, 8) ∧ (Value.int IntKind.i64 0 : Value).cells.size = 1 ∧ 0 < 1 ∧ 0 < 8 ∧ 1 ≤ 16777216 := ⟨by kernel_rfl, rfl, by decide, by decide, by decide⟩
theorem if4 : infoOf Try.prog 4 = some (some (Value.bool false), 1, 1) ∧ (Value.bool false : Value).cells.size = 1 ∧ 0 < 1 ∧ 0 < 1 ∧ 1 ≤ 16777216 := ⟨by kernel_rfl, rfl, by decide, by decide, by decide⟩
theorem if5 : infoOf Try.prog 5 = some (some (Value.int IntKind.u8 0), 1, 1) ∧ (Value.int IntKind.u8 0 : Value).cells.size = 1 ∧ 0 < 1 ∧ 0 < 1 ∧ 1 ≤ 16777216 := ⟨by kernel_rfl, rfl, by decide, by decide, by decide⟩
theorem if6 : infoOf Try.prog 6 = some (some (Value.int IntKind.u8 0), 1, 1) ∧ (Value.int IntKind.u8 0 : Value).cells.size = 1 ∧ 0 < 1 ∧ 0 < 1 ∧ 1 ≤ 16777216 := ⟨by kernel_rfl, rfl, by decide, by decide, by decide⟩
theorem if7 : infoOf Try.prog 7 = some (some (Value.agg ([Value.int IntKind.i64 0, Value.int IntKind.i64 0, Value.bool false, Value.int IntKind.u8 0]).toArray), 4, 24) ∧ (Value.agg ([Value.int IntKind.i64 0, Value.int IntKind.i64 0, Value.bool false, Value.int IntKind.u8 0]).toArray : Value).cells.size = 4 ∧ 0 < 4 ∧ 0 < 24 ∧ 4 ≤ 16777216 := ⟨by kernel_rfl, rfl, by decide, by decide, by decide⟩
theorem if8 : infoOf Try.prog 8 = some (some (Value.agg ([Value.int IntKind.i64 0, Value.int IntKind.i64 0, Value.bool false, Value.int IntKind.u8 0]).toArray), 4, 24) ∧ (Value.agg ([Value.int IntKind.i64 0, Value.int IntKind.i64 0, Value.bool false, Value.int IntKind.u8 0]).toArray : Value).cells.size = 4 ∧ 0 < 4 ∧ 0 < 24 ∧ 4 ≤ 16777216 := ⟨by kernel_rfl, rfl, by decide, by decide, by decide⟩
theorem if9 : infoOf Try.prog 9 = some (some (str []), 1, 16) ∧ (str [] : Value).cells.size = 1 ∧ 0 < 1 ∧ 0 < 16 ∧ 1 ≤ 16777216 := ⟨by kernel_rfl, rfl, by decide, by decide, by decide⟩
theorem if10 : infoOf Try.prog 10 = some (some (str []), 1, 16) ∧ (str [] : Value).cells.size = 1 ∧ 0 < 1 ∧ 0 < 16 ∧ 1 ≤ 16777216 := ⟨by kernel_rfl, rfl, by decide, by decide, by decide⟩
theorem if11 : infoOf Try.prog 11 = some (some (str []), 1, 16) ∧ (str [] : Value).cells.size = 1 ∧ 0 < 1 ∧ 0 < 16 ∧ 1 ≤ 16777216 := ⟨by kernel_rfl, rfl, by decide, by decide, by decide⟩
theorem if12 : infoOf Try.prog 12 = some (some (Value.int IntKind.u64 0), 1, 8) ∧ (Value.int IntKind.u64 0 : Value).cells.size = 1 ∧ 0 < 1 ∧ 0 < 8 ∧ 1 ≤ 16777216 := ⟨by kernel_rfl, rfl, by decide, by decide, by decide⟩
theorem if13 : infoOf Try.prog 13 = some (some (Value.agg ([str [], Value.int IntKind.u64 0]).toArray), 2, 24) ∧ (Value.agg ([str [], Value.int IntKind.u64 0]).toArray : Value).cells.size = 2 ∧ 0 < 2 ∧ 0 < 24 ∧ 2 ≤ 16777216 := ⟨by kernel_rfl, rfl, by decide, by decide, by decide⟩
theorem if14 : infoOf Try.prog 14 = some (some (Value.agg ([str [], Value.int IntKind.u64 0]).toArray), 2, 24) ∧ (Value.agg ([str [], Value.int IntKind.u64 0]).toArray : Value).cells.size = 2 ∧ 0 < 2 ∧ 0 < 24 ∧ 2 ≤ 16777216 := ⟨by kernel_rfl, rfl, by decide, by decide, by decide⟩
theorem if15 : infoOf Try.prog 15 = some (some (Value.pointer none), 1, 8) ∧ (Value.pointer none : Value).cells.size = 1 ∧ 0 < 1 ∧ 0 < 8 ∧ 1 ≤ 16777216 := ⟨by kernel_rfl, rfl, by decide, by decide, by decide⟩
theorem if16 : infoOf Try.prog 16 = some (some (Value.pointer none), 1, 8) ∧ (Value.pointer none : Value).cells.size = 1 ∧ 0 < 1 ∧ 0 < 8 ∧ 1 ≤ 16777216 := ⟨by kernel_rfl, rfl, by decide, by decide, by decide⟩
theorem if17 : infoOf Try.prog 17 = some (some (Value.pointer none), 1, 8) ∧ (Value.pointer none : Value).cells.size = 1 ∧ 0 < 1 ∧ 0 < 8 ∧ 1 ≤ 16777216 := ⟨by kernel_rfl, rfl, by decide, by decide, by decide⟩
theorem if18 : infoOf Try.prog 18 = some (some (Value.agg ([Value.pointer none]).toArray), 1, 8) ∧ (Value.agg ([Value.pointer none]).toArray : Value).cells.size = 1 ∧ 0 < 1 ∧ 0 < 8 ∧ 1 ≤ 16777216 := ⟨by kernel_rfl, rfl, by decide, by decide, by decide⟩
theorem if19 : infoOf Try.prog 19 = some (some (Value.agg ([Value.pointer none]).toArray), 1, 8) ∧ (Value.agg ([Value.pointer none]).toArray : Value).cells.size = 1 ∧ 0 < 1 ∧ 0 < 8 ∧ 1 ≤ 16777216 := ⟨by kernel_rfl, rfl, by decide, by decide, by decide⟩
theorem if21 : infoOf Try.prog 21 = some (some (Value.int IntKind.i32 0), 1, 4) ∧ (Value.int IntKind.i32 0 : Value).cells.size = 1 ∧ 0 < 1 ∧ 0 < 4 ∧ 1 ≤ 16777216 := ⟨by kernel_rfl, rfl, by decide, by decide, by decide⟩
theorem if22 : infoOf Try.prog 22 = some (some (Value.int IntKind.i64 0), 1, 8) ∧ (Value.int IntKind.i64 0 : Value).cells.size = 1 ∧ 0 < 1 ∧ 0 < 8 ∧ 1 ≤ 16777216 := ⟨by kernel_rfl, rfl, by decide, by decide, by decide⟩
theorem if25 : infoOf Try.prog 25 = some (some (Value.slice none 0 0), 1, 24) ∧ (Value.slice none 0 0 : Value).cells.size = 1 ∧ 0 < 1 ∧ 0 < 24 ∧ 1 ≤ 16777216 := ⟨by kernel_rfl, rfl, by decide, by decide, by decide⟩
theorem if35 : infoOf Try.prog 35 = some (some (Value.int IntKind.u64 0), 1, 8) ∧ (Value.int IntKind.u64 0 : Value).cells.size = 1 ∧ 0 < 1 ∧ 0 < 8 ∧ 1 ≤ 16777216 := ⟨by kernel_rfl, rfl, by decide, by decide, by decide⟩
theorem if36 : infoOf Try.prog 36 = some (some (Value.int IntKind.u32 0), 1, 4) ∧ (Value.int IntKind.u32 0 : Value).cells.size = 1 ∧ 0 < 1 ∧ 0 < 4 ∧ 1 ≤ 16777216 := ⟨by kernel_rfl, rfl, by decide, by decide, by decide⟩
theorem if37 : infoOf Try.prog 37 = some (some (Value.agg (cb (zb 32)).toArray), 32, 32) ∧ (Value.agg (cb (zb 32)).toArray : Value).cells.size = 32 ∧ 0 < 32 ∧ 0 < 32 ∧ 32 ≤ 16777216 := ⟨by kernel_rfl, by decide +kernel, by decide, by decide, by decide⟩
theorem if38 : infoOf Try.prog 38 = some (some (Value.agg (cb (zb 32)).toArray), 32, 32) ∧ (Value.agg (cb (zb 32)).toArray : Value).cells.size = 32 ∧ 0 < 32 ∧ 0 < 32 ∧ 32 ≤ 16777216 := ⟨by kernel_rfl, by decide +kernel, by decide, by decide, by decide⟩
theorem if39 : infoOf Try.prog 39 = some (some (Value.agg ([Value.int IntKind.u32 0] ++ cb (zb 32)).toArray), 33, 36) ∧ (Value.agg ([Value.int IntKind.u32 0] ++ cb (zb 32)).toArray : Value).cells.size = 33 ∧ 0 < 33 ∧ 0 < 36 ∧ 33 ≤ 16777216 := ⟨by kernel_rfl, by decide +kernel, by decide, by decide, by decide⟩
theorem if40 : infoOf Try.prog 40 = some (some (Value.agg ([Value.int IntKind.u32 0] ++ cb (zb 32)).toArray), 33, 36) ∧ (Value.agg ([Value.int IntKind.u32 0] ++ cb (zb 32)).toArray : Value).cells.size = 33 ∧ 0 < 33 ∧ 0 < 36 ∧ 33 ≤ 16777216 := ⟨by kernel_rfl, by decide +kernel, by decide, by decide, by decide⟩
theorem if41 : infoOf Try.prog 41 = some (some (Value.agg ([Value.int IntKind.i64 0] ++ ([Value.int IntKind.u32 0] ++ cb (zb 32))).toArray), 34, 48) ∧ (Value.agg ([Value.int IntKind.i64 0] ++ ([Value.int IntKind.u32 0] ++ cb (zb 32))).toArray : Value).cells.size = 34 ∧ 0 < 34 ∧ 0 < 48 ∧ 34 ≤ 16777216 := ⟨by kernel_rfl, by decide +kernel, by decide, by decide, by decide⟩
theorem if42 : infoOf Try.prog 42 = some (some (Value.agg ([Value.int IntKind.i64 0] ++ ([Value.int IntKind.u32 0] ++ cb (zb 32))).toArray), 34, 48) ∧ (Value.agg ([Value.int IntKind.i64 0] ++ ([Value.int IntKind.u32 0] ++ cb (zb 32))).toArray : Value).cells.size = 34 ∧ 0 < 34 ∧ 0 < 48 ∧ 34 ≤ 16777216 := ⟨by kernel_rfl, by decide +kernel, by decide, by decide, by decide⟩
theorem if43 : infoOf Try.prog 43 = some (some (Value.agg ([Value.int IntKind.i64 0, Value.int IntKind.i64 0, Value.int IntKind.i64 0, Value.int IntKind.u64 0] ++ ([Value.int IntKind.i64 0] ++ ([Value.int IntKind.u32 0] ++ cb (zb 32)))).toArray), 38, 80) ∧ (Value.agg ([Value.int IntKind.i64 0, Value.int IntKind.i64 0, Value.int IntKind.i64 0, Value.int IntKind.u64 0] ++ ([Value.int IntKind.i64 0] ++ ([Value.int IntKind.u32 0] ++ cb (zb 32)))).toArray : Value).cells.size = 38 ∧ 0 < 38 ∧ 0 < 80 ∧ 38 ≤ 16777216 := ⟨by kernel_rfl, by decide +kernel, by decide, by decide, by decide⟩
theorem if44 : infoOf Try.prog 44 = some (some (Value.agg ([Value.int IntKind.i64 0, Value.int IntKind.i64 0, Value.int IntKind.i64 0, Value.int IntKind.u64 0] ++ ([Value.int IntKind.i64 0] ++ ([Value.int IntKind.u32 0] ++ cb (zb 32)))).toArray), 38, 80) ∧ (Value.agg ([Value.int IntKind.i64 0, Value.int IntKind.i64 0, Value.int IntKind.i64 0, Value.int IntKind.u64 0] ++ ([Value.int IntKind.i64 0] ++ ([Value.int IntKind.u32 0] ++ cb (zb 32)))).toArray : Value).cells.size = 38 ∧ 0 < 38 ∧ 0 < 80 ∧ 38 ≤ 16777216 := ⟨by kernel_rfl, by decide +kernel, by decide, by decide, by decide⟩
theorem if45 : infoOf Try.prog 45 = some (some (Value.slice none 0 0), 1, 24) ∧ (Value.slice none 0 0 : Value).cells.size = 1 ∧ 0 < 1 ∧ 0 < 24 ∧ 1 ≤ 16777216 := ⟨by kernel_rfl, rfl, by decide, by decide, by decide⟩
theorem if50 : infoOf Try.prog 50 = some (some (Value.agg ([Value.int IntKind.u32 0] ++ cb (zb 32)).toArray), 33, 36) ∧ (Value.agg ([Value.int IntKind.u32 0] ++ cb (zb 32)).toArray : Value).cells.size = 33 ∧ 0 < 33 ∧ 0 < 36 ∧ 33 ≤ 16777216 := ⟨by kernel_rfl, by decide +kernel, by decide, by decide, by decide⟩
theorem if51 : infoOf Try.prog 51 = some (some (Value.agg ([Value.int IntKind.u32 0] ++ cb (zb 32)).toArray), 33, 36) ∧ (Value.agg ([Value.int IntKind.u32 0] ++ cb (zb 32)).toArray : Value).cells.size = 33 ∧ 0 < 33 ∧ 0 < 36 ∧ 33 ≤ 16777216 := ⟨by kernel_rfl, by decide +kernel, by decide, by decide, by decide⟩
theorem if52 : infoOf Try.prog 52 = some (some (Value.agg ([Value.int IntKind.i64 0] ++ ([Value.int IntKind.u32 0] ++ cb (zb 32))).toArray), 34, 48) ∧ (Value.agg ([Value.int IntKind.i64 0] ++ ([Value.int IntKind.u32 0] ++ cb (zb 32))).toArray : Value).cells.size = 34 ∧ 0 < 34 ∧ 0 < 48 ∧ 34 ≤ 16777216 := ⟨by kernel_rfl, by decide +kernel, by decide, by decide, by decide⟩
theorem if53 : infoOf Try.prog 53 = some (some (Value.agg ([Value.int IntKind.i64 0] ++ ([Value.int IntKind.u32 0] ++ cb (zb 32))).toArray), 34, 48) ∧ (Value.agg ([Value.int IntKind.i64 0] ++ ([Value.int IntKind.u32 0] ++ cb (zb 32))).toArray : Value).cells.size = 34 ∧ 0 < 34 ∧ 0 < 48 ∧ 34 ≤ 16777216 := ⟨by kernel_rfl, by decide +kernel, by decide, by decide, by decide⟩
theorem if54 : infoOf Try.prog 54 = some (some (Value.agg ([Value.int IntKind.i64 0, Value.int IntKind.i64 0, Value.int IntKind.i64 0, Value.int IntKind.u64 0] ++ ([Value.int IntKind.i64 0] ++ ([Value.int IntKind.u32 0] ++ cb (zb 32)))).toArray), 38, 80) ∧ (Value.agg ([Value.int IntKind.i64 0, Value.int IntKind.i64 0, Value.int IntKind.i64 0, Value.int IntKind.u64 0] ++ ([Value.int IntKind.i64 0] ++ ([Value.int IntKind.u32 0] ++ cb (zb 32)))).toArray : Value).cells.size = 38 ∧ 0 < 38 ∧ 0 < 80 ∧ 38 ≤ 16777216 := ⟨by kernel_rfl, by decide +kernel, by decide, by decide, by decide⟩
theorem if55 : infoOf Try.prog 55 = some (some (Value.agg ([Value.int IntKind.i64 0, Value.int IntKind.i64 0, Value.int IntKind.i64 0, Value.int IntKind.u64 0] ++ ([Value.int IntKind.i64 0] ++ ([Value.int IntKind.u32 0] ++ cb (zb 32)))).toArray), 38, 80) ∧ (Value.agg ([Value.int IntKind.i64 0, Value.int IntKind.i64 0, Value.int IntKind.i64 0, Value.int IntKind.u64 0] ++ ([Value.int IntKind.i64 0] ++ ([Value.int IntKind.u32 0] ++ cb (zb 32)))).toArray : Value).cells.size = 38 ∧ 0 < 38 ∧ 0 < 80 ∧ 38 ≤ 16777216 := ⟨by kernel_rfl, by decide +kernel, by decide, by decide, by decide⟩
theorem if63 : infoOf Try.prog 63 = some (some (Value.agg (repC 4 ([Value.int IntKind.i64 0, Value.int IntKind.i64 0, Value.int IntKind.i64 0, Value.int IntKind.u64 0] ++ ([Value.int IntKind.i64 0] ++ ([Value.int IntKind.u32 0] ++ cb (zb 32))))).toArray), 152, 320) ∧ (Value.agg (repC 4 ([Value.int IntKind.i64 0, Value.int IntKind.i64 0, Value.int IntKind.i64 0, Value.int IntKind.u64 0] ++ ([Value.int IntKind.i64 0] ++ ([Value.int IntKind.u32 0] ++ cb (zb 32))))).toArray : Value).cells.size = 152 ∧ 0 < 152 ∧ 0 < 320 ∧ 152 ≤ 16777216 := ⟨by kernel_rfl, by decide +kernel, by decide, by decide, by decide⟩
theorem if64 : infoOf Try.prog 64 = some (some (Value.agg (cb (zb 256)).toArray), 256, 256) ∧ (Value.agg (cb (zb 256)).toArray : Value).cells.size = 256 ∧ 0 < 256 ∧ 0 < 256 ∧ 256 ≤ 16777216 := ⟨by kernel_rfl, by decide +kernel, by decide, by decide, by decide⟩
theorem if65 : infoOf Try.prog 65 = some (some (Value.agg (cb (zb 256)).toArray), 256, 256) ∧ (Value.agg (cb (zb 256)).toArray : Value).cells.size = 256 ∧ 0 < 256 ∧ 0 < 256 ∧ 256 ≤ 16777216 := ⟨by kernel_rfl, by decide +kernel, by decide, by decide, by decide⟩
theorem if70 : infoOf Try.prog 70 = some (some (Value.agg (repC 4 ([Value.int IntKind.i64 0, Value.int IntKind.i64 0, Value.int IntKind.i64 0, Value.int IntKind.u64 0] ++ ([Value.int IntKind.i64 0] ++ ([Value.int IntKind.u32 0] ++ cb (zb 32))))).toArray), 152, 320) ∧ (Value.agg (repC 4 ([Value.int IntKind.i64 0, Value.int IntKind.i64 0, Value.int IntKind.i64 0, Value.int IntKind.u64 0] ++ ([Value.int IntKind.i64 0] ++ ([Value.int IntKind.u32 0] ++ cb (zb 32))))).toArray : Value).cells.size = 152 ∧ 0 < 152 ∧ 0 < 320 ∧ 152 ≤ 16777216 := ⟨by kernel_rfl, by decide +kernel, by decide, by decide, by decide⟩
theorem if75 : infoOf Try.prog 75 = some (some (Value.agg ([Value.int IntKind.i64 0, Value.int IntKind.u64 0] ++ ([Value.int IntKind.i64 0] ++ ([Value.int IntKind.u32 0] ++ cb (zb 32))) ++ [Value.int IntKind.i64 0] ++ ([Value.int IntKind.i64 0] ++ ([Value.int IntKind.u32 0] ++ cb (zb 32))) ++ [Value.int IntKind.i64 0]).toArray), 72, 128) ∧ (Value.agg ([Value.int IntKind.i64 0, Value.int IntKind.u64 0] ++ ([Value.int IntKind.i64 0] ++ ([Value.int IntKind.u32 0] ++ cb (zb 32))) ++ [Value.int IntKind.i64 0] ++ ([Value.int IntKind.i64 0] ++ ([Value.int IntKind.u32 0] ++ cb (zb 32))) ++ [Value.int IntKind.i64 0]).toArray : Value).cells.size = 72 ∧ 0 < 72 ∧ 0 < 128 ∧ 72 ≤ 16777216 := ⟨by kernel_rfl, by decide +kernel, by decide, by decide, by decide⟩
theorem if76 : infoOf Try.prog 76 = some (some (Value.agg ([Value.int IntKind.i64 0, Value.int IntKind.u64 0] ++ ([Value.int IntKind.i64 0] ++ ([Value.int IntKind.u32 0] ++ cb (zb 32))) ++ [Value.int IntKind.i64 0] ++ ([Value.int IntKind.i64 0] ++ ([Value.int IntKind.u32 0] ++ cb (zb 32))) ++ [Value.int IntKind.i64 0]).toArray), 72, 128) ∧ (Value.agg ([Value.int IntKind.i64 0, Value.int IntKind.u64 0] ++ ([Value.int IntKind.i64 0] ++ ([Value.int IntKind.u32 0] ++ cb (zb 32))) ++ [Value.int IntKind.i64 0] ++ ([Value.int IntKind.i64 0] ++ ([Value.int IntKind.u32 0] ++ cb (zb 32))) ++ [Value.int IntKind.i64 0]).toArray : Value).cells.size = 72 ∧ 0 < 72 ∧ 0 < 128 ∧ 72 ≤ 16777216 := ⟨by kernel_rfl, by decide +kernel, by decide, by decide, by decide⟩
theorem if77 : infoOf Try.prog 77 = some (some (Value.agg ([Value.int IntKind.u64 0] ++ ([Value.int IntKind.u32 0] ++ cb (zb 32))).toArray), 34, 48) ∧ (Value.agg ([Value.int IntKind.u64 0] ++ ([Value.int IntKind.u32 0] ++ cb (zb 32))).toArray : Value).cells.size = 34 ∧ 0 < 34 ∧ 0 < 48 ∧ 34 ≤ 16777216 := ⟨by kernel_rfl, by decide +kernel, by decide, by decide, by decide⟩
theorem if78 : infoOf Try.prog 78 = some (some (Value.agg ([Value.int IntKind.u64 0] ++ ([Value.int IntKind.u32 0] ++ cb (zb 32))).toArray), 34, 48) ∧ (Value.agg ([Value.int IntKind.u64 0] ++ ([Value.int IntKind.u32 0] ++ cb (zb 32))).toArray : Value).cells.size = 34 ∧ 0 < 34 ∧ 0 < 48 ∧ 34 ≤ 16777216 := ⟨by kernel_rfl, by decide +kernel, by decide, by decide, by decide⟩
theorem if83 : infoOf Try.prog 83 = some (some (Value.agg ([Value.int IntKind.i64 0, Value.int IntKind.u64 0] ++ ([Value.int IntKind.i64 0] ++ ([Value.int IntKind.u32 0] ++ cb (zb 32))) ++ [Value.int IntKind.i64 0] ++ ([Value.int IntKind.i64 0] ++ ([Value.int IntKind.u32 0] ++ cb (zb 32))) ++ [Value.int IntKind.i64 0]).toArray), 72, 128) ∧ (Value.agg ([Value.int IntKind.i64 0, Value.int IntKind.u64 0] ++ ([Value.int IntKind.i64 0] ++ ([Value.int IntKind.u32 0] ++ cb (zb 32))) ++ [Value.int IntKind.i64 0] ++ ([Value.int IntKind.i64 0] ++ ([Value.int IntKind.u32 0] ++ cb (zb 32))) ++ [Value.int IntKind.i64 0]).toArray : Value).cells.size = 72 ∧ 0 < 72 ∧ 0 < 128 ∧ 72 ≤ 16777216 := ⟨by kernel_rfl, by decide +kernel, by decide, by decide, by decide⟩
theorem if84 : infoOf Try.prog 84 = some (some (Value.agg ([Value.int IntKind.i64 0, Value.int IntKind.u64 0] ++ ([Value.int IntKind.i64 0] ++ ([Value.int IntKind.u32 0] ++ cb (zb 32))) ++ [Value.int IntKind.i64 0] ++ ([Value.int IntKind.i64 0] ++ ([Value.int IntKind.u32 0] ++ cb (zb 32))) ++ [Value.int IntKind.i64 0]).toArray), 72, 128) ∧ (Value.agg ([Value.int IntKind.i64 0, Value.int IntKind.u64 0] ++ ([Value.int IntKind.i64 0] ++ ([Value.int IntKind.u32 0] ++ cb (zb 32))) ++ [Value.int IntKind.i64 0] ++ ([Value.int IntKind.i64 0] ++ ([Value.int IntKind.u32 0] ++ cb (zb 32))) ++ [Value.int IntKind.i64 0]).toArray : Value).cells.size = 72 ∧ 0 < 72 ∧ 0 < 128 ∧ 72 ≤ 16777216 := ⟨by kernel_rfl, by decide +kernel, by decide, by decide, by decide⟩
theorem if97 : infoOf Try.prog 97 = some (some (Value.agg (cb (zb 2)).toArray), 2, 2) ∧ (Value.agg (cb (zb 2)).toArray : Value).cells.size = 2 ∧ 0 < 2 ∧ 0 < 2 ∧ 2 ≤ 16777216 := ⟨by kernel_rfl, by decide +kernel, by decide, by decide, by decide⟩
theorem if99 : infoOf Try.prog 99 = some (some (Value.int IntKind.u16 0), 1, 2) ∧ (Value.int IntKind.u16 0 : Value).cells.size = 1 ∧ 0 < 1 ∧ 0 < 2 ∧ 1 ≤ 16777216 := ⟨by kernel_rfl, rfl, by decide, by decide, by decide⟩
theorem if100 : infoOf Try.prog 100 = some (some (Value.slice none 0 0), 1, 24) ∧ (Value.slice none 0 0 : Value).cells.size = 1 ∧ 0 < 1 ∧ 0 < 24 ∧ 1 ≤ 16777216 := ⟨by kernel_rfl, rfl, by decide, by decide, by decide⟩
theorem if101 : infoOf Try.prog 101 = some (some (Value.agg (cb (zb 8)).toArray), 8, 8) ∧ (Value.agg (cb (zb 8)).toArray : Value).cells.size = 8 ∧ 0 < 8 ∧ 0 < 8 ∧ 8 ≤ 16777216 := ⟨by kernel_rfl, by decide +kernel, by decide, by decide, by decide⟩
theorem if125 : infoOf Try.prog 125 = some (some (Value.int IntKind.u64 0), 1, 8) ∧ (Value.int IntKind.u64 0 : Value).cells.size = 1 ∧ 0 < 1 ∧ 0 < 8 ∧ 1 ≤ 16777216 := ⟨by kernel_rfl, rfl, by decide, by decide, by decide⟩
theorem if127 : infoOf Try.prog 127 = some (some (Value.agg (cb (zb 4)).toArray), 4, 4) ∧ (Value.agg (cb (zb 4)).toArray : Value).cells.size = 4 ∧ 0 < 4 ∧ 0 < 4 ∧ 4 ≤ 16777216 := ⟨by kernel_rfl, by decide +kernel, by decide, by decide, by decide⟩
theorem if132 : infoOf Try.prog 132 = some (some (Value.agg ([Value.pointer none, Value.pointer none, Value.pointer none, str []]).toArray), 4, 40) ∧ (Value.agg ([Value.pointer none, Value.pointer none, Value.pointer none, str []]).toArray : Value).cells.size = 4 ∧ 0 < 4 ∧ 0 < 40 ∧ 4 ≤ 16777216 := ⟨by kernel_rfl, rfl, by decide, by decide, by decide⟩
theorem if133 : infoOf Try.prog 133 = some (some (Value.agg ([Value.pointer none, Value.pointer none, Value.pointer none, str []]).toArray), 4, 40) ∧ (Value.agg ([Value.pointer none, Value.pointer none, Value.pointer none, str []]).toArray : Value).cells.size = 4 ∧ 0 < 4 ∧ 0 < 40 ∧ 4 ≤ 16777216 := ⟨by kernel_rfl, rfl, by decide, by decide, by decide⟩
theorem if138 : infoOf Try.prog 138 = some (some (Value.int IntKind.u8 0), 1, 1) ∧ (Value.int IntKind.u8 0 : Value).cells.size = 1 ∧ 0 < 1 ∧ 0 < 1 ∧ 1 ≤ 16777216 := ⟨by kernel_rfl, rfl, by decide, by decide, by decide⟩
theorem if139 : infoOf Try.prog 139 = some (some (Value.int IntKind.u8 0), 1, 1) ∧ (Value.int IntKind.u8 0 : Value).cells.size = 1 ∧ 0 < 1 ∧ 0 < 1 ∧ 1 ≤ 16777216 := ⟨by kernel_rfl, rfl, by decide, by decide, by decide⟩
theorem if141 : infoOf Try.prog 141 = some (some (Value.pointer none), 1, 8) ∧ (Value.pointer none : Value).cells.size = 1 ∧ 0 < 1 ∧ 0 < 8 ∧ 1 ≤ 16777216 := ⟨by kernel_rfl, rfl, by decide, by decide, by decide⟩
theorem if142 : infoOf Try.prog 142 = some (some (Value.int IntKind.i32 0), 1, 4) ∧ (Value.int IntKind.i32 0 : Value).cells.size = 1 ∧ 0 < 1 ∧ 0 < 4 ∧ 1 ≤ 16777216 := ⟨by kernel_rfl, rfl, by decide, by decide, by decide⟩
theorem if143 : infoOf Try.prog 143 = some (some (Value.int IntKind.i32 0), 1, 4) ∧ (Value.int IntKind.i32 0 : Value).cells.size = 1 ∧ 0 < 1 ∧ 0 < 4 ∧ 1 ≤ 16777216 := ⟨by kernel_rfl, rfl, by decide, by decide, by decide⟩
def ilist : List (Nat × Value × Nat × Nat) := [
  (2, Value.int IntKind.i64 0, 1, 8),
  (3, Value.int IntKind.i64 0, 1, 8),
  (4, Value.bool false, 1, 1),
  (5, Value.int IntKind.u8 0, 1, 1),
  (6, Value.int IntKind.u8 0, 1, 1),
  (7, Value.agg ([Value.int IntKind.i64 0, Value.int IntKind.i64 0, Value.bool false, Value.int IntKind.u8 0]).toArray, 4, 24),
  (8, Value.agg ([Value.int IntKind.i64 0, Value.int IntKind.i64 0, Value.bool false, Value.int IntKind.u8 0]).toArray, 4, 24),
  (9, str [], 1, 16),
  (10, str [], 1, 16),
  (11, str [], 1, 16),
  (12, Value.int IntKind.u64 0, 1, 8),
  (13, Value.agg ([str [], Value.int IntKind.u64 0]).toArray, 2, 24),
  (14, Value.agg ([str [], Value.int IntKind.u64 0]).toArray, 2, 24),
  (15, Value.pointer none, 1, 8),
  (16, Value.pointer none, 1, 8),
  (17, Value.pointer none, 1, 8),
  (18, Value.agg ([Value.pointer none]).toArray, 1, 8),
  (19, Value.agg ([Value.pointer none]).toArray, 1, 8),
  (21, Value.int IntKind.i32 0, 1, 4),
  (22, Value.int IntKind.i64 0, 1, 8),
  (25, Value.slice none 0 0, 1, 24),
  (35, Value.int IntKind.u64 0, 1, 8),
  (36, Value.int IntKind.u32 0, 1, 4),
  (37, Value.agg (cb (zb 32)).toArray, 32, 32),
  (38, Value.agg (cb (zb 32)).toArray, 32, 32),
  (39, Value.agg ([Value.int IntKind.u32 0] ++ cb (zb 32)).toArray, 33, 36),
  (40, Value.agg ([Value.int IntKind.u32 0] ++ cb (zb 32)).toArray, 33, 36),
  (41, Value.agg ([Value.int IntKind.i64 0] ++ ([Value.int IntKind.u32 0] ++ cb (zb 32))).toArray, 34, 48),
  (42, Value.agg ([Value.int IntKind.i64 0] ++ ([Value.int IntKind.u32 0] ++ cb (zb 32))).toArray, 34, 48),
  (43, Value.agg ([Value.int IntKind.i64 0, Value.int IntKind.i64 0, Value.int IntKind.i64 0, Value.int IntKind.u64 0] ++ ([Value.int IntKind.i64 0] ++ ([Value.int IntKind.u32 0] ++ cb (zb 32)))).toArray, 38, 80),
  (44, Value.agg ([Value.int IntKind.i64 0, Value.int IntKind.i64 0, Value.int IntKind.i64 0, Value.int IntKind.u64 0] ++ ([Value.int IntKind.i64 0] ++ ([Value.int IntKind.u32 0] ++ cb (zb 32)))).toArray, 38, 80),
  (45, Value.slice none 0 0, 1, 24),
  (50, Value.agg ([Value.int IntKind.u32 0] ++ cb (zb 32)).toArray, 33, 36),
  (51, Value.agg ([Value.int IntKind.u32 0] ++ cb (zb 32)).toArray, 33, 36),
  (52, Value.agg ([Value.int IntKind.i64 0] ++ ([Value.int IntKind.u32 0] ++ cb (zb 32))).toArray, 34, 48),
  (53, Value.agg ([Value.int IntKind.i64 0] ++ ([Value.int IntKind.u32 0] ++ cb (zb 32))).toArray, 34, 48),
  (54, Value.agg ([Value.int IntKind.i64 0, Value.int IntKind.i64 0, Value.int IntKind.i64 0, Value.int IntKind.u64 0] ++ ([Value.int IntKind.i64 0] ++ ([Value.int IntKind.u32 0] ++ cb (zb 32)))).toArray, 38, 80),
  (55, Value.agg ([Value.int IntKind.i64 0, Value.int IntKind.i64 0, Value.int IntKind.i64 0, Value.int IntKind.u64 0] ++ ([Value.int IntKind.i64 0] ++ ([Value.int IntKind.u32 0] ++ cb (zb 32)))).toArray, 38, 80),
  (63, Value.agg (repC 4 ([Value.int IntKind.i64 0, Value.int IntKind.i64 0, Value.int IntKind.i64 0, Value.int IntKind.u64 0] ++ ([Value.int IntKind.i64 0] ++ ([Value.int IntKind.u32 0] ++ cb (zb 32))))).toArray, 152, 320),
  (64, Value.agg (cb (zb 256)).toArray, 256, 256),
  (65, Value.agg (cb (zb 256)).toArray, 256, 256),
  (70, Value.agg (repC 4 ([Value.int IntKind.i64 0, Value.int IntKind.i64 0, Value.int IntKind.i64 0, Value.int IntKind.u64 0] ++ ([Value.int IntKind.i64 0] ++ ([Value.int IntKind.u32 0] ++ cb (zb 32))))).toArray, 152, 320),
  (75, Value.agg ([Value.int IntKind.i64 0, Value.int IntKind.u64 0] ++ ([Value.int IntKind.i64 0] ++ ([Value.int IntKind.u32 0] ++ cb (zb 32))) ++ [Value.int IntKind.i64 0] ++ ([Value.int IntKind.i64 0] ++ ([Value.int IntKind.u32 0] ++ cb (zb 32))) ++ [Value.int IntKind.i64 0]).toArray, 72, 128),
  (76, Value.agg ([Value.int IntKind.i64 0, Value.int IntKind.u64 0] ++ ([Value.int IntKind.i64 0] ++ ([Value.int IntKind.u32 0] ++ cb (zb 32))) ++ [Value.int IntKind.i64 0] ++ ([Value.int IntKind.i64 0] ++ ([Value.int IntKind.u32 0] ++ cb (zb 32))) ++ [Value.int IntKind.i64 0]).toArray, 72, 128),
  (77, Value.agg ([Value.int IntKind.u64 0] ++ ([Value.int IntKind.u32 0] ++ cb (zb 32))).toArray, 34, 48),
  (78, Value.agg ([Value.int IntKind.u64 0] ++ ([Value.int IntKind.u32 0] ++ cb (zb 32))).toArray, 34, 48),
  (83, Value.agg ([Value.int IntKind.i64 0, Value.int IntKind.u64 0] ++ ([Value.int IntKind.i64 0] ++ ([Value.int IntKind.u32 0] ++ cb (zb 32))) ++ [Value.int IntKind.i64 0] ++ ([Value.int IntKind.i64 0] ++ ([Value.int IntKind.u32 0] ++ cb (zb 32))) ++ [Value.int IntKind.i64 0]).toArray, 72, 128),
  (84, Value.agg ([Value.int IntKind.i64 0, Value.int IntKind.u64 0] ++ ([Value.int IntKind.i64 0] ++ ([Value.int IntKind.u32 0] ++ cb (zb 32))) ++ [Value.int IntKind.i64 0] ++ ([Value.int IntKind.i64 0] ++ ([Value.int IntKind.u32 0] ++ cb (zb 32))) ++ [Value.int IntKind.i64 0]).toArray, 72, 128),
  (97, Value.agg (cb (zb 2)).toArray, 2, 2),
  (99, Value.int IntKind.u16 0, 1, 2),
  (100, Value.slice none 0 0, 1, 24),
  (101, Value.agg (cb (zb 8)).toArray, 8, 8),
  (125, Value.int IntKind.u64 0, 1, 8),
  (127, Value.agg (cb (zb 4)).toArray, 4, 4),
  (132, Value.agg ([Value.pointer none, Value.pointer none, Value.pointer none, str []]).toArray, 4, 40),
  (133, Value.agg ([Value.pointer none, Value.pointer none, Value.pointer none, str []]).toArray, 4, 40),
  (138, Value.int IntKind.u8 0, 1, 1),
  (139, Value.int IntKind.u8 0, 1, 1),
  (141, Value.pointer none, 1, 8),
  (142, Value.int IntKind.i32 0, 1, 4),
  (143, Value.int IntKind.i32 0, 1, 4)]
theorem ilist_ok : AllIf Try.prog ilist := ⟨if2, if3, if4, if5, if6, if7, if8, if9, if10, if11, if12, if13, if14, if15, if16, if17, if18, if19, if21, if22, if25, if35, if36, if37, if38, if39, if40, if41, if42, if43, if44, if45, if50, if51, if52, if53, if54, if55, if63, if64, if65, if70, if75, if76, if77, if78, if83, if84, if97, if99, if100, if101, if125, if127, if132, if133, if138, if139, if141, if142, if143, trivial⟩
def zrs : Zs Try.prog := Zs.mk' zlist_ok blist_ok ilist_ok
instance tcI : X.TC Try.prog := ⟨tab, zrs⟩
end Go.Proofs.Ytbgjhmdedillhaa
