/- The zeros of the seat's types. -/
import Derived.Test.YtfpikmfonpnicaaXs
import Derived.Test.YtfpikmfonpnicaaTab
namespace Go.Proofs.Ytfpikmfonpnicaa
open Go.Proofs.Ytfpikmfonpnicaa.Stm Go.Proofs.Ytfpikmfonpnicaa.By Go.Proofs.Ytfpikmfonpnicaa.Mx Go.Proofs.Ytfpikmfonpnicaa.Ap
theorem zr2 : zeroOf Try.prog 2 = some (Value.int IntKind.i64 0) := by kernel_rfl
theorem zr3 : zeroOf Try.prog 3 = some (Value.int IntKind.i64 0) := by kernel_rfl
theorem zr4 : zeroOf Try.prog 4 = some (Value.bool false) := by kernel_rfl
theorem zr5 : zeroOf Try.prog 5 = some (Value.int IntKind.u8 0) := by kernel_rfl
theorem zr6 : zeroOf Try.prog 6 = some (Value.int IntKind.u8 0) := by kernel_rfl
theorem zr7 : zeroOf Try.prog 7 = some (Value.agg ([Value.int IntKind.i64 0, Value.int IntKind.i64 0, Value.bool false, Value.int IntKind.u8 0]).toArray) := by kernel_rfl
theorem zr8 : zeroOf Try.prog 8 = some (Value.agg ([Value.int IntKind.i64 0, Value.int IntKind.i64 0, Value.bool false, Value.int IntKind.u8 0]).toArray) := by kernel_rfl
theorem zr9 : zeroOf Try.prog 9 = some (str []) := by kernel_rfl
theorem zr10 : zeroOf Try.prog 10 = some (str []) := by kernel_rfl
theorem zr11 : zeroOf Try.prog 11 = some (str []) := by kernel_rfl
theorem zr12 : zeroOf Try.prog 12 = some (Value.int IntKind.u64 0) := by kernel_rfl
theorem zr13 : zeroOf Try.prog 13 = some (Value.agg ([str [], Value.int IntKind.u64 0]).toArray) := by kernel_rfl
theorem zr14 : zeroOf Try.prog 14 = some (Value.agg ([str [], Value.int IntKind.u64 0]).toArray) := by kernel_rfl
theorem zr15 : zeroOf Try.prog 15 = some (Value.pointer none) := by kernel_rfl
theorem zr16 : zeroOf Try.prog 16 = some (Value.pointer none) := by kernel_rfl
theorem zr17 : zeroOf Try.prog 17 = some (Value.pointer none) := by kernel_rfl
theorem zr18 : zeroOf Try.prog 18 = some (Value.agg ([Value.pointer none]).toArray) := by kernel_rfl
theorem zr19 : zeroOf Try.prog 19 = some (Value.agg ([Value.pointer none]).toArray) := by kernel_rfl
theorem zr21 : zeroOf Try.prog 21 = some (Value.int IntKind.i32 0) := by kernel_rfl
theorem zr22 : zeroOf Try.prog 22 = some (Value.int IntKind.u64 0) := by kernel_rfl
theorem zr24 : zeroOf Try.prog 24 = some (Value.int IntKind.u32 0) := by kernel_rfl
theorem zr29 : zeroOf Try.prog 29 = some (Value.int IntKind.i64 0) := by kernel_rfl
theorem zr42 : zeroOf Try.prog 42 = some (Value.agg ([Value.int IntKind.i64 0, Value.int IntKind.i64 0, Value.int IntKind.u64 0]).toArray) := by kernel_rfl
theorem zr43 : zeroOf Try.prog 43 = some (Value.agg ([Value.int IntKind.i64 0, Value.int IntKind.i64 0, Value.int IntKind.u64 0]).toArray) := by kernel_rfl
theorem zr53 : zeroOf Try.prog 53 = some (Value.agg (cb (zb 2)).toArray) := by kernel_rfl
theorem zr55 : zeroOf Try.prog 55 = some (Value.int IntKind.u16 0) := by kernel_rfl
theorem zr56 : zeroOf Try.prog 56 = some (Value.agg (cb (zb 4)).toArray) := by kernel_rfl
theorem zr58 : zeroOf Try.prog 58 = some (Value.agg (cb (zb 8)).toArray) := by kernel_rfl
theorem zr61 : zeroOf Try.prog 61 = some (Value.slice none 0 0) := by kernel_rfl
theorem zr74 : zeroOf Try.prog 74 = some (Value.agg ([Value.int IntKind.u32 0, Value.int IntKind.u32 0, Value.int IntKind.u32 0, Value.int IntKind.u32 0]).toArray) := by kernel_rfl
theorem zr75 : zeroOf Try.prog 75 = some (Value.agg ([Value.int IntKind.u32 0, Value.int IntKind.u32 0, Value.int IntKind.u32 0, Value.int IntKind.u32 0]).toArray) := by kernel_rfl
theorem zr79 : zeroOf Try.prog 79 = some (Value.agg (repC 16 [Value.int IntKind.u32 0]).toArray) := by kernel_rfl
theorem zr80 : zeroOf Try.prog 80 = some (Value.agg (repC 16 [Value.int IntKind.u32 0]).toArray) := by kernel_rfl
theorem zr81 : zeroOf Try.prog 81 = some (Value.agg ([Value.int IntKind.i64 0, Value.int IntKind.i64 0]).toArray) := by kernel_rfl
theorem zr82 : zeroOf Try.prog 82 = some (Value.agg ([Value.int IntKind.i64 0, Value.int IntKind.i64 0]).toArray) := by kernel_rfl
theorem zr85 : zeroOf Try.prog 85 = some (Value.agg (repC 16 [Value.int IntKind.u32 0]).toArray) := by kernel_rfl
theorem zr86 : zeroOf Try.prog 86 = some (Value.slice none 0 0) := by kernel_rfl
theorem zr89 : zeroOf Try.prog 89 = some (Value.int IntKind.u64 0) := by kernel_rfl
theorem zr109 : zeroOf Try.prog 109 = some (Value.agg ([Value.pointer none, Value.pointer none, Value.pointer none, str []]).toArray) := by kernel_rfl
theorem zr110 : zeroOf Try.prog 110 = some (Value.agg ([Value.pointer none, Value.pointer none, Value.pointer none, str []]).toArray) := by kernel_rfl
theorem zr111 : zeroOf Try.prog 111 = some (Value.agg ([]).toArray) := by kernel_rfl
theorem zr112 : zeroOf Try.prog 112 = some (Value.agg ([]).toArray) := by kernel_rfl
theorem zr113 : zeroOf Try.prog 113 = some (Value.agg ([]).toArray) := by kernel_rfl
theorem zr115 : zeroOf Try.prog 115 = some (Value.int IntKind.u8 0) := by kernel_rfl
theorem zr116 : zeroOf Try.prog 116 = some (Value.int IntKind.u8 0) := by kernel_rfl
theorem zr118 : zeroOf Try.prog 118 = some (Value.pointer none) := by kernel_rfl
theorem zr119 : zeroOf Try.prog 119 = some (Value.int IntKind.i32 0) := by kernel_rfl
theorem zr120 : zeroOf Try.prog 120 = some (Value.int IntKind.i32 0) := by kernel_rfl
theorem bt7 : Try.prog.built 7 [] = some ([Value.int IntKind.i64 0, Value.int IntKind.i64 0, Value.bool false, Value.int IntKind.u8 0]).toArray := by kernel_rfl
theorem bt8 : Try.prog.built 8 [] = some ([Value.int IntKind.i64 0, Value.int IntKind.i64 0, Value.bool false, Value.int IntKind.u8 0]).toArray := by kernel_rfl
theorem bt13 : Try.prog.built 13 [] = some ([str [], Value.int IntKind.u64 0]).toArray := by kernel_rfl
theorem bt14 : Try.prog.built 14 [] = some ([str [], Value.int IntKind.u64 0]).toArray := by kernel_rfl
theorem bt18 : Try.prog.built 18 [] = some ([Value.pointer none]).toArray := by kernel_rfl
theorem bt19 : Try.prog.built 19 [] = some ([Value.pointer none]).toArray := by kernel_rfl
theorem bt42 : Try.prog.built 42 [] = some ([Value.int IntKind.i64 0, Value.int IntKind.i64 0, Value.int IntKind.u64 0]).toArray := by kernel_rfl
theorem bt43 : Try.prog.built 43 [] = some ([Value.int IntKind.i64 0, Value.int IntKind.i64 0, Value.int IntKind.u64 0]).toArray := by kernel_rfl
theorem bt53 : Try.prog.built 53 [] = some (cb (zb 2)).toArray := by kernel_rfl
theorem bt56 : Try.prog.built 56 [] = some (cb (zb 4)).toArray := by kernel_rfl
theorem bt58 : Try.prog.built 58 [] = some (cb (zb 8)).toArray := by kernel_rfl
theorem bt74 : Try.prog.built 74 [] = some ([Value.int IntKind.u32 0, Value.int IntKind.u32 0, Value.int IntKind.u32 0, Value.int IntKind.u32 0]).toArray := by kernel_rfl
theorem bt75 : Try.prog.built 75 [] = some ([Value.int IntKind.u32 0, Value.int IntKind.u32 0, Value.int IntKind.u32 0, Value.int IntKind.u32 0]).toArray := by kernel_rfl
theorem bt79 : Try.prog.built 79 [] = some (repC 16 [Value.int IntKind.u32 0]).toArray := by kernel_rfl
theorem bt80 : Try.prog.built 80 [] = some (repC 16 [Value.int IntKind.u32 0]).toArray := by kernel_rfl
theorem bt81 : Try.prog.built 81 [] = some ([Value.int IntKind.i64 0, Value.int IntKind.i64 0]).toArray := by kernel_rfl
theorem bt82 : Try.prog.built 82 [] = some ([Value.int IntKind.i64 0, Value.int IntKind.i64 0]).toArray := by kernel_rfl
theorem bt85 : Try.prog.built 85 [] = some (repC 16 [Value.int IntKind.u32 0]).toArray := by kernel_rfl
theorem bt109 : Try.prog.built 109 [] = some ([Value.pointer none, Value.pointer none, Value.pointer none, str []]).toArray := by kernel_rfl
theorem bt110 : Try.prog.built 110 [] = some ([Value.pointer none, Value.pointer none, Value.pointer none, str []]).toArray := by kernel_rfl
theorem bt111 : Try.prog.built 111 [] = some ([]).toArray := by kernel_rfl
theorem bt112 : Try.prog.built 112 [] = some ([]).toArray := by kernel_rfl
theorem bt113 : Try.prog.built 113 [] = some ([]).toArray := by kernel_rfl
def zlist : List (Nat × Value) := [
  (2, Value.int IntKind.i64 0),
  (3, Value.int IntKind.i64 0),
  (4, Value.bool false),
  (5, Value.int IntKind.u8 0),
  (6, Value.int IntKind.u8 0),
  (7, Value.agg ([Value.int IntKind.i64 0, Value.int IntKind.i64 0, Value.bool false, Value.int IntKind.u8 0]).toArray),
  (8, Value.agg ([Value.int IntKind.i64 0, Value.int IntKind.i64 0, Value.bool false, Value.int IntKind.u8 0]).toArray),
  (9, str []),
  (10, str []),
  (11, str []),
  (12, Value.int IntKind.u64 0),
  (13, Value.agg ([str [], Value.int IntKind.u64 0]).toArray),
  (14, Value.agg ([str [], Value.int IntKind.u64 0]).toArray),
  (15, Value.pointer none),
  (16, Value.pointer none),
  (17, Value.pointer none),
  (18, Value.agg ([Value.pointer none]).toArray),
  (19, Value.agg ([Value.pointer none]).toArray),
  (21, Value.int IntKind.i32 0),
  (22, Value.int IntKind.u64 0),
  (24, Value.int IntKind.u32 0),
  (29, Value.int IntKind.i64 0),
  (42, Value.agg ([Value.int IntKind.i64 0, Value.int IntKind.i64 0, Value.int IntKind.u64 0]).toArray),
  (43, Value.agg ([Value.int IntKind.i64 0, Value.int IntKind.i64 0, Value.int IntKind.u64 0]).toArray),
  (53, Value.agg (cb (zb 2)).toArray),
  (55, Value.int IntKind.u16 0),
  (56, Value.agg (cb (zb 4)).toArray),
  (58, Value.agg (cb (zb 8)).toArray),
  (61, Value.slice none 0 0),
  (74, Value.agg ([Value.int IntKind.u32 0, Value.int IntKind.u32 0, Value.int IntKind.u32 0, Value.int IntKind.u32 0]).toArray),
  (75, Value.agg ([Value.int IntKind.u32 0, Value.int IntKind.u32 0, Value.int IntKind.u32 0, Value.int IntKind.u32 0]).toArray),
  (79, Value.agg (repC 16 [Value.int IntKind.u32 0]).toArray),
  (80, Value.agg (repC 16 [Value.int IntKind.u32 0]).toArray),
  (81, Value.agg ([Value.int IntKind.i64 0, Value.int IntKind.i64 0]).toArray),
  (82, Value.agg ([Value.int IntKind.i64 0, Value.int IntKind.i64 0]).toArray),
  (85, Value.agg (repC 16 [Value.int IntKind.u32 0]).toArray),
  (86, Value.slice none 0 0),
  (89, Value.int IntKind.u64 0),
  (109, Value.agg ([Value.pointer none, Value.pointer none, Value.pointer none, str []]).toArray),
  (110, Value.agg ([Value.pointer none, Value.pointer none, Value.pointer none, str []]).toArray),
  (111, Value.agg ([]).toArray),
  (112, Value.agg ([]).toArray),
  (113, Value.agg ([]).toArray),
  (115, Value.int IntKind.u8 0),
  (116, Value.int IntKind.u8 0),
  (118, Value.pointer none),
  (119, Value.int IntKind.i32 0),
  (120, Value.int IntKind.i32 0)]
def blist : List (Nat × List Value) := [
  (7, [Value.int IntKind.i64 0, Value.int IntKind.i64 0, Value.bool false, Value.int IntKind.u8 0]),
  (8, [Value.int IntKind.i64 0, Value.int IntKind.i64 0, Value.bool false, Value.int IntKind.u8 0]),
  (13, [str [], Value.int IntKind.u64 0]),
  (14, [str [], Value.int IntKind.u64 0]),
  (18, [Value.pointer none]),
  (19, [Value.pointer none]),
  (42, [Value.int IntKind.i64 0, Value.int IntKind.i64 0, Value.int IntKind.u64 0]),
  (43, [Value.int IntKind.i64 0, Value.int IntKind.i64 0, Value.int IntKind.u64 0]),
  (53, cb (zb 2)),
  (56, cb (zb 4)),
  (58, cb (zb 8)),
  (74, [Value.int IntKind.u32 0, Value.int IntKind.u32 0, Value.int IntKind.u32 0, Value.int IntKind.u32 0]),
  (75, [Value.int IntKind.u32 0, Value.int IntKind.u32 0, Value.int IntKind.u32 0, Value.int IntKind.u32 0]),
  (79, repC 16 [Value.int IntKind.u32 0]),
  (80, repC 16 [Value.int IntKind.u32 0]),
  (81, [Value.int IntKind.i64 0, Value.int IntKind.i64 0]),
  (82, [Value.int IntKind.i64 0, Value.int IntKind.i64 0]),
  (85, repC 16 [Value.int IntKind.u32 0]),
  (109, [Value.pointer none, Value.pointer none, Value.pointer none, str []]),
  (110, [Value.pointer none, Value.pointer none, Value.pointer none, str []]),
  (111, []),
  (112, []),
  (113, [])]
theorem zlist_ok : AllZr Try.prog zlist := ⟨zr2, zr3, zr4, zr5, zr6, zr7, zr8, zr9, zr10, zr11, zr12, zr13, zr14, zr15, zr16, zr17, zr18, zr19, zr21, zr22, zr24, zr29, zr42, zr43, zr53, zr55, zr56, zr58, zr61, zr74, zr75, zr79, zr80, zr81, zr82, zr85, zr86, zr89, zr109, zr110, zr111, zr112, zr113, zr115, zr116, zr118, zr119, zr120, trivial⟩
theorem blist_ok : AllBt Try.prog blist := ⟨bt7, bt8, bt13, bt14, bt18, bt19, bt42, bt43, bt53, bt56, bt58, bt74, bt75, bt79, bt80, bt81, bt82, bt85, bt109, bt110, bt111, bt112, bt113, trivial⟩
theorem if2 : infoOf Try.prog 2 = some (some (Value.int IntKind.i64 0), 1, 8) ∧ (Value.int IntKind.i64 0 : Value).cells.size = 1 ∧ 0 < 1 ∧ 0 < 8 ∧ 1 ≤ 16777216 := ⟨by kernel_rfl, rfl, by decide, by decide, by decide⟩
theorem if3 : infoOf Try.prog 3 = some (some (Value.int IntKind.i64 0), 1, 8) ∧ (Value.int IntKind.i64 0 : Value).cells.size = 1 ∧ 0 < 1 ∧ 0 < 8 ∧ 1 ≤ 16777216 := ⟨by kernel_rfl, rfl, by decide, by decide, by decide⟩
theorem if4 : infoOf Try.prog 4 = some (some (Value.bool false), 1, 1) ∧ (Value.bool false : Value).cells.size = 1 ∧ 0 < 1 ∧ 0 < 1 ∧ 1 ≤ 16777216 := ⟨by kernel_rfl, rfl, by decide, by decide, by decide⟩
theorem if5 : infoOf Try.prog 5 = some (some (Value.int IntKind.u8 0), 1, 1) ∧ (Value.int IntKind.u8 0 : Value).cells.size = 1 ∧ 0 < 1 ∧ 0 < 1 ∧ 1 ≤ 16777216 := ⟨by kernel_rfl, rfl, by decide, by decide, by decide⟩
theorem if6 : infoOf Try.prog 6 = some (some (Value.int IntKind.u8 0), 1, 1) ∧ (Value.int IntKind.u8 0 : Value).cells.size = 1 ∧ 0 < 1 ∧ 0 < 1 ∧ 1 ≤ 16777216 := ⟨by kernel_rfl, rfl, by decide, by decide, by decide⟩
theorem if7 : infoOf Try.prog 7 = some (some (Value.agg ([Value.int IntKind.i64 0, Value.int IntKind.i64 0, Value.bool false, Value.int IntKind.u8 0]).toArray), 4, 24) ∧ (Value.agg ([Value.int IntKind.i64 0, Value.int IntKind.i64 0, Value.bool false, Value.int IntKind.u8 0]).toArray : Value).cells.size = 4 ∧ 0 < 4 ∧ 0 < 24 ∧ 4 ≤ 16777216 := ⟨by kernel_rfl, rfl, by decide, by decide, by decide⟩
theorem if8 : infoOf Try.prog 8 = some (some (Value.agg ([Value.int IntKind.i64 0, Value.int IntKind.i64 0, Value.bool false, Value.int IntKind.u8 0]).toArray), 4, 24) ∧ (Value.agg ([Value.int IntKind.i64 0, Value.int IntKind.i64 0, Value.bool false, Value.int IntKind.u8 0]).toArray : Value).cells.size = 4 ∧ 0 < 4 ∧ 0 < 24 ∧ 4 ≤ 16777216 := ⟨by kernel_rfl, rfl, by decide, by decide, by decide⟩
theorem if9 : infoOf Try.prog 9 = some (some (str []), 1, 16) ∧ (str [] : Value).cells.size = 1 ∧ 0 < 1 ∧ 0 < 16 ∧ 1 ≤ 16777216 := ⟨by kernel_rfl, rfl, by decide, by decide, by decide⟩
theorem if10 : infoOf Try.prog 10 = some (some (str []), 1, 16) ∧ (str [] : Value).cells.size = 1 ∧ 0 < 1 ∧ 0 < 16 ∧ 1 ≤ 16777216 := ⟨by kernel_rfl, rfl, by decide, by decide, by decide⟩
theorem if11 : infoOf Try.prog 11 = some (some (str []), 1, 16) ∧ (str [] : Value).cells.size = 1 ∧ 0 < 1 ∧ 0 < 16 ∧ 1 ≤ 16777216 := ⟨by kernel_rfl, rfl, by decide, by decide, by decide⟩
theorem if12 : infoOf Try.prog 12 = some (some (Value.int IntKind.u64 0), 1, 8) ∧ (Value.int IntKind.u64 0 : Value).cells.size = 1 ∧ 0 < 1 ∧ 0 < 8 ∧ 1 ≤ 16777216 := ⟨by kernel_rfl, rfl, by decide, by decide, by decide⟩
theorem if13 : infoOf Try.prog 13 = some (some (Value.agg ([str [], Value.int IntKind.u64 0]).toArray), 2, 24) ∧ (Value.agg ([str [], Value.int IntKind.u64 0]).toArray : Value).cells.size = 2 ∧ 0 < 2 ∧ 0 < 24 ∧ 2 ≤ 16777216 := ⟨by kernel_rfl, rfl, by decide, by decide, by decide⟩
theorem if14 : infoOf Try.prog 14 = some (some (Value.agg ([str [], Value.int IntKind.u64 0]).toArray), 2, 24) ∧ (Value.agg ([str [], Value.int IntKind.u64 0]).toArray : Value).cells.size = 2 ∧ 0 < 2 ∧ 0 < 24 ∧ 2 ≤ 16777216 := ⟨by kernel_rfl, rfl, by decide, by decide, by decide⟩
theorem if15 : infoOf Try.prog 15 = some (some (Value.pointer none), 1, 8) ∧ (Value.pointer none : Value).cells.size = 1 ∧ 0 < 1 ∧ 0 < 8 ∧ 1 ≤ 16777216 := ⟨by kernel_rfl, rfl, by decide, by decide, by decide⟩
theorem if16 : infoOf Try.prog 16 = some (some (Value.pointer none), 1, 8) ∧ (Value.pointer none : Value).cells.size = 1 ∧ 0 < 1 ∧ 0 < 8 ∧ 1 ≤ 16777216 := ⟨by kernel_rfl, rfl, by decide, by decide, by decide⟩
theorem if17 : infoOf Try.prog 17 = some (some (Value.pointer none), 1, 8) ∧ (Value.pointer none : Value).cells.size = 1 ∧ 0 < 1 ∧ 0 < 8 ∧ 1 ≤ 16777216 := ⟨by kernel_rfl, rfl, by decide, by decide, by decide⟩
theorem if18 : infoOf Try.prog 18 = some (some (Value.agg ([Value.pointer none]).toArray), 1, 8) ∧ (Value.agg ([Value.pointer none]).toArray : Value).cells.size = 1 ∧ 0 < 1 ∧ 0 < 8 ∧ 1 ≤ 16777216 := ⟨by kernel_rfl, rfl, by decide, by decide, by decide⟩
theorem if19 : infoOf Try.prog 19 = some (some (Value.agg ([Value.pointer none]).toArray), 1, 8) ∧ (Value.agg ([Value.pointer none]).toArray : Value).cells.size = 1 ∧ 0 < 1 ∧ 0 < 8 ∧ 1 ≤ 16777216 := ⟨by kernel_rfl, rfl, by decide, by decide, by decide⟩
theorem if21 : infoOf Try.prog 21 = some (some (Value.int IntKind.i32 0), 1, 4) ∧ (Value.int IntKind.i32 0 : Value).cells.size = 1 ∧ 0 < 1 ∧ 0 < 4 ∧ 1 ≤ 16777216 := ⟨by kernel_rfl, rfl, by decide, by decide, by decide⟩
theorem if22 : infoOf Try.prog 22 = some (some (Value.int IntKind.u64 0), 1, 8) ∧ (Value.int IntKind.u64 0 : Value).cells.size = 1 ∧ 0 < 1 ∧ 0 < 8 ∧ 1 ≤ 16777216 := ⟨by kernel_rfl, rfl, by decide, by decide, by decide⟩
theorem if24 : infoOf Try.prog 24 = some (some (Value.int IntKind.u32 0), 1, 4) ∧ (Value.int IntKind.u32 0 : Value).cells.size = 1 ∧ 0 < 1 ∧ 0 < 4 ∧ 1 ≤ 16777216 := ⟨by kernel_rfl, rfl, by decide, by decide, by decide⟩
theorem if29 : infoOf Try.prog 29 = some (some (Value.int IntKind.i64 0), 1, 8) ∧ (Value.int IntKind.i64 0 : Value).cells.size = 1 ∧ 0 < 1 ∧ 0 < 8 ∧ 1 ≤ 16777216 := ⟨by kernel_rfl, rfl, by decide, by decide, by decide⟩
theorem if42 : infoOf Try.prog 42 = some (some (Value.agg ([Value.int IntKind.i64 0, Value.int IntKind.i64 0, Value.int IntKind.u64 0]).toArray), 3, 24) ∧ (Value.agg ([Value.int IntKind.i64 0, Value.int IntKind.i64 0, Value.int IntKind.u64 0]).toArray : Value).cells.size = 3 ∧ 0 < 3 ∧ 0 < 24 ∧ 3 ≤ 16777216 := ⟨by kernel_rfl, rfl, by decide, by decide, by decide⟩
theorem if43 : infoOf Try.prog 43 = some (some (Value.agg ([Value.int IntKind.i64 0, Value.int IntKind.i64 0, Value.int IntKind.u64 0]).toArray), 3, 24) ∧ (Value.agg ([Value.int IntKind.i64 0, Value.int IntKind.i64 0, Value.int IntKind.u64 0]).toArray : Value).cells.size = 3 ∧ 0 < 3 ∧ 0 < 24 ∧ 3 ≤ 16777216 := ⟨by kernel_rfl, rfl, by decide, by decide, by decide⟩
theorem if53 : infoOf Try.prog 53 = some (some (Value.agg (cb (zb 2)).toArray), 2, 2) ∧ (Value.agg (cb (zb 2)).toArray : Value).cells.size = 2 ∧ 0 < 2 ∧ 0 < 2 ∧ 2 ≤ 16777216 := ⟨by kernel_rfl, by decide +kernel, by decide, by decide, by decide⟩
theorem if55 : infoOf Try.prog 55 = some (some (Value.int IntKind.u16 0), 1, 2) ∧ (Value.int IntKind.u16 0 : Value).cells.size = 1 ∧ 0 < 1 ∧ 0 < 2 ∧ 1 ≤ 16777216 := ⟨by kernel_rfl, rfl, by decide, by decide, by decide⟩
theorem if56 : infoOf Try.prog 56 = some (some (Value.agg (cb (zb 4)).toArray), 4, 4) ∧ (Value.agg (cb (zb 4)).toArray : Value).cells.size = 4 ∧ 0 < 4 ∧ 0 < 4 ∧ 4 ≤ 16777216 := ⟨by kernel_rfl, by decide +kernel, by decide, by decide, by decide⟩
theorem if58 : infoOf Try.prog 58 = some (some (Value.agg (cb (zb 8)).toArray), 8, 8) ∧ (Value.agg (cb (zb 8)).toArray : Value).cells.size = 8 ∧ 0 < 8 ∧ 0 < 8 ∧ 8 ≤ 16777216 := ⟨by kernel_rfl, by decide +kernel, by decide, by decide, by decide⟩
theorem if61 : infoOf Try.prog 61 = some (some (Value.slice none 0 0), 1, 24) ∧ (Value.slice none 0 0 : Value).cells.size = 1 ∧ 0 < 1 ∧ 0 < 24 ∧ 1 ≤ 16777216 := ⟨by kernel_rfl, rfl, by decide, by decide, by decide⟩
theorem if74 : infoOf Try.prog 74 = some (some (Value.agg ([Value.int IntKind.u32 0, Value.int IntKind.u32 0, Value.int IntKind.u32 0, Value.int IntKind.u32 0]).toArray), 4, 16) ∧ (Value.agg ([Value.int IntKind.u32 0, Value.int IntKind.u32 0, Value.int IntKind.u32 0, Value.int IntKind.u32 0]).toArray : Value).cells.size = 4 ∧ 0 < 4 ∧ 0 < 16 ∧ 4 ≤ 16777216 := ⟨by kernel_rfl, rfl, by decide, by decide, by decide⟩
theorem if75 : infoOf Try.prog 75 = some (some (Value.agg ([Value.int IntKind.u32 0, Value.int IntKind.u32 0, Value.int IntKind.u32 0, Value.int IntKind.u32 0]).toArray), 4, 16) ∧ (Value.agg ([Value.int IntKind.u32 0, Value.int IntKind.u32 0, Value.int IntKind.u32 0, Value.int IntKind.u32 0]).toArray : Value).cells.size = 4 ∧ 0 < 4 ∧ 0 < 16 ∧ 4 ≤ 16777216 := ⟨by kernel_rfl, rfl, by decide, by decide, by decide⟩
theorem if79 : infoOf Try.prog 79 = some (some (Value.agg (repC 16 [Value.int IntKind.u32 0]).toArray), 16, 64) ∧ (Value.agg (repC 16 [Value.int IntKind.u32 0]).toArray : Value).cells.size = 16 ∧ 0 < 16 ∧ 0 < 64 ∧ 16 ≤ 16777216 := ⟨by kernel_rfl, by decide +kernel, by decide, by decide, by decide⟩
theorem if80 : infoOf Try.prog 80 = some (some (Value.agg (repC 16 [Value.int IntKind.u32 0]).toArray), 16, 64) ∧ (Value.agg (repC 16 [Value.int IntKind.u32 0]).toArray : Value).cells.size = 16 ∧ 0 < 16 ∧ 0 < 64 ∧ 16 ≤ 16777216 := ⟨by kernel_rfl, by decide +kernel, by decide, by decide, by decide⟩
theorem if81 : infoOf Try.prog 81 = some (some (Value.agg ([Value.int IntKind.i64 0, Value.int IntKind.i64 0]).toArray), 2, 16) ∧ (Value.agg ([Value.int IntKind.i64 0, Value.int IntKind.i64 0]).toArray : Value).cells.size = 2 ∧ 0 < 2 ∧ 0 < 16 ∧ 2 ≤ 16777216 := ⟨by kernel_rfl, rfl, by decide, by decide, by decide⟩
theorem if82 : infoOf Try.prog 82 = some (some (Value.agg ([Value.int IntKind.i64 0, Value.int IntKind.i64 0]).toArray), 2, 16) ∧ (Value.agg ([Value.int IntKind.i64 0, Value.int IntKind.i64 0]).toArray : Value).cells.size = 2 ∧ 0 < 2 ∧ 0 < 16 ∧ 2 ≤ 16777216 := ⟨by kernel_rfl, rfl, by decide, by decide, by decide⟩
theorem if85 : infoOf Try.prog 85 = some (some (Value.agg (repC 16 [Value.int IntKind.u32 0]).toArray), 16, 64) ∧ (Value.agg (repC 16 [Value.int IntKind.u32 0]).toArray : Value).cells.size = 16 ∧ 0 < 16 ∧ 0 < 64 ∧ 16 ≤ 16777216 := ⟨by kernel_rfl, by decide +kernel, by decide, by decide, by decide⟩
theorem if86 : infoOf Try.prog 86 = some (some (Value.slice none 0 0), 1, 24) ∧ (Value.slice none 0 0 : Value).cells.size = 1 ∧ 0 < 1 ∧ 0 < 24 ∧ 1 ≤ 16777216 := ⟨by kernel_rfl, rfl, by decide, by decide, by decide⟩
theorem if89 : infoOf Try.prog 89 = some (some (Value.int IntKind.u64 0), 1, 8) ∧ (Value.int IntKind.u64 0 : Value).cells.size = 1 ∧ 0 < 1 ∧ 0 < 8 ∧ 1 ≤ 16777216 := ⟨by kernel_rfl, rfl, by decide, by decide, by decide⟩
theorem if109 : infoOf Try.prog 109 = some (some (Value.agg ([Value.pointer none, Value.pointer none, Value.pointer none, str []]).toArray), 4, 40) ∧ (Value.agg ([Value.pointer none, Value.pointer none, Value.pointer none, str []]).toArray : Value).cells.size = 4 ∧ 0 < 4 ∧ 0 < 40 ∧ 4 ≤ 16777216 := ⟨by kernel_rfl, rfl, by decide, by decide, by decide⟩
theorem if110 : infoOf Try.prog 110 = some (some (Value.agg ([Value.pointer none, Value.pointer none, Value.pointer none, str []]).toArray), 4, 40) ∧ (Value.agg ([Value.pointer none, Value.pointer none, Value.pointer none, str []]).toArray : Value).cells.size = 4 ∧ 0 < 4 ∧ 0 < 40 ∧ 4 ≤ 16777216 := ⟨by kernel_rfl, rfl, by decide, by decide, by decide⟩
theorem if115 : infoOf Try.prog 115 = some (some (Value.int IntKind.u8 0), 1, 1) ∧ (Value.int IntKind.u8 0 : Value).cells.size = 1 ∧ 0 < 1 ∧ 0 < 1 ∧ 1 ≤ 16777216 := ⟨by kernel_rfl, rfl, by decide, by decide, by decide⟩
theorem if116 : infoOf Try.prog 116 = some (some (Value.int IntKind.u8 0), 1, 1) ∧ (Value.int IntKind.u8 0 : Value).cells.size = 1 ∧ 0 < 1 ∧ 0 < 1 ∧ 1 ≤ 16777216 := ⟨by kernel_rfl, rfl, by decide, by decide, by decide⟩
theorem if118 : infoOf Try.prog 118 = some (some (Value.pointer none), 1, 8) ∧ (Value.pointer none : Value).cells.size = 1 ∧ 0 < 1 ∧ 0 < 8 ∧ 1 ≤ 16777216 := ⟨by kernel_rfl, rfl, by decide, by decide, by decide⟩
theorem if119 : infoOf Try.prog 119 = some (some (Value.int IntKind.i32 0), 1, 4) ∧ (Value.int IntKind.i32 0 : Value).cells.size = 1 ∧ 0 < 1 ∧ 0 < 4 ∧ 1 ≤ 16777216 := ⟨by kernel_rfl, rfl, by decide, by decide, by decide⟩
theorem if120 : infoOf Try.prog 120 = some (some (Value.int IntKind.i32 0), 1, 4) ∧ (Value.int IntKind.i32 0 : Value).cells.size = 1 ∧ 0 < 1 ∧ 0 < 4 ∧ 1 ≤ 16777216 := ⟨by kernel_rfl, rfl, by decide, by decide, by decide⟩
def ilist : List (Nat × Value × Nat × Nat) := [
  (2, Value.int IntKind.i64 0, 1, 8),
  (3, Value.int IntKind.i64 0, 1, 8),
  (4, Value.bool false, 1, 1),
  (5, Value.int IntKind.u8 0, 1, 1),
  (6, Value.int IntKind.u8 0, 1, 1),
  (7, Value.agg ([Value.int IntKind.i64 0, Value.int IntKind.i64 0, Value.bool false, Value.int IntKind.u8 0]).toArray, 4, 24),
  (8, Value.agg ([Value.int IntKind.i64 0, Value.int IntKind.i64 0, Value.bool false, Value.int IntKind.u8 0]).toArray, 4, 24),
  (9, str [], 1, 16),
  (10, str [], 1, 16),
  (11, str [], 1, 16),
  (12, Value.int IntKind.u64 0, 1, 8),
  (13, Value.agg ([str [], Value.int IntKind.u64 0]).toArray, 2, 24),
  (14, Value.agg ([str [], Value.int IntKind.u64 0]).toArray, 2, 24),
  (15, Value.pointer none, 1, 8),
  (16, Value.pointer none, 1, 8),
  (17, Value.pointer none, 1, 8),
  (18, Value.agg ([Value.pointer none]).toArray, 1, 8),
  (19, Value.agg ([Value.pointer none]).toArray, 1, 8),
  (21, Value.int IntKind.i32 0, 1, 4),
  (22, Value.int IntKind.u64 0, 1, 8),
  (24, Value.int IntKind.u32 0, 1, 4),
  (29, Value.int IntKind.i64 0, 1, 8),
  (42, Value.agg ([Value.int IntKind.i64 0, Value.int IntKind.i64 0, Value.int IntKind.u64 0]).toArray, 3, 24),
  (43, Value.agg ([Value.int IntKind.i64 0, Value.int IntKind.i64 0, Value.int IntKind.u64 0]).toArray, 3, 24),
  (53, Value.agg (cb (zb 2)).toArray, 2, 2),
  (55, Value.int IntKind.u16 0, 1, 2),
  (56, Value.agg (cb (zb 4)).toArray, 4, 4),
  (58, Value.agg (cb (zb 8)).toArray, 8, 8),
  (61, Value.slice none 0 0, 1, 24),
  (74, Value.agg ([Value.int IntKind.u32 0, Value.int IntKind.u32 0, Value.int IntKind.u32 0, Value.int IntKind.u32 0]).toArray, 4, 16),
  (75, Value.agg ([Value.int IntKind.u32 0, Value.int IntKind.u32 0, Value.int IntKind.u32 0, Value.int IntKind.u32 0]).toArray, 4, 16),
  (79, Value.agg (repC 16 [Value.int IntKind.u32 0]).toArray, 16, 64),
  (80, Value.agg (repC 16 [Value.int IntKind.u32 0]).toArray, 16, 64),
  (81, Value.agg ([Value.int IntKind.i64 0, Value.int IntKind.i64 0]).toArray, 2, 16),
  (82, Value.agg ([Value.int IntKind.i64 0, Value.int IntKind.i64 0]).toArray, 2, 16),
  (85, Value.agg (repC 16 [Value.int IntKind.u32 0]).toArray, 16, 64),
  (86, Value.slice none 0 0, 1, 24),
  (89, Value.int IntKind.u64 0, 1, 8),
  (109, Value.agg ([Value.pointer none, Value.pointer none, Value.pointer none, str []]).toArray, 4, 40),
  (110, Value.agg ([Value.pointer none, Value.pointer none, Value.pointer none, str []]).toArray, 4, 40),
  (115, Value.int IntKind.u8 0, 1, 1),
  (116, Value.int IntKind.u8 0, 1, 1),
  (118, Value.pointer none, 1, 8),
  (119, Value.int IntKind.i32 0, 1, 4),
  (120, Value.int IntKind.i32 0, 1, 4)]
theorem ilist_ok : AllIf Try.prog ilist := ⟨if2, if3, if4, if5, if6, if7, if8, if9, if10, if11, if12, if13, if14, if15, if16, if17, if18, if19, if21, if22, if24, if29, if42, if43, if53, if55, if56, if58, if61, if74, if75, if79, if80, if81, if82, if85, if86, if89, if109, if110, if115, if116, if118, if119, if120, trivial⟩
def zrs : Zs Try.prog := Zs.mk' zlist_ok blist_ok ilist_ok
instance tcI : X.TC Try.prog := ⟨tab, zrs⟩
end Go.Proofs.Ytfpikmfonpnicaa
