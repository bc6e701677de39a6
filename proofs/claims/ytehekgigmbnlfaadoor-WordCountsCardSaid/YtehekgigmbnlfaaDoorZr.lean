/- The zeros of the seat's types. -/
import Derived.Test.YtehekgigmbnlfaaDoorXs
import Derived.Test.YtehekgigmbnlfaaDoorTab
namespace Go.Proofs.YtehekgigmbnlfaaDoor
open Go.Proofs.YtehekgigmbnlfaaDoor.Stm Go.Proofs.YtehekgigmbnlfaaDoor.By Go.Proofs.YtehekgigmbnlfaaDoor.Mx Go.Proofs.YtehekgigmbnlfaaDoor.Ap
theorem zr2 : zeroOf Tryd.prog 2 = some (Value.int IntKind.i64 0) := by kernel_rfl
theorem zr3 : zeroOf Tryd.prog 3 = some (Value.int IntKind.i64 0) := by kernel_rfl
theorem zr4 : zeroOf Tryd.prog 4 = some (Value.bool false) := by kernel_rfl
theorem zr5 : zeroOf Tryd.prog 5 = some (Value.int IntKind.u8 0) := by kernel_rfl
theorem zr6 : zeroOf Tryd.prog 6 = some (Value.int IntKind.u8 0) := by kernel_rfl
theorem zr7 : zeroOf Tryd.prog 7 = some (Value.agg ([Value.int IntKind.i64 0, Value.int IntKind.i64 0, Value.bool false, Value.int IntKind.u8 0]).toArray) := by kernel_rfl
theorem zr8 : zeroOf Tryd.prog 8 = some (Value.agg ([Value.int IntKind.i64 0, Value.int IntKind.i64 0, Value.bool false, Value.int IntKind.u8 0]).toArray) := by kernel_rfl
theorem zr9 : zeroOf Tryd.prog 9 = some (str []) := by kernel_rfl
theorem zr10 : zeroOf Tryd.prog 10 = some (str []) := by kernel_rfl
theorem zr11 : zeroOf Tryd.prog 11 = some (str []) := by kernel_rfl
theorem zr12 : zeroOf Tryd.prog 12 = some (Value.int IntKind.u64 0) := by kernel_rfl
theorem zr13 : zeroOf Tryd.prog 13 = some (Value.agg ([str [], Value.int IntKind.u64 0]).toArray) := by kernel_rfl
theorem zr14 : zeroOf Tryd.prog 14 = some (Value.agg ([str [], Value.int IntKind.u64 0]).toArray) := by kernel_rfl
theorem zr15 : zeroOf Tryd.prog 15 = some (Value.pointer none) := by kernel_rfl
theorem zr16 : zeroOf Tryd.prog 16 = some (Value.pointer none) := by kernel_rfl
theorem zr17 : zeroOf Tryd.prog 17 = some (Value.pointer none) := by kernel_rfl
theorem zr18 : zeroOf Tryd.prog 18 = some (Value.agg ([Value.pointer none]).toArray) := by kernel_rfl
theorem zr19 : zeroOf Tryd.prog 19 = some (Value.agg ([Value.pointer none]).toArray) := by kernel_rfl
theorem zr21 : zeroOf Tryd.prog 21 = some (Value.int IntKind.i32 0) := by kernel_rfl
theorem zr22 : zeroOf Tryd.prog 22 = some (Value.int IntKind.u64 0) := by kernel_rfl
theorem zr23 : zeroOf Tryd.prog 23 = some (Value.int IntKind.i64 0) := by kernel_rfl
theorem zr33 : zeroOf Tryd.prog 33 = some (Value.slice none 0 0) := by kernel_rfl
theorem zr38 : zeroOf Tryd.prog 38 = some (Value.int IntKind.u32 0) := by kernel_rfl
theorem zr40 : zeroOf Tryd.prog 40 = some (Value.int IntKind.u64 0) := by kernel_rfl
theorem zr41 : zeroOf Tryd.prog 41 = some (Value.agg (cb (zb 64)).toArray) := by kernel_rfl
theorem zr43 : zeroOf Tryd.prog 43 = some (Value.agg ([Value.pointer none, Value.pointer none, Value.pointer none, str []]).toArray) := by kernel_rfl
theorem zr44 : zeroOf Tryd.prog 44 = some (Value.agg ([Value.pointer none, Value.pointer none, Value.pointer none, str []]).toArray) := by kernel_rfl
theorem zr45 : zeroOf Tryd.prog 45 = some (Value.agg ([]).toArray) := by kernel_rfl
theorem zr46 : zeroOf Tryd.prog 46 = some (Value.agg ([]).toArray) := by kernel_rfl
theorem zr47 : zeroOf Tryd.prog 47 = some (Value.agg ([]).toArray) := by kernel_rfl
theorem zr49 : zeroOf Tryd.prog 49 = some (Value.int IntKind.u8 0) := by kernel_rfl
theorem zr50 : zeroOf Tryd.prog 50 = some (Value.int IntKind.u8 0) := by kernel_rfl
theorem zr52 : zeroOf Tryd.prog 52 = some (Value.pointer none) := by kernel_rfl
theorem zr53 : zeroOf Tryd.prog 53 = some (Value.int IntKind.i32 0) := by kernel_rfl
theorem zr54 : zeroOf Tryd.prog 54 = some (Value.int IntKind.i32 0) := by kernel_rfl
theorem bt7 : Tryd.prog.built 7 [] = some ([Value.int IntKind.i64 0, Value.int IntKind.i64 0, Value.bool false, Value.int IntKind.u8 0]).toArray := by kernel_rfl
theorem bt8 : Tryd.prog.built 8 [] = some ([Value.int IntKind.i64 0, Value.int IntKind.i64 0, Value.bool false, Value.int IntKind.u8 0]).toArray := by kernel_rfl
theorem bt13 : Tryd.prog.built 13 [] = some ([str [], Value.int IntKind.u64 0]).toArray := by kernel_rfl
theorem bt14 : Tryd.prog.built 14 [] = some ([str [], Value.int IntKind.u64 0]).toArray := by kernel_rfl
theorem bt18 : Tryd.prog.built 18 [] = some ([Value.pointer none]).toArray := by kernel_rfl
theorem bt19 : Tryd.prog.built 19 [] = some ([Value.pointer none]).toArray := by kernel_rfl
theorem bt41 : Tryd.prog.built 41 [] = some (cb (zb 64)).toArray := by kernel_rfl
theorem bt43 : Tryd.prog.built 43 [] = some ([Value.pointer none, Value.pointer none, Value.pointer none, str []]).toArray := by kernel_rfl
theorem bt44 : Tryd.prog.built 44 [] = some ([Value.pointer none, Value.pointer none, Value.pointer none, str []]).toArray := by kernel_rfl
theorem bt45 : Tryd.prog.built 45 [] = some ([]).toArray := by kernel_rfl
theorem bt46 : Tryd.prog.built 46 [] = some ([]).toArray := by kernel_rfl
theorem bt47 : Tryd.prog.built 47 [] = some ([]).toArray := by kernel_rfl
def zlist : List (Nat × Value) := [
  (2, Value.int IntKind.i64 0),
  (3, Value.int IntKind.i64 0),
  (4, Value.bool false),
  (5, Value.int IntKind.u8 0),
  (6, Value.int IntKind.u8 0),
  (7, Value.agg ([Value.int IntKind.i64 0, Value.int IntKind.i64 0, Value.bool false, Value.int IntKind.u8 0]).toArray),
  (8, Value.agg ([Value.int IntKind.i64 0, Value.int IntKind.i64 0, Value.bool false, Value.int IntKind.u8 0]).toArray),
  (9, str []),
  (10, str []),
  (11, str []),
  (12, Value.int IntKind.u64 0),
  (13, Value.agg ([str [], Value.int IntKind.u64 0]).toArray),
  (14, Value.agg ([str [], Value.int IntKind.u64 0]).toArray),
  (15, Value.pointer none),
  (16, Value.pointer none),
  (17, Value.pointer none),
  (18, Value.agg ([Value.pointer none]).toArray),
  (19, Value.agg ([Value.pointer none]).toArray),
  (21, Value.int IntKind.i32 0),
  (22, Value.int IntKind.u64 0),
  (23, Value.int IntKind.i64 0),
  (33, Value.slice none 0 0),
  (38, Value.int IntKind.u32 0),
  (40, Value.int IntKind.u64 0),
  (41, Value.agg (cb (zb 64)).toArray),
  (43, Value.agg ([Value.pointer none, Value.pointer none, Value.pointer none, str []]).toArray),
  (44, Value.agg ([Value.pointer none, Value.pointer none, Value.pointer none, str []]).toArray),
  (45, Value.agg ([]).toArray),
  (46, Value.agg ([]).toArray),
  (47, Value.agg ([]).toArray),
  (49, Value.int IntKind.u8 0),
  (50, Value.int IntKind.u8 0),
  (52, Value.pointer none),
  (53, Value.int IntKind.i32 0),
  (54, Value.int IntKind.i32 0)]
def blist : List (Nat × List Value) := [
  (7, [Value.int IntKind.i64 0, Value.int IntKind.i64 0, Value.bool false, Value.int IntKind.u8 0]),
  (8, [Value.int IntKind.i64 0, Value.int IntKind.i64 0, Value.bool false, Value.int IntKind.u8 0]),
  (13, [str [], Value.int IntKind.u64 0]),
  (14, [str [], Value.int IntKind.u64 0]),
  (18, [Value.pointer none]),
  (19, [Value.pointer none]),
  (41, cb (zb 64)),
  (43, [Value.pointer none, Value.pointer none, Value.pointer none, str []]),
  (44, [Value.pointer none, Value.pointer none, Value.pointer none, str []]),
  (45, []),
  (46, []),
  (47, [])]
theorem zlist_ok : AllZr Tryd.prog zlist := ⟨zr2, zr3, zr4, zr5, zr6, zr7, zr8, zr9, zr10, zr11, zr12, zr13, zr14, zr15, zr16, zr17, zr18, zr19, zr21, zr22, zr23, zr33, zr38, zr40, zr41, zr43, zr44, zr45, zr46, zr47, zr49, zr50, zr52, zr53, zr54, trivial⟩
theorem blist_ok : AllBt Tryd.prog blist := ⟨bt7, bt8, bt13, bt14, bt18, bt19, bt41, bt43, bt44, bt45, bt46, bt47, trivial⟩
theorem if2 : infoOf Tryd.prog 2 = some (some (Value.int IntKind.i64 0), 1, 8) ∧ (Value.int IntKind.i64 0 : Value).cells.size = 1 ∧ 0 < 1 ∧ 0 < 8 ∧ 1 ≤ 16777216 := ⟨by kernel_rfl, rfl, by decide, by decide, by decide⟩
theorem if3 : infoOf Tryd.prog 3 = some (some (Value.int IntKind.i64 0), 1, 8) ∧ (Value.int IntKind.i64 0 : Value).cells.size = 1 ∧ 0 < 1 ∧ 0 < 8 ∧ 1 ≤ 16777216 := ⟨by kernel_rfl, rfl, by decide, by decide, by decide⟩
theorem if4 : infoOf Tryd.prog 4 = some (some (Value.bool false), 1, 1) ∧ (Value.bool false : Value).cells.size = 1 ∧ 0 < 1 ∧ 0 < 1 ∧ 1 ≤ 16777216 := ⟨by kernel_rfl, rfl, by decide, by decide, by decide⟩
theorem if5 : infoOf Tryd.prog 5 = some (some (Value.int IntKind.u8 0), 1, 1) ∧ (Value.int IntKind.u8 0 : Value).cells.size = 1 ∧ 0 < 1 ∧ 0 < 1 ∧ 1 ≤ 16777216 := ⟨by kernel_rfl, rfl, by decide, by decide, by decide⟩
theorem if6 : infoOf Tryd.prog 6 = some (some (Value.int IntKind.u8 0), 1, 1) ∧ (Value.int IntKind.u8 0 : Value).cells.size = 1 ∧ 0 < 1 ∧ 0 < 1 ∧ 1 ≤ 16777216 := ⟨by kernel_rfl, rfl, by decide, by decide, by decide⟩
theorem if7 : infoOf Tryd.prog 7 = some (some (Value.agg ([Value.int IntKind.i64 0, Value.int IntKind.i64 0, Value.bool false, Value.int IntKind.u8 0]).toArray), 4, 24) ∧ (Value.agg ([Value.int IntKind.i64 0, Value.int IntKind.i64 0, Value.bool false, Value.int IntKind.u8 0]).toArray : Value).cells.size = 4 ∧ 0 < 4 ∧ 0 < 24 ∧ 4 ≤ 16777216 := ⟨by kernel_rfl, rfl, by decide, by decide, by decide⟩
theorem if8 : infoOf Tryd.prog 8 = some (some (Value.agg ([Value.int IntKind.i64 0, Value.int IntKind.i64 0, Value.bool false, Value.int IntKind.u8 0]).toArray), 4, 24) ∧ (Value.agg ([Value.int IntKind.i64 0, Value.int IntKind.i64 0, Value.bool false, Value.int IntKind.u8 0]).toArray : Value).cells.size = 4 ∧ 0 < 4 ∧ 0 < 24 ∧ 4 ≤ 16777216 := ⟨by kernel_rfl, rfl, by decide, by decide, by decide⟩
theorem if9 : infoOf Tryd.prog 9 = some (some (str []), 1, 16) ∧ (str [] : Value).cells.size = 1 ∧ 0 < 1 ∧ 0 < 16 ∧ 1 ≤ 16777216 := ⟨by kernel_rfl, rfl, by decide, by decide, by decide⟩
theorem if10 : infoOf Tryd.prog 10 = some (some (str []), 1, 16) ∧ (str [] : Value).cells.size = 1 ∧ 0 < 1 ∧ 0 < 16 ∧ 1 ≤ 16777216 := ⟨by kernel_rfl, rfl, by decide, by decide, by decide⟩
theorem if11 : infoOf Tryd.prog 11 = some (some (str []), 1, 16) ∧ (str [] : Value).cells.size = 1 ∧ 0 < 1 ∧ 0 < 16 ∧ 1 ≤ 16777216 := ⟨by kernel_rfl, rfl, by decide, by decide, by decide⟩
theorem if12 : infoOf Tryd.prog 12 = some (some (Value.int IntKind.u64 0), 1, 8) ∧ (Value.int IntKind.u64 0 : Value).cells.size = 1 ∧ 0 < 1 ∧ 0 < 8 ∧ 1 ≤ 16777216 := ⟨by kernel_rfl, rfl, by decide, by decide, by decide⟩
theorem if13 : infoOf Tryd.prog 13 = some (some (Value.agg ([str [], Value.int IntKind.u64 0]).toArray), 2, 24) ∧ (Value.agg ([str [], Value.int IntKind.u64 0]).toArray : Value).cells.size = 2 ∧ 0 < 2 ∧ 0 < 24 ∧ 2 ≤ 16777216 := ⟨by kernel_rfl, rfl, by decide, by decide, by decide⟩
theorem if14 : infoOf Tryd.prog 14 = some (some (Value.agg ([str [], Value.int IntKind.u64 0]).toArray), 2, 24) ∧ (Value.agg ([str [], Value.int IntKind.u64 0]).toArray : Value).cells.size = 2 ∧ 0 < 2 ∧ 0 < 24 ∧ 2 ≤ 16777216 := ⟨by kernel_rfl, rfl, by decide, by decide, by decide⟩
theorem if15 : infoOf Tryd.prog 15 = some (some (Value.pointer none), 1, 8) ∧ (Value.pointer none : Value).cells.size = 1 ∧ 0 < 1 ∧ 0 < 8 ∧ 1 ≤ 16777216 := ⟨by kernel_rfl, rfl, by decide, by decide, by decide⟩
theorem if16 : infoOf Tryd.prog 16 = some (some (Value.pointer none), 1, 8) ∧ (Value.pointer none : Value).cells.size = 1 ∧ 0 < 1 ∧ 0 < 8 ∧ 1 ≤ 16777216 := ⟨by kernel_rfl, rfl, by decide, by decide, by decide⟩
theorem if17 : infoOf Tryd.prog 17 = some (some (Value.pointer none), 1, 8) ∧ (Value.pointer none : Value).cells.size = 1 ∧ 0 < 1 ∧ 0 < 8 ∧ 1 ≤ 16777216 := ⟨by kernel_rfl, rfl, by decide, by decide, by decide⟩
theorem if18 : infoOf Tryd.prog 18 = some (some (Value.agg ([Value.pointer none]).toArray), 1, 8) ∧ (Value.agg ([Value.pointer none]).toArray : Value).cells.size = 1 ∧ 0 < 1 ∧ 0 < 8 ∧ 1 ≤ 16777216 := ⟨by kernel_rfl, rfl, by decide, by decide, by decide⟩
theorem if19 : infoOf Tryd.prog 19 = some (some (Value.agg ([Value.pointer none]).toArray), 1, 8) ∧ (Value.agg ([Value.pointer none]).toArray : Value).cells.size = 1 ∧ 0 < 1 ∧ 0 < 8 ∧ 1 ≤ 16777216 := ⟨by kernel_rfl, rfl, by decide, by decide, by decide⟩
theorem if21 : infoOf Tryd.prog 21 = some (some (Value.int IntKind.i32 0), 1, 4) ∧ (Value.int IntKind.i32 0 : Value).cells.size = 1 ∧ 0 < 1 ∧ 0 < 4 ∧ 1 ≤ 16777216 := ⟨by kernel_rfl, rfl, by decide, by decide, by decide⟩
theorem if22 : infoOf Tryd.prog 22 = some (some (Value.int IntKind.u64 0), 1, 8) ∧ (Value.int IntKind.u64 0 : Value).cells.size = 1 ∧ 0 < 1 ∧ 0 < 8 ∧ 1 ≤ 16777216 := ⟨by kernel_rfl, rfl, by decide, by decide, by decide⟩
theorem if23 : infoOf Tryd.prog 23 = some (some (Value.int IntKind.i64 0), 1, 8) ∧ (Value.int IntKind.i64 0 : Value).cells.size = 1 ∧ 0 < 1 ∧ 0 < 8 ∧ 1 ≤ 16777216 := ⟨by kernel_rfl, rfl, by decide, by decide, by decide⟩
theorem if33 : infoOf Tryd.prog 33 = some (some (Value.slice none 0 0), 1, 24) ∧ (Value.slice none 0 0 : Value).cells.size = 1 ∧ 0 < 1 ∧ 0 < 24 ∧ 1 ≤ 16777216 := ⟨by kernel_rfl, rfl, by decide, by decide, by decide⟩
theorem if38 : infoOf Tryd.prog 38 = some (some (Value.int IntKind.u32 0), 1, 4) ∧ (Value.int IntKind.u32 0 : Value).cells.size = 1 ∧ 0 < 1 ∧ 0 < 4 ∧ 1 ≤ 16777216 := ⟨by kernel_rfl, rfl, by decide, by decide, by decide⟩
theorem if40 : infoOf Tryd.prog 40 = some (some (Value.int IntKind.u64 0), 1, 8) ∧ (Value.int IntKind.u64 0 : Value).cells.size = 1 ∧ 0 < 1 ∧ 0 < 8 ∧ 1 ≤ 16777216 := ⟨by kernel_rfl, rfl, by decide, by decide, by decide⟩
theorem if41 : infoOf Tryd.prog 41 = some (some (Value.agg (cb (zb 64)).toArray), 64, 64) ∧ (Value.agg (cb (zb 64)).toArray : Value).cells.size = 64 ∧ 0 < 64 ∧ 0 < 64 ∧ 64 ≤ 16777216 := ⟨by kernel_rfl, by decide +kernel, by decide, by decide, by decide⟩
theorem if43 : infoOf Tryd.prog 43 = some (some (Value.agg ([Value.pointer none, Value.pointer none, Value.pointer none, str []]).toArray), 4, 40) ∧ (Value.agg ([Value.pointer none, Value.pointer none, Value.pointer none, str []]).toArray : Value).cells.size = 4 ∧ 0 < 4 ∧ 0 < 40 ∧ 4 ≤ 16777216 := ⟨by kernel_rfl, rfl, by decide, by decide, by decide⟩
theorem if44 : infoOf Tryd.prog 44 = some (some (Value.agg ([Value.pointer none, Value.pointer none, Value.pointer none, str []]).toArray), 4, 40) ∧ (Value.agg ([Value.pointer none, Value.pointer none, Value.pointer none, str []]).toArray : Value).cells.size = 4 ∧ 0 < 4 ∧ 0 < 40 ∧ 4 ≤ 16777216 := ⟨by kernel_rfl, rfl, by decide, by decide, by decide⟩
theorem if49 : infoOf Tryd.prog 49 = some (some (Value.int IntKind.u8 0), 1, 1) ∧ (Value.int IntKind.u8 0 : Value).cells.size = 1 ∧ 0 < 1 ∧ 0 < 1 ∧ 1 ≤ 16777216 := ⟨by kernel_rfl, rfl, by decide, by decide, by decide⟩
theorem if50 : infoOf Tryd.prog 50 = some (some (Value.int IntKind.u8 0), 1, 1) ∧ (Value.int IntKind.u8 0 : Value).cells.size = 1 ∧ 0 < 1 ∧ 0 < 1 ∧ 1 ≤ 16777216 := ⟨by kernel_rfl, rfl, by decide, by decide, by decide⟩
theorem if52 : infoOf Tryd.prog 52 = some (some (Value.pointer none), 1, 8) ∧ (Value.pointer none : Value).cells.size = 1 ∧ 0 < 1 ∧ 0 < 8 ∧ 1 ≤ 16777216 := ⟨by kernel_rfl, rfl, by decide, by decide, by decide⟩
theorem if53 : infoOf Tryd.prog 53 = some (some (Value.int IntKind.i32 0), 1, 4) ∧ (Value.int IntKind.i32 0 : Value).cells.size = 1 ∧ 0 < 1 ∧ 0 < 4 ∧ 1 ≤ 16777216 := ⟨by kernel_rfl, rfl, by decide, by decide, by decide⟩
theorem if54 : infoOf Tryd.prog 54 = some (some (Value.int IntKind.i32 0), 1, 4) ∧ (Value.int IntKind.i32 0 : Value).cells.size = 1 ∧ 0 < 1 ∧ 0 < 4 ∧ 1 ≤ 16777216 := ⟨by kernel_rfl, rfl, by decide, by decide, by decide⟩
def ilist : List (Nat × Value × Nat × Nat) := [
  (2, Value.int IntKind.i64 0, 1, 8),
  (3, Value.int IntKind.i64 0, 1, 8),
  (4, Value.bool false, 1, 1),
  (5, Value.int IntKind.u8 0, 1, 1),
  (6, Value.int IntKind.u8 0, 1, 1),
  (7, Value.agg ([Value.int IntKind.i64 0, Value.int IntKind.i64 0, Value.bool false, Value.int IntKind.u8 0]).toArray, 4, 24),
  (8, Value.agg ([Value.int IntKind.i64 0, Value.int IntKind.i64 0, Value.bool false, Value.int IntKind.u8 0]).toArray, 4, 24),
  (9, str [], 1, 16),
  (10, str [], 1, 16),
  (11, str [], 1, 16),
  (12, Value.int IntKind.u64 0, 1, 8),
  (13, Value.agg ([str [], Value.int IntKind.u64 0]).toArray, 2, 24),
  (14, Value.agg ([str [], Value.int IntKind.u64 0]).toArray, 2, 24),
  (15, Value.pointer none, 1, 8),
  (16, Value.pointer none, 1, 8),
  (17, Value.pointer none, 1, 8),
  (18, Value.agg ([Value.pointer none]).toArray, 1, 8),
  (19, Value.agg ([Value.pointer none]).toArray, 1, 8),
  (21, Value.int IntKind.i32 0, 1, 4),
  (22, Value.int IntKind.u64 0, 1, 8),
  (23, Value.int IntKind.i64 0, 1, 8),
  (33, Value.slice none 0 0, 1, 24),
  (38, Value.int IntKind.u32 0, 1, 4),
  (40, Value.int IntKind.u64 0, 1, 8),
  (41, Value.agg (cb (zb 64)).toArray, 64, 64),
  (43, Value.agg ([Value.pointer none, Value.pointer none, Value.pointer none, str []]).toArray, 4, 40),
  (44, Value.agg ([Value.pointer none, Value.pointer none, Value.pointer none, str []]).toArray, 4, 40),
  (49, Value.int IntKind.u8 0, 1, 1),
  (50, Value.int IntKind.u8 0, 1, 1),
  (52, Value.pointer none, 1, 8),
  (53, Value.int IntKind.i32 0, 1, 4),
  (54, Value.int IntKind.i32 0, 1, 4)]
theorem ilist_ok : AllIf Tryd.prog ilist := ⟨if2, if3, if4, if5, if6, if7, if8, if9, if10, if11, if12, if13, if14, if15, if16, if17, if18, if19, if21, if22, if23, if33, if38, if40, if41, if43, if44, if49, if50, if52, if53, if54, trivial⟩
def zrs : Zs Tryd.prog := Zs.mk' zlist_ok blist_ok ilist_ok
instance tcI : X.TC Tryd.prog := ⟨tab, zrs⟩
end Go.Proofs.YtehekgigmbnlfaaDoor
