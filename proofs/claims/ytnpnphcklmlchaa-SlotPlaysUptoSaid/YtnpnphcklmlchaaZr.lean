/- The zeros of the seat's types. -/
import Derived.Test.YtnpnphcklmlchaaXs
import Derived.Test.YtnpnphcklmlchaaTab
namespace Go.Proofs.Ytnpnphcklmlchaa
open Go.Proofs.Ytnpnphcklmlchaa.Stm Go.Proofs.Ytnpnphcklmlchaa.By Go.Proofs.Ytnpnphcklmlchaa.Mx Go.Proofs.Ytnpnphcklmlchaa.Ap
theorem zr2 : zeroOf Try.prog 2 = some (Value.int IntKind.i64 0) := by kernel_rfl
theorem zr3 : zeroOf Try.prog 3 = some (Value.int IntKind.i64 0) := by kernel_rfl
theorem zr4 : zeroOf Try.prog 4 = some (Value.bool false) := by kernel_rfl
theorem zr5 : zeroOf Try.prog 5 = some (Value.int IntKind.u8 0) := by kernel_rfl
theorem zr6 : zeroOf Try.prog 6 = some (Value.int IntKind.u8 0) := by kernel_rfl
theorem zr7 : zeroOf Try.prog 7 = some (Value.agg ([Value.int IntKind.i64 0, Value.int IntKind.i64 0, Value.bool false, Value.int IntKind.u8 0]).toArray) := by kernel_rfl
theorem zr8 : zeroOf Try.prog 8 = some (Value.agg ([Value.int IntKind.i64 0, Value.int IntKind.i64 0, Value.bool false, Value.int IntKind.u8 0]).toArray) := by kernel_rfl
theorem zr9 : zeroOf Try.prog 9 = some (str []) := by kernel_rfl
theorem zr10 : zeroOf Try.prog 10 = some (str []) := by kernel_rfl
theorem zr11 : zeroOf Try.prog 11 = some (str []) := by kernel_rfl
theorem zr12 : zeroOf Try.prog 12 = some (Value.int IntKind.u64 0) := by kernel_rfl
theorem zr13 : zeroOf Try.prog 13 = some (Value.agg ([str [], Value.int IntKind.u64 0]).toArray) := by kernel_rfl
theorem zr14 : zeroOf Try.prog 14 = some (Value.agg ([str [], Value.int IntKind.u64 0]).toArray) := by kernel_rfl
theorem zr15 : zeroOf Try.prog 15 = some (Value.pointer none) := by kernel_rfl
theorem zr16 : zeroOf Try.prog 16 = some (Value.pointer none) := by kernel_rfl
theorem zr17 : zeroOf Try.prog 17 = some (Value.pointer none) := by kernel_rfl
theorem zr18 : zeroOf Try.prog 18 = some (Value.agg ([Value.pointer none]).toArray) := by kernel_rfl
theorem zr19 : zeroOf Try.prog 19 = some (Value.agg ([Value.pointer none]).toArray) := by kernel_rfl
theorem zr21 : zeroOf Try.prog 21 = some (Value.int IntKind.i32 0) := by kernel_rfl
theorem zr23 : zeroOf Try.prog 23 = some (Value.agg (cb (zb 32)).toArray) := by kernel_rfl
theorem zr24 : zeroOf Try.prog 24 = some (Value.agg (cb (zb 32)).toArray) := by kernel_rfl
theorem zr29 : zeroOf Try.prog 29 = some (Value.slice none 0 0) := by kernel_rfl
theorem zr30 : zeroOf Try.prog 30 = some (Value.slice none 0 0) := by kernel_rfl
theorem zr31 : zeroOf Try.prog 31 = some (Value.pointer none) := by kernel_rfl
theorem zr37 : zeroOf Try.prog 37 = some (Value.slice none 0 0) := by kernel_rfl
theorem zr38 : zeroOf Try.prog 38 = some (Value.pointer none) := by kernel_rfl
theorem zr40 : zeroOf Try.prog 40 = some (Value.slice none 0 0) := by kernel_rfl
theorem zr41 : zeroOf Try.prog 41 = some (Value.agg ([Value.int IntKind.i64 0, Value.int IntKind.i64 0, Value.int IntKind.u8 0, str []]).toArray) := by kernel_rfl
theorem zr42 : zeroOf Try.prog 42 = some (Value.agg ([Value.int IntKind.i64 0, Value.int IntKind.i64 0, Value.int IntKind.u8 0, str []]).toArray) := by kernel_rfl
theorem zr44 : zeroOf Try.prog 44 = some (Value.agg ([Value.int IntKind.u8 0, str []]).toArray) := by kernel_rfl
theorem zr45 : zeroOf Try.prog 45 = some (Value.agg ([Value.int IntKind.u8 0, str []]).toArray) := by kernel_rfl
theorem zr48 : zeroOf Try.prog 48 = some (Value.slice none 0 0) := by kernel_rfl
theorem zr49 : zeroOf Try.prog 49 = some (Value.pointer none) := by kernel_rfl
theorem zr50 : zeroOf Try.prog 50 = some (Value.int IntKind.i64 0) := by kernel_rfl
theorem zr53 : zeroOf Try.prog 53 = some (Value.map none) := by kernel_rfl
theorem zr54 : zeroOf Try.prog 54 = some (Value.slice none 0 0) := by kernel_rfl
theorem zr55 : zeroOf Try.prog 55 = some (Value.agg ([Value.int IntKind.i64 0, Value.bool false]).toArray) := by kernel_rfl
theorem zr56 : zeroOf Try.prog 56 = some (Value.agg ([Value.int IntKind.i64 0, Value.bool false]).toArray) := by kernel_rfl
theorem zr57 : zeroOf Try.prog 57 = some (Value.agg ([Value.int IntKind.i64 0, Value.int IntKind.i64 0, Value.int IntKind.u8 0, Value.slice none 0 0, Value.int IntKind.i64 0, Value.bool false]).toArray) := by kernel_rfl
theorem zr58 : zeroOf Try.prog 58 = some (Value.agg ([Value.int IntKind.i64 0, Value.int IntKind.i64 0, Value.int IntKind.u8 0, Value.slice none 0 0, Value.int IntKind.i64 0, Value.bool false]).toArray) := by kernel_rfl
theorem zr60 : zeroOf Try.prog 60 = some (Value.agg (cb (zb 256)).toArray) := by kernel_rfl
theorem zr61 : zeroOf Try.prog 61 = some (Value.agg (cb (zb 256)).toArray) := by kernel_rfl
theorem zr65 : zeroOf Try.prog 65 = some (Value.slice none 0 0) := by kernel_rfl
theorem zr67 : zeroOf Try.prog 67 = some (Value.slice none 0 0) := by kernel_rfl
theorem zr69 : zeroOf Try.prog 69 = some (Value.agg ([Value.int IntKind.i64 0, Value.int IntKind.i64 0] ++ cb (zb 256)).toArray) := by kernel_rfl
theorem zr70 : zeroOf Try.prog 70 = some (Value.agg ([Value.int IntKind.i64 0, Value.int IntKind.i64 0] ++ cb (zb 256)).toArray) := by kernel_rfl
theorem zr72 : zeroOf Try.prog 72 = some (Value.slice none 0 0) := by kernel_rfl
theorem zr73 : zeroOf Try.prog 73 = some (Value.slice none 0 0) := by kernel_rfl
theorem zr74 : zeroOf Try.prog 74 = some (Value.slice none 0 0) := by kernel_rfl
theorem zr75 : zeroOf Try.prog 75 = some (Value.slice none 0 0) := by kernel_rfl
theorem zr76 : zeroOf Try.prog 76 = some (Value.slice none 0 0) := by kernel_rfl
theorem zr77 : zeroOf Try.prog 77 = some (Value.agg ([Value.slice none 0 0, Value.slice none 0 0, Value.slice none 0 0, Value.slice none 0 0, Value.bool false, Value.int IntKind.i64 0, Value.slice none 0 0]).toArray) := by kernel_rfl
theorem zr78 : zeroOf Try.prog 78 = some (Value.agg ([Value.slice none 0 0, Value.slice none 0 0, Value.slice none 0 0, Value.slice none 0 0, Value.bool false, Value.int IntKind.i64 0, Value.slice none 0 0]).toArray) := by kernel_rfl
theorem zr87 : zeroOf Try.prog 87 = some (Value.slice none 0 0) := by kernel_rfl
theorem zr91 : zeroOf Try.prog 91 = some (Value.agg (repC 16 [Value.int IntKind.i64 0]).toArray) := by kernel_rfl
theorem zr92 : zeroOf Try.prog 92 = some (Value.agg (cb (zb 256)).toArray) := by kernel_rfl
theorem zr93 : zeroOf Try.prog 93 = some (Value.agg ([Value.int IntKind.i64 0, Value.int IntKind.i64 0] ++ cb (zb 256)).toArray) := by kernel_rfl
theorem zr94 : zeroOf Try.prog 94 = some (Value.agg ([Value.int IntKind.i64 0, Value.int IntKind.i64 0] ++ cb (zb 256)).toArray) := by kernel_rfl
theorem zr102 : zeroOf Try.prog 102 = some (Value.int IntKind.u64 0) := by kernel_rfl
theorem zr103 : zeroOf Try.prog 103 = some (Value.int IntKind.u32 0) := by kernel_rfl
theorem zr104 : zeroOf Try.prog 104 = some (Value.agg ([Value.int IntKind.u32 0] ++ cb (zb 32)).toArray) := by kernel_rfl
theorem zr105 : zeroOf Try.prog 105 = some (Value.agg ([Value.int IntKind.u32 0] ++ cb (zb 32)).toArray) := by kernel_rfl
theorem zr106 : zeroOf Try.prog 106 = some (Value.agg ([Value.int IntKind.u64 0] ++ ([Value.int IntKind.u32 0] ++ cb (zb 32))).toArray) := by kernel_rfl
theorem zr107 : zeroOf Try.prog 107 = some (Value.agg ([Value.int IntKind.u64 0] ++ ([Value.int IntKind.u32 0] ++ cb (zb 32))).toArray) := by kernel_rfl
theorem zr108 : zeroOf Try.prog 108 = some (Value.pointer none) := by kernel_rfl
theorem zr113 : zeroOf Try.prog 113 = some (Value.slice none 0 0) := by kernel_rfl
theorem zr116 : zeroOf Try.prog 116 = some (Value.slice none 0 0) := by kernel_rfl
theorem zr125 : zeroOf Try.prog 125 = some (Value.agg (cb (zb 32)).toArray) := by kernel_rfl
theorem zr126 : zeroOf Try.prog 126 = some (Value.agg ([Value.int IntKind.u64 0, Value.int IntKind.u32 0] ++ cb (zb 32)).toArray) := by kernel_rfl
theorem zr127 : zeroOf Try.prog 127 = some (Value.agg ([Value.int IntKind.u64 0, Value.int IntKind.u32 0] ++ cb (zb 32)).toArray) := by kernel_rfl
theorem zr135 : zeroOf Try.prog 135 = some (Value.slice none 0 0) := by kernel_rfl
theorem zr136 : zeroOf Try.prog 136 = some (Value.slice none 0 0) := by kernel_rfl
theorem zr137 : zeroOf Try.prog 137 = some (Value.slice none 0 0) := by kernel_rfl
theorem zr138 : zeroOf Try.prog 138 = some (Value.agg (([Value.int IntKind.u64 0, Value.int IntKind.u32 0] ++ cb (zb 32)) ++ [Value.slice none 0 0]).toArray) := by kernel_rfl
theorem zr139 : zeroOf Try.prog 139 = some (Value.agg (([Value.int IntKind.u64 0, Value.int IntKind.u32 0] ++ cb (zb 32)) ++ [Value.slice none 0 0]).toArray) := by kernel_rfl
theorem zr141 : zeroOf Try.prog 141 = some (Value.agg ([Value.int IntKind.i64 0, Value.int IntKind.i64 0, Value.int IntKind.u32 0] ++ cb (zb 32)).toArray) := by kernel_rfl
theorem zr142 : zeroOf Try.prog 142 = some (Value.agg ([Value.int IntKind.i64 0, Value.int IntKind.i64 0, Value.int IntKind.u32 0] ++ cb (zb 32)).toArray) := by kernel_rfl
theorem zr143 : zeroOf Try.prog 143 = some (Value.agg ([Value.bool false, Value.bool false]).toArray) := by kernel_rfl
theorem zr144 : zeroOf Try.prog 144 = some (Value.agg ([Value.bool false, Value.bool false]).toArray) := by kernel_rfl
theorem zr151 : zeroOf Try.prog 151 = some (Value.agg (repC 8 [Value.int IntKind.u32 0]).toArray) := by kernel_rfl
theorem zr152 : zeroOf Try.prog 152 = some (Value.int IntKind.u64 0) := by kernel_rfl
theorem zr154 : zeroOf Try.prog 154 = some (Value.agg (repC 16 [Value.int IntKind.u32 0]).toArray) := by kernel_rfl
theorem zr156 : zeroOf Try.prog 156 = some (Value.agg (repC 16 [Value.int IntKind.u32 0]).toArray) := by kernel_rfl
theorem zr158 : zeroOf Try.prog 158 = some (Value.agg (repC 8 [Value.int IntKind.u32 0] ++ [Value.slice none 0 0, Value.int IntKind.i64 0]).toArray) := by kernel_rfl
theorem zr159 : zeroOf Try.prog 159 = some (Value.agg (repC 8 [Value.int IntKind.u32 0] ++ [Value.slice none 0 0, Value.int IntKind.i64 0]).toArray) := by kernel_rfl
theorem zr161 : zeroOf Try.prog 161 = some (Value.agg (cb (zb 8)).toArray) := by kernel_rfl
theorem zr163 : zeroOf Try.prog 163 = some (Value.agg (cb (zb 4)).toArray) := by kernel_rfl
theorem zr165 : zeroOf Try.prog 165 = some (Value.map none) := by kernel_rfl
theorem zr166 : zeroOf Try.prog 166 = some (Value.map none) := by kernel_rfl
theorem zr167 : zeroOf Try.prog 167 = some (Value.slice none 0 0) := by kernel_rfl
theorem zr168 : zeroOf Try.prog 168 = some (Value.agg ([Value.slice none 0 0, Value.map none, Value.map none, Value.int IntKind.i64 0, Value.int IntKind.i64 0, Value.bool false]).toArray) := by kernel_rfl
theorem zr169 : zeroOf Try.prog 169 = some (Value.agg ([Value.slice none 0 0, Value.map none, Value.map none, Value.int IntKind.i64 0, Value.int IntKind.i64 0, Value.bool false]).toArray) := by kernel_rfl
theorem zr170 : zeroOf Try.prog 170 = some (Value.agg ([Value.int IntKind.u8 0, str []]).toArray) := by kernel_rfl
theorem zr179 : zeroOf Try.prog 179 = some (Value.slice none 0 0) := by kernel_rfl
theorem zr180 : zeroOf Try.prog 180 = some (Value.map none) := by kernel_rfl
theorem zr181 : zeroOf Try.prog 181 = some (Value.agg ([Value.slice none 0 0, Value.slice none 0 0, Value.slice none 0 0, Value.map none, Value.int IntKind.i64 0, Value.bool false, Value.int IntKind.i64 0, Value.int IntKind.i64 0, Value.slice none 0 0]).toArray) := by kernel_rfl
theorem zr182 : zeroOf Try.prog 182 = some (Value.agg ([Value.slice none 0 0, Value.slice none 0 0, Value.slice none 0 0, Value.map none, Value.int IntKind.i64 0, Value.bool false, Value.int IntKind.i64 0, Value.int IntKind.i64 0, Value.slice none 0 0]).toArray) := by kernel_rfl
theorem zr196 : zeroOf Try.prog 196 = some (Value.agg ([Value.int IntKind.i64 0, Value.bool false]).toArray) := by kernel_rfl
theorem zr201 : zeroOf Try.prog 201 = some (Value.agg ([Value.int IntKind.i64 0, Value.int IntKind.i64 0, Value.int IntKind.i64 0] ++ cb (zb 256) ++ [Value.int IntKind.i64 0]).toArray) := by kernel_rfl
theorem zr202 : zeroOf Try.prog 202 = some (Value.agg ([Value.int IntKind.i64 0, Value.int IntKind.i64 0, Value.int IntKind.i64 0] ++ cb (zb 256) ++ [Value.int IntKind.i64 0]).toArray) := by kernel_rfl
theorem zr203 : zeroOf Try.prog 203 = some (Value.map none) := by kernel_rfl
theorem zr204 : zeroOf Try.prog 204 = some (Value.agg ([Value.pointer none] ++ ([Value.int IntKind.u64 0] ++ ([Value.int IntKind.u32 0] ++ cb (zb 32))) ++ [Value.slice none 0 0, Value.map none]).toArray) := by kernel_rfl
theorem zr205 : zeroOf Try.prog 205 = some (Value.agg ([Value.pointer none] ++ ([Value.int IntKind.u64 0] ++ ([Value.int IntKind.u32 0] ++ cb (zb 32))) ++ [Value.slice none 0 0, Value.map none]).toArray) := by kernel_rfl
theorem zr215 : zeroOf Try.prog 215 = some (Value.slice none 0 0) := by kernel_rfl
theorem zr217 : zeroOf Try.prog 217 = some (Value.slice none 0 0) := by kernel_rfl
theorem zr218 : zeroOf Try.prog 218 = some (Value.agg ([Value.int IntKind.i64 0] ++ cb (zb 256)).toArray) := by kernel_rfl
theorem zr219 : zeroOf Try.prog 219 = some (Value.agg ([Value.int IntKind.i64 0] ++ cb (zb 256)).toArray) := by kernel_rfl
theorem zr221 : zeroOf Try.prog 221 = some (Value.agg ([Value.int IntKind.i64 0, Value.int IntKind.i64 0, Value.int IntKind.i64 0] ++ cb (zb 256) ++ [Value.int IntKind.i64 0]).toArray) := by kernel_rfl
theorem zr222 : zeroOf Try.prog 222 = some (Value.agg ([Value.int IntKind.i64 0, Value.int IntKind.i64 0, Value.int IntKind.i64 0] ++ cb (zb 256) ++ [Value.int IntKind.i64 0]).toArray) := by kernel_rfl
theorem zr227 : zeroOf Try.prog 227 = some (Value.agg (repC 16 [Value.int IntKind.u32 0]).toArray) := by kernel_rfl
theorem zr228 : zeroOf Try.prog 228 = some (Value.slice none 0 0) := by kernel_rfl
theorem zr237 : zeroOf Try.prog 237 = some (Value.agg ([Value.pointer none, Value.pointer none, Value.pointer none, str []]).toArray) := by kernel_rfl
theorem zr238 : zeroOf Try.prog 238 = some (Value.agg ([Value.pointer none, Value.pointer none, Value.pointer none, str []]).toArray) := by kernel_rfl
theorem zr239 : zeroOf Try.prog 239 = some (Value.agg ([]).toArray) := by kernel_rfl
theorem zr240 : zeroOf Try.prog 240 = some (Value.agg ([]).toArray) := by kernel_rfl
theorem zr241 : zeroOf Try.prog 241 = some (Value.agg ([]).toArray) := by kernel_rfl
theorem zr242 : zeroOf Try.prog 242 = some (Value.int IntKind.u8 0) := by kernel_rfl
theorem zr243 : zeroOf Try.prog 243 = some (Value.int IntKind.u8 0) := by kernel_rfl
theorem zr245 : zeroOf Try.prog 245 = some (Value.pointer none) := by kernel_rfl
theorem zr246 : zeroOf Try.prog 246 = some (Value.int IntKind.i32 0) := by kernel_rfl
theorem zr247 : zeroOf Try.prog 247 = some (Value.int IntKind.i32 0) := by kernel_rfl
theorem bt7 : Try.prog.built 7 [] = some ([Value.int IntKind.i64 0, Value.int IntKind.i64 0, Value.bool false, Value.int IntKind.u8 0]).toArray := by kernel_rfl
theorem bt8 : Try.prog.built 8 [] = some ([Value.int IntKind.i64 0, Value.int IntKind.i64 0, Value.bool false, Value.int IntKind.u8 0]).toArray := by kernel_rfl
theorem bt13 : Try.prog.built 13 [] = some ([str [], Value.int IntKind.u64 0]).toArray := by kernel_rfl
theorem bt14 : Try.prog.built 14 [] = some ([str [], Value.int IntKind.u64 0]).toArray := by kernel_rfl
theorem bt18 : Try.prog.built 18 [] = some ([Value.pointer none]).toArray := by kernel_rfl
theorem bt19 : Try.prog.built 19 [] = some ([Value.pointer none]).toArray := by kernel_rfl
theorem bt23 : Try.prog.built 23 [] = some (cb (zb 32)).toArray := by kernel_rfl
theorem bt24 : Try.prog.built 24 [] = some (cb (zb 32)).toArray := by kernel_rfl
theorem bt41 : Try.prog.built 41 [] = some ([Value.int IntKind.i64 0, Value.int IntKind.i64 0, Value.int IntKind.u8 0, str []]).toArray := by kernel_rfl
theorem bt42 : Try.prog.built 42 [] = some ([Value.int IntKind.i64 0, Value.int IntKind.i64 0, Value.int IntKind.u8 0, str []]).toArray := by kernel_rfl
theorem bt44 : Try.prog.built 44 [] = some ([Value.int IntKind.u8 0, str []]).toArray := by kernel_rfl
theorem bt45 : Try.prog.built 45 [] = some ([Value.int IntKind.u8 0, str []]).toArray := by kernel_rfl
theorem bt55 : Try.prog.built 55 [] = some ([Value.int IntKind.i64 0, Value.bool false]).toArray := by kernel_rfl
theorem bt56 : Try.prog.built 56 [] = some ([Value.int IntKind.i64 0, Value.bool false]).toArray := by kernel_rfl
theorem bt57 : Try.prog.built 57 [] = some ([Value.int IntKind.i64 0, Value.int IntKind.i64 0, Value.int IntKind.u8 0, Value.slice none 0 0, Value.int IntKind.i64 0, Value.bool false]).toArray := by kernel_rfl
theorem bt58 : Try.prog.built 58 [] = some ([Value.int IntKind.i64 0, Value.int IntKind.i64 0, Value.int IntKind.u8 0, Value.slice none 0 0, Value.int IntKind.i64 0, Value.bool false]).toArray := by kernel_rfl
theorem bt60 : Try.prog.built 60 [] = some (cb (zb 256)).toArray := by kernel_rfl
theorem bt61 : Try.prog.built 61 [] = some (cb (zb 256)).toArray := by kernel_rfl
theorem bt69 : Try.prog.built 69 [] = some ([Value.int IntKind.i64 0, Value.int IntKind.i64 0] ++ cb (zb 256)).toArray := by kernel_rfl
theorem bt70 : Try.prog.built 70 [] = some ([Value.int IntKind.i64 0, Value.int IntKind.i64 0] ++ cb (zb 256)).toArray := by kernel_rfl
theorem bt77 : Try.prog.built 77 [] = some ([Value.slice none 0 0, Value.slice none 0 0, Value.slice none 0 0, Value.slice none 0 0, Value.bool false, Value.int IntKind.i64 0, Value.slice none 0 0]).toArray := by kernel_rfl
theorem bt78 : Try.prog.built 78 [] = some ([Value.slice none 0 0, Value.slice none 0 0, Value.slice none 0 0, Value.slice none 0 0, Value.bool false, Value.int IntKind.i64 0, Value.slice none 0 0]).toArray := by kernel_rfl
theorem bt91 : Try.prog.built 91 [] = some (repC 16 [Value.int IntKind.i64 0]).toArray := by kernel_rfl
theorem bt92 : Try.prog.built 92 [] = some (cb (zb 256)).toArray := by kernel_rfl
theorem bt93 : Try.prog.built 93 [] = some ([Value.int IntKind.i64 0, Value.int IntKind.i64 0] ++ cb (zb 256)).toArray := by kernel_rfl
theorem bt94 : Try.prog.built 94 [] = some ([Value.int IntKind.i64 0, Value.int IntKind.i64 0] ++ cb (zb 256)).toArray := by kernel_rfl
theorem bt104 : Try.prog.built 104 [] = some ([Value.int IntKind.u32 0] ++ cb (zb 32)).toArray := by kernel_rfl
theorem bt105 : Try.prog.built 105 [] = some ([Value.int IntKind.u32 0] ++ cb (zb 32)).toArray := by kernel_rfl
theorem bt106 : Try.prog.built 106 [] = some ([Value.int IntKind.u64 0] ++ ([Value.int IntKind.u32 0] ++ cb (zb 32))).toArray := by kernel_rfl
theorem bt107 : Try.prog.built 107 [] = some ([Value.int IntKind.u64 0] ++ ([Value.int IntKind.u32 0] ++ cb (zb 32))).toArray := by kernel_rfl
theorem bt125 : Try.prog.built 125 [] = some (cb (zb 32)).toArray := by kernel_rfl
theorem bt126 : Try.prog.built 126 [] = some ([Value.int IntKind.u64 0, Value.int IntKind.u32 0] ++ cb (zb 32)).toArray := by kernel_rfl
theorem bt127 : Try.prog.built 127 [] = some ([Value.int IntKind.u64 0, Value.int IntKind.u32 0] ++ cb (zb 32)).toArray := by kernel_rfl
theorem bt138 : Try.prog.built 138 [] = some (([Value.int IntKind.u64 0, Value.int IntKind.u32 0] ++ cb (zb 32)) ++ [Value.slice none 0 0]).toArray := by kernel_rfl
theorem bt139 : Try.prog.built 139 [] = some (([Value.int IntKind.u64 0, Value.int IntKind.u32 0] ++ cb (zb 32)) ++ [Value.slice none 0 0]).toArray := by kernel_rfl
theorem bt141 : Try.prog.built 141 [] = some ([Value.int IntKind.i64 0, Value.int IntKind.i64 0, Value.int IntKind.u32 0] ++ cb (zb 32)).toArray := by kernel_rfl
theorem bt142 : Try.prog.built 142 [] = some ([Value.int IntKind.i64 0, Value.int IntKind.i64 0, Value.int IntKind.u32 0] ++ cb (zb 32)).toArray := by kernel_rfl
theorem bt143 : Try.prog.built 143 [] = some ([Value.bool false, Value.bool false]).toArray := by kernel_rfl
theorem bt144 : Try.prog.built 144 [] = some ([Value.bool false, Value.bool false]).toArray := by kernel_rfl
theorem bt151 : Try.prog.built 151 [] = some (repC 8 [Value.int IntKind.u32 0]).toArray := by kernel_rfl
theorem bt154 : Try.prog.built 154 [] = some (repC 16 [Value.int IntKind.u32 0]).toArray := by kernel_rfl
theorem bt156 : Try.prog.built 156 [] = some (repC 16 [Value.int IntKind.u32 0]).toArray := by kernel_rfl
theorem bt158 : Try.prog.built 158 [] = some (repC 8 [Value.int IntKind.u32 0] ++ [Value.slice none 0 0, Value.int IntKind.i64 0]).toArray := by kernel_rfl
theorem bt159 : Try.prog.built 159 [] = some (repC 8 [Value.int IntKind.u32 0] ++ [Value.slice none 0 0, Value.int IntKind.i64 0]).toArray := by kernel_rfl
theorem bt161 : Try.prog.built 161 [] = some (cb (zb 8)).toArray := by kernel_rfl
theorem bt163 : Try.prog.built 163 [] = some (cb (zb 4)).toArray := by kernel_rfl
theorem bt168 : Try.prog.built 168 [] = some ([Value.slice none 0 0, Value.map none, Value.map none, Value.int IntKind.i64 0, Value.int IntKind.i64 0, Value.bool false]).toArray := by kernel_rfl
theorem bt169 : Try.prog.built 169 [] = some ([Value.slice none 0 0, Value.map none, Value.map none, Value.int IntKind.i64 0, Value.int IntKind.i64 0, Value.bool false]).toArray := by kernel_rfl
theorem bt170 : Try.prog.built 170 [] = some ([Value.int IntKind.u8 0, str []]).toArray := by kernel_rfl
theorem bt181 : Try.prog.built 181 [] = some ([Value.slice none 0 0, Value.slice none 0 0, Value.slice none 0 0, Value.map none, Value.int IntKind.i64 0, Value.bool false, Value.int IntKind.i64 0, Value.int IntKind.i64 0, Value.slice none 0 0]).toArray := by kernel_rfl
theorem bt182 : Try.prog.built 182 [] = some ([Value.slice none 0 0, Value.slice none 0 0, Value.slice none 0 0, Value.map none, Value.int IntKind.i64 0, Value.bool false, Value.int IntKind.i64 0, Value.int IntKind.i64 0, Value.slice none 0 0]).toArray := by kernel_rfl
theorem bt196 : Try.prog.built 196 [] = some ([Value.int IntKind.i64 0, Value.bool false]).toArray := by kernel_rfl
theorem bt201 : Try.prog.built 201 [] = some ([Value.int IntKind.i64 0, Value.int IntKind.i64 0, Value.int IntKind.i64 0] ++ cb (zb 256) ++ [Value.int IntKind.i64 0]).toArray := by kernel_rfl
theorem bt202 : Try.prog.built 202 [] = some ([Value.int IntKind.i64 0, Value.int IntKind.i64 0, Value.int IntKind.i64 0] ++ cb (zb 256) ++ [Value.int IntKind.i64 0]).toArray := by kernel_rfl
theorem bt204 : Try.prog.built 204 [] = some ([Value.pointer none] ++ ([Value.int IntKind.u64 0] ++ ([Value.int IntKind.u32 0] ++ cb (zb 32))) ++ [Value.slice none 0 0, Value.map none]).toArray := by kernel_rfl
theorem bt205 : Try.prog.built 205 [] = some ([Value.pointer none] ++ ([Value.int IntKind.u64 0] ++ ([Value.int IntKind.u32 0] ++ cb (zb 32))) ++ [Value.slice none 0 0, Value.map none]).toArray := by kernel_rfl
theorem bt218 : Try.prog.built 218 [] = some ([Value.int IntKind.i64 0] ++ cb (zb 256)).toArray := by kernel_rfl
theorem bt219 : Try.prog.built 219 [] = some ([Value.int IntKind.i64 0] ++ cb (zb 256)).toArray := by kernel_rfl
theorem bt221 : Try.prog.built 221 [] = some ([Value.int IntKind.i64 0, Value.int IntKind.i64 0, Value.int IntKind.i64 0] ++ cb (zb 256) ++ [Value.int IntKind.i64 0]).toArray := by kernel_rfl
theorem bt222 : Try.prog.built 222 [] = some ([Value.int IntKind.i64 0, Value.int IntKind.i64 0, Value.int IntKind.i64 0] ++ cb (zb 256) ++ [Value.int IntKind.i64 0]).toArray := by kernel_rfl
theorem bt227 : Try.prog.built 227 [] = some (repC 16 [Value.int IntKind.u32 0]).toArray := by kernel_rfl
theorem bt237 : Try.prog.built 237 [] = some ([Value.pointer none, Value.pointer none, Value.pointer none, str []]).toArray := by kernel_rfl
theorem bt238 : Try.prog.built 238 [] = some ([Value.pointer none, Value.pointer none, Value.pointer none, str []]).toArray := by kernel_rfl
theorem bt239 : Try.prog.built 239 [] = some ([]).toArray := by kernel_rfl
theorem bt240 : Try.prog.built 240 [] = some ([]).toArray := by kernel_rfl
theorem bt241 : Try.prog.built 241 [] = some ([]).toArray := by kernel_rfl
def zlist : List (Nat × Value) := [
  (2, Value.int IntKind.i64 0),
  (3, Value.int IntKind.i64 0),
  (4, Value.bool false),
  (5, Value.int IntKind.u8 0),
  (6, Value.int IntKind.u8 0),
  (7, Value.agg ([Value.int IntKind.i64 0, Value.int IntKind.i64 0, Value.bool false, Value.int IntKind.u8 0]).toArray),
  (8, Value.agg ([Value.int IntKind.i64 0, Value.int IntKind.i64 0, Value.bool false, Value.int IntKind.u8 0]).toArray),
  (9, str []),
  (10, str []),
  (11, str []),
  (12, Value.int IntKind.u64 0),
  (13, Value.agg ([str [], Value.int IntKind.u64 0]).toArray),
  (14, Value.agg ([str [], Value.int IntKind.u64 0]).toArray),
  (15, Value.pointer none),
  (16, Value.pointer none),
  (17, Value.pointer none),
  (18, Value.agg ([Value.pointer none]).toArray),
  (19, Value.agg ([Value.pointer none]).toArray),
  (21, Value.int IntKind.i32 0),
  (23, Value.agg (cb (zb 32)).toArray),
  (24, Value.agg (cb (zb 32)).toArray),
  (29, Value.slice none 0 0),
  (30, Value.slice none 0 0),
  (31, Value.pointer none),
  (37, Value.slice none 0 0),
  (38, Value.pointer none),
  (40, Value.slice none 0 0),
  (41, Value.agg ([Value.int IntKind.i64 0, Value.int IntKind.i64 0, Value.int IntKind.u8 0, str []]).toArray),
  (42, Value.agg ([Value.int IntKind.i64 0, Value.int IntKind.i64 0, Value.int IntKind.u8 0, str []]).toArray),
  (44, Value.agg ([Value.int IntKind.u8 0, str []]).toArray),
  (45, Value.agg ([Value.int IntKind.u8 0, str []]).toArray),
  (48, Value.slice none 0 0),
  (49, Value.pointer none),
  (50, Value.int IntKind.i64 0),
  (53, Value.map none),
  (54, Value.slice none 0 0),
  (55, Value.agg ([Value.int IntKind.i64 0, Value.bool false]).toArray),
  (56, Value.agg ([Value.int IntKind.i64 0, Value.bool false]).toArray),
  (57, Value.agg ([Value.int IntKind.i64 0, Value.int IntKind.i64 0, Value.int IntKind.u8 0, Value.slice none 0 0, Value.int IntKind.i64 0, Value.bool false]).toArray),
  (58, Value.agg ([Value.int IntKind.i64 0, Value.int IntKind.i64 0, Value.int IntKind.u8 0, Value.slice none 0 0, Value.int IntKind.i64 0, Value.bool false]).toArray),
  (60, Value.agg (cb (zb 256)).toArray),
  (61, Value.agg (cb (zb 256)).toArray),
  (65, Value.slice none 0 0),
  (67, Value.slice none 0 0),
  (69, Value.agg ([Value.int IntKind.i64 0, Value.int IntKind.i64 0] ++ cb (zb 256)).toArray),
  (70, Value.agg ([Value.int IntKind.i64 0, Value.int IntKind.i64 0] ++ cb (zb 256)).toArray),
  (72, Value.slice none 0 0),
  (73, Value.slice none 0 0),
  (74, Value.slice none 0 0),
  (75, Value.slice none 0 0),
  (76, Value.slice none 0 0),
  (77, Value.agg ([Value.slice none 0 0, Value.slice none 0 0, Value.slice none 0 0, Value.slice none 0 0, Value.bool false, Value.int IntKind.i64 0, Value.slice none 0 0]).toArray),
  (78, Value.agg ([Value.slice none 0 0, Value.slice none 0 0, Value.slice none 0 0, Value.slice none 0 0, Value.bool false, Value.int IntKind.i64 0, Value.slice none 0 0]).toArray),
  (87, Value.slice none 0 0),
  (91, Value.agg (repC 16 [Value.int IntKind.i64 0]).toArray),
  (92, Value.agg (cb (zb 256)).toArray),
  (93, Value.agg ([Value.int IntKind.i64 0, Value.int IntKind.i64 0] ++ cb (zb 256)).toArray),
  (94, Value.agg ([Value.int IntKind.i64 0, Value.int IntKind.i64 0] ++ cb (zb 256)).toArray),
  (102, Value.int IntKind.u64 0),
  (103, Value.int IntKind.u32 0),
  (104, Value.agg ([Value.int IntKind.u32 0] ++ cb (zb 32)).toArray),
  (105, Value.agg ([Value.int IntKind.u32 0] ++ cb (zb 32)).toArray),
  (106, Value.agg ([Value.int IntKind.u64 0] ++ ([Value.int IntKind.u32 0] ++ cb (zb 32))).toArray),
  (107, Value.agg ([Value.int IntKind.u64 0] ++ ([Value.int IntKind.u32 0] ++ cb (zb 32))).toArray),
  (108, Value.pointer none),
  (113, Value.slice none 0 0),
  (116, Value.slice none 0 0),
  (125, Value.agg (cb (zb 32)).toArray),
  (126, Value.agg ([Value.int IntKind.u64 0, Value.int IntKind.u32 0] ++ cb (zb 32)).toArray),
  (127, Value.agg ([Value.int IntKind.u64 0, Value.int IntKind.u32 0] ++ cb (zb 32)).toArray),
  (135, Value.slice none 0 0),
  (136, Value.slice none 0 0),
  (137, Value.slice none 0 0),
  (138, Value.agg (([Value.int IntKind.u64 0, Value.int IntKind.u32 0] ++ cb (zb 32)) ++ [Value.slice none 0 0]).toArray),
  (139, Value.agg (([Value.int IntKind.u64 0, Value.int IntKind.u32 0] ++ cb (zb 32)) ++ [Value.slice none 0 0]).toArray),
  (141, Value.agg ([Value.int IntKind.i64 0, Value.int IntKind.i64 0, Value.int IntKind.u32 0] ++ cb (zb 32)).toArray),
  (142, Value.agg ([Value.int IntKind.i64 0, Value.int IntKind.i64 0, Value.int IntKind.u32 0] ++ cb (zb 32)).toArray),
  (143, Value.agg ([Value.bool false, Value.bool false]).toArray),
  (144, Value.agg ([Value.bool false, Value.bool false]).toArray),
  (151, Value.agg (repC 8 [Value.int IntKind.u32 0]).toArray),
  (152, Value.int IntKind.u64 0),
  (154, Value.agg (repC 16 [Value.int IntKind.u32 0]).toArray),
  (156, Value.agg (repC 16 [Value.int IntKind.u32 0]).toArray),
  (158, Value.agg (repC 8 [Value.int IntKind.u32 0] ++ [Value.slice none 0 0, Value.int IntKind.i64 0]).toArray),
  (159, Value.agg (repC 8 [Value.int IntKind.u32 0] ++ [Value.slice none 0 0, Value.int IntKind.i64 0]).toArray),
  (161, Value.agg (cb (zb 8)).toArray),
  (163, Value.agg (cb (zb 4)).toArray),
  (165, Value.map none),
  (166, Value.map none),
  (167, Value.slice none 0 0),
  (168, Value.agg ([Value.slice none 0 0, Value.map none, Value.map none, Value.int IntKind.i64 0, Value.int IntKind.i64 0, Value.bool false]).toArray),
  (169, Value.agg ([Value.slice none 0 0, Value.map none, Value.map none, Value.int IntKind.i64 0, Value.int IntKind.i64 0, Value.bool false]).toArray),
  (170, Value.agg ([Value.int IntKind.u8 0, str []]).toArray),
  (179, Value.slice none 0 0),
  (180, Value.map none),
  (181, Value.agg ([Value.slice none 0 0, Value.slice none 0 0, Value.slice none 0 0, Value.map none, Value.int IntKind.i64 0, Value.bool false, Value.int IntKind.i64 0, Value.int IntKind.i64 0, Value.slice none 0 0]).toArray),
  (182, Value.agg ([Value.slice none 0 0, Value.slice none 0 0, Value.slice none 0 0, Value.map none, Value.int IntKind.i64 0, Value.bool false, Value.int IntKind.i64 0, Value.int IntKind.i64 0, Value.slice none 0 0]).toArray),
  (196, Value.agg ([Value.int IntKind.i64 0, Value.bool false]).toArray),
  (201, Value.agg ([Value.int IntKind.i64 0, Value.int IntKind.i64 0, Value.int IntKind.i64 0] ++ cb (zb 256) ++ [Value.int IntKind.i64 0]).toArray),
  (202, Value.agg ([Value.int IntKind.i64 0, Value.int IntKind.i64 0, Value.int IntKind.i64 0] ++ cb (zb 256) ++ [Value.int IntKind.i64 0]).toArray),
  (203, Value.map none),
  (204, Value.agg ([Value.pointer none] ++ ([Value.int IntKind.u64 0] ++ ([Value.int IntKind.u32 0] ++ cb (zb 32))) ++ [Value.slice none 0 0, Value.map none]).toArray),
  (205, Value.agg ([Value.pointer none] ++ ([Value.int IntKind.u64 0] ++ ([Value.int IntKind.u32 0] ++ cb (zb 32))) ++ [Value.slice none 0 0, Value.map none]).toArray),
  (215, Value.slice none 0 0),
  (217, Value.slice none 0 0),
  (218, Value.agg ([Value.int IntKind.i64 0] ++ cb (zb 256)).toArray),
  (219, Value.agg ([Value.int IntKind.i64 0] ++ cb (zb 256)).toArray),
  (221, Value.agg ([Value.int IntKind.i64 0, Value.int IntKind.i64 0, Value.int IntKind.i64 0] ++ cb (zb 256) ++ [Value.int IntKind.i64 0]).toArray),
  (222, Value.agg ([Value.int IntKind.i64 0, Value.int IntKind.i64 0, Value.int IntKind.i64 0] ++ cb (zb 256) ++ [Value.int IntKind.i64 0]).toArray),
  (227, Value.agg (repC 16 [Value.int IntKind.u32 0]).toArray),
  (228, Value.slice none 0 0),
  (237, Value.agg ([Value.pointer none, Value.pointer none, Value.pointer none, str []]).toArray),
  (238, Value.agg ([Value.pointer none, Value.pointer none, Value.pointer none, str []]).toArray),
  (239, Value.agg ([]).toArray),
  (240, Value.agg ([]).toArray),
  (241, Value.agg ([]).toArray),
  (242, Value.int IntKind.u8 0),
  (243, Value.int IntKind.u8 0),
  (245, Value.pointer none),
  (246, Value.int IntKind.i32 0),
  (247, Value.int IntKind.i32 0)]
def blist : List (Nat × List Value) := [
  (7, [Value.int IntKind.i64 0, Value.int IntKind.i64 0, Value.bool false, Value.int IntKind.u8 0]),
  (8, [Value.int IntKind.i64 0, Value.int IntKind.i64 0, Value.bool false, Value.int IntKind.u8 0]),
  (13, [str [], Value.int IntKind.u64 0]),
  (14, [str [], Value.int IntKind.u64 0]),
  (18, [Value.pointer none]),
  (19, [Value.pointer none]),
  (23, cb (zb 32)),
  (24, cb (zb 32)),
  (41, [Value.int IntKind.i64 0, Value.int IntKind.i64 0, Value.int IntKind.u8 0, str []]),
  (42, [Value.int IntKind.i64 0, Value.int IntKind.i64 0, Value.int IntKind.u8 0, str []]),
  (44, [Value.int IntKind.u8 0, str []]),
  (45, [Value.int IntKind.u8 0, str []]),
  (55, [Value.int IntKind.i64 0, Value.bool false]),
  (56, [Value.int IntKind.i64 0, Value.bool false]),
  (57, [Value.int IntKind.i64 0, Value.int IntKind.i64 0, Value.int IntKind.u8 0, Value.slice none 0 0, Value.int IntKind.i64 0, Value.bool false]),
  (58, [Value.int IntKind.i64 0, Value.int IntKind.i64 0, Value.int IntKind.u8 0, Value.slice none 0 0, Value.int IntKind.i64 0, Value.bool false]),
  (60, cb (zb 256)),
  (61, cb (zb 256)),
  (69, [Value.int IntKind.i64 0, Value.int IntKind.i64 0] ++ cb (zb 256)),
  (70, [Value.int IntKind.i64 0, Value.int IntKind.i64 0] ++ cb (zb 256)),
  (77, [Value.slice none 0 0, Value.slice none 0 0, Value.slice none 0 0, Value.slice none 0 0, Value.bool false, Value.int IntKind.i64 0, Value.slice none 0 0]),
  (78, [Value.slice none 0 0, Value.slice none 0 0, Value.slice none 0 0, Value.slice none 0 0, Value.bool false, Value.int IntKind.i64 0, Value.slice none 0 0]),
  (91, repC 16 [Value.int IntKind.i64 0]),
  (92, cb (zb 256)),
  (93, [Value.int IntKind.i64 0, Value.int IntKind.i64 0] ++ cb (zb 256)),
  (94, [Value.int IntKind.i64 0, Value.int IntKind.i64 0] ++ cb (zb 256)),
  (104, [Value.int IntKind.u32 0] ++ cb (zb 32)),
  (105, [Value.int IntKind.u32 0] ++ cb (zb 32)),
  (106, [Value.int IntKind.u64 0] ++ ([Value.int IntKind.u32 0] ++ cb (zb 32))),
  (107, [Value.int IntKind.u64 0] ++ ([Value.int IntKind.u32 0] ++ cb (zb 32))),
  (125, cb (zb 32)),
  (126, [Value.int IntKind.u64 0, Value.int IntKind.u32 0] ++ cb (zb 32)),
  (127, [Value.int IntKind.u64 0, Value.int IntKind.u32 0] ++ cb (zb 32)),
  (138, ([Value.int IntKind.u64 0, Value.int IntKind.u32 0] ++ cb (zb 32)) ++ [Value.slice none 0 0]),
  (139, ([Value.int IntKind.u64 0, Value.int IntKind.u32 0] ++ cb (zb 32)) ++ [Value.slice none 0 0]),
  (141, [Value.int IntKind.i64 0, Value.int IntKind.i64 0, Value.int IntKind.u32 0] ++ cb (zb 32)),
  (142, [Value.int IntKind.i64 0, Value.int IntKind.i64 0, Value.int IntKind.u32 0] ++ cb (zb 32)),
  (143, [Value.bool false, Value.bool false]),
  (144, [Value.bool false, Value.bool false]),
  (151, repC 8 [Value.int IntKind.u32 0]),
  (154, repC 16 [Value.int IntKind.u32 0]),
  (156, repC 16 [Value.int IntKind.u32 0]),
  (158, repC 8 [Value.int IntKind.u32 0] ++ [Value.slice none 0 0, Value.int IntKind.i64 0]),
  (159, repC 8 [Value.int IntKind.u32 0] ++ [Value.slice none 0 0, Value.int IntKind.i64 0]),
  (161, cb (zb 8)),
  (163, cb (zb 4)),
  (168, [Value.slice none 0 0, Value.map none, Value.map none, Value.int IntKind.i64 0, Value.int IntKind.i64 0, Value.bool false]),
  (169, [Value.slice none 0 0, Value.map none, Value.map none, Value.int IntKind.i64 0, Value.int IntKind.i64 0, Value.bool false]),
  (170, [Value.int IntKind.u8 0, str []]),
  (181, [Value.slice none 0 0, Value.slice none 0 0, Value.slice none 0 0, Value.map none, Value.int IntKind.i64 0, Value.bool false, Value.int IntKind.i64 0, Value.int IntKind.i64 0, Value.slice none 0 0]),
  (182, [Value.slice none 0 0, Value.slice none 0 0, Value.slice none 0 0, Value.map none, Value.int IntKind.i64 0, Value.bool false, Value.int IntKind.i64 0, Value.int IntKind.i64 0, Value.slice none 0 0]),
  (196, [Value.int IntKind.i64 0, Value.bool false]),
  (201, [Value.int IntKind.i64 0, Value.int IntKind.i64 0, Value.int IntKind.i64 0] ++ cb (zb 256) ++ [Value.int IntKind.i64 0]),
  (202, [Value.int IntKind.i64 0, Value.int IntKind.i64 0, Value.int IntKind.i64 0] ++ cb (zb 256) ++ [Value.int IntKind.i64 0]),
  (204, [Value.pointer none] ++ ([Value.int IntKind.u64 0] ++ ([Value.int IntKind.u32 0] ++ cb (zb 32))) ++ [Value.slice none 0 0, Value.map none]),
  (205, [Value.pointer none] ++ ([Value.int IntKind.u64 0] ++ ([Value.int IntKind.u32 0] ++ cb (zb 32))) ++ [Value.slice none 0 0, Value.map none]),
  (218, [Value.int IntKind.i64 0] ++ cb (zb 256)),
  (219, [Value.int IntKind.i64 0] ++ cb (zb 256)),
  (221, [Value.int IntKind.i64 0, Value.int IntKind.i64 0, Value.int IntKind.i64 0] ++ cb (zb 256) ++ [Value.int IntKind.i64 0]),
  (222, [Value.int IntKind.i64 0, Value.int IntKind.i64 0, Value.int IntKind.i64 0] ++ cb (zb 256) ++ [Value.int IntKind.i64 0]),
  (227, repC 16 [Value.int IntKind.u32 0]),
  (237, [Value.pointer none, Value.pointer none, Value.pointer none, str []]),
  (238, [Value.pointer none, Value.pointer none, Value.pointer none, str []]),
  (239, []),
  (240, []),
  (241, [])]
theorem zlist_ok : AllZr Try.prog zlist := ⟨zr2, zr3, zr4, zr5, zr6, zr7, zr8, zr9, zr10, zr11, zr12, zr13, zr14, zr15, zr16, zr17, zr18, zr19, zr21, zr23, zr24, zr29, zr30, zr31, zr37, zr38, zr40, zr41, zr42, zr44, zr45, zr48, zr49, zr50, zr53, zr54, zr55, zr56, zr57, zr58, zr60, zr61, zr65, zr67, zr69, zr70, zr72, zr73, zr74, zr75, zr76, zr77, zr78, zr87, zr91, zr92, zr93, zr94, zr102, zr103, zr104, zr105, zr106, zr107, zr108, zr113, zr116, zr125, zr126, zr127, zr135, zr136, zr137, zr138, zr139, zr141, zr142, zr143, zr144, zr151, zr152, zr154, zr156, zr158, zr159, zr161, zr163, zr165, zr166, zr167, zr168, zr169, zr170, zr179, zr180, zr181, zr182, zr196, zr201, zr202, zr203, zr204, zr205, zr215, zr217, zr218, zr219, zr221, zr222, zr227, zr228, zr237, zr238, zr239, zr240, zr241, zr242, zr243, zr245, zr246, zr247, trivial⟩
theorem blist_ok : AllBt Try.prog blist := ⟨bt7, bt8, bt13, bt14, bt18, bt19, bt23, bt24, bt41, bt42, bt44, bt45, bt55, bt56, bt57, bt58, bt60, bt61, bt69, bt70, bt77, bt78, bt91, bt92, bt93, bt94, bt104, bt105, bt106, bt107, bt125, bt126, bt127, bt138, bt139, bt141, bt142, bt143, bt144, bt151, bt154, bt156, bt158, bt159, bt161, bt163, bt168, bt169, bt170, bt181, bt182, bt196, bt201, bt202, bt204, bt205, bt218, bt219, bt221, bt222, bt227, bt237, bt238, bt239, bt240, bt241, trivial⟩
theorem if2 : infoOf Try.prog 2 = some (some (Value.int IntKind.i64 0), 1, 8) ∧ (Value.int IntKind.i64 0 : Value).cells.size = 1 ∧ 0 < 1 ∧ 0 < 8 ∧ 1 ≤ 16777216 := ⟨by kernel_rfl, rfl, by decide, by decide, by decide⟩
theorem if3 : infoOf Try.prog 3 = some (some (Value.int IntKind.i64 0), 1, 8) ∧ (Value.int IntKind.i64 0 : Value).cells.size = 1 ∧ 0 < 1 ∧ 0 < 8 ∧ 1 ≤ 16777216 := ⟨by kernel_rfl, rfl, by decide, by decide, by decide⟩
theorem if4 : infoOf Try.prog 4 = some (some (Value.bool false), 1, 1) ∧ (Value.bool false : Value).cells.size = 1 ∧ 0 < 1 ∧ 0 < 1 ∧ 1 ≤ 16777216 := ⟨by kernel_rfl, rfl, by decide, by decide, by decide⟩
theorem if5 : infoOf Try.prog 5 = some (some (Value.int IntKind.u8 0), 1, 1) ∧ (Value.int IntKind.u8 0 : Value).cells.size = 1 ∧ 0 < 1 ∧ 0 < 1 ∧ 1 ≤ 16777216 := ⟨by kernel_rfl, rfl, by decide, by decide, by decide⟩
theorem if6 : infoOf Try.prog 6 = some (some (Value.int IntKind.u8 0), 1, 1) ∧ (Value.int IntKind.u8 0 : Value).cells.size = 1 ∧ 0 < 1 ∧ 0 < 1 ∧ 1 ≤ 16777216 := ⟨by kernel_rfl, rfl, by decide, by decide, by decide⟩
theorem if7 : infoOf Try.prog 7 = some (some (Value.agg ([Value.int IntKind.i64 0, Value.int IntKind.i64 0, Value.bool false, Value.int IntKind.u8 0]).toArray), 4, 24) ∧ (Value.agg ([Value.int IntKind.i64 0, Value.int IntKind.i64 0, Value.bool false, Value.int IntKind.u8 0]).toArray : Value).cells.size = 4 ∧ 0 < 4 ∧ 0 < 24 ∧ 4 ≤ 16777216 := ⟨by kernel_rfl, rfl, by decide, by decide, by decide⟩
theorem if8 : infoOf Try.prog 8 = some (some (Value.agg ([Value.int IntKind.i64 0, Value.int IntKind.i64 0, Value.bool false, Value.int IntKind.u8 0]).toArray), 4, 24) ∧ (Value.agg ([Value.int IntKind.i64 0, Value.int IntKind.i64 0, Value.bool false, Value.int IntKind.u8 0]).toArray : Value).cells.size = 4 ∧ 0 < 4 ∧ 0 < 24 ∧ 4 ≤ 16777216 := ⟨by kernel_rfl, rfl, by decide, by decide, by decide⟩
theorem if9 : infoOf Try.prog 9 = some (some (str []), 1, 16) ∧ (str [] : Value).cells.size = 1 ∧ 0 < 1 ∧ 0 < 16 ∧ 1 ≤ 16777216 := ⟨by kernel_rfl, rfl, by decide, by decide, by decide⟩
theorem if10 : infoOf Try.prog 10 = some (some (str []), 1, 16) ∧ (str [] : Value).cells.size = 1 ∧ 0 < 1 ∧ 0 < 16 ∧ 1 ≤ 16777216 := ⟨by kernel_rfl, rfl, by decide, by decide, by decide⟩
theorem if11 : infoOf Try.prog 11 = some (some (str []), 1, 16) ∧ (str [] : Value).cells.size = 1 ∧ 0 < 1 ∧ 0 < 16 ∧ 1 ≤ 16777216 := ⟨by kernel_rfl, rfl, by decide, by decide, by decide⟩
theorem if12 : infoOf Try.prog 12 = some (some (Value.int IntKind.u64 0), 1, 8) ∧ (Value.int IntKind.u64 0 : Value).cells.size = 1 ∧ 0 < 1 ∧ 0 < 8 ∧ 1 ≤ 16777216 := ⟨by kernel_rfl, rfl, by decide, by decide, by decide⟩
theorem if13 : infoOf Try.prog 13 = some (some (Value.agg ([str [], Value.int IntKind.u64 0]).toArray), 2, 24) ∧ (Value.agg ([str [], Value.int IntKind.u64 0]).toArray : Value).cells.size = 2 ∧ 0 < 2 ∧ 0 < 24 ∧ 2 ≤ 16777216 := ⟨by kernel_rfl, rfl, by decide, by decide, by decide⟩
theorem if14 : infoOf Try.prog 14 = some (some (Value.agg ([str [], Value.int IntKind.u64 0]).toArray), 2, 24) ∧ (Value.agg ([str [], Value.int IntKind.u64 0]).toArray : Value).cells.size = 2 ∧ 0 < 2 ∧ 0 < 24 ∧ 2 ≤ 16777216 := ⟨by kernel_rfl, rfl, by decide, by decide, by decide⟩
theorem if15 : infoOf Try.prog 15 = some (some (Value.pointer none), 1, 8) ∧ (Value.pointer none : Value).cells.size = 1 ∧ 0 < 1 ∧ 0 < 8 ∧ 1 ≤ 16777216 := ⟨by kernel_rfl, rfl, by decide, by decide, by decide⟩
theorem if16 : infoOf Try.prog 16 = some (some (Value.pointer none), 1, 8) ∧ (Value.pointer none : Value).cells.size = 1 ∧ 0 < 1 ∧ 0 < 8 ∧ 1 ≤ 16777216 := ⟨by kernel_rfl, rfl, by decide, by decide, by decide⟩
theorem if17 : infoOf Try.prog 17 = some (some (Value.pointer none), 1, 8) ∧ (Value.pointer none : Value).cells.size = 1 ∧ 0 < 1 ∧ 0 < 8 ∧ 1 ≤ 16777216 := ⟨by kernel_rfl, rfl, by decide, by decide, by decide⟩
theorem if18 : infoOf Try.prog 18 = some (some (Value.agg ([Value.pointer none]).toArray), 1, 8) ∧ (Value.agg ([Value.pointer none]).toArray : Value).cells.size = 1 ∧ 0 < 1 ∧ 0 < 8 ∧ 1 ≤ 16777216 := ⟨by kernel_rfl, rfl, by decide, by decide, by decide⟩
theorem if19 : infoOf Try.prog 19 = some (some (Value.agg ([Value.pointer none]).toArray), 1, 8) ∧ (Value.agg ([Value.pointer none]).toArray : Value).cells.size = 1 ∧ 0 < 1 ∧ 0 < 8 ∧ 1 ≤ 16777216 := ⟨by kernel_rfl, rfl, by decide, by decide, by decide⟩
theorem if21 : infoOf Try.prog 21 = some (some (Value.int IntKind.i32 0), 1, 4) ∧ (Value.int IntKind.i32 0 : Value).cells.size = 1 ∧ 0 < 1 ∧ 0 < 4 ∧ 1 ≤ 16777216 := ⟨by kernel_rfl, rfl, by decide, by decide, by decide⟩
theorem if23 : infoOf Try.prog 23 = some (some (Value.agg (cb (zb 32)).toArray), 32, 32) ∧ (Value.agg (cb (zb 32)).toArray : Value).cells.size = 32 ∧ 0 < 32 ∧ 0 < 32 ∧ 32 ≤ 16777216 := ⟨by kernel_rfl, by decide +kernel, by decide, by decide, by decide⟩
theorem if24 : infoOf Try.prog 24 = some (some (Value.agg (cb (zb 32)).toArray), 32, 32) ∧ (Value.agg (cb (zb 32)).toArray : Value).cells.size = 32 ∧ 0 < 32 ∧ 0 < 32 ∧ 32 ≤ 16777216 := ⟨by kernel_rfl, by decide +kernel, by decide, by decide, by decide⟩
theorem if29 : infoOf Try.prog 29 = some (some (Value.slice none 0 0), 1, 24) ∧ (Value.slice none 0 0 : Value).cells.size = 1 ∧ 0 < 1 ∧ 0 < 24 ∧ 1 ≤ 16777216 := ⟨by kernel_rfl, rfl, by decide, by decide, by decide⟩
theorem if30 : infoOf Try.prog 30 = some (some (Value.slice none 0 0), 1, 24) ∧ (Value.slice none 0 0 : Value).cells.size = 1 ∧ 0 < 1 ∧ 0 < 24 ∧ 1 ≤ 16777216 := ⟨by kernel_rfl, rfl, by decide, by decide, by decide⟩
theorem if31 : infoOf Try.prog 31 = some (some (Value.pointer none), 1, 8) ∧ (Value.pointer none : Value).cells.size = 1 ∧ 0 < 1 ∧ 0 < 8 ∧ 1 ≤ 16777216 := ⟨by kernel_rfl, rfl, by decide, by decide, by decide⟩
theorem if37 : infoOf Try.prog 37 = some (some (Value.slice none 0 0), 1, 24) ∧ (Value.slice none 0 0 : Value).cells.size = 1 ∧ 0 < 1 ∧ 0 < 24 ∧ 1 ≤ 16777216 := ⟨by kernel_rfl, rfl, by decide, by decide, by decide⟩
theorem if38 : infoOf Try.prog 38 = some (some (Value.pointer none), 1, 8) ∧ (Value.pointer none : Value).cells.size = 1 ∧ 0 < 1 ∧ 0 < 8 ∧ 1 ≤ 16777216 := ⟨by kernel_rfl, rfl, by decide, by decide, by decide⟩
theorem if40 : infoOf Try.prog 40 = some (some (Value.slice none 0 0), 1, 24) ∧ (Value.slice none 0 0 : Value).cells.size = 1 ∧ 0 < 1 ∧ 0 < 24 ∧ 1 ≤ 16777216 := ⟨by kernel_rfl, rfl, by decide, by decide, by decide⟩
theorem if41 : infoOf Try.prog 41 = some (some (Value.agg ([Value.int IntKind.i64 0, Value.int IntKind.i64 0, Value.int IntKind.u8 0, str []]).toArray), 4, 40) ∧ (Value.agg ([Value.int IntKind.i64 0, Value.int IntKind.i64 0, Value.int IntKind.u8 0, str []]).toArray : Value).cells.size = 4 ∧ 0 < 4 ∧ 0 < 40 ∧ 4 ≤ 16777216 := ⟨by kernel_rfl, rfl, by decide, by decide, by decide⟩
theorem if42 : infoOf Try.prog 42 = some (some (Value.agg ([Value.int IntKind.i64 0, Value.int IntKind.i64 0, Value.int IntKind.u8 0, str []]).toArray), 4, 40) ∧ (Value.agg ([Value.int IntKind.i64 0, Value.int IntKind.i64 0, Value.int IntKind.u8 0, str []]).toArray : Value).cells.size = 4 ∧ 0 < 4 ∧ 0 < 40 ∧ 4 ≤ 16777216 := ⟨by kernel_rfl, rfl, by decide, by decide, by decide⟩
theorem if44 : infoOf Try.prog 44 = some (some (Value.agg ([Value.int IntKind.u8 0, str []]).toArray), 2, 24) ∧ (Value.agg ([Value.int IntKind.u8 0, str []]).toArray : Value).cells.size = 2 ∧ 0 < 2 ∧ 0 < 24 ∧ 2 ≤ 16777216 := ⟨by kernel_rfl, rfl, by decide, by decide, by decide⟩
theorem if45 : infoOf Try.prog 45 = some (some (Value.agg ([Value.int IntKind.u8 0, str []]).toArray), 2, 24) ∧ (Value.agg ([Value.int IntKind.u8 0, str []]).toArray : Value).cells.size = 2 ∧ 0 < 2 ∧ 0 < 24 ∧ 2 ≤ 16777216 := ⟨by kernel_rfl, rfl, by decide, by decide, by decide⟩
theorem if48 : infoOf Try.prog 48 = some (some (Value.slice none 0 0), 1, 24) ∧ (Value.slice none 0 0 : Value).cells.size = 1 ∧ 0 < 1 ∧ 0 < 24 ∧ 1 ≤ 16777216 := ⟨by kernel_rfl, rfl, by decide, by decide, by decide⟩
theorem if49 : infoOf Try.prog 49 = some (some (Value.pointer none), 1, 8) ∧ (Value.pointer none : Value).cells.size = 1 ∧ 0 < 1 ∧ 0 < 8 ∧ 1 ≤ 16777216 := ⟨by kernel_rfl, rfl, by decide, by decide, by decide⟩
theorem if50 : infoOf Try.prog 50 = some (some (Value.int IntKind.i64 0), 1, 8) ∧ (Value.int IntKind.i64 0 : Value).cells.size = 1 ∧ 0 < 1 ∧ 0 < 8 ∧ 1 ≤ 16777216 := ⟨by kernel_rfl, rfl, by decide, by decide, by decide⟩
theorem if53 : infoOf Try.prog 53 = some (some (Value.map none), 1, 8) ∧ (Value.map none : Value).cells.size = 1 ∧ 0 < 1 ∧ 0 < 8 ∧ 1 ≤ 16777216 := ⟨by kernel_rfl, rfl, by decide, by decide, by decide⟩
theorem if54 : infoOf Try.prog 54 = some (some (Value.slice none 0 0), 1, 24) ∧ (Value.slice none 0 0 : Value).cells.size = 1 ∧ 0 < 1 ∧ 0 < 24 ∧ 1 ≤ 16777216 := ⟨by kernel_rfl, rfl, by decide, by decide, by decide⟩
theorem if55 : infoOf Try.prog 55 = some (some (Value.agg ([Value.int IntKind.i64 0, Value.bool false]).toArray), 2, 16) ∧ (Value.agg ([Value.int IntKind.i64 0, Value.bool false]).toArray : Value).cells.size = 2 ∧ 0 < 2 ∧ 0 < 16 ∧ 2 ≤ 16777216 := ⟨by kernel_rfl, rfl, by decide, by decide, by decide⟩
theorem if56 : infoOf Try.prog 56 = some (some (Value.agg ([Value.int IntKind.i64 0, Value.bool false]).toArray), 2, 16) ∧ (Value.agg ([Value.int IntKind.i64 0, Value.bool false]).toArray : Value).cells.size = 2 ∧ 0 < 2 ∧ 0 < 16 ∧ 2 ≤ 16777216 := ⟨by kernel_rfl, rfl, by decide, by decide, by decide⟩
theorem if57 : infoOf Try.prog 57 = some (some (Value.agg ([Value.int IntKind.i64 0, Value.int IntKind.i64 0, Value.int IntKind.u8 0, Value.slice none 0 0, Value.int IntKind.i64 0, Value.bool false]).toArray), 6, 64) ∧ (Value.agg ([Value.int IntKind.i64 0, Value.int IntKind.i64 0, Value.int IntKind.u8 0, Value.slice none 0 0, Value.int IntKind.i64 0, Value.bool false]).toArray : Value).cells.size = 6 ∧ 0 < 6 ∧ 0 < 64 ∧ 6 ≤ 16777216 := ⟨by kernel_rfl, rfl, by decide, by decide, by decide⟩
theorem if58 : infoOf Try.prog 58 = some (some (Value.agg ([Value.int IntKind.i64 0, Value.int IntKind.i64 0, Value.int IntKind.u8 0, Value.slice none 0 0, Value.int IntKind.i64 0, Value.bool false]).toArray), 6, 64) ∧ (Value.agg ([Value.int IntKind.i64 0, Value.int IntKind.i64 0, Value.int IntKind.u8 0, Value.slice none 0 0, Value.int IntKind.i64 0, Value.bool false]).toArray : Value).cells.size = 6 ∧ 0 < 6 ∧ 0 < 64 ∧ 6 ≤ 16777216 := ⟨by kernel_rfl, rfl, by decide, by decide, by decide⟩
theorem if60 : infoOf Try.prog 60 = some (some (Value.agg (cb (zb 256)).toArray), 256, 256) ∧ (Value.agg (cb (zb 256)).toArray : Value).cells.size = 256 ∧ 0 < 256 ∧ 0 < 256 ∧ 256 ≤ 16777216 := ⟨by kernel_rfl, by decide +kernel, by decide, by decide, by decide⟩
theorem if61 : infoOf Try.prog 61 = some (some (Value.agg (cb (zb 256)).toArray), 256, 256) ∧ (Value.agg (cb (zb 256)).toArray : Value).cells.size = 256 ∧ 0 < 256 ∧ 0 < 256 ∧ 256 ≤ 16777216 := ⟨by kernel_rfl, by decide +kernel, by decide, by decide, by decide⟩
theorem if65 : infoOf Try.prog 65 = some (some (Value.slice none 0 0), 1, 24) ∧ (Value.slice none 0 0 : Value).cells.size = 1 ∧ 0 < 1 ∧ 0 < 24 ∧ 1 ≤ 16777216 := ⟨by kernel_rfl, rfl, by decide, by decide, by decide⟩
theorem if67 : infoOf Try.prog 67 = some (some (Value.slice none 0 0), 1, 24) ∧ (Value.slice none 0 0 : Value).cells.size = 1 ∧ 0 < 1 ∧ 0 < 24 ∧ 1 ≤ 16777216 := ⟨by kernel_rfl, rfl, by decide, by decide, by decide⟩
theorem if69 : infoOf Try.prog 69 = some (some (Value.agg ([Value.int IntKind.i64 0, Value.int IntKind.i64 0] ++ cb (zb 256)).toArray), 258, 272) ∧ (Value.agg ([Value.int IntKind.i64 0, Value.int IntKind.i64 0] ++ cb (zb 256)).toArray : Value).cells.size = 258 ∧ 0 < 258 ∧ 0 < 272 ∧ 258 ≤ 16777216 := ⟨by kernel_rfl, by decide +kernel, by decide, by decide, by decide⟩
theorem if70 : infoOf Try.prog 70 = some (some (Value.agg ([Value.int IntKind.i64 0, Value.int IntKind.i64 0] ++ cb (zb 256)).toArray), 258, 272) ∧ (Value.agg ([Value.int IntKind.i64 0, Value.int IntKind.i64 0] ++ cb (zb 256)).toArray : Value).cells.size = 258 ∧ 0 < 258 ∧ 0 < 272 ∧ 258 ≤ 16777216 := ⟨by kernel_rfl, by decide +kernel, by decide, by decide, by decide⟩
theorem if72 : infoOf Try.prog 72 = some (some (Value.slice none 0 0), 1, 24) ∧ (Value.slice none 0 0 : Value).cells.size = 1 ∧ 0 < 1 ∧ 0 < 24 ∧ 1 ≤ 16777216 := ⟨by kernel_rfl, rfl, by decide, by decide, by decide⟩
theorem if73 : infoOf Try.prog 73 = some (some (Value.slice none 0 0), 1, 24) ∧ (Value.slice none 0 0 : Value).cells.size = 1 ∧ 0 < 1 ∧ 0 < 24 ∧ 1 ≤ 16777216 := ⟨by kernel_rfl, rfl, by decide, by decide, by decide⟩
theorem if74 : infoOf Try.prog 74 = some (some (Value.slice none 0 0), 1, 24) ∧ (Value.slice none 0 0 : Value).cells.size = 1 ∧ 0 < 1 ∧ 0 < 24 ∧ 1 ≤ 16777216 := ⟨by kernel_rfl, rfl, by decide, by decide, by decide⟩
theorem if75 : infoOf Try.prog 75 = some (some (Value.slice none 0 0), 1, 24) ∧ (Value.slice none 0 0 : Value).cells.size = 1 ∧ 0 < 1 ∧ 0 < 24 ∧ 1 ≤ 16777216 := ⟨by kernel_rfl, rfl, by decide, by decide, by decide⟩
theorem if76 : infoOf Try.prog 76 = some (some (Value.slice none 0 0), 1, 24) ∧ (Value.slice none 0 0 : Value).cells.size = 1 ∧ 0 < 1 ∧ 0 < 24 ∧ 1 ≤ 16777216 := ⟨by kernel_rfl, rfl, by decide, by decide, by decide⟩
theorem if77 : infoOf Try.prog 77 = some (some (Value.agg ([Value.slice none 0 0, Value.slice none 0 0, Value.slice none 0 0, Value.slice none 0 0, Value.bool false, Value.int IntKind.i64 0, Value.slice none 0 0]).toArray), 7, 136) ∧ (Value.agg ([Value.slice none 0 0, Value.slice none 0 0, Value.slice none 0 0, Value.slice none 0 0, Value.bool false, Value.int IntKind.i64 0, Value.slice none 0 0]).toArray : Value).cells.size = 7 ∧ 0 < 7 ∧ 0 < 136 ∧ 7 ≤ 16777216 := ⟨by kernel_rfl, rfl, by decide, by decide, by decide⟩
theorem if78 : infoOf Try.prog 78 = some (some (Value.agg ([Value.slice none 0 0, Value.slice none 0 0, Value.slice none 0 0, Value.slice none 0 0, Value.bool false, Value.int IntKind.i64 0, Value.slice none 0 0]).toArray), 7, 136) ∧ (Value.agg ([Value.slice none 0 0, Value.slice none 0 0, Value.slice none 0 0, Value.slice none 0 0, Value.bool false, Value.int IntKind.i64 0, Value.slice none 0 0]).toArray : Value).cells.size = 7 ∧ 0 < 7 ∧ 0 < 136 ∧ 7 ≤ 16777216 := ⟨by kernel_rfl, rfl, by decide, by decide, by decide⟩
theorem if87 : infoOf Try.prog 87 = some (some (Value.slice none 0 0), 1, 24) ∧ (Value.slice none 0 0 : Value).cells.size = 1 ∧ 0 < 1 ∧ 0 < 24 ∧ 1 ≤ 16777216 := ⟨by kernel_rfl, rfl, by decide, by decide, by decide⟩
theorem if91 : infoOf Try.prog 91 = some (some (Value.agg (repC 16 [Value.int IntKind.i64 0]).toArray), 16, 128) ∧ (Value.agg (repC 16 [Value.int IntKind.i64 0]).toArray : Value).cells.size = 16 ∧ 0 < 16 ∧ 0 < 128 ∧ 16 ≤ 16777216 := ⟨by kernel_rfl, by decide +kernel, by decide, by decide, by decide⟩
theorem if92 : infoOf Try.prog 92 = some (some (Value.agg (cb (zb 256)).toArray), 256, 256) ∧ (Value.agg (cb (zb 256)).toArray : Value).cells.size = 256 ∧ 0 < 256 ∧ 0 < 256 ∧ 256 ≤ 16777216 := ⟨by kernel_rfl, by decide +kernel, by decide, by decide, by decide⟩
theorem if93 : infoOf Try.prog 93 = some (some (Value.agg ([Value.int IntKind.i64 0, Value.int IntKind.i64 0] ++ cb (zb 256)).toArray), 258, 272) ∧ (Value.agg ([Value.int IntKind.i64 0, Value.int IntKind.i64 0] ++ cb (zb 256)).toArray : Value).cells.size = 258 ∧ 0 < 258 ∧ 0 < 272 ∧ 258 ≤ 16777216 := ⟨by kernel_rfl, by decide +kernel, by decide, by decide, by decide⟩
theorem if94 : infoOf Try.prog 94 = some (some (Value.agg ([Value.int IntKind.i64 0, Value.int IntKind.i64 0] ++ cb (zb 256)).toArray), 258, 272) ∧ (Value.agg ([Value.int IntKind.i64 0, Value.int IntKind.i64 0] ++ cb (zb 256)).toArray : Value).cells.size = 258 ∧ 0 < 258 ∧ 0 < 272 ∧ 258 ≤ 16777216 := ⟨by kernel_rfl, by decide +kernel, by decide, by decide, by decide⟩
theorem if102 : infoOf Try.prog 102 = some (some (Value.int IntKind.u64 0), 1, 8) ∧ (Value.int IntKind.u64 0 : Value).cells.size = 1 ∧ 0 < 1 ∧ 0 < 8 ∧ 1 ≤ 16777216 := ⟨by kernel_rfl, rfl, by decide, by decide, by decide⟩
theorem if103 : infoOf Try.prog 103 = some (some (Value.int IntKind.u32 0), 1, 4) ∧ (Value.int IntKind.u32 0 : Value).cells.size = 1 ∧ 0 < 1 ∧ 0 < 4 ∧ 1 ≤ 16777216 := ⟨by kernel_rfl, rfl, by decide, by decide, by decide⟩
theorem if104 : infoOf Try.prog 104 = some (some (Value.agg ([Value.int IntKind.u32 0] ++ cb (zb 32)).toArray), 33, 36) ∧ (Value.agg ([Value.int IntKind.u32 0] ++ cb (zb 32)).toArray : Value).cells.size = 33 ∧ 0 < 33 ∧ 0 < 36 ∧ 33 ≤ 16777216 := ⟨by kernel_rfl, by decide +kernel, by decide, by decide, by decide⟩
theorem if105 : infoOf Try.prog 105 = some (some (Value.agg ([Value.int IntKind.u32 0] ++ cb (zb 32)).toArray), 33, 36) ∧ (Value.agg ([Value.int IntKind.u32 0] ++ cb (zb 32)).toArray : Value).cells.size = 33 ∧ 0 < 33 ∧ 0 < 36 ∧ 33 ≤ 16777216 := ⟨by kernel_rfl, by decide +kernel, by decide, by decide, by decide⟩
theorem if106 : infoOf Try.prog 106 = some (some (Value.agg ([Value.int IntKind.u64 0] ++ ([Value.int IntKind.u32 0] ++ cb (zb 32))).toArray), 34, 48) ∧ (Value.agg ([Value.int IntKind.u64 0] ++ ([Value.int IntKind.u32 0] ++ cb (zb 32))).toArray : Value).cells.size = 34 ∧ 0 < 34 ∧ 0 < 48 ∧ 34 ≤ 16777216 := ⟨by kernel_rfl, by decide +kernel, by decide, by decide, by decide⟩
theorem if107 : infoOf Try.prog 107 = some (some (Value.agg ([Value.int IntKind.u64 0] ++ ([Value.int IntKind.u32 0] ++ cb (zb 32))).toArray), 34, 48) ∧ (Value.agg ([Value.int IntKind.u64 0] ++ ([Value.int IntKind.u32 0] ++ cb (zb 32))).toArray : Value).cells.size = 34 ∧ 0 < 34 ∧ 0 < 48 ∧ 34 ≤ 16777216 := ⟨by kernel_rfl, by decide +kernel, by decide, by decide, by decide⟩
theorem if108 : infoOf Try.prog 108 = some (some (Value.pointer none), 1, 8) ∧ (Value.pointer none : Value).cells.size = 1 ∧ 0 < 1 ∧ 0 < 8 ∧ 1 ≤ 16777216 := ⟨by kernel_rfl, rfl, by decide, by decide, by decide⟩
theorem if113 : infoOf Try.prog 113 = some (some (Value.slice none 0 0), 1, 24) ∧ (Value.slice none 0 0 : Value).cells.size = 1 ∧ 0 < 1 ∧ 0 < 24 ∧ 1 ≤ 16777216 := ⟨by kernel_rfl, rfl, by decide, by decide, by decide⟩
theorem if116 : infoOf Try.prog 116 = some (some (Value.slice none 0 0), 1, 24) ∧ (Value.slice none 0 0 : Value).cells.size = 1 ∧ 0 < 1 ∧ 0 < 24 ∧ 1 ≤ 16777216 := ⟨by kernel_rfl, rfl, by decide, by decide, by decide⟩
theorem if125 : infoOf Try.prog 125 = some (some (Value.agg (cb (zb 32)).toArray), 32, 32) ∧ (Value.agg (cb (zb 32)).toArray : Value).cells.size = 32 ∧ 0 < 32 ∧ 0 < 32 ∧ 32 ≤ 16777216 := ⟨by kernel_rfl, by decide +kernel, by decide, by decide, by decide⟩
theorem if126 : infoOf Try.prog 126 = some (some (Value.agg ([Value.int IntKind.u64 0, Value.int IntKind.u32 0] ++ cb (zb 32)).toArray), 34, 48) ∧ (Value.agg ([Value.int IntKind.u64 0, Value.int IntKind.u32 0] ++ cb (zb 32)).toArray : Value).cells.size = 34 ∧ 0 < 34 ∧ 0 < 48 ∧ 34 ≤ 16777216 := ⟨by kernel_rfl, by decide +kernel, by decide, by decide, by decide⟩
theorem if127 : infoOf Try.prog 127 = some (some (Value.agg ([Value.int IntKind.u64 0, Value.int IntKind.u32 0] ++ cb (zb 32)).toArray), 34, 48) ∧ (Value.agg ([Value.int IntKind.u64 0, Value.int IntKind.u32 0] ++ cb (zb 32)).toArray : Value).cells.size = 34 ∧ 0 < 34 ∧ 0 < 48 ∧ 34 ≤ 16777216 := ⟨by kernel_rfl, by decide +kernel, by decide, by decide, by decide⟩
theorem if135 : infoOf Try.prog 135 = some (some (Value.slice none 0 0), 1, 24) ∧ (Value.slice none 0 0 : Value).cells.size = 1 ∧ 0 < 1 ∧ 0 < 24 ∧ 1 ≤ 16777216 := ⟨by kernel_rfl, rfl, by decide, by decide, by decide⟩
theorem if136 : infoOf Try.prog 136 = some (some (Value.slice none 0 0), 1, 24) ∧ (Value.slice none 0 0 : Value).cells.size = 1 ∧ 0 < 1 ∧ 0 < 24 ∧ 1 ≤ 16777216 := ⟨by kernel_rfl, rfl, by decide, by decide, by decide⟩
theorem if137 : infoOf Try.prog 137 = some (some (Value.slice none 0 0), 1, 24) ∧ (Value.slice none 0 0 : Value).cells.size = 1 ∧ 0 < 1 ∧ 0 < 24 ∧ 1 ≤ 16777216 := ⟨by kernel_rfl, rfl, by decide, by decide, by decide⟩
theorem if138 : infoOf Try.prog 138 = some (some (Value.agg (([Value.int IntKind.u64 0, Value.int IntKind.u32 0] ++ cb (zb 32)) ++ [Value.slice none 0 0]).toArray), 35, 72) ∧ (Value.agg (([Value.int IntKind.u64 0, Value.int IntKind.u32 0] ++ cb (zb 32)) ++ [Value.slice none 0 0]).toArray : Value).cells.size = 35 ∧ 0 < 35 ∧ 0 < 72 ∧ 35 ≤ 16777216 := ⟨by kernel_rfl, by decide +kernel, by decide, by decide, by decide⟩
theorem if139 : infoOf Try.prog 139 = some (some (Value.agg (([Value.int IntKind.u64 0, Value.int IntKind.u32 0] ++ cb (zb 32)) ++ [Value.slice none 0 0]).toArray), 35, 72) ∧ (Value.agg (([Value.int IntKind.u64 0, Value.int IntKind.u32 0] ++ cb (zb 32)) ++ [Value.slice none 0 0]).toArray : Value).cells.size = 35 ∧ 0 < 35 ∧ 0 < 72 ∧ 35 ≤ 16777216 := ⟨by kernel_rfl, by decide +kernel, by decide, by decide, by decide⟩
theorem if141 : infoOf Try.prog 141 = some (some (Value.agg ([Value.int IntKind.i64 0, Value.int IntKind.i64 0, Value.int IntKind.u32 0] ++ cb (zb 32)).toArray), 35, 56) ∧ (Value.agg ([Value.int IntKind.i64 0, Value.int IntKind.i64 0, Value.int IntKind.u32 0] ++ cb (zb 32)).toArray : Value).cells.size = 35 ∧ 0 < 35 ∧ 0 < 56 ∧ 35 ≤ 16777216 := ⟨by kernel_rfl, by decide +kernel, by decide, by decide, by decide⟩
theorem if142 : infoOf Try.prog 142 = some (some (Value.agg ([Value.int IntKind.i64 0, Value.int IntKind.i64 0, Value.int IntKind.u32 0] ++ cb (zb 32)).toArray), 35, 56) ∧ (Value.agg ([Value.int IntKind.i64 0, Value.int IntKind.i64 0, Value.int IntKind.u32 0] ++ cb (zb 32)).toArray : Value).cells.size = 35 ∧ 0 < 35 ∧ 0 < 56 ∧ 35 ≤ 16777216 := ⟨by kernel_rfl, by decide +kernel, by decide, by decide, by decide⟩
theorem if143 : infoOf Try.prog 143 = some (some (Value.agg ([Value.bool false, Value.bool false]).toArray), 2, 2) ∧ (Value.agg ([Value.bool false, Value.bool false]).toArray : Value).cells.size = 2 ∧ 0 < 2 ∧ 0 < 2 ∧ 2 ≤ 16777216 := ⟨by kernel_rfl, rfl, by decide, by decide, by decide⟩
theorem if144 : infoOf Try.prog 144 = some (some (Value.agg ([Value.bool false, Value.bool false]).toArray), 2, 2) ∧ (Value.agg ([Value.bool false, Value.bool false]).toArray : Value).cells.size = 2 ∧ 0 < 2 ∧ 0 < 2 ∧ 2 ≤ 16777216 := ⟨by kernel_rfl, rfl, by decide, by decide, by decide⟩
theorem if151 : infoOf Try.prog 151 = some (some (Value.agg (repC 8 [Value.int IntKind.u32 0]).toArray), 8, 32) ∧ (Value.agg (repC 8 [Value.int IntKind.u32 0]).toArray : Value).cells.size = 8 ∧ 0 < 8 ∧ 0 < 32 ∧ 8 ≤ 16777216 := ⟨by kernel_rfl, by decide +kernel, by decide, by decide, by decide⟩
theorem if152 : infoOf Try.prog 152 = some (some (Value.int IntKind.u64 0), 1, 8) ∧ (Value.int IntKind.u64 0 : Value).cells.size = 1 ∧ 0 < 1 ∧ 0 < 8 ∧ 1 ≤ 16777216 := ⟨by kernel_rfl, rfl, by decide, by decide, by decide⟩
theorem if154 : infoOf Try.prog 154 = some (some (Value.agg (repC 16 [Value.int IntKind.u32 0]).toArray), 16, 64) ∧ (Value.agg (repC 16 [Value.int IntKind.u32 0]).toArray : Value).cells.size = 16 ∧ 0 < 16 ∧ 0 < 64 ∧ 16 ≤ 16777216 := ⟨by kernel_rfl, by decide +kernel, by decide, by decide, by decide⟩
theorem if156 : infoOf Try.prog 156 = some (some (Value.agg (repC 16 [Value.int IntKind.u32 0]).toArray), 16, 64) ∧ (Value.agg (repC 16 [Value.int IntKind.u32 0]).toArray : Value).cells.size = 16 ∧ 0 < 16 ∧ 0 < 64 ∧ 16 ≤ 16777216 := ⟨by kernel_rfl, by decide +kernel, by decide, by decide, by decide⟩
theorem if158 : infoOf Try.prog 158 = some (some (Value.agg (repC 8 [Value.int IntKind.u32 0] ++ [Value.slice none 0 0, Value.int IntKind.i64 0]).toArray), 10, 64) ∧ (Value.agg (repC 8 [Value.int IntKind.u32 0] ++ [Value.slice none 0 0, Value.int IntKind.i64 0]).toArray : Value).cells.size = 10 ∧ 0 < 10 ∧ 0 < 64 ∧ 10 ≤ 16777216 := ⟨by kernel_rfl, by decide +kernel, by decide, by decide, by decide⟩
theorem if159 : infoOf Try.prog 159 = some (some (Value.agg (repC 8 [Value.int IntKind.u32 0] ++ [Value.slice none 0 0, Value.int IntKind.i64 0]).toArray), 10, 64) ∧ (Value.agg (repC 8 [Value.int IntKind.u32 0] ++ [Value.slice none 0 0, Value.int IntKind.i64 0]).toArray : Value).cells.size = 10 ∧ 0 < 10 ∧ 0 < 64 ∧ 10 ≤ 16777216 := ⟨by kernel_rfl, by decide +kernel, by decide, by decide, by decide⟩
theorem if161 : infoOf Try.prog 161 = some (some (Value.agg (cb (zb 8)).toArray), 8, 8) ∧ (Value.agg (cb (zb 8)).toArray : Value).cells.size = 8 ∧ 0 < 8 ∧ 0 < 8 ∧ 8 ≤ 16777216 := ⟨by kernel_rfl, by decide +kernel, by decide, by decide, by decide⟩
theorem if163 : infoOf Try.prog 163 = some (some (Value.agg (cb (zb 4)).toArray), 4, 4) ∧ (Value.agg (cb (zb 4)).toArray : Value).cells.size = 4 ∧ 0 < 4 ∧ 0 < 4 ∧ 4 ≤ 16777216 := ⟨by kernel_rfl, by decide +kernel, by decide, by decide, by decide⟩
theorem if165 : infoOf Try.prog 165 = some (some (Value.map none), 1, 8) ∧ (Value.map none : Value).cells.size = 1 ∧ 0 < 1 ∧ 0 < 8 ∧ 1 ≤ 16777216 := ⟨by kernel_rfl, rfl, by decide, by decide, by decide⟩
theorem if166 : infoOf Try.prog 166 = some (some (Value.map none), 1, 8) ∧ (Value.map none : Value).cells.size = 1 ∧ 0 < 1 ∧ 0 < 8 ∧ 1 ≤ 16777216 := ⟨by kernel_rfl, rfl, by decide, by decide, by decide⟩
theorem if167 : infoOf Try.prog 167 = some (some (Value.slice none 0 0), 1, 24) ∧ (Value.slice none 0 0 : Value).cells.size = 1 ∧ 0 < 1 ∧ 0 < 24 ∧ 1 ≤ 16777216 := ⟨by kernel_rfl, rfl, by decide, by decide, by decide⟩
theorem if168 : infoOf Try.prog 168 = some (some (Value.agg ([Value.slice none 0 0, Value.map none, Value.map none, Value.int IntKind.i64 0, Value.int IntKind.i64 0, Value.bool false]).toArray), 6, 64) ∧ (Value.agg ([Value.slice none 0 0, Value.map none, Value.map none, Value.int IntKind.i64 0, Value.int IntKind.i64 0, Value.bool false]).toArray : Value).cells.size = 6 ∧ 0 < 6 ∧ 0 < 64 ∧ 6 ≤ 16777216 := ⟨by kernel_rfl, rfl, by decide, by decide, by decide⟩
theorem if169 : infoOf Try.prog 169 = some (some (Value.agg ([Value.slice none 0 0, Value.map none, Value.map none, Value.int IntKind.i64 0, Value.int IntKind.i64 0, Value.bool false]).toArray), 6, 64) ∧ (Value.agg ([Value.slice none 0 0, Value.map none, Value.map none, Value.int IntKind.i64 0, Value.int IntKind.i64 0, Value.bool false]).toArray : Value).cells.size = 6 ∧ 0 < 6 ∧ 0 < 64 ∧ 6 ≤ 16777216 := ⟨by kernel_rfl, rfl, by decide, by decide, by decide⟩
theorem if170 : infoOf Try.prog 170 = some (some (Value.agg ([Value.int IntKind.u8 0, str []]).toArray), 2, 24) ∧ (Value.agg ([Value.int IntKind.u8 0, str []]).toArray : Value).cells.size = 2 ∧ 0 < 2 ∧ 0 < 24 ∧ 2 ≤ 16777216 := ⟨by kernel_rfl, rfl, by decide, by decide, by decide⟩
theorem if179 : infoOf Try.prog 179 = some (some (Value.slice none 0 0), 1, 24) ∧ (Value.slice none 0 0 : Value).cells.size = 1 ∧ 0 < 1 ∧ 0 < 24 ∧ 1 ≤ 16777216 := ⟨by kernel_rfl, rfl, by decide, by decide, by decide⟩
theorem if180 : infoOf Try.prog 180 = some (some (Value.map none), 1, 8) ∧ (Value.map none : Value).cells.size = 1 ∧ 0 < 1 ∧ 0 < 8 ∧ 1 ≤ 16777216 := ⟨by kernel_rfl, rfl, by decide, by decide, by decide⟩
theorem if181 : infoOf Try.prog 181 = some (some (Value.agg ([Value.slice none 0 0, Value.slice none 0 0, Value.slice none 0 0, Value.map none, Value.int IntKind.i64 0, Value.bool false, Value.int IntKind.i64 0, Value.int IntKind.i64 0, Value.slice none 0 0]).toArray), 9, 136) ∧ (Value.agg ([Value.slice none 0 0, Value.slice none 0 0, Value.slice none 0 0, Value.map none, Value.int IntKind.i64 0, Value.bool false, Value.int IntKind.i64 0, Value.int IntKind.i64 0, Value.slice none 0 0]).toArray : Value).cells.size = 9 ∧ 0 < 9 ∧ 0 < 136 ∧ 9 ≤ 16777216 := ⟨by kernel_rfl, rfl, by decide, by decide, by decide⟩
theorem if182 : infoOf Try.prog 182 = some (some (Value.agg ([Value.slice none 0 0, Value.slice none 0 0, Value.slice none 0 0, Value.map none, Value.int IntKind.i64 0, Value.bool false, Value.int IntKind.i64 0, Value.int IntKind.i64 0, Value.slice none 0 0]).toArray), 9, 136) ∧ (Value.agg ([Value.slice none 0 0, Value.slice none 0 0, Value.slice none 0 0, Value.map none, Value.int IntKind.i64 0, Value.bool false, Value.int IntKind.i64 0, Value.int IntKind.i64 0, Value.slice none 0 0]).toArray : Value).cells.size = 9 ∧ 0 < 9 ∧ 0 < 136 ∧ 9 ≤ 16777216 := ⟨by kernel_rfl, rfl, by decide, by decide, by decide⟩
theorem if196 : infoOf Try.prog 196 = some (some (Value.agg ([Value.int IntKind.i64 0, Value.bool false]).toArray), 2, 16) ∧ (Value.agg ([Value.int IntKind.i64 0, Value.bool false]).toArray : Value).cells.size = 2 ∧ 0 < 2 ∧ 0 < 16 ∧ 2 ≤ 16777216 := ⟨by kernel_rfl, rfl, by decide, by decide, by decide⟩
theorem if201 : infoOf Try.prog 201 = some (some (Value.agg ([Value.int IntKind.i64 0, Value.int IntKind.i64 0, Value.int IntKind.i64 0] ++ cb (zb 256) ++ [Value.int IntKind.i64 0]).toArray), 260, 288) ∧ (Value.agg ([Value.int IntKind.i64 0, Value.int IntKind.i64 0, Value.int IntKind.i64 0] ++ cb (zb 256) ++ [Value.int IntKind.i64 0]).toArray : Value).cells.size = 260 ∧ 0 < 260 ∧ 0 < 288 ∧ 260 ≤ 16777216 := ⟨by kernel_rfl, by decide +kernel, by decide, by decide, by decide⟩
theorem if202 : infoOf Try.prog 202 = some (some (Value.agg ([Value.int IntKind.i64 0, Value.int IntKind.i64 0, Value.int IntKind.i64 0] ++ cb (zb 256) ++ [Value.int IntKind.i64 0]).toArray), 260, 288) ∧ (Value.agg ([Value.int IntKind.i64 0, Value.int IntKind.i64 0, Value.int IntKind.i64 0] ++ cb (zb 256) ++ [Value.int IntKind.i64 0]).toArray : Value).cells.size = 260 ∧ 0 < 260 ∧ 0 < 288 ∧ 260 ≤ 16777216 := ⟨by kernel_rfl, by decide +kernel, by decide, by decide, by decide⟩
theorem if203 : infoOf Try.prog 203 = some (some (Value.map none), 1, 8) ∧ (Value.map none : Value).cells.size = 1 ∧ 0 < 1 ∧ 0 < 8 ∧ 1 ≤ 16777216 := ⟨by kernel_rfl, rfl, by decide, by decide, by decide⟩
theorem if204 : infoOf Try.prog 204 = some (some (Value.agg ([Value.pointer none] ++ ([Value.int IntKind.u64 0] ++ ([Value.int IntKind.u32 0] ++ cb (zb 32))) ++ [Value.slice none 0 0, Value.map none]).toArray), 37, 88) ∧ (Value.agg ([Value.pointer none] ++ ([Value.int IntKind.u64 0] ++ ([Value.int IntKind.u32 0] ++ cb (zb 32))) ++ [Value.slice none 0 0, Value.map none]).toArray : Value).cells.size = 37 ∧ 0 < 37 ∧ 0 < 88 ∧ 37 ≤ 16777216 := ⟨by kernel_rfl, by decide +kernel, by decide, by decide, by decide⟩
theorem if205 : infoOf Try.prog 205 = some (some (Value.agg ([Value.pointer none] ++ ([Value.int IntKind.u64 0] ++ ([Value.int IntKind.u32 0] ++ cb (zb 32))) ++ [Value.slice none 0 0, Value.map none]).toArray), 37, 88) ∧ (Value.agg ([Value.pointer none] ++ ([Value.int IntKind.u64 0] ++ ([Value.int IntKind.u32 0] ++ cb (zb 32))) ++ [Value.slice none 0 0, Value.map none]).toArray : Value).cells.size = 37 ∧ 0 < 37 ∧ 0 < 88 ∧ 37 ≤ 16777216 := ⟨by kernel_rfl, by decide +kernel, by decide, by decide, by decide⟩
theorem if215 : infoOf Try.prog 215 = some (some (Value.slice none 0 0), 1, 24) ∧ (Value.slice none 0 0 : Value).cells.size = 1 ∧ 0 < 1 ∧ 0 < 24 ∧ 1 ≤ 16777216 := ⟨by kernel_rfl, rfl, by decide, by decide, by decide⟩
theorem if217 : infoOf Try.prog 217 = some (some (Value.slice none 0 0), 1, 24) ∧ (Value.slice none 0 0 : Value).cells.size = 1 ∧ 0 < 1 ∧ 0 < 24 ∧ 1 ≤ 16777216 := ⟨by kernel_rfl, rfl, by decide, by decide, by decide⟩
theorem if218 : infoOf Try.prog 218 = some (some (Value.agg ([Value.int IntKind.i64 0] ++ cb (zb 256)).toArray), 257, 264) ∧ (Value.agg ([Value.int IntKind.i64 0] ++ cb (zb 256)).toArray : Value).cells.size = 257 ∧ 0 < 257 ∧ 0 < 264 ∧ 257 ≤ 16777216 := ⟨by kernel_rfl, by decide +kernel, by decide, by decide, by decide⟩
theorem if219 : infoOf Try.prog 219 = some (some (Value.agg ([Value.int IntKind.i64 0] ++ cb (zb 256)).toArray), 257, 264) ∧ (Value.agg ([Value.int IntKind.i64 0] ++ cb (zb 256)).toArray : Value).cells.size = 257 ∧ 0 < 257 ∧ 0 < 264 ∧ 257 ≤ 16777216 := ⟨by kernel_rfl, by decide +kernel, by decide, by decide, by decide⟩
theorem if221 : infoOf Try.prog 221 = some (some (Value.agg ([Value.int IntKind.i64 0, Value.int IntKind.i64 0, Value.int IntKind.i64 0] ++ cb (zb 256) ++ [Value.int IntKind.i64 0]).toArray), 260, 288) ∧ (Value.agg ([Value.int IntKind.i64 0, Value.int IntKind.i64 0, Value.int IntKind.i64 0] ++ cb (zb 256) ++ [Value.int IntKind.i64 0]).toArray : Value).cells.size = 260 ∧ 0 < 260 ∧ 0 < 288 ∧ 260 ≤ 16777216 := ⟨by kernel_rfl, by decide +kernel, by decide, by decide, by decide⟩
theorem if222 : infoOf Try.prog 222 = some (some (Value.agg ([Value.int IntKind.i64 0, Value.int IntKind.i64 0, Value.int IntKind.i64 0] ++ cb (zb 256) ++ [Value.int IntKind.i64 0]).toArray), 260, 288) ∧ (Value.agg ([Value.int IntKind.i64 0, Value.int IntKind.i64 0, Value.int IntKind.i64 0] ++ cb (zb 256) ++ [Value.int IntKind.i64 0]).toArray : Value).cells.size = 260 ∧ 0 < 260 ∧ 0 < 288 ∧ 260 ≤ 16777216 := ⟨by kernel_rfl, by decide +kernel, by decide, by decide, by decide⟩
theorem if227 : infoOf Try.prog 227 = some (some (Value.agg (repC 16 [Value.int IntKind.u32 0]).toArray), 16, 64) ∧ (Value.agg (repC 16 [Value.int IntKind.u32 0]).toArray : Value).cells.size = 16 ∧ 0 < 16 ∧ 0 < 64 ∧ 16 ≤ 16777216 := ⟨by kernel_rfl, by decide +kernel, by decide, by decide, by decide⟩
theorem if228 : infoOf Try.prog 228 = some (some (Value.slice none 0 0), 1, 24) ∧ (Value.slice none 0 0 : Value).cells.size = 1 ∧ 0 < 1 ∧ 0 < 24 ∧ 1 ≤ 16777216 := ⟨by kernel_rfl, rfl, by decide, by decide, by decide⟩
theorem if237 : infoOf Try.prog 237 = some (some (Value.agg ([Value.pointer none, Value.pointer none, Value.pointer none, str []]).toArray), 4, 40) ∧ (Value.agg ([Value.pointer none, Value.pointer none, Value.pointer none, str []]).toArray : Value).cells.size = 4 ∧ 0 < 4 ∧ 0 < 40 ∧ 4 ≤ 16777216 := ⟨by kernel_rfl, rfl, by decide, by decide, by decide⟩
theorem if238 : infoOf Try.prog 238 = some (some (Value.agg ([Value.pointer none, Value.pointer none, Value.pointer none, str []]).toArray), 4, 40) ∧ (Value.agg ([Value.pointer none, Value.pointer none, Value.pointer none, str []]).toArray : Value).cells.size = 4 ∧ 0 < 4 ∧ 0 < 40 ∧ 4 ≤ 16777216 := ⟨by kernel_rfl, rfl, by decide, by decide, by decide⟩
theorem if242 : infoOf Try.prog 242 = some (some (Value.int IntKind.u8 0), 1, 1) ∧ (Value.int IntKind.u8 0 : Value).cells.size = 1 ∧ 0 < 1 ∧ 0 < 1 ∧ 1 ≤ 16777216 := ⟨by kernel_rfl, rfl, by decide, by decide, by decide⟩
theorem if243 : infoOf Try.prog 243 = some (some (Value.int IntKind.u8 0), 1, 1) ∧ (Value.int IntKind.u8 0 : Value).cells.size = 1 ∧ 0 < 1 ∧ 0 < 1 ∧ 1 ≤ 16777216 := ⟨by kernel_rfl, rfl, by decide, by decide, by decide⟩
theorem if245 : infoOf Try.prog 245 = some (some (Value.pointer none), 1, 8) ∧ (Value.pointer none : Value).cells.size = 1 ∧ 0 < 1 ∧ 0 < 8 ∧ 1 ≤ 16777216 := ⟨by kernel_rfl, rfl, by decide, by decide, by decide⟩
theorem if246 : infoOf Try.prog 246 = some (some (Value.int IntKind.i32 0), 1, 4) ∧ (Value.int IntKind.i32 0 : Value).cells.size = 1 ∧ 0 < 1 ∧ 0 < 4 ∧ 1 ≤ 16777216 := ⟨by kernel_rfl, rfl, by decide, by decide, by decide⟩
theorem if247 : infoOf Try.prog 247 = some (some (Value.int IntKind.i32 0), 1, 4) ∧ (Value.int IntKind.i32 0 : Value).cells.size = 1 ∧ 0 < 1 ∧ 0 < 4 ∧ 1 ≤ 16777216 := ⟨by kernel_rfl, rfl, by decide, by decide, by decide⟩
def ilist : List (Nat × Value × Nat × Nat) := [
  (2, Value.int IntKind.i64 0, 1, 8),
  (3, Value.int IntKind.i64 0, 1, 8),
  (4, Value.bool false, 1, 1),
  (5, Value.int IntKind.u8 0, 1, 1),
  (6, Value.int IntKind.u8 0, 1, 1),
  (7, Value.agg ([Value.int IntKind.i64 0, Value.int IntKind.i64 0, Value.bool false, Value.int IntKind.u8 0]).toArray, 4, 24),
  (8, Value.agg ([Value.int IntKind.i64 0, Value.int IntKind.i64 0, Value.bool false, Value.int IntKind.u8 0]).toArray, 4, 24),
  (9, str [], 1, 16),
  (10, str [], 1, 16),
  (11, str [], 1, 16),
  (12, Value.int IntKind.u64 0, 1, 8),
  (13, Value.agg ([str [], Value.int IntKind.u64 0]).toArray, 2, 24),
  (14, Value.agg ([str [], Value.int IntKind.u64 0]).toArray, 2, 24),
  (15, Value.pointer none, 1, 8),
  (16, Value.pointer none, 1, 8),
  (17, Value.pointer none, 1, 8),
  (18, Value.agg ([Value.pointer none]).toArray, 1, 8),
  (19, Value.agg ([Value.pointer none]).toArray, 1, 8),
  (21, Value.int IntKind.i32 0, 1, 4),
  (23, Value.agg (cb (zb 32)).toArray, 32, 32),
  (24, Value.agg (cb (zb 32)).toArray, 32, 32),
  (29, Value.slice none 0 0, 1, 24),
  (30, Value.slice none 0 0, 1, 24),
  (31, Value.pointer none, 1, 8),
  (37, Value.slice none 0 0, 1, 24),
  (38, Value.pointer none, 1, 8),
  (40, Value.slice none 0 0, 1, 24),
  (41, Value.agg ([Value.int IntKind.i64 0, Value.int IntKind.i64 0, Value.int IntKind.u8 0, str []]).toArray, 4, 40),
  (42, Value.agg ([Value.int IntKind.i64 0, Value.int IntKind.i64 0, Value.int IntKind.u8 0, str []]).toArray, 4, 40),
  (44, Value.agg ([Value.int IntKind.u8 0, str []]).toArray, 2, 24),
  (45, Value.agg ([Value.int IntKind.u8 0, str []]).toArray, 2, 24),
  (48, Value.slice none 0 0, 1, 24),
  (49, Value.pointer none, 1, 8),
  (50, Value.int IntKind.i64 0, 1, 8),
  (53, Value.map none, 1, 8),
  (54, Value.slice none 0 0, 1, 24),
  (55, Value.agg ([Value.int IntKind.i64 0, Value.bool false]).toArray, 2, 16),
  (56, Value.agg ([Value.int IntKind.i64 0, Value.bool false]).toArray, 2, 16),
  (57, Value.agg ([Value.int IntKind.i64 0, Value.int IntKind.i64 0, Value.int IntKind.u8 0, Value.slice none 0 0, Value.int IntKind.i64 0, Value.bool false]).toArray, 6, 64),
  (58, Value.agg ([Value.int IntKind.i64 0, Value.int IntKind.i64 0, Value.int IntKind.u8 0, Value.slice none 0 0, Value.int IntKind.i64 0, Value.bool false]).toArray, 6, 64),
  (60, Value.agg (cb (zb 256)).toArray, 256, 256),
  (61, Value.agg (cb (zb 256)).toArray, 256, 256),
  (65, Value.slice none 0 0, 1, 24),
  (67, Value.slice none 0 0, 1, 24),
  (69, Value.agg ([Value.int IntKind.i64 0, Value.int IntKind.i64 0] ++ cb (zb 256)).toArray, 258, 272),
  (70, Value.agg ([Value.int IntKind.i64 0, Value.int IntKind.i64 0] ++ cb (zb 256)).toArray, 258, 272),
  (72, Value.slice none 0 0, 1, 24),
  (73, Value.slice none 0 0, 1, 24),
  (74, Value.slice none 0 0, 1, 24),
  (75, Value.slice none 0 0, 1, 24),
  (76, Value.slice none 0 0, 1, 24),
  (77, Value.agg ([Value.slice none 0 0, Value.slice none 0 0, Value.slice none 0 0, Value.slice none 0 0, Value.bool false, Value.int IntKind.i64 0, Value.slice none 0 0]).toArray, 7, 136),
  (78, Value.agg ([Value.slice none 0 0, Value.slice none 0 0, Value.slice none 0 0, Value.slice none 0 0, Value.bool false, Value.int IntKind.i64 0, Value.slice none 0 0]).toArray, 7, 136),
  (87, Value.slice none 0 0, 1, 24),
  (91, Value.agg (repC 16 [Value.int IntKind.i64 0]).toArray, 16, 128),
  (92, Value.agg (cb (zb 256)).toArray, 256, 256),
  (93, Value.agg ([Value.int IntKind.i64 0, Value.int IntKind.i64 0] ++ cb (zb 256)).toArray, 258, 272),
  (94, Value.agg ([Value.int IntKind.i64 0, Value.int IntKind.i64 0] ++ cb (zb 256)).toArray, 258, 272),
  (102, Value.int IntKind.u64 0, 1, 8),
  (103, Value.int IntKind.u32 0, 1, 4),
  (104, Value.agg ([Value.int IntKind.u32 0] ++ cb (zb 32)).toArray, 33, 36),
  (105, Value.agg ([Value.int IntKind.u32 0] ++ cb (zb 32)).toArray, 33, 36),
  (106, Value.agg ([Value.int IntKind.u64 0] ++ ([Value.int IntKind.u32 0] ++ cb (zb 32))).toArray, 34, 48),
  (107, Value.agg ([Value.int IntKind.u64 0] ++ ([Value.int IntKind.u32 0] ++ cb (zb 32))).toArray, 34, 48),
  (108, Value.pointer none, 1, 8),
  (113, Value.slice none 0 0, 1, 24),
  (116, Value.slice none 0 0, 1, 24),
  (125, Value.agg (cb (zb 32)).toArray, 32, 32),
  (126, Value.agg ([Value.int IntKind.u64 0, Value.int IntKind.u32 0] ++ cb (zb 32)).toArray, 34, 48),
  (127, Value.agg ([Value.int IntKind.u64 0, Value.int IntKind.u32 0] ++ cb (zb 32)).toArray, 34, 48),
  (135, Value.slice none 0 0, 1, 24),
  (136, Value.slice none 0 0, 1, 24),
  (137, Value.slice none 0 0, 1, 24),
  (138, Value.agg (([Value.int IntKind.u64 0, Value.int IntKind.u32 0] ++ cb (zb 32)) ++ [Value.slice none 0 0]).toArray, 35, 72),
  (139, Value.agg (([Value.int IntKind.u64 0, Value.int IntKind.u32 0] ++ cb (zb 32)) ++ [Value.slice none 0 0]).toArray, 35, 72),
  (141, Value.agg ([Value.int IntKind.i64 0, Value.int IntKind.i64 0, Value.int IntKind.u32 0] ++ cb (zb 32)).toArray, 35, 56),
  (142, Value.agg ([Value.int IntKind.i64 0, Value.int IntKind.i64 0, Value.int IntKind.u32 0] ++ cb (zb 32)).toArray, 35, 56),
  (143, Value.agg ([Value.bool false, Value.bool false]).toArray, 2, 2),
  (144, Value.agg ([Value.bool false, Value.bool false]).toArray, 2, 2),
  (151, Value.agg (repC 8 [Value.int IntKind.u32 0]).toArray, 8, 32),
  (152, Value.int IntKind.u64 0, 1, 8),
  (154, Value.agg (repC 16 [Value.int IntKind.u32 0]).toArray, 16, 64),
  (156, Value.agg (repC 16 [Value.int IntKind.u32 0]).toArray, 16, 64),
  (158, Value.agg (repC 8 [Value.int IntKind.u32 0] ++ [Value.slice none 0 0, Value.int IntKind.i64 0]).toArray, 10, 64),
  (159, Value.agg (repC 8 [Value.int IntKind.u32 0] ++ [Value.slice none 0 0, Value.int IntKind.i64 0]).toArray, 10, 64),
  (161, Value.agg (cb (zb 8)).toArray, 8, 8),
  (163, Value.agg (cb (zb 4)).toArray, 4, 4),
  (165, Value.map none, 1, 8),
  (166, Value.map none, 1, 8),
  (167, Value.slice none 0 0, 1, 24),
  (168, Value.agg ([Value.slice none 0 0, Value.map none, Value.map none, Value.int IntKind.i64 0, Value.int IntKind.i64 0, Value.bool false]).toArray, 6, 64),
  (169, Value.agg ([Value.slice none 0 0, Value.map none, Value.map none, Value.int IntKind.i64 0, Value.int IntKind.i64 0, Value.bool false]).toArray, 6, 64),
  (170, Value.agg ([Value.int IntKind.u8 0, str []]).toArray, 2, 24),
  (179, Value.slice none 0 0, 1, 24),
  (180, Value.map none, 1, 8),
  (181, Value.agg ([Value.slice none 0 0, Value.slice none 0 0, Value.slice none 0 0, Value.map none, Value.int IntKind.i64 0, Value.bool false, Value.int IntKind.i64 0, Value.int IntKind.i64 0, Value.slice none 0 0]).toArray, 9, 136),
  (182, Value.agg ([Value.slice none 0 0, Value.slice none 0 0, Value.slice none 0 0, Value.map none, Value.int IntKind.i64 0, Value.bool false, Value.int IntKind.i64 0, Value.int IntKind.i64 0, Value.slice none 0 0]).toArray, 9, 136),
  (196, Value.agg ([Value.int IntKind.i64 0, Value.bool false]).toArray, 2, 16),
  (201, Value.agg ([Value.int IntKind.i64 0, Value.int IntKind.i64 0, Value.int IntKind.i64 0] ++ cb (zb 256) ++ [Value.int IntKind.i64 0]).toArray, 260, 288),
  (202, Value.agg ([Value.int IntKind.i64 0, Value.int IntKind.i64 0, Value.int IntKind.i64 0] ++ cb (zb 256) ++ [Value.int IntKind.i64 0]).toArray, 260, 288),
  (203, Value.map none, 1, 8),
  (204, Value.agg ([Value.pointer none] ++ ([Value.int IntKind.u64 0] ++ ([Value.int IntKind.u32 0] ++ cb (zb 32))) ++ [Value.slice none 0 0, Value.map none]).toArray, 37, 88),
  (205, Value.agg ([Value.pointer none] ++ ([Value.int IntKind.u64 0] ++ ([Value.int IntKind.u32 0] ++ cb (zb 32))) ++ [Value.slice none 0 0, Value.map none]).toArray, 37, 88),
  (215, Value.slice none 0 0, 1, 24),
  (217, Value.slice none 0 0, 1, 24),
  (218, Value.agg ([Value.int IntKind.i64 0] ++ cb (zb 256)).toArray, 257, 264),
  (219, Value.agg ([Value.int IntKind.i64 0] ++ cb (zb 256)).toArray, 257, 264),
  (221, Value.agg ([Value.int IntKind.i64 0, Value.int IntKind.i64 0, Value.int IntKind.i64 0] ++ cb (zb 256) ++ [Value.int IntKind.i64 0]).toArray, 260, 288),
  (222, Value.agg ([Value.int IntKind.i64 0, Value.int IntKind.i64 0, Value.int IntKind.i64 0] ++ cb (zb 256) ++ [Value.int IntKind.i64 0]).toArray, 260, 288),
  (227, Value.agg (repC 16 [Value.int IntKind.u32 0]).toArray, 16, 64),
  (228, Value.slice none 0 0, 1, 24),
  (237, Value.agg ([Value.pointer none, Value.pointer none, Value.pointer none, str []]).toArray, 4, 40),
  (238, Value.agg ([Value.pointer none, Value.pointer none, Value.pointer none, str []]).toArray, 4, 40),
  (242, Value.int IntKind.u8 0, 1, 1),
  (243, Value.int IntKind.u8 0, 1, 1),
  (245, Value.pointer none, 1, 8),
  (246, Value.int IntKind.i32 0, 1, 4),
  (247, Value.int IntKind.i32 0, 1, 4)]
theorem ilist_ok : AllIf Try.prog ilist := ⟨if2, if3, if4, if5, if6, if7, if8, if9, if10, if11, if12, if13, if14, if15, if16, if17, if18, if19, if21, if23, if24, if29, if30, if31, if37, if38, if40, if41, if42, if44, if45, if48, if49, if50, if53, if54, if55, if56, if57, if58, if60, if61, if65, if67, if69, if70, if72, if73, if74, if75, if76, if77, if78, if87, if91, if92, if93, if94, if102, if103, if104, if105, if106, if107, if108, if113, if116, if125, if126, if127, if135, if136, if137, if138, if139, if141, if142, if143, if144, if151, if152, if154, if156, if158, if159, if161, if163, if165, if166, if167, if168, if169, if170, if179, if180, if181, if182, if196, if201, if202, if203, if204, if205, if215, if217, if218, if219, if221, if222, if227, if228, if237, if238, if242, if243, if245, if246, if247, trivial⟩
def zrs : Zs Try.prog := Zs.mk' zlist_ok blist_ok ilist_ok
instance tcI : X.TC Try.prog := ⟨tab, zrs⟩
end Go.Proofs.Ytnpnphcklmlchaa
