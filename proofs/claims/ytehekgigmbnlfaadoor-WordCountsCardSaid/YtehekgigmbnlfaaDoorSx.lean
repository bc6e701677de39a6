/- Walking a function's code by what is known of its slots: a list of slots and values; each step is an equation that holds by computing. -/
import Derived.WalkKit
import Derived.Deep.Quiet
import Derived.Deep.QuietTactic
import Derived.Deep.LoopGhost
import Derived.KernelRfl
set_option linter.unusedVariables false
set_option linter.unusedSimpArgs false
namespace Go.Proofs.YtehekgigmbnlfaaDoor.Sx
open Go.RowKit

/-! ### What is known of a frame -/
abbrev Ctx := List (Nat × Value)
def look : Ctx → Nat → Option Value
  | [], _ => none
  | (j, v) :: L, i => match Nat.beq j i with
    | true => some v
    | false => look L i

structure Has (n : Nat) (L : Ctx) (a : Act) : Prop where
  size : a.tmps.size = n
  defers : a.defers = []
  slots : ∀ i v, look L i = some v → a.tmps[i]? = some v

theorem look_cons (j : Nat) (v : Value) (L : Ctx) (i : Nat) : look ((j, v) :: L) i = if j = i then some v else look L i := by
  rw [look]
  cases h : Nat.beq j i with
  | true => rw [if_pos (Nat.eq_of_beq_eq_true h)]
  | false => rw [if_neg (Nat.ne_of_beq_eq_false h)]

def ev (L : Ctx) : Operand → Option Value
  | .tmp t => look L t
  | .const v => some v
  | .global g => some (.pointer (some ⟨g, 0, none⟩))
  | .func f => some (.func (.func f) #[] #[])

theorem Has.ev {n : Nat} {L : Ctx} {a : Act} (h : Has n L a) {x : Operand} {v : Value} (he : ev L x = some v) : a.eval x = v := by
  cases x with
  | tmp t =>
    have := h.slots t v he
    simp only [Act.eval]
    rw [Array.getD_eq_getD_getElem?, this]
    rfl
  | const u => simpa [Sx.ev, Act.eval] using he
  | global g => simpa [Sx.ev, Act.eval] using he
  | func f => simpa [Sx.ev, Act.eval] using he

theorem Has.put {n : Nat} {L : Ctx} {a : Act} (h : Has n L a) {d : Nat} (hd : d < n) (v : Value) : Has n ((d, v) :: L) (a.put (some d) v) where
  size := by simp [Act.put, h.size]
  defers := by simp [Act.put, h.defers]
  slots := by
    intro i u hu
    rw [look_cons] at hu
    simp only [Act.put, Array.getElem?_setIfInBounds]
    by_cases e : d = i
    · subst e
      rw [if_pos rfl] at hu
      rw [if_pos rfl, if_pos (by rw [h.size]; exact hd)]
      exact hu
    · rw [if_neg e] at hu
      rw [if_neg e]
      exact h.slots i u hu

theorem Has.weaken {n : Nat} {L L' : Ctx} {a : Act} (h : Has n L a) (hL : ∀ i v, look L' i = some v → look L i = some v) : Has n L' a := ⟨h.size, h.defers, fun i v hv => h.slots i v (hL i v hv)⟩

/-- Every slot of the one list stands in the other. -/
def Sub : Ctx → Ctx → Prop
  | [], _ => True
  | (i, v) :: L', L => look L i = some v ∧ Sub L' L
theorem sub_look {L : Ctx} : ∀ {L' : Ctx}, Sub L' L → ∀ i v, look L' i = some v → look L i = some v
  | [], _, i, v, h => by simp [look] at h
  | (j, u) :: L', hs, i, v, h => by
    rw [look_cons] at h
    by_cases e : j = i
    · rw [if_pos e] at h
      cases h
      exact e ▸ hs.1
    · rw [if_neg e] at h
      exact sub_look hs.2 i v h

/-! ### A seat's types -/
/-- What is known of the types: the shape, and how many cells. -/
structure Tab (P : Program) where
  ty : TypeId → Option TypeDesc
  sz : TypeId → Option Nat
  ty_ok : ∀ t d, ty t = some d → P.underlying t = some d
  sz_ok : ∀ t n, sz t = some n → (P.info? t).map (·.size) = some n

variable {P : Program}
theorem run_underlying {t : TypeId} {d : TypeDesc} (h : P.underlying t = some d) (w : World) : (Go.underlying t).run P w = .ok d w := Go.run_underlying h w

/-! ### Operations without memory and without panic -/
def vBin (op : BinOp) : Value → Value → Option Value
  | .int k a, .int k' b =>
    match decide (k = k') with
    | true =>
      match op with
      | .add => some (.int k (k.wrap (a + b)))
      | .sub => some (.int k (k.wrap (a - b)))
      | .mul => some (.int k (k.wrap (a * b)))
      | .and => some (.int k (bits .and k a b))
      | .or => some (.int k (bits .or k a b))
      | .xor => some (.int k (bits .xor k a b))
      | .andNot => some (.int k (bits .andNot k a b))
      | .eql => some (.bool (a == b))
      | .neq => some (.bool (a != b))
      | .lss => some (.bool (decide (a < b)))
      | .leq => some (.bool (decide (a ≤ b)))
      | .gtr => some (.bool (decide (a > b)))
      | .geq => some (.bool (decide (a ≥ b)))
      | _ => none
    | false => none
  | _, _ => none

theorem run_ok_bind {α β : Type} {s : Sem α} {f : α → Sem β} {w w' : World} {a : α} (h : s.run P w = .ok a w') : (s >>= f).run P w = (f a).run P w' := by
  rw [Sem.run_bind, h]; rfl

theorem vBin_ok {op : BinOp} {x y v : Value} (h : vBin op x y = some v) (t : TypeId) (xo yo : Operand) (w : World) :
    (do eqGuard op t xo yo x y; binOp op t x y).run P w = .ok v w := by
  obtain ⟨k, a, rfl⟩ : ∃ k a, x = .int k a := by
    cases x <;> first | exact ⟨_, _, rfl⟩ | (simp [vBin] at h; done)
  obtain ⟨k', b, rfl⟩ : ∃ k b, y = .int k b := by
    cases y <;> first | exact ⟨_, _, rfl⟩ | (simp [vBin] at h; done)
  simp only [vBin] at h
  have hk : k = k' := by
    by_cases e : k = k'
    · exact e
    · simp [e] at h
  subst hk
  have hg : (eqGuard op t xo yo (.int k a) (.int k b)).run P w = .ok () w := by
    unfold eqGuard
    cases op <;> rfl
  rw [run_ok_bind hg]
  simp only [decide_true] at h
  cases op <;> simp at h <;> subst h <;> simp [binOp, Op.intArith, Op.intCmp, intBits_and, intBits_or, intBits_xor, intBits_andNot]

/-- Comparison of truths. -/
def vBinB (t : Option TypeDesc) (op : BinOp) : Value → Value → Option Value
  | .bool a, .bool b => match t, op with
    | some .bool, .eql => some (.bool (a == b))
    | some .bool, .neq => some (.bool (a != b))
    | _, _ => none
  | _, _ => none
theorem vBinB_ok {op : BinOp} {x y v : Value} {t : TypeId} {D : TypeDesc} (ht : P.underlying t = some D) (h : vBinB (some D) op x y = some v) (xo yo : Operand) (w : World) :
    (do eqGuard op t xo yo x y; binOp op t x y).run P w = .ok v w := by
  obtain ⟨a, rfl⟩ : ∃ a, x = .bool a := by
    cases x <;> first | exact ⟨_, rfl⟩ | (simp [vBinB] at h; done)
  obtain ⟨b, rfl⟩ : ∃ b, y = .bool b := by
    cases y <;> first | exact ⟨_, rfl⟩ | (simp [vBinB] at h; done)
  simp only [vBinB] at h
  cases D <;> first | (simp at h; done) | skip
  have he : (Op.equal t (.bool a) (.bool b)).run P w = .ok (a == b) w := run_equalIn_bool w 9999 t a b ht
  cases op <;> first | (simp at h; done) | skip
  all_goals
    simp only [Option.some.injEq] at h
    subst h
    rw [run_ok_bind (a := ()) (by unfold eqGuard; rfl)]
    unfold binOp
    simp only
    rw [run_ok_bind he]
    rfl

def vMin : Value → Value → Option Value
  | .int k x, .int _ y => some (.int k (if y < x then y else x))
  | _, _ => none
def vMax : Value → Value → Option Value
  | .int k x, .int _ y => some (.int k (if x < y then y else x))
  | _, _ => none

def vPick : Value → Value → Value → Option Value
  | .bool true, a, _ => some a
  | .bool false, _, b => some b
  | _, _, _ => none

def vUn (op : UnOp) : Value → Option Value
  | .bool b => match op with
    | .not => some (.bool (!b))
    | _ => none
  | .int k n => match op with
    | .neg => some (.int k (k.wrap (0 - n)))
    | _ => none
  | _ => none
theorem vUn_ok {op : UnOp} {x v : Value} (h : vUn op x = some v) (w : World) : (Op.unary op x).run P w = .ok v w := by
  cases x <;> first
    | (simp [vUn] at h; done)
    | (simp only [vUn] at h
       cases op <;> first
         | (simp at h; done)
         | (simp at h; subst h; simp [Op.unary, Op.intArith]))

def nth {α : Type} : List α → Nat → Option α
  | [], _ => none
  | x :: _, 0 => some x
  | _ :: l, i + 1 => nth l i
theorem nth_eq {α : Type} : ∀ (l : List α) (i : Nat), nth l i = l[i]?
  | [], i => by simp [nth]
  | x :: l, 0 => by simp [nth]
  | x :: l, i + 1 => by simp [nth, nth_eq l i]
def vExtract (i : Nat) : Value → Option Value
  | .tuple ⟨l⟩ => nth l i
  | _ => none
theorem vExtract_ok {i : Nat} {x v : Value} (h : vExtract i x = some v) (w : World) : (Instr.extract x i).run P w = .ok v w := by
  cases x <;> first
    | (simp [vExtract] at h; done)
    | (simp only [vExtract, nth_eq, Array.getElem?_toList] at h
       simp [Instr.extract, h])

def vConv (src dst : Option TypeDesc) : Value → Option Value
  | .int _ n => match src, dst with
    | some (.int _), some (.int k) => some (.int k (k.wrap n))
    | _, _ => none
  | .string s => match src, dst with
    | some .string, some .string => some (.string s)
    | _, _ => none
  | _ => none
theorem vConv_ok {s d : TypeDesc} {src dst : TypeId} {x v : Value} (hs : P.underlying src = some s) (hd : P.underlying dst = some d) (h : vConv (some s) (some d) x = some v) (w : World) : (convert src dst x).run P w = .ok v w := by
  unfold convert
  rw [run_ok_bind (Go.run_underlying hs w), run_ok_bind (Go.run_underlying hd w)]
  cases x <;> first
    | (simp [vConv] at h; done)
    | (simp only [vConv] at h
       cases s <;> first
         | (simp at h; done)
         | (cases d <;> first
             | (simp at h; done)
             | (simp at h; subst h; simp [Conv.intToInt])))

def vLen (t : Option TypeDesc) : Value → Option Value
  | .string s => match t with
    | some .string => some (.int .i64 s.size)
    | _ => none
  | .slice _ n _ => match t with
    | some (.slice _) => some (.int .i64 n)
    | _ => none
  | .agg _ => match t with
    | some (.array n _) => some (.int .i64 n)
    | _ => none
  | _ => none

def mapEv (L : Ctx) : List Operand → Option (List Value)
  | [] => some []
  | x :: xs => match ev L x with
    | some v => match mapEv L xs with
      | some vs => some (v :: vs)
      | none => none
    | none => none
theorem mapEv_ok {n : Nat} {L : Ctx} {a : Act} (h : Has n L a) : ∀ {xs : List Operand} {vs : List Value}, mapEv L xs = some vs → xs.map a.eval = vs
  | [], vs, he => by simp [mapEv] at he; simp [he]
  | x :: xs, vs, he => by
    simp only [mapEv] at he
    cases hx : ev L x with
    | none => simp [hx] at he
    | some v =>
      cases hr : mapEv L xs with
      | none => simp [hx, hr] at he
      | some us =>
        simp [hx, hr] at he
        subst he
        simp [h.ev hx, mapEv_ok h hr]

def bind2 (a b : Option Value) (f : Value → Value → Option Value) : Option Value :=
  match a with
  | some x => match b with
    | some y => f x y
    | none => none
  | none => none

/-- The value of an operation that touches no memory and cannot panic. -/
def pureOp (T : Tab P) (L : Ctx) : Op → Option Value
  | .move x => ev L x
  | .assign x => ev L x
  | .pick c a b => match ev L c with
    | some (.bool true) => ev L a
    | some (.bool false) => ev L b
    | _ => none
  | .binOp op t x y _ => bind2 (ev L x) (ev L y) fun a b => match vBin op a b with
    | some v => some v
    | none => vBinB (T.ty t) op a b
  | .unOp op _ x => match ev L x with
    | some v => vUn op v
    | none => none
  | .nilCheck x => match ev L x with
    | some (.pointer (some a)) => some (.pointer (some a))
    | _ => none
  | .extract x i => match ev L x with
    | some v => vExtract i v
    | none => none
  | .convert src dst x => match ev L x with
    | some v => vConv (T.ty src) (T.ty dst) v
    | none => none
  | .call { callee := .builtin .len, args := ⟨[x]⟩, argTypes := ⟨[t]⟩ } => match ev L x with
    | some v => vLen (T.ty t) v
    | none => none
  | .call { callee := .builtin .max, args := ⟨[x, y]⟩, argTypes := _ } => bind2 (ev L x) (ev L y) vMax
  | .call { callee := .builtin .min, args := ⟨[x, y]⟩, argTypes := _ } => bind2 (ev L x) (ev L y) vMin
  | _ => none

theorem vLen_ok {t : TypeId} {d : TypeDesc} {x v : Value} (ht : P.underlying t = some d) (h : vLen (some d) x = some v) (ty : TypeId) (w : World) : (Builtin.len_ #[t] ty #[x]).run P w = .ok v w := by
  unfold Builtin.len_
  simp only [List.getElem?_toArray, List.getElem?_cons_zero]
  rw [run_ok_bind (Go.run_underlying ht w)]
  cases x <;> first
    | (simp [vLen] at h; done)
    | (simp only [vLen] at h
       cases d <;> first
         | (simp at h; done)
         | (simp at h; subst h; rfl))

theorem pureOp_ok (T : Tab P) {n : Nat} {L : Ctx} {a : Act} (h : Has n L a) {o : Oper} {v : Value} (he : pureOp T L o.op = some v) (w : World) : (execOp a.eval o).run P w = .ok (.value v) w := by
  obtain ⟨dst, op, type, pos, after, guard⟩ := o
  simp only at he
  unfold execOp
  cases op <;> first | (simp [pureOp] at he; done) | simp only [pureOp] at he | skip
  case move x => simp [h.ev he]
  case assign x => simp [h.ev he]
  case pick c x y =>
    cases hc : ev L c with
    | none => simp [hc] at he
    | some u =>
      rw [hc] at he
      cases u <;> first | (simp at he; done) | skip
      rename_i b
      simp only [h.ev hc, asBool]
      cases b <;> simp only at he <;> simp [h.ev he]
  case binOp op t x y t' =>
    cases hx : ev L x with
    | none => simp [hx, bind2] at he
    | some u =>
      cases hy : ev L y with
      | none => simp [hx, hy, bind2] at he
      | some u' =>
        simp only [hx, hy, bind2] at he
        simp only [h.ev hx, h.ev hy]
        cases hb : vBin op u u' with
        | some v' =>
          rw [hb] at he
          simp only [Option.some.injEq] at he
          subst he
          rw [run_ok_bind (vBin_ok hb t x y w)]
          rfl
        | none =>
          rw [hb] at he
          simp only at he
          cases ht : T.ty t with
          | none => rw [ht] at he; cases u <;> cases u' <;> simp [vBinB] at he
          | some D =>
            rw [ht] at he
            rw [run_ok_bind (vBinB_ok (T.ty_ok _ _ ht) he x y w)]
            rfl
  case unOp op t x =>
    cases hx : ev L x with
    | none => simp [hx] at he
    | some u =>
      simp only [hx] at he
      simp only [h.ev hx]
      rw [run_ok_bind (vUn_ok he w)]
      rfl
  case nilCheck x =>
    cases hx : ev L x with
    | none => simp [hx] at he
    | some u =>
      rw [hx] at he
      cases u <;> first | (simp at he; done) | skip
      rename_i p
      cases p <;> first | (simp at he; done) | skip
      simp only [Option.some.injEq] at he
      subst he
      simp only [h.ev hx]
      rfl
  case extract x i =>
    cases hx : ev L x with
    | none => simp [hx] at he
    | some u =>
      simp only [hx] at he
      simp only [h.ev hx]
      rw [run_ok_bind (vExtract_ok he w)]
      rfl
  case convert src dst x =>
    cases hx : ev L x with
    | none => simp [hx] at he
    | some u =>
      simp only [hx] at he
      simp only [h.ev hx]
      cases hs : T.ty src with
      | none => rw [hs] at he; cases u <;> simp [vConv] at he
      | some s =>
        cases hd : T.ty dst with
        | none => rw [hs, hd] at he; cases u <;> cases s <;> simp [vConv] at he
        | some d =>
          rw [hs, hd] at he
          rw [run_ok_bind (vConv_ok (T.ty_ok _ _ hs) (T.ty_ok _ _ hd) he w)]
          rfl
  case call c =>
    obtain ⟨callee, args, argTypes⟩ := c
    cases callee <;> first | (simp [pureOp] at he; done) | skip
    rename_i b
    cases b <;> first | (simp [pureOp] at he; done) | skip
    all_goals obtain ⟨args⟩ := args
    case max =>
      match args, he with
      | [x, y], he =>
        simp only [pureOp] at he
        cases hx : ev L x with
        | none => simp [hx, bind2] at he
        | some u =>
          cases hy : ev L y with
          | none => simp [hx, hy, bind2] at he
          | some u' =>
            simp only [hx, hy, bind2] at he
            cases u <;> first | (simp [vMax] at he; done) | skip
            cases u' <;> first | (simp [vMax] at he; done) | skip
            simp only [vMax, Option.some.injEq] at he
            subst he
            simp only [resolve, invoke, builtin, List.map_toArray, List.map_cons, List.map_nil, h.ev hx, h.ev hy]
            rfl
    case min =>
      match args, he with
      | [x, y], he =>
        simp only [pureOp] at he
        cases hx : ev L x with
        | none => simp [hx, bind2] at he
        | some u =>
          cases hy : ev L y with
          | none => simp [hx, hy, bind2] at he
          | some u' =>
            simp only [hx, hy, bind2] at he
            cases u <;> first | (simp [vMin] at he; done) | skip
            cases u' <;> first | (simp [vMin] at he; done) | skip
            simp only [vMin, Option.some.injEq] at he
            subst he
            simp only [resolve, invoke, builtin, List.map_toArray, List.map_cons, List.map_nil, h.ev hx, h.ev hy]
            rfl
    obtain ⟨argTypes⟩ := argTypes
    match args, argTypes, he with
    | [x], [t], he =>
      simp only [pureOp] at he
      cases hx : ev L x with
      | none => simp [hx] at he
      | some u =>
        simp only [hx] at he
        cases ht : T.ty t with
        | none => rw [ht] at he; cases u <;> simp [vLen] at he
        | some d =>
          rw [ht] at he
          have := vLen_ok (T.ty_ok _ _ ht) he type w
          simp only [resolve, invoke, builtin, List.map_toArray, List.map_cons, List.map_nil, h.ev hx]
          rw [Sem.run_bind]
          simp only [Sem.run_pure, Result.andThen_ok]
          rw [run_ok_bind this]
          rfl

/-! ### The judgements: code, operations, an exit -/
def Cw (P : Program) (n : Nat) (c : Code) (Q : Exit → Act → World → Prop) (L : Ctx) (w : World) : Prop := ∀ a, Has n L a → c.wp P Q a w
def Ow (P : Program) (n : Nat) (ops : Array Oper) (Q : Exit → Act → World → Prop) (l : List Oper) (L : Ctx) (w : World) : Prop := ∀ a, Has n L a → wpList P ops Q l a w
def Xw (n : Nat) (e : Exit) (Q : Exit → Act → World → Prop) (L : Ctx) (w : World) : Prop := ∀ a, Has n L a → Q e a w

section rules
variable {n : Nat} {Q : Exit → Act → World → Prop} {L : Ctx} {w : World} {ops : Array Oper} {rest : List Oper} {o : Oper}

theorem cw_seq {x y : Code} (h : Cw P n x (Exit.then (y.wp P Q) Q) L w) : Cw P n (.seq x y) Q L w := fun a ha => wp_seq (h a ha)
theorem cw_region {id : Nat} {l : List Oper} (h : Ow P n l.toArray Q l L w) : Cw P n (.region id l.toArray false) Q L w := fun a ha => wp_region_lit (h a ha)
theorem cw_skip (h : Xw n .normal Q L w) : Cw P n .skip Q L w := fun a ha => wp_skip (h a ha)
theorem cw_block {id : Nat} {c : Code} (h : Cw P n c (Exit.inBlock id Q) L w) : Cw P n (.block id c) Q L w := fun a ha => wp_block (h a ha)
theorem cw_exit {id : Nat} (h : Xw n (.exit id) Q L w) : Cw P n (.exit id) Q L w := fun a ha => wp_exit (h a ha)
theorem cw_ret (h : Xw n .ret Q L w) : Cw P n .ret Q L w := fun a ha => wp_ret (h a ha)
theorem cw_cond_true {c : Operand} {x y : Code} (hc : ev L c = some (.bool true)) (h : Cw P n x Q L w) : Cw P n (.cond c x y) Q L w := fun a ha => wp_cond_true (ha.ev hc) (h a ha)
theorem cw_cond_false {c : Operand} {x y : Code} (hc : ev L c = some (.bool false)) (h : Cw P n y Q L w) : Cw P n (.cond c x y) Q L w := fun a ha => wp_cond_false (ha.ev hc) (h a ha)
theorem cw_condT {c : Operand} {x y : Code} {b : Bool} (hc : ev L c = some (.bool b)) (hb : b = true) (h : Cw P n x Q L w) : Cw P n (.cond c x y) Q L w := cw_cond_true (hb ▸ hc) h
theorem cw_condF {c : Operand} {x y : Code} {b : Bool} (hc : ev L c = some (.bool b)) (hb : b = false) (h : Cw P n y Q L w) : Cw P n (.cond c x y) Q L w := cw_cond_false (hb ▸ hc) h
theorem cw_cond {c : Operand} {x y : Code} {b : Bool} (hc : ev L c = some (.bool b)) (ht : b = true → Cw P n x Q L w) (hf : b = false → Cw P n y Q L w) : Cw P n (.cond c x y) Q L w :=
  fun a ha => wp_cond_split (ha.ev hc) (fun e => ht e a ha) (fun e => hf e a ha)

theorem ow_nil (h : Xw n .normal Q L w) : Ow P n ops Q [] L w := fun a ha => h a ha
theorem xw_then_normal {y : Code} {Q' : Exit → Act → World → Prop} (h : Cw P n y Q L w) : Xw n .normal (Exit.then (y.wp P Q) Q') L w := fun a ha => h a ha
theorem xw_then_exit {K : Act → World → Prop} {id : Nat} (h : Xw n (.exit id) Q L w) : Xw n (.exit id) (Exit.then K Q) L w := fun a ha => h a ha
theorem xw_then_ret {K : Act → World → Prop} (h : Xw n .ret Q L w) : Xw n .ret (Exit.then K Q) L w := fun a ha => h a ha
theorem xw_block_normal {id : Nat} (h : Xw n .normal Q L w) : Xw n .normal (Exit.inBlock id Q) L w := fun a ha => h a ha
theorem xw_block_ret {id : Nat} (h : Xw n .ret Q L w) : Xw n .ret (Exit.inBlock id Q) L w := fun a ha => h a ha
theorem xw_block_same {id : Nat} (h : Xw n .normal Q L w) : Xw n (.exit id) (Exit.inBlock id Q) L w := fun a ha => by simp only [Exit.inBlock, if_true]; exact h a ha
theorem xw_block_other {id id' : Nat} (hne : Nat.beq id' id = false) (h : Xw n (.exit id') Q L w) : Xw n (.exit id') (Exit.inBlock id Q) L w := fun a ha => by
  simp only [Exit.inBlock]; rw [if_neg (Nat.ne_of_beq_eq_false hne)]; exact h a ha

/-- An operation that is wanted. -/
theorem ow_pure (T : Tab P) {d : Nat} {op : Op} {ty : TypeId} {pos : String} {af : Array Edge} {v : Value} (hd : Nat.blt d n = true) (he : pureOp T L op = some v) (h : Ow P n ops Q rest ((d, v) :: L) w) : Ow P n ops Q (⟨some d, op, ty, pos, af, none⟩ :: rest) L w :=
  fun a ha => wpList_plain rfl fun K hK => by
    unfold Oper.wp
    rw [pureOp_ok T (o := ⟨some d, op, ty, pos, af, none⟩) ha he w]
    exact hK _ _ (h _ (ha.put (by simpa [Nat.blt_eq] using hd) v))

/-- What the guard's operation yielded. -/
def guardOf (ops : Array Oper) (L : Ctx) (j : Nat) : Option Bool :=
  match (ops[j]?).bind (·.dst) with
  | some d => match look L d with
    | some (.bool b) => some b
    | _ => none
  | none => none
theorem guardOf_ok {a : Act} (ha : Has n L a) {j : Nat} {b : Bool} (h : guardOf ops L j = some b) : yielded ops a.tmps j = some b := by
  unfold guardOf at h
  unfold yielded
  cases hd : (ops[j]?).bind (·.dst) with
  | none => simp [hd] at h
  | some d =>
    simp only [hd] at h
    cases hl : look L d with
    | none => simp [hl] at h
    | some v =>
      rw [hl] at h
      cases v <;> simp at h
      subst h
      have := ha.slots d _ hl
      simp [this]

theorem ow_guard_yes {d : Option Tmp} {op : Op} {ty : TypeId} {pos : String} {af : Array Edge} {j : Nat} {b : Bool} (hy : guardOf ops L j = some b)
    (h : Ow P n ops Q (⟨d, op, ty, pos, af, none⟩ :: rest) L w) : Ow P n ops Q (⟨d, op, ty, pos, af, some (j, b)⟩ :: rest) L w :=
  fun a ha => by
    have h1 := h a ha
    unfold wpList at h1 ⊢
    rw [if_pos (by simp [Region.wanted, guardOf_ok ha hy])]
    rw [if_pos (by simp [Region.wanted])] at h1
    exact h1

theorem ow_guardY {d : Option Tmp} {op : Op} {ty : TypeId} {pos : String} {af : Array Edge} {j : Nat} {b b' : Bool} (hy : guardOf ops L j = some b') (hb : (b' == b) = true)
    (h : Ow P n ops Q (⟨d, op, ty, pos, af, none⟩ :: rest) L w) : Ow P n ops Q (⟨d, op, ty, pos, af, some (j, b)⟩ :: rest) L w := ow_guard_yes (by rw [hy, eq_of_beq hb]) h
theorem ow_guard_no {d : Nat} {op : Op} {ty : TypeId} {pos : String} {af : Array Edge} {j : Nat} {b b' : Bool} (hd : Nat.blt d n = true) (hy : guardOf ops L j = some b') (hb : (b' == b) = false)
    (h : Ow P n ops Q rest ((d, undef) :: L) w) : Ow P n ops Q (⟨some d, op, ty, pos, af, some (j, b)⟩ :: rest) L w :=
  fun a ha => by
    unfold wpList
    rw [if_neg (by simp only [Region.wanted, guardOf_ok ha hy, Option.some_beq_some]; rw [hb]; simp)]
    exact h _ (ha.put (by simpa [Nat.blt_eq] using hd) undef)

/-- An operation by its own run. -/
theorem ow_run {d : Nat} {op : Op} {ty : TypeId} {pos : String} {af : Array Edge} {v : Value} {w' : World} (hd : Nat.blt d n = true) (he : ∀ a, Has n L a → (execOp a.eval ⟨some d, op, ty, pos, af, none⟩).run P w = .ok (.value v) w') (h : Ow P n ops Q rest ((d, v) :: L) w') : Ow P n ops Q (⟨some d, op, ty, pos, af, none⟩ :: rest) L w :=
  fun a ha => wpList_plain rfl fun K hK => by
    unfold Oper.wp
    rw [he a ha]
    exact hK _ _ (h _ (ha.put (by simpa [Nat.blt_eq] using hd) v))
theorem ow_skip {op : Op} {ty : TypeId} {pos : String} {af : Array Edge} {w' : World} (he : ∀ a, Has n L a → (execOp a.eval ⟨none, op, ty, pos, af, none⟩).run P w = .ok .skip w') (h : Ow P n ops Q rest L w') : Ow P n ops Q (⟨none, op, ty, pos, af, none⟩ :: rest) L w :=
  fun a ha => wpList_plain rfl fun K hK => by
    unfold Oper.wp
    rw [he a ha]
    exact hK _ _ (h _ ha)

/-- What is said of a call: it returns a value, and what is known of the value and the world. -/
def Does (P : Program) (f : FuncId) (args : List Value) (w : World) (R : Value → World → Prop) : Prop := Calls P f args.toArray w fun e w' => ∃ v, e = .returned v ∧ R v w'
theorem Does.mono {f : FuncId} {args : List Value} {R R' : Value → World → Prop} (h : Does P f args w R) (hr : ∀ v w', R v w' → R' v w') : Does P f args w R' := Calls.mono h fun _ _ ⟨v, e, r⟩ => ⟨v, e, hr _ _ r⟩

/-- The function that a call names. -/
def callee (L : Ctx) : Op → Option (FuncId × List Operand)
  | .call { callee := .value f, args := ⟨xs⟩, argTypes := _ } => match ev L f with
    | some (.func (.func g) ⟨[]⟩ ⟨[]⟩) => some (g, xs)
    | _ => none
  | _ => none

theorem callee_ok {f : FuncId} {xs : List Operand} {vs : List Value} {fn : Func} {body : Code} (hc : callee L o.op = some (f, xs)) (hv : mapEv L xs = some vs) (hf : P.funcs[f]? = some fn) (hb : fn.body = some body) (hn : (fn.name == "runtime.NumGoroutine") = false) {a : Act} (ha : Has n L a) :
    (execOp a.eval o).run P w = .ok (.enter f vs.toArray) w := by
  obtain ⟨dst, op, type, pos, after, guard⟩ := o
  simp only at hc
  cases op <;> first | (simp [callee] at hc; done) | simp only [callee] at hc
  rename_i c
  obtain ⟨cal, args, ats⟩ := c
  cases cal <;> first | (simp at hc; done) | skip
  rename_i g
  obtain ⟨args⟩ := args
  simp only at hc
  cases hg : ev L g with
  | none => simp [hg] at hc
  | some u =>
    rw [hg] at hc
    cases u <;> first | (simp at hc; done) | skip
    rename_i fnv first captured
    obtain ⟨first⟩ := first
    obtain ⟨captured⟩ := captured
    cases fnv <;> first | (simp at hc; done) | skip
    rename_i k
    match first, captured, hc with
    | [], [], hc =>
      simp only [Option.some.injEq, Prod.mk.injEq] at hc
      obtain ⟨rfl, rfl⟩ := hc
      have hm := mapEv_ok ha hv
      unfold execOp
      simp only [resolve, ha.ev hg, Deferred.ofValue, List.map_toArray, hm]
      rw [Sem.run_bind]
      simp only [Sem.run_pure, Result.andThen_ok, invoke, callFunc]
      rw [Sem.run_bind]
      have hn' : ¬ fn.name = "runtime.NumGoroutine" := by simpa using hn
      simp [hf, hb, hn']

theorem ow_call {d : Nat} {op : Op} {ty : TypeId} {pos : String} {af : Array Edge} {f : FuncId} {xs : List Operand} {vs : List Value} {fn : Func} {body : Code} {R : Value → World → Prop} (hd : Nat.blt d n = true) (hc : callee L op = some (f, xs)) (hv : mapEv L xs = some vs)
    (hf : P.funcs[f]? = some fn) (hb : fn.body = some body) (hn : (fn.name == "runtime.NumGoroutine") = false)
    (hfn : Does P f vs w R) (h : ∀ v w', R v w' → Ow P n ops Q rest ((d, v) :: L) w') : Ow P n ops Q (⟨some d, op, ty, pos, af, none⟩ :: rest) L w :=
  fun a ha => wpList_plain rfl fun K hK => by
    unfold Oper.wp
    rw [callee_ok (o := ⟨some d, op, ty, pos, af, none⟩) hc hv hf hb hn ha]
    refine Calls.mono hfn fun e w' ⟨v, he, hr⟩ => ?_
    subst he
    exact hK _ _ (h v w' hr _ (ha.put (by simpa [Nat.blt_eq] using hd) v))

/-! ### Operations that may panic, at operands where they do not -/
theorem run_binOp {op : BinOp} {t t' : TypeId} {xo yo : Operand} {x y v : Value} (ho : o.op = .binOp op t xo yo t') (hx : ev L xo = some x) (hy : ev L yo = some y) {w : World}
    (hr : (do eqGuard op t xo yo x y; binOp op t x y).run P w = .ok v w) (a : Act) (ha : Has n L a) : (execOp a.eval o).run P w = .ok (.value v) w := by
  unfold execOp
  rw [ho]
  simp only [ha.ev hx, ha.ev hy]
  rw [run_ok_bind hr]
  rfl
theorem ow_shl {d : Nat} {ty : TypeId} {pos : String} {af : Array Edge} {t t' : TypeId} {xo yo : Operand} {k yk : IntKind} {x y z : Int} (hd : Nat.blt d n = true) (hx : ev L xo = some (.int k x)) (hy : ev L yo = some (.int yk y)) (h0 : 0 ≤ y) (hz : k.wrap (x * 2 ^ min y.toNat k.bits) = z)
    (h : Ow P n ops Q rest ((d, .int k z) :: L) w) : Ow P n ops Q (⟨some d, .binOp .shl t xo yo t', ty, pos, af, none⟩ :: rest) L w :=
  ow_run hd (run_binOp rfl hx hy (by
    rw [run_ok_bind (a := ()) (by unfold eqGuard; rfl)]
    simp only [binOp, Op.shift, if_neg (show ¬ y < 0 by omega), hz]; rfl)) h
theorem ow_shr {d : Nat} {ty : TypeId} {pos : String} {af : Array Edge} {t t' : TypeId} {xo yo : Operand} {k yk : IntKind} {x y z : Int} (hd : Nat.blt d n = true) (hx : ev L xo = some (.int k x)) (hy : ev L yo = some (.int yk y)) (h0 : 0 ≤ y) (hz : x.fdiv (2 ^ min y.toNat k.bits) = z)
    (h : Ow P n ops Q rest ((d, .int k z) :: L) w) : Ow P n ops Q (⟨some d, .binOp .shr t xo yo t', ty, pos, af, none⟩ :: rest) L w :=
  ow_run hd (run_binOp rfl hx hy (by
    rw [run_ok_bind (a := ()) (by unfold eqGuard; rfl)]
    simp only [binOp, Op.shift, if_neg (show ¬ y < 0 by omega), hz]; rfl)) h
theorem ow_quo {d : Nat} {ty : TypeId} {pos : String} {af : Array Edge} {t t' : TypeId} {xo yo : Operand} {k : IntKind} {x y z : Int} (hd : Nat.blt d n = true) (hx : ev L xo = some (.int k x)) (hy : ev L yo = some (.int k y)) (h0 : y ≠ 0) (hz : k.wrap (x.tdiv y) = z)
    (h : Ow P n ops Q rest ((d, .int k z) :: L) w) : Ow P n ops Q (⟨some d, .binOp .quo t xo yo t', ty, pos, af, none⟩ :: rest) L w :=
  ow_run hd (run_binOp rfl hx hy (by
    rw [run_ok_bind (a := ()) (by unfold eqGuard; rfl)]
    simp only [binOp, Op.intDiv, if_neg h0, hz, ne_eq, not_true_eq_false, if_false]; rfl)) h
theorem ow_rem {d : Nat} {ty : TypeId} {pos : String} {af : Array Edge} {t t' : TypeId} {xo yo : Operand} {k : IntKind} {x y z : Int} (hd : Nat.blt d n = true) (hx : ev L xo = some (.int k x)) (hy : ev L yo = some (.int k y)) (h0 : y ≠ 0) (hz : x.tmod y = z)
    (h : Ow P n ops Q rest ((d, .int k z) :: L) w) : Ow P n ops Q (⟨some d, .binOp .rem t xo yo t', ty, pos, af, none⟩ :: rest) L w :=
  ow_run hd (run_binOp rfl hx hy (by
    rw [run_ok_bind (a := ()) (by unfold eqGuard; rfl)]
    simp only [binOp, Op.intDiv, if_neg h0, hz, ne_eq, not_true_eq_false, if_false]; rfl)) h

/-! ### Loops -/
/-- A loop's state s: its slots, its world; a round leaves a smaller state, or leaves the loop. -/
theorem cw_loop {σ : Type} (ctx : σ → Ctx) (Inv : σ → World → Prop) (μ : σ → Nat) (s0 : σ) {c : Code} (h0 : Inv s0 w) (hs : Sub (ctx s0) L)
    (round : ∀ s w', Inv s w' → Cw P n c (Exit.then (fun a w'' => ∃ s', Inv s' w'' ∧ μ s' < μ s ∧ Has n (ctx s') a) Q) (ctx s) w') : Cw P n (.loop c) Q L w :=
  fun a ha => wp_loop_ghost (fun m a w => ∃ s, μ s = m ∧ Inv s w ∧ Has n (ctx s) a) (μ s0) ⟨s0, rfl, h0, ha.weaken (sub_look hs)⟩ fun m a w ⟨s, hm, hi, ha⟩ =>
    wp_mono (round s w hi a ha) fun e a' w' hq => by
      cases e <;> first
        | exact hq
        | (obtain ⟨s', hi', hlt, ha'⟩ := hq
           exact ⟨μ s', by omega, s', rfl, hi', ha'⟩)

/-! ### Entering and leaving a function -/
def ixs : Nat → List Value → Ctx
  | _, [] => []
  | i, v :: vs => (i, v) :: ixs (i + 1) vs
theorem look_ixs : ∀ (vs : List Value) (k i : Nat) (v : Value), look (ixs k vs) i = some v → k ≤ i ∧ vs[i - k]? = some v
  | [], k, i, v, h => by simp [ixs, look] at h
  | u :: vs, k, i, v, h => by
    rw [ixs, look_cons] at h
    by_cases e : k = i
    · rw [if_pos e] at h
      subst e
      exact ⟨Nat.le_refl _, by simpa using h⟩
    · rw [if_neg e] at h
      obtain ⟨h1, h2⟩ := look_ixs vs (k + 1) i v h
      refine ⟨by omega, ?_⟩
      rw [show i - k = (i - (k + 1)) + 1 from by omega]
      simpa using h2

/-- What a function's body must come to. -/
abbrev Fin (P : Program) (fn : Func) (R : Value → World → Prop) : Exit → Act → World → Prop := bodyPost P fn fun e w' => ∃ v, e = .returned v ∧ R v w'

theorem fn_enter {f : FuncId} {fn : Func} {c : Code} {args : List Value} {R : Value → World → Prop} (hf : P.funcs[f]? = some fn) (hb : fn.body = some c) (hn : fn.ntmps = n) (hl : Nat.ble args.length n = true)
    (h : Cw P n c (Fin P fn R) (ixs 0 args) w) : Does P f args w R := by
  refine calls_of_wp hf hb (h _ ⟨?_, rfl, ?_⟩)
  · have := Nat.le_of_ble_eq_true hl
    simp [hn]; omega
  · intro i v hv
    have := (look_ixs args 0 i v hv).2
    have hlt : i < args.length := by
      have := List.getElem?_eq_some_iff.1 this
      simpa using this.1
    simp only [Array.getElem?_append, List.size_toArray]
    rw [if_pos (by simpa using hlt)]
    simpa using this

/-- The results' values: slots, or variables in memory. -/
def Res (P : Program) (L : Ctx) (w : World) : List ResultVar → List Value → Prop
  | [], [] => True
  | .tmp t :: rs, v :: vs => look L t = some v ∧ Res P L w rs vs
  | .cell t ty :: rs, v :: vs => (∃ a, look L t = some (.pointer (some a)) ∧ (loadVar ty a).run P w = .ok v w) ∧ Res P L w rs vs
  | _, _ => False
def resOf : List Value → Value
  | [v] => v
  | vs => .tuple vs.toArray

def getRes (tmps : Array Value) : ResultVar → Sem Value
  | .tmp t => pure (tmps.getD t undef)
  | .cell a t => do loadVar t (← asAddr (tmps.getD a undef))

theorem res_run {L : Ctx} {w : World} {a : Act} (ha : Has n L a) : ∀ {rs : List ResultVar} {vs : List Value}, Res P L w rs vs → (rs.mapM (getRes a.tmps)).run P w = .ok vs w
  | [], [], _ => rfl
  | .tmp t :: rs, v :: vs, ⟨h1, h2⟩ => by
    have hg : (getRes a.tmps (.tmp t)).run P w = .ok v w := by
      have : a.tmps.getD t undef = v := by rw [Array.getD_eq_getD_getElem?, ha.slots t v h1]; rfl
      simp only [getRes, this]
      rfl
    rw [List.mapM_cons, run_ok_bind hg, run_ok_bind (res_run ha h2)]
    rfl
  | .cell t ty :: rs, v :: vs, ⟨⟨ad, h1, h3⟩, h2⟩ => by
    have hg : (getRes a.tmps (.cell t ty)).run P w = .ok v w := by
      have : a.tmps.getD t undef = .pointer (some ad) := by rw [Array.getD_eq_getD_getElem?, ha.slots t _ h1]; rfl
      simp only [getRes, this, asAddr]
      rw [run_ok_bind (a := ad) rfl]
      exact h3
    rw [List.mapM_cons, run_ok_bind hg, run_ok_bind (res_run ha h2)]
    rfl

theorem results_eq (fn : Func) (tmps : Array Value) : results fn tmps = (do
    let vs ← fn.results.mapM (getRes tmps)
    pure (if h : vs.size = 1 then vs[0] else .tuple vs)) := by
  unfold results
  congr 1

theorem xw_ret {fn : Func} {R : Value → World → Prop} {rs : List ResultVar} {vs : List Value} (hr : fn.results = rs.toArray) (hv : Res P L w rs vs) (h : R (resOf vs) w) : Xw n .ret (Fin P fn R) L w := fun a ha => by
  refine ⟨ha.defers, resOf vs, ?_, _, rfl, h⟩
  have h1 := res_run (P := P) ha hv
  have h2 : (fn.results.mapM (getRes a.tmps)).run P w = .ok vs.toArray w := by
    rw [hr, List.mapM_toArray, Sem.run_map, h1]
    rfl
  rw [results_eq, run_ok_bind h2]
  match vs, hv with
  | [], _ => rfl
  | [v], _ => rfl
  | v :: u :: vs, _ => simp [resOf]
theorem xw_end {fn : Func} {R : Value → World → Prop} (h : Xw n .ret (Fin P fn R) L w) : Xw n .normal (Fin P fn R) L w := fun a ha => h a ha
end rules

/-! ### A seat's table -/
def lookA {α : Type} : List (Nat × α) → Nat → Option α
  | [], _ => none
  | (j, v) :: L, i => match Nat.beq j i with
    | true => some v
    | false => lookA L i
def AllTy (P : Program) : List (Nat × TypeDesc) → Prop
  | [] => True
  | (t, d) :: l => P.underlying t = some d ∧ AllTy P l
def AllSz (P : Program) : List (Nat × Nat) → Prop
  | [] => True
  | (t, k) :: l => (P.info? t).map (·.size) = some k ∧ AllSz P l
theorem lookA_ty : ∀ {l : List (Nat × TypeDesc)}, AllTy P l → ∀ t d, lookA l t = some d → P.underlying t = some d
  | [], _, _, _, h => by simp [lookA] at h
  | (j, v) :: l, ha, t, d, h => by
    rw [lookA] at h
    cases e : Nat.beq j t with
    | true => rw [e] at h; cases h; exact Nat.eq_of_beq_eq_true e ▸ ha.1
    | false => rw [e] at h; exact lookA_ty ha.2 t d h
theorem lookA_sz : ∀ {l : List (Nat × Nat)}, AllSz P l → ∀ t d, lookA l t = some d → (P.info? t).map (·.size) = some d
  | [], _, _, _, h => by simp [lookA] at h
  | (j, v) :: l, ha, t, d, h => by
    rw [lookA] at h
    cases e : Nat.beq j t with
    | true => rw [e] at h; cases h; exact Nat.eq_of_beq_eq_true e ▸ ha.1
    | false => rw [e] at h; exact lookA_sz ha.2 t d h
def Tab.mk' {tys : List (Nat × TypeDesc)} {szs : List (Nat × Nat)} (h1 : AllTy P tys) (h2 : AllSz P szs) : Tab P := ⟨lookA tys, lookA szs, lookA_ty h1, lookA_sz h2⟩
end Go.Proofs.YtehekgigmbnlfaaDoor.Sx
