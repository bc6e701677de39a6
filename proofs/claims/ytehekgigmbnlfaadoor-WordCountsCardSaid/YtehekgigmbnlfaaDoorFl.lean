/- What an argument of a type without pointers is made of: its cells are those of a datum; slices of such; and a law's row out of its calls. -/
import Derived.WalkKit
import Derived.ProofKit
import Derived.OpenShut
import Derived.ShutString
import Derived.ChangeOld
import Derived.Below
import Derived.SizedLaws
import Derived.Carry
set_option linter.unusedVariables false
set_option linter.unusedSimpArgs false
namespace Go.Proofs.YtehekgigmbnlfaaDoor.Fl
open Go.ChangeShapes Go.WideShapes Go.ChangeAt Go.RowKit
open Go.ChangeMaps (open_string shut_string)

/-- Whatever reads at type t has the cells of a datum. -/
def Flat (P : Program) (t : TypeId) {T : Type} (cells : T → List Value) (ok : T → Prop) : Prop :=
  ∀ (H : Type) (enc : TypeId × Value → H) (W : World) (base : Nat) (sp : Nat → Bool) (held : Bool) (fuel : Nat) (cs : List Value) (x : DataW H × List MemPlace),
    DataW.trod enc P W base sp held fuel t cs = some x → ∃ a : T, cs = cells a ∧ ok a

variable {P : Program}

theorem Flat.map {t : TypeId} {T U : Type} {cells : T → List Value} {ok : T → Prop} {cells' : U → List Value} {ok' : U → Prop} (h : Flat P t cells ok) (g : T → U) (hg : ∀ a, ok a → cells a = cells' (g a) ∧ ok' (g a)) : Flat P t cells' ok' :=
  fun H enc W base sp held fuel cs x hx => by
    obtain ⟨a, rfl, ha⟩ := h H enc W base sp held fuel cs x hx
    exact ⟨g a, (hg a ha).1, (hg a ha).2⟩

theorem flat_int {t : TypeId} {k : IntKind} (ht : P.underlying t = some (.int k)) : Flat P t (fun n : Int => [.int k n]) (fun n => (Lit.int k n).wf = true) :=
  fun _ _ _ _ _ _ _ _ _ hx => by
    obtain ⟨n, rfl, _, hw⟩ := DataW.trod_int ht hx
    exact ⟨n, rfl, hw⟩

theorem nat_of_wf (w : Nat) (k : IntKind) (hk : k.signed = false) (hw : k.bits = w) {n : Int} (h : (Lit.int k n).wf = true) : n = ((BitVec.ofInt w n).toNat : Int) := by
  simp only [Lit.wf, IntKind.min, IntKind.max, hk, hw, Bool.and_eq_true, decide_eq_true_eq, Bool.false_eq_true, if_false] at h
  rw [BitVec.toNat_ofInt]
  have : ((2 ^ w : Nat) : Int) = 2 ^ w := by simp
  rw [Int.emod_eq_of_lt h.1 (by rw [this]; omega), Int.toNat_of_nonneg h.1]

theorem flat_u8 {t : TypeId} (ht : P.underlying t = some (.int .u8)) : Flat P t (fun b : BitVec 8 => [.int .u8 b.toNat]) (fun _ => True) :=
  (flat_int ht).map (fun n => BitVec.ofInt 8 n) (fun n h => ⟨by rw [← nat_of_wf 8 .u8 rfl rfl h], trivial⟩)
theorem flat_u16 {t : TypeId} (ht : P.underlying t = some (.int .u16)) : Flat P t (fun b : BitVec 16 => [.int .u16 b.toNat]) (fun _ => True) :=
  (flat_int ht).map (fun n => BitVec.ofInt 16 n) (fun n h => ⟨by rw [← nat_of_wf 16 .u16 rfl rfl h], trivial⟩)
theorem flat_u32 {t : TypeId} (ht : P.underlying t = some (.int .u32)) : Flat P t (fun b : BitVec 32 => [.int .u32 b.toNat]) (fun _ => True) :=
  (flat_int ht).map (fun n => BitVec.ofInt 32 n) (fun n h => ⟨by rw [← nat_of_wf 32 .u32 rfl rfl h], trivial⟩)
theorem flat_u64 {t : TypeId} (ht : P.underlying t = some (.int .u64)) : Flat P t (fun b : BitVec 64 => [.int .u64 b.toNat]) (fun _ => True) :=
  (flat_int ht).map (fun n => BitVec.ofInt 64 n) (fun n h => ⟨by rw [← nat_of_wf 64 .u64 rfl rfl h], trivial⟩)

/-- What an int may be. -/
def I64 (n : Int) : Prop := -9223372036854775808 ≤ n ∧ n < 9223372036854775808
theorem flat_i64 {t : TypeId} (ht : P.underlying t = some (.int .i64)) : Flat P t (fun n : Int => [.int .i64 n]) I64 :=
  (flat_int ht).map id (fun n h => ⟨rfl, by have := bounds_i64 h; unfold I64; simp only [id]; omega⟩)

theorem flat_bool {t : TypeId} (ht : P.underlying t = some .bool) : Flat P t (fun b : Bool => [.bool b]) (fun _ => True) :=
  fun _ _ _ _ _ _ fuel cs _ hx => by
    cases fuel with
    | zero => simp [DataW.trod] at hx
    | succ n =>
      unfold DataW.trod at hx
      rw [ht] at hx
      split at hx <;> simp_all

theorem flat_string {t : TypeId} (ht : P.underlying t = some .string) : Flat P t (fun s : ByteArray => [.string s]) (fun s => s.size ≤ maxLen) :=
  fun _ _ _ _ _ _ _ _ _ hx => by
    obtain ⟨s, rfl, _, hs⟩ := DataW.trod_string ht hx
    exact ⟨s, rfl, hs⟩

theorem chunks_of {α : Type} (c : Nat) : ∀ (n : Nat) (cs : List α), cs.length = n * c → cs = ((List.range n).map fun i => (cs.drop (i * c)).take c).flatten
  | 0, cs, h => by simp at h; simp [h]
  | n + 1, cs, h => by
    have hlen : (cs.drop c).length = n * c := by rw [List.length_drop, h, Nat.succ_mul]; omega
    have ih := chunks_of c n (cs.drop c) hlen
    rw [List.range_succ_eq_map, List.map_cons, List.flatten_cons, List.map_map]
    have e : ((fun i => List.take c (List.drop (i * c) cs)) ∘ Nat.succ) = fun i => List.take c (List.drop (i * c) (cs.drop c)) := by
      funext i
      simp only [Function.comp, List.drop_drop, Nat.succ_eq_add_one, Nat.add_mul, Nat.one_mul]
      rw [Nat.add_comm]
    rw [e, ← ih]
    simp [List.take_append_drop]

theorem choose_list {α β : Type} (R : α → β → Prop) : ∀ (l : List α), (∀ a ∈ l, ∃ b, R a b) → ∃ m : List β, m.length = l.length ∧ ∀ i (h : i < l.length) (h' : i < m.length), R l[i] m[i]
  | [], _ => ⟨[], rfl, fun i h => absurd h (by simp)⟩
  | a :: l, h => by
    obtain ⟨b, hb⟩ := h a (by simp)
    obtain ⟨m, hl, hm⟩ := choose_list R l (fun x hx => h x (by simp [hx]))
    refine ⟨b :: m, by simp [hl], fun i hi hi' => ?_⟩
    cases i with
    | zero => exact hb
    | succ i => exact hm i (by simpa using hi) (by simpa using hi')

theorem flat_array {t e : TypeId} {n : Nat} {T : Type} {cells : T → List Value} {ok : T → Prop} (ht : P.underlying t = some (.array n e)) (hc : P.cellsOf t = n * P.cellsOf e) (he : Flat P e cells ok) :
    Flat P t (fun l : List T => l.flatMap cells) (fun l => l.length = n ∧ ∀ a ∈ l, ok a) :=
  fun H enc W base sp held fuel cs x hx => by
    obtain ⟨xs, m, _, _, hlen, hxl, hi⟩ := DataW.trod_array ht hx
    have hch := chunks_of (P.cellsOf e) n cs (by rw [hlen, hc])
    have hex : ∀ i ∈ List.range n, ∃ a : T, (cs.drop (i * P.cellsOf e)).take (P.cellsOf e) = cells a ∧ ok a := by
      intro i hin
      have hin : i < n := by simpa using hin
      have h1 := hi i hin
      rw [List.getElem?_eq_getElem (by omega)] at h1
      exact he H enc W base sp held m _ _ h1
    obtain ⟨l, hl, hr⟩ := choose_list (fun i (a : T) => (cs.drop (i * P.cellsOf e)).take (P.cellsOf e) = cells a ∧ ok a) _ hex
    simp only [List.length_range] at hl hr
    refine ⟨l, ?_, hl, fun a ha => ?_⟩
    · show cs = l.flatMap cells
      rw [hch, List.flatMap_def]
      congr 1
      apply List.ext_getElem (by simp [hl])
      intro i h1 h2
      simp only [List.getElem_map, List.getElem_range]
      have := (hr i (by simpa using h1) (by simpa [hl] using h1)).1
      simpa using this
    · obtain ⟨i, hi', rfl⟩ := List.getElem_of_mem ha
      exact (hr i (by omega) hi').2

/-- Do fields lie one behind the other? -/
def contig (P : Program) : List Field → Nat → Nat → Bool
  | [], o, n => o == n
  | f :: fs, o, n => f.offset == o && contig P fs (o + P.cellsOf f.type) n

theorem fields_of (cs : List Value) : ∀ (fs : List Field) (o n : Nat), contig P fs o n = true → cs.length = n → cs.drop o = (fs.map fun f => (cs.drop f.offset).take (P.cellsOf f.type)).flatten
  | [], o, n, h, hl => by simp [contig] at h; simp; omega
  | f :: fs, o, n, h, hl => by
    simp only [contig, Bool.and_eq_true, beq_iff_eq] at h
    rw [List.map_cons, List.flatten_cons, ← fields_of cs fs _ n h.2 hl, h.1, ← List.drop_drop, List.take_append_drop]

/-- A struct's cells are its fields', each of which reads. -/
theorem struct_parts {H : Type} {enc : TypeId × Value → H} {W : World} {base : Nat} {sp : Nat → Bool} {held : Bool} {fuel : Nat} {t : TypeId} {fs : Array Field} {cs : List Value} {x : DataW H × List MemPlace} (ht : P.underlying t = some (.struct fs))
    (hc : contig P fs.toList 0 (P.cellsOf t) = true) (hx : DataW.trod enc P W base sp held fuel t cs = some x) :
    ∃ n, cs = (fs.toList.map fun f => (cs.drop f.offset).take (P.cellsOf f.type)).flatten ∧ ∀ f ∈ fs.toList, ∃ y, DataW.trod enc P W base sp held n f.type ((cs.drop f.offset).take (P.cellsOf f.type)) = some y := by
  obtain ⟨xs, n, _, _, hlen, hxl, hi⟩ := DataW.trod_struct ht hx
  refine ⟨n, ?_, fun f hf => ?_⟩
  · have := fields_of cs fs.toList 0 (P.cellsOf t) hc hlen
    simpa using this
  · obtain ⟨i, hi', rfl⟩ := List.getElem_of_mem hf
    have hs : i < fs.size := by simpa using hi'
    have h1 := hi i fs[i] (by simp [hs])
    rw [List.getElem?_eq_getElem (by omega)] at h1
    exact ⟨_, by simpa using h1⟩

theorem flat_struct1 {t : TypeId} {f1 : Field} {T1 : Type} {c1 : T1 → List Value} {o1 : T1 → Prop} (ht : P.underlying t = some (.struct #[f1])) (hc : contig P [f1] 0 (P.cellsOf t) = true) (h1 : Flat P f1.type c1 o1) : Flat P t c1 o1 :=
  fun H enc W base sp held fuel cs x hx => by
    obtain ⟨n, hcs, hf⟩ := struct_parts ht hc hx
    obtain ⟨y1, hy1⟩ := hf f1 (by simp)
    obtain ⟨a1, e1, k1⟩ := h1 _ _ _ _ _ _ _ _ _ hy1
    refine ⟨a1, ?_, k1⟩
    rw [hcs]; simp [e1]

theorem flat_struct2 {t : TypeId} {f1 f2 : Field} {T1 T2 : Type} {c1 : T1 → List Value} {c2 : T2 → List Value} {o1 : T1 → Prop} {o2 : T2 → Prop} (ht : P.underlying t = some (.struct #[f1, f2])) (hc : contig P [f1, f2] 0 (P.cellsOf t) = true)
    (h1 : Flat P f1.type c1 o1) (h2 : Flat P f2.type c2 o2) : Flat P t (fun a : T1 × T2 => c1 a.1 ++ c2 a.2) (fun a => o1 a.1 ∧ o2 a.2) :=
  fun H enc W base sp held fuel cs x hx => by
    obtain ⟨n, hcs, hf⟩ := struct_parts ht hc hx
    obtain ⟨y1, hy1⟩ := hf f1 (by simp)
    obtain ⟨y2, hy2⟩ := hf f2 (by simp)
    obtain ⟨a1, e1, k1⟩ := h1 _ _ _ _ _ _ _ _ _ hy1
    obtain ⟨a2, e2, k2⟩ := h2 _ _ _ _ _ _ _ _ _ hy2
    refine ⟨(a1, a2), ?_, k1, k2⟩
    rw [hcs]; simp [e1, e2]

theorem flat_struct3 {t : TypeId} {f1 f2 f3 : Field} {T1 T2 T3 : Type} {c1 : T1 → List Value} {c2 : T2 → List Value} {c3 : T3 → List Value} {o1 : T1 → Prop} {o2 : T2 → Prop} {o3 : T3 → Prop} (ht : P.underlying t = some (.struct #[f1, f2, f3])) (hc : contig P [f1, f2, f3] 0 (P.cellsOf t) = true)
    (h1 : Flat P f1.type c1 o1) (h2 : Flat P f2.type c2 o2) (h3 : Flat P f3.type c3 o3) : Flat P t (fun a : T1 × T2 × T3 => c1 a.1 ++ c2 a.2.1 ++ c3 a.2.2) (fun a => o1 a.1 ∧ o2 a.2.1 ∧ o3 a.2.2) :=
  fun H enc W base sp held fuel cs x hx => by
    obtain ⟨n, hcs, hf⟩ := struct_parts ht hc hx
    obtain ⟨y1, hy1⟩ := hf f1 (by simp)
    obtain ⟨y2, hy2⟩ := hf f2 (by simp)
    obtain ⟨y3, hy3⟩ := hf f3 (by simp)
    obtain ⟨a1, e1, k1⟩ := h1 _ _ _ _ _ _ _ _ _ hy1
    obtain ⟨a2, e2, k2⟩ := h2 _ _ _ _ _ _ _ _ _ hy2
    obtain ⟨a3, e3, k3⟩ := h3 _ _ _ _ _ _ _ _ _ hy3
    refine ⟨(a1, a2, a3), ?_, k1, k2, k3⟩
    rw [hcs]; simp [e1, e2, e3]

theorem flat_struct4 {t : TypeId} {f1 f2 f3 f4 : Field} {T1 T2 T3 T4 : Type} {c1 : T1 → List Value} {c2 : T2 → List Value} {c3 : T3 → List Value} {c4 : T4 → List Value} {o1 : T1 → Prop} {o2 : T2 → Prop} {o3 : T3 → Prop} {o4 : T4 → Prop} (ht : P.underlying t = some (.struct #[f1, f2, f3, f4])) (hc : contig P [f1, f2, f3, f4] 0 (P.cellsOf t) = true)
    (h1 : Flat P f1.type c1 o1) (h2 : Flat P f2.type c2 o2) (h3 : Flat P f3.type c3 o3) (h4 : Flat P f4.type c4 o4) : Flat P t (fun a : T1 × T2 × T3 × T4 => c1 a.1 ++ c2 a.2.1 ++ c3 a.2.2.1 ++ c4 a.2.2.2) (fun a => o1 a.1 ∧ o2 a.2.1 ∧ o3 a.2.2.1 ∧ o4 a.2.2.2) :=
  fun H enc W base sp held fuel cs x hx => by
    obtain ⟨n, hcs, hf⟩ := struct_parts ht hc hx
    obtain ⟨y1, hy1⟩ := hf f1 (by simp)
    obtain ⟨y2, hy2⟩ := hf f2 (by simp)
    obtain ⟨y3, hy3⟩ := hf f3 (by simp)
    obtain ⟨y4, hy4⟩ := hf f4 (by simp)
    obtain ⟨a1, e1, k1⟩ := h1 _ _ _ _ _ _ _ _ _ hy1
    obtain ⟨a2, e2, k2⟩ := h2 _ _ _ _ _ _ _ _ _ hy2
    obtain ⟨a3, e3, k3⟩ := h3 _ _ _ _ _ _ _ _ _ hy3
    obtain ⟨a4, e4, k4⟩ := h4 _ _ _ _ _ _ _ _ _ hy4
    refine ⟨(a1, a2, a3, a4), ?_, k1, k2, k3, k4⟩
    rw [hcs]; simp [e1, e2, e3, e4]

theorem flat_struct5 {t : TypeId} {f1 f2 f3 f4 f5 : Field} {T1 T2 T3 T4 T5 : Type} {c1 : T1 → List Value} {c2 : T2 → List Value} {c3 : T3 → List Value} {c4 : T4 → List Value} {c5 : T5 → List Value} {o1 : T1 → Prop} {o2 : T2 → Prop} {o3 : T3 → Prop} {o4 : T4 → Prop} {o5 : T5 → Prop} (ht : P.underlying t = some (.struct #[f1, f2, f3, f4, f5])) (hc : contig P [f1, f2, f3, f4, f5] 0 (P.cellsOf t) = true)
    (h1 : Flat P f1.type c1 o1) (h2 : Flat P f2.type c2 o2) (h3 : Flat P f3.type c3 o3) (h4 : Flat P f4.type c4 o4) (h5 : Flat P f5.type c5 o5) : Flat P t (fun a : T1 × T2 × T3 × T4 × T5 => c1 a.1 ++ c2 a.2.1 ++ c3 a.2.2.1 ++ c4 a.2.2.2.1 ++ c5 a.2.2.2.2) (fun a => o1 a.1 ∧ o2 a.2.1 ∧ o3 a.2.2.1 ∧ o4 a.2.2.2.1 ∧ o5 a.2.2.2.2) :=
  fun H enc W base sp held fuel cs x hx => by
    obtain ⟨n, hcs, hf⟩ := struct_parts ht hc hx
    obtain ⟨y1, hy1⟩ := hf f1 (by simp)
    obtain ⟨y2, hy2⟩ := hf f2 (by simp)
    obtain ⟨y3, hy3⟩ := hf f3 (by simp)
    obtain ⟨y4, hy4⟩ := hf f4 (by simp)
    obtain ⟨y5, hy5⟩ := hf f5 (by simp)
    obtain ⟨a1, e1, k1⟩ := h1 _ _ _ _ _ _ _ _ _ hy1
    obtain ⟨a2, e2, k2⟩ := h2 _ _ _ _ _ _ _ _ _ hy2
    obtain ⟨a3, e3, k3⟩ := h3 _ _ _ _ _ _ _ _ _ hy3
    obtain ⟨a4, e4, k4⟩ := h4 _ _ _ _ _ _ _ _ _ hy4
    obtain ⟨a5, e5, k5⟩ := h5 _ _ _ _ _ _ _ _ _ hy5
    refine ⟨(a1, a2, a3, a4, a5), ?_, k1, k2, k3, k4, k5⟩
    rw [hcs]; simp [e1, e2, e3, e4, e5]

/-- The value of a parameter of a type of aggregates. -/
theorem agg_open {W : World} {r : Reach} {b0 : Nat} {t : TypeId} {v : Value} {d : TypeDesc} {H : Type} {enc : TypeId × Value → H} {base : Nat} {sp : Nat → Bool} {held : Bool} {D : DataW H} {ps : List MemPlace} {T : Type} {cells : T → List Value} {ok : T → Prop}
    (ht : P.underlying t = some d) (hd : (match d with | .struct _ | .array _ _ => true | _ => false) = true) (hf : Flat P t cells ok) (hv : Value.okWide P W r b0 t v) (h : DataW.Trod enc P W base sp held t v D ps) :
    ∃ a : T, v = .agg (cells a).toArray ∧ ok a := by
  obtain ⟨cs, rfl⟩ : ∃ cs, v = .agg cs := by
    unfold Value.okWide at hv
    rw [ht] at hv
    cases d <;> simp at hd hv <;> exact ⟨_, hv.choose_spec.1⟩
  obtain ⟨fuel, hx⟩ := h
  obtain ⟨a, ha, hok⟩ := hf _ _ _ _ _ _ _ _ _ hx
  refine ⟨a, ?_, hok⟩
  rw [← ha]; simp [Value.cells]

theorem one_open {W : World} {r : Reach} {b0 : Nat} {t : TypeId} {v : Value} {H : Type} {enc : TypeId × Value → H} {base : Nat} {sp : Nat → Bool} {held : Bool} {D : DataW H} {ps : List MemPlace}
    (ht : P.underlying t = some (.int .u64)) (hv : Value.okWide P W r b0 t v) (h : DataW.Trod enc P W base sp held t v D ps) : ∃ X : BitVec 64, v = .int .u64 X.toNat := by
  obtain ⟨n, rfl, _, _, hw⟩ := open_int ht hv h
  exact ⟨BitVec.ofInt 64 n, by rw [← nat_of_wf 64 .u64 rfl rfl hw]⟩
theorem i64_open {W : World} {r : Reach} {b0 : Nat} {t : TypeId} {v : Value} {H : Type} {enc : TypeId × Value → H} {base : Nat} {sp : Nat → Bool} {held : Bool} {D : DataW H} {ps : List MemPlace}
    (ht : P.underlying t = some (.int .i64)) (hv : Value.okWide P W r b0 t v) (h : DataW.Trod enc P W base sp held t v D ps) : ∃ n, v = .int .i64 n ∧ I64 n := by
  obtain ⟨n, rfl, _, _, hw⟩ := open_int ht hv h
  exact ⟨n, rfl, by have := bounds_i64 hw; unfold I64; omega⟩

/-- All arguments read behind the call as they did. -/
theorem Below_trodAll {H : Type} {enc : TypeId × Value → H} (hl : laidOutB P = true) {W W' : World} (hb : Below W.heap.size W W') : ∀ {ts : List TypeId} {vs : List Value} {ds : List (DataW H)} {ps : List MemPlace}, (∀ t ∈ ts, P.readableRec t = true ∧ t < P.types.size) →
    DataW.TrodAll enc P W 0 (fun _ => true) true ts vs ds ps → (∀ x ∈ ps, x.block < W.heap.size) → DataW.TrodAll enc P W' 0 (fun b => decide (b < W.heap.size)) true ts vs ds ps
  | [], [], [], _, _, h, _ => h
  | t :: ts, v :: vs, d :: ds, ps, hr, ⟨p, q, h1, h2, e⟩, hlt => by
    subst e
    exact ⟨p, q, Below.trod hl (hr t (by simp)).1 (hr t (by simp)).2 h1 hb (fun x hx => hlt x (by simp [hx])), Below_trodAll hl hb (fun t ht => hr t (by simp [ht])) h2 (fun x hx => hlt x (by simp [hx])), rfl⟩

end Go.Proofs.YtehekgigmbnlfaaDoor.Fl
