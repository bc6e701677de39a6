/- Arguments of a small bulk: what they are made of, what lies behind their slices, and how much it is. -/
import Derived.Test.YtnpnphcklmlchaaFb
import Derived.Test.YtnpnphcklmlchaaRows
set_option linter.unusedVariables false
set_option linter.unusedSimpArgs false
namespace Go.Proofs.Ytnpnphcklmlchaa.Bk
open Go.ChangeShapes Go.WideShapes Go.ChangeAt Go.RowKit Go.Proofs.Ytnpnphcklmlchaa.Sx Go.Proofs.Ytnpnphcklmlchaa.Mx Go.Proofs.Ytnpnphcklmlchaa.By Go.Proofs.Ytnpnphcklmlchaa.Ap Go.Proofs.Ytnpnphcklmlchaa.Fl Go.Proofs.Ytnpnphcklmlchaa.Ar Go.Proofs.Ytnpnphcklmlchaa.Fb
variable {P : Program}
theorem one_le {H : Type} (d : DataW H) : 1 ≤ Rows.uptoBulk d := by
  cases d with
  | lit l => cases l <;> simp [Rows.uptoBulk]
  | nil => simp [Rows.uptoBulk]
  | ptr d => simp [Rows.uptoBulk]
  | slice elems spare => simp [Rows.uptoBulk]
  | agg parts => simp [Rows.uptoBulk]
  | iface t d => simp [Rows.uptoBulk]
  | map entries => simp [Rows.uptoBulk]
  | held h => simp [Rows.uptoBulk]
theorem part_le {H : Type} {d : DataW H} {l : List (DataW H)} (h : d ∈ l) : Rows.uptoBulk d ≤ Rows.uptoBulkAll l := by
  induction l with
  | nil => cases h
  | cons x r ih =>
    simp only [Rows.uptoBulkAll]
    rcases List.mem_cons.1 h with e | e
    · subst e; omega
    · have := ih e; omega
theorem small {H : Type} {l : List (DataW H)} (hk : Rows.uptoSmall H l = true) : Rows.uptoBulkAll l ≤ 1048576 := of_decide_eq_true hk
theorem small_of {H : Type} {d : DataW H} {l : List (DataW H)} (hk : Rows.uptoSmall H l = true) (h : d ∈ l) : Rows.uptoBulk d ≤ 1048576 := Nat.le_trans (part_le h) (small hk)
/-- What reads at a type: its cells, what is behind, and its bulk. -/
def FlatR (P : Program) (t : TypeId) {T : Type} (cells : T → List Value) (ok : T → Prop) (wt : T → Nat) (mem : T → World → Prop) : Prop :=
  ∀ (H : Type) (enc : TypeId × Value → H) (W : World) (base : Nat) (sp : Nat → Bool) (held : Bool) (fuel : Nat) (cs : List Value) (x : DataW H × List MemPlace),
    DataW.trod enc P W base sp held fuel t cs = some x → ∃ a : T, cs = cells a ∧ ok a ∧ wt a ≤ Rows.uptoBulk x.1 ∧ mem a W
theorem FlatR.of {t : TypeId} {T : Type} {cells : T → List Value} {ok : T → Prop} (h : Flat P t cells ok) : FlatR P t cells ok (fun _ => 1) (fun _ _ => True) := fun H enc W base sp held fuel cs x hx => by
  obtain ⟨a, h1, h2⟩ := h H enc W base sp held fuel cs x hx
  exact ⟨a, h1, h2, one_le _, trivial⟩
theorem FlatR.map {t : TypeId} {T U : Type} {cells : T → List Value} {ok : T → Prop} {wt : T → Nat} {mem : T → World → Prop} {cells' : U → List Value} {ok' : U → Prop} {wt' : U → Nat} {mem' : U → World → Prop} (h : FlatR P t cells ok wt mem) (g : T → U)
    (hg : ∀ a, ok a → cells a = cells' (g a) ∧ ok' (g a) ∧ wt' (g a) ≤ wt a ∧ ∀ W, mem a W → mem' (g a) W) : FlatR P t cells' ok' wt' mem' := fun H enc W base sp held fuel cs x hx => by
  obtain ⟨a, rfl, h2, h3, h4⟩ := h H enc W base sp held fuel cs x hx
  obtain ⟨g1, g2, g3, g4⟩ := hg a h2
  exact ⟨g a, g1, g2, Nat.le_trans g3 h3, g4 W h4⟩
theorem fr_string {t : TypeId} (ht : P.underlying t = some .string) : FlatR P t (fun s : List Byte => [str s]) (fun _ => True) (fun s => s.length + 1) (fun _ _ => True) :=
  fun H enc W base sp held fuel cs x hx => by
    obtain ⟨s, rfl, rfl, _⟩ := DataW.trod_string ht hx
    refine ⟨ofBA s, by show [Value.string s] = [.string (bs (ofBA s))]; rw [bs_ofBA], trivial, ?_, trivial⟩
    simp only [Rows.uptoBulk, Array.length_toList]
    rw [← bs_size, bs_ofBA]
    exact Nat.le_refl _
theorem struct_partsR {H : Type} {enc : TypeId × Value → H} {W : World} {base : Nat} {sp : Nat → Bool} {held : Bool} {fuel : Nat} {t : TypeId} {fs : Array Field} {cs : List Value} {x : DataW H × List MemPlace} (ht : P.underlying t = some (.struct fs))
    (hc : contig P fs.toList 0 (P.cellsOf t) = true) (hx : DataW.trod enc P W base sp held fuel t cs = some x) :
    ∃ (n : Nat) (xs : List (DataW H × List MemPlace)), x.1 = .agg (xs.map (·.1)) ∧ xs.length = fs.toList.length ∧ cs = (fs.toList.map fun f => (cs.drop f.offset).take (P.cellsOf f.type)).flatten ∧ ∀ (i : Nat) (f : Field), fs.toList[i]? = some f → ∃ y, xs[i]? = some y ∧ DataW.trod enc P W base sp held n f.type ((cs.drop f.offset).take (P.cellsOf f.type)) = some y := by
  obtain ⟨xs, n, _, rfl, hlen, hxl, hi⟩ := DataW.trod_struct ht hx
  refine ⟨n, xs, rfl, by simpa using hxl, ?_, fun i f hf => ?_⟩
  · have := fields_of cs fs.toList 0 (P.cellsOf t) hc hlen
    simpa using this
  · have hsz : i < fs.size := by simpa using (List.getElem?_eq_some_iff.1 hf).1
    have h1 := hi i f (by simpa using hf)
    rw [List.getElem?_eq_getElem (by omega)] at h1 ⊢
    exact ⟨_, rfl, by simpa using h1⟩
theorem fr_struct2 {t : TypeId} {f1 f2 : Field} {T1 T2 : Type} {c1 : T1 → List Value} {c2 : T2 → List Value} {o1 : T1 → Prop} {o2 : T2 → Prop} {k1 : T1 → Nat} {k2 : T2 → Nat} {m1 : T1 → World → Prop} {m2 : T2 → World → Prop} (ht : P.underlying t = some (.struct #[f1, f2])) (hc : contig P [f1, f2] 0 (P.cellsOf t) = true)
    (h1 : FlatR P f1.type c1 o1 k1 m1) (h2 : FlatR P f2.type c2 o2 k2 m2) : FlatR P t (fun a : T1 × T2 => c1 a.1 ++ c2 a.2) (fun a => o1 a.1 ∧ o2 a.2) (fun a => k1 a.1 + k2 a.2 + 1) (fun a W => m1 a.1 W ∧ m2 a.2 W) :=
  fun H enc W base sp held fuel cs x hx => by
    obtain ⟨n, xs, hx1, hxl, hcs, hf⟩ := struct_partsR ht hc hx
    obtain ⟨y1, e1, t1⟩ := hf 0 f1 rfl
    obtain ⟨y2, e2, t2⟩ := hf 1 f2 rfl
    obtain ⟨a1, p1, q1, r1, s1⟩ := h1 _ _ _ _ _ _ _ _ _ t1
    obtain ⟨a2, p2, q2, r2, s2⟩ := h2 _ _ _ _ _ _ _ _ _ t2
    match xs, hxl, e1, e2 with
    | [z1, z2], _, rfl, rfl =>
      refine ⟨(a1, a2), ?_, ⟨q1, q2⟩, ?_, s1, s2⟩
      · rw [hcs]; simp [p1, p2]
      · rw [hx1]; simp only [List.map_cons, List.map_nil, Rows.uptoBulk, Rows.uptoBulkAll]; omega
theorem fr_struct4 {t : TypeId} {f1 f2 f3 f4 : Field} {T1 T2 T3 T4 : Type} {c1 : T1 → List Value} {c2 : T2 → List Value} {c3 : T3 → List Value} {c4 : T4 → List Value} {o1 : T1 → Prop} {o2 : T2 → Prop} {o3 : T3 → Prop} {o4 : T4 → Prop} {k1 : T1 → Nat} {k2 : T2 → Nat} {k3 : T3 → Nat} {k4 : T4 → Nat} {m1 : T1 → World → Prop} {m2 : T2 → World → Prop} {m3 : T3 → World → Prop} {m4 : T4 → World → Prop}
    (ht : P.underlying t = some (.struct #[f1, f2, f3, f4])) (hc : contig P [f1, f2, f3, f4] 0 (P.cellsOf t) = true) (h1 : FlatR P f1.type c1 o1 k1 m1) (h2 : FlatR P f2.type c2 o2 k2 m2) (h3 : FlatR P f3.type c3 o3 k3 m3) (h4 : FlatR P f4.type c4 o4 k4 m4) :
    FlatR P t (fun a : T1 × T2 × T3 × T4 => c1 a.1 ++ c2 a.2.1 ++ c3 a.2.2.1 ++ c4 a.2.2.2) (fun a => o1 a.1 ∧ o2 a.2.1 ∧ o3 a.2.2.1 ∧ o4 a.2.2.2) (fun a => k1 a.1 + k2 a.2.1 + k3 a.2.2.1 + k4 a.2.2.2 + 1) (fun a W => m1 a.1 W ∧ m2 a.2.1 W ∧ m3 a.2.2.1 W ∧ m4 a.2.2.2 W) :=
  fun H enc W base sp held fuel cs x hx => by
    obtain ⟨n, xs, hx1, hxl, hcs, hf⟩ := struct_partsR ht hc hx
    obtain ⟨y1, e1, t1⟩ := hf 0 f1 rfl
    obtain ⟨y2, e2, t2⟩ := hf 1 f2 rfl
    obtain ⟨y3, e3, t3⟩ := hf 2 f3 rfl
    obtain ⟨y4, e4, t4⟩ := hf 3 f4 rfl
    obtain ⟨a1, p1, q1, r1, s1⟩ := h1 _ _ _ _ _ _ _ _ _ t1
    obtain ⟨a2, p2, q2, r2, s2⟩ := h2 _ _ _ _ _ _ _ _ _ t2
    obtain ⟨a3, p3, q3, r3, s3⟩ := h3 _ _ _ _ _ _ _ _ _ t3
    obtain ⟨a4, p4, q4, r4, s4⟩ := h4 _ _ _ _ _ _ _ _ _ t4
    match xs, hxl, e1, e2, e3, e4 with
    | [z1, z2, z3, z4], _, rfl, rfl, rfl, rfl =>
      refine ⟨(a1, a2, a3, a4), ?_, ⟨q1, q2, q3, q4⟩, ?_, s1, s2, s3, s4⟩
      · rw [hcs]; simp [p1, p2, p3, p4]
      · rw [hx1]; simp only [List.map_cons, List.map_nil, Rows.uptoBulk, Rows.uptoBulkAll]; omega
theorem fr_struct5 {t : TypeId} {f1 f2 f3 f4 f5 : Field} {T1 T2 T3 T4 T5 : Type} {c1 : T1 → List Value} {c2 : T2 → List Value} {c3 : T3 → List Value} {c4 : T4 → List Value} {c5 : T5 → List Value} {o1 : T1 → Prop} {o2 : T2 → Prop} {o3 : T3 → Prop} {o4 : T4 → Prop} {o5 : T5 → Prop} {k1 : T1 → Nat} {k2 : T2 → Nat} {k3 : T3 → Nat} {k4 : T4 → Nat} {k5 : T5 → Nat} {m1 : T1 → World → Prop} {m2 : T2 → World → Prop} {m3 : T3 → World → Prop} {m4 : T4 → World → Prop} {m5 : T5 → World → Prop}
    (ht : P.underlying t = some (.struct #[f1, f2, f3, f4, f5])) (hc : contig P [f1, f2, f3, f4, f5] 0 (P.cellsOf t) = true) (h1 : FlatR P f1.type c1 o1 k1 m1) (h2 : FlatR P f2.type c2 o2 k2 m2) (h3 : FlatR P f3.type c3 o3 k3 m3) (h4 : FlatR P f4.type c4 o4 k4 m4) (h5 : FlatR P f5.type c5 o5 k5 m5) :
    FlatR P t (fun a : T1 × T2 × T3 × T4 × T5 => c1 a.1 ++ c2 a.2.1 ++ c3 a.2.2.1 ++ c4 a.2.2.2.1 ++ c5 a.2.2.2.2) (fun a => o1 a.1 ∧ o2 a.2.1 ∧ o3 a.2.2.1 ∧ o4 a.2.2.2.1 ∧ o5 a.2.2.2.2) (fun a => k1 a.1 + k2 a.2.1 + k3 a.2.2.1 + k4 a.2.2.2.1 + k5 a.2.2.2.2 + 1) (fun a W => m1 a.1 W ∧ m2 a.2.1 W ∧ m3 a.2.2.1 W ∧ m4 a.2.2.2.1 W ∧ m5 a.2.2.2.2 W) :=
  fun H enc W base sp held fuel cs x hx => by
    obtain ⟨n, xs, hx1, hxl, hcs, hf⟩ := struct_partsR ht hc hx
    obtain ⟨y1, e1, t1⟩ := hf 0 f1 rfl
    obtain ⟨y2, e2, t2⟩ := hf 1 f2 rfl
    obtain ⟨y3, e3, t3⟩ := hf 2 f3 rfl
    obtain ⟨y4, e4, t4⟩ := hf 3 f4 rfl
    obtain ⟨y5, e5, t5⟩ := hf 4 f5 rfl
    obtain ⟨a1, p1, q1, r1, s1⟩ := h1 _ _ _ _ _ _ _ _ _ t1
    obtain ⟨a2, p2, q2, r2, s2⟩ := h2 _ _ _ _ _ _ _ _ _ t2
    obtain ⟨a3, p3, q3, r3, s3⟩ := h3 _ _ _ _ _ _ _ _ _ t3
    obtain ⟨a4, p4, q4, r4, s4⟩ := h4 _ _ _ _ _ _ _ _ _ t4
    obtain ⟨a5, p5, q5, r5, s5⟩ := h5 _ _ _ _ _ _ _ _ _ t5
    match xs, hxl, e1, e2, e3, e4, e5 with
    | [z1, z2, z3, z4, z5], _, rfl, rfl, rfl, rfl, rfl =>
      refine ⟨(a1, a2, a3, a4, a5), ?_, ⟨q1, q2, q3, q4, q5⟩, ?_, s1, s2, s3, s4, s5⟩
      · rw [hcs]; simp [p1, p2, p3, p4, p5]
      · rw [hx1]; simp only [List.map_cons, List.map_nil, Rows.uptoBulk, Rows.uptoBulkAll]; omega
theorem sum_le {H : Type} {T : Type} {wt : T → Nat} : ∀ (l : List T) (ds : List (DataW H)), l.length = ds.length → (∀ i (h : i < l.length) (h' : i < ds.length), wt l[i] ≤ Rows.uptoBulk ds[i]) → (l.map wt).sum ≤ Rows.uptoBulkAll ds
  | [], ds, _, _ => by simp
  | a :: l, [], hl, _ => by simp at hl
  | a :: l, d :: ds, hl, h => by
    have h0 := h 0 (by simp) (by simp)
    have ih := sum_le l ds (by simpa using hl) (fun i h1 h2 => h (i + 1) (by simp only [List.length_cons]; omega) (by simp only [List.length_cons]; omega))
    simp only [List.map_cons, List.sum_cons, Rows.uptoBulkAll] at *
    simp at h0
    omega
/-- A slice's header and what it reads as. -/
structure Sd (T : Type) where
  A : Option Addr
  l : List T
  c : Nat
def Sd.cells {T : Type} (a : Sd T) : List Value := [.slice a.A a.l.length a.c]
theorem slice_partsR {H : Type} {enc : TypeId × Value → H} {W : World} {base : Nat} {sp : Nat → Bool} {held : Bool} {fuel : Nat} {t e : TypeId} {cs : List Value} {x : DataW H × List MemPlace} {T : Type} {cells : T → List Value} {ok : T → Prop} {wt : T → Nat} {mem : T → World → Prop} {sz : Nat}
    (ht : P.underlying t = some (.slice e)) (hsz : P.cellsOf e = sz) (hp : 0 < sz) (hf : FlatR P e cells ok wt mem) (hl : ∀ a, ok a → (cells a).length = sz) (hx : DataW.trod enc P W base sp held fuel t cs = some x) :
    ∃ a : Sd T, cs = a.cells ∧ (a.l.length ≤ a.c ∧ ∀ y ∈ a.l, ok y) ∧ (a.l.map wt).sum + 1 ≤ Rows.uptoBulk x.1 ∧ (Row W a.A (a.l.flatMap cells) ∧ ∀ y ∈ a.l, mem y W) := by
  rcases DataW.trod_slice ht hx with ⟨h1, h2⟩ | ⟨a, len, cap, elems, rest, n, _, h1, h2, _, hlc, _, hlen, hel, _, _⟩
  · subst h1
    exact ⟨⟨none, [], 0⟩, rfl, ⟨Nat.le_refl _, fun x h => by cases h⟩, by simpa using one_le _, .inl rfl, fun x h => by cases h⟩
  · subst h1
    have hD : x.1 = .slice (elems.map (·.1)) (rest.map (·.1)) := congrArg Prod.fst h2
    have hex : ∀ i ∈ List.range len, ∃ y : T, ok y ∧ mem y W ∧ (∀ d, elems[i]? = some d → wt y ≤ Rows.uptoBulk d.1) ∧ ∀ j u, (cells y)[j]? = some u → W.cell? ((a.add (i * sz)).add j) = some u := fun i hi => by
      have hi : i < len := by simpa using hi
      have h3 := hel i hi
      rw [List.getElem?_eq_getElem (by omega), Option.bind_eq_some_iff] at h3
      obtain ⟨cs, hcs, htr⟩ := h3
      obtain ⟨y, rfl, hok, hwt, hm⟩ := hf _ _ _ _ _ _ _ _ _ htr
      refine ⟨y, hok, hm, fun d hd => ?_, fun j u hu => ?_⟩
      · rw [List.getElem?_eq_getElem (by omega)] at hd
        cases hd
        exact hwt
      · obtain ⟨_, hn, hg⟩ := World.cells?_some hcs
        have hj : j < P.cellsOf e := by rw [← hn]; exact (List.getElem?_eq_some_iff.1 hu).1
        rw [← hu, ← hg j hj, hsz]
    obtain ⟨l, hll, hr⟩ := choose_list (fun i (y : T) => ok y ∧ mem y W ∧ (∀ d, elems[i]? = some d → wt y ≤ Rows.uptoBulk d.1) ∧ ∀ j u, (cells y)[j]? = some u → W.cell? ((a.add (i * sz)).add j) = some u) _ hex
    simp only [List.length_range, List.getElem_range] at hll hr
    have hok : ∀ x ∈ l, ok x := fun x hx => by
      obtain ⟨i, hi, rfl⟩ := List.getElem_of_mem hx
      exact (hr i (by omega) hi).1
    refine ⟨⟨some a, l, cap⟩, by show _ = [Value.slice (some a) l.length cap]; rw [hll], ⟨by show l.length ≤ cap; omega, hok⟩, ?_, row_of hp (fun x hx => hl x (hok x hx)) (fun i (h : i < l.length) => (hr i (by omega) h).2.2.2), fun x (hx : x ∈ l) => ?_⟩
    · rw [hD]
      have := sum_le (H := H) (wt := wt) l (elems.map (·.1)) (by rw [List.length_map]; omega) (fun i h h' => by
        have := (hr i (by omega) h).2.2.1 (elems[i]'(by simpa using h')) (List.getElem?_eq_getElem _)
        simpa using this)
      simp only [Rows.uptoBulk]
      show (l.map wt).sum + 1 ≤ _
      omega
    · obtain ⟨i, hi, rfl⟩ := List.getElem_of_mem hx
      exact (hr i (by omega) hi).2.1
theorem fr_slice {t e : TypeId} {T : Type} {cells : T → List Value} {ok : T → Prop} {wt : T → Nat} {mem : T → World → Prop} {sz : Nat} (ht : P.underlying t = some (.slice e)) (hsz : P.cellsOf e = sz) (hp : 0 < sz) (hf : FlatR P e cells ok wt mem) (hl : ∀ a, ok a → (cells a).length = sz) :
    FlatR P t (fun a : Sd T => a.cells) (fun a => a.l.length ≤ a.c ∧ ∀ y ∈ a.l, ok y) (fun a => (a.l.map wt).sum + 1) (fun a W => Row W a.A (a.l.flatMap cells) ∧ ∀ y ∈ a.l, mem y W) :=
  fun H enc W base sp held fuel cs x hx => slice_partsR ht hsz hp hf hl hx
/-- An argument that is a slice. -/
theorem slice_openR {W : World} {r : Reach} {b0 : Nat} {t e : TypeId} {v : Value} {H : Type} {enc : TypeId × Value → H} {base : Nat} {sp : Nat → Bool} {held : Bool} {D : DataW H} {ps : List MemPlace} {T : Type} {cells : T → List Value} {ok : T → Prop} {wt : T → Nat} {mem : T → World → Prop} {sz : Nat}
    (ht : P.underlying t = some (.slice e)) (hsz : P.cellsOf e = sz) (hp : 0 < sz) (hf : FlatR P e cells ok wt mem) (hl : ∀ a, ok a → (cells a).length = sz) (hv : Value.okWide P W r b0 t v) (h : DataW.Trod enc P W base sp held t v D ps) (hb : Rows.uptoBulk D ≤ 1048576) :
    ∃ (A : Option Addr) (l : List T) (c : Nat), v = .slice A l.length c ∧ Row W A (l.flatMap cells) ∧ (∀ x ∈ l, ok x) ∧ (∀ x ∈ l, mem x W) ∧ l.length ≤ c ∧ (l.map wt).sum < 1048576 := by
  obtain ⟨A, m, c, rfl⟩ := okWide_slice ht hv
  obtain ⟨fuel, hx⟩ := h
  have hc : (Value.slice A m c).cells.toList = [.slice A m c] := rfl
  rw [hc] at hx
  obtain ⟨⟨A', l, c'⟩, h1, ⟨h2, h3⟩, h4, h5, h6⟩ := slice_partsR ht hsz hp hf hl hx
  simp only [Sd.cells, List.cons.injEq, Value.slice.injEq, and_true] at h1
  obtain ⟨rfl, rfl, rfl⟩ := h1
  exact ⟨A, l, c, rfl, h5, h3, h6, h2, by simp only at h4 hb; omega⟩
theorem len_sum {T : Type} {wt : T → Nat} (hw : ∀ a, 1 ≤ wt a) : ∀ l : List T, l.length ≤ (l.map wt).sum
  | [] => Nat.le_refl _
  | a :: l => by
    have := len_sum hw l
    have := hw a
    simp only [List.length_cons, List.map_cons, List.sum_cons]
    omega
theorem flatten_sum : ∀ l : List (List Byte), l.flatten.length ≤ (l.map fun s => s.length + 1).sum
  | [] => Nat.le_refl _
  | a :: l => by
    have := flatten_sum l
    simp only [List.flatten_cons, List.length_append, List.map_cons, List.sum_cons]
    omega
end Go.Proofs.Ytnpnphcklmlchaa.Bk
