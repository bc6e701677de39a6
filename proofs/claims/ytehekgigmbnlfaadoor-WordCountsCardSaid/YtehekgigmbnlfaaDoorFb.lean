/- What an argument without pointers is made of, within the reach: as Fl, where the weights are known to be small. -/
import Derived.Test.YtehekgigmbnlfaaDoorAr
set_option linter.unusedVariables false
set_option linter.unusedSimpArgs false
namespace Go.Proofs.YtehekgigmbnlfaaDoor.Fb
open Go.ChangeShapes Go.WideShapes Go.ChangeAt Go.RowKit Go.Proofs.YtehekgigmbnlfaaDoor.Sx Go.Proofs.YtehekgigmbnlfaaDoor.Mx Go.Proofs.YtehekgigmbnlfaaDoor.By Go.Proofs.YtehekgigmbnlfaaDoor.Ap Go.Proofs.YtehekgigmbnlfaaDoor.Fl Go.Proofs.YtehekgigmbnlfaaDoor.Ar
variable {P : Program}

def Small {H : Type} (P : Program) (t : TypeId) (d : DataW H) : Prop := (d.weights P t).all (· ≤ reachBytes) = true
/-- Whatever reads at type t, and is within reach, has the cells of a datum. -/
def FlatB (P : Program) (t : TypeId) {T : Type} (cells : T → List Value) (ok : T → Prop) : Prop :=
  ∀ (H : Type) (enc : TypeId × Value → H) (W : World) (base : Nat) (sp : Nat → Bool) (held : Bool) (fuel : Nat) (cs : List Value) (x : DataW H × List MemPlace),
    DataW.trod enc P W base sp held fuel t cs = some x → Small P t x.1 → ∃ a : T, cs = cells a ∧ ok a
theorem FlatB.of {t : TypeId} {T : Type} {cells : T → List Value} {ok : T → Prop} (h : Flat P t cells ok) : FlatB P t cells ok := fun H enc W base sp held fuel cs x hx _ => h H enc W base sp held fuel cs x hx
theorem FlatB.map {t : TypeId} {T U : Type} {cells : T → List Value} {ok : T → Prop} {cells' : U → List Value} {ok' : U → Prop} (h : FlatB P t cells ok) (g : T → U) (hg : ∀ a, ok a → cells a = cells' (g a) ∧ ok' (g a)) : FlatB P t cells' ok' :=
  fun H enc W base sp held fuel cs x hx hs => by
    obtain ⟨a, rfl, ha⟩ := h H enc W base sp held fuel cs x hx hs
    exact ⟨g a, (hg a ha).1, (hg a ha).2⟩
theorem fb_string {t : TypeId} (ht : P.underlying t = some .string) : FlatB P t (fun s : List Byte => [str s]) (fun s => s.length ≤ reachBytes) :=
  fun H enc W base sp held fuel cs x hx hs => by
    obtain ⟨s, rfl, rfl, _⟩ := DataW.trod_string ht hx
    refine ⟨ofBA s, by show [Value.string s] = [.string (bs (ofBA s))]; rw [bs_ofBA], ?_⟩
    unfold Small DataW.weights at hs
    have h2 := List.all_eq_true.1 hs s.data.toList.length (by simp)
    have h3 : s.data.toList.length ≤ reachBytes := of_decide_eq_true h2
    rw [Array.length_toList] at h3
    show (ofBA s).length ≤ reachBytes
    rw [← bs_size, bs_ofBA]
    exact h3

theorem each_get {H : Type} : ∀ {ts : List TypeId} {ds : List (DataW H)} {i : Nat} {t : TypeId} {d : DataW H}, (DataW.weightsEach P ts ds).all (· ≤ reachBytes) = true → ts[i]? = some t → ds[i]? = some d → Small P t d
  | [], _, i, t, d, _, h, _ => by simp at h
  | _ :: _, [], i, t, d, _, _, h => by simp at h
  | t0 :: ts, d0 :: ds, 0, t, d, h, h1, h2 => by
    simp only [List.getElem?_cons_zero, Option.some.injEq] at h1 h2
    subst h1
    subst h2
    exact (weights_cons h).1
  | t0 :: ts, d0 :: ds, i + 1, t, d, h, h1, h2 => each_get (weights_cons h).2 (by simpa using h1) (by simpa using h2)
theorem all_get {H : Type} {e : TypeId} : ∀ {ds : List (DataW H)} {d : DataW H}, (DataW.weightsAll P e ds).all (· ≤ reachBytes) = true → d ∈ ds → Small P e d
  | [], d, _, h => by simp at h
  | d0 :: ds, d, h, hm => by
    rw [DataW.weightsAll, List.all_append, Bool.and_eq_true] at h
    rcases List.mem_cons.1 hm with rfl | hm
    · exact h.1
    · exact all_get h.2 hm

/-- A struct's cells are its fields', each of which reads, within reach. -/
theorem struct_partsB {H : Type} {enc : TypeId × Value → H} {W : World} {base : Nat} {sp : Nat → Bool} {held : Bool} {fuel : Nat} {t : TypeId} {fs : Array Field} {cs : List Value} {x : DataW H × List MemPlace} (ht : P.underlying t = some (.struct fs))
    (hc : contig P fs.toList 0 (P.cellsOf t) = true) (hx : DataW.trod enc P W base sp held fuel t cs = some x) (hs : Small P t x.1) :
    ∃ n, cs = (fs.toList.map fun f => (cs.drop f.offset).take (P.cellsOf f.type)).flatten ∧ ∀ f ∈ fs.toList, ∃ y, DataW.trod enc P W base sp held n f.type ((cs.drop f.offset).take (P.cellsOf f.type)) = some y ∧ Small P f.type y.1 := by
  obtain ⟨xs, n, _, rfl, hlen, hxl, hi⟩ := DataW.trod_struct ht hx
  refine ⟨n, ?_, fun f hf => ?_⟩
  · have := fields_of cs fs.toList 0 (P.cellsOf t) hc hlen
    simpa using this
  · obtain ⟨i, hi', rfl⟩ := List.getElem_of_mem hf
    have hsz : i < fs.size := by simpa using hi'
    have h1 := hi i fs[i] (by simp [hsz])
    rw [List.getElem?_eq_getElem (by omega)] at h1
    unfold Small DataW.weights at hs
    rw [ht] at hs
    have h2 : Small P fs[i].type (xs[i]'(by omega)).1 := each_get hs (i := i) (by simp [hsz]) (by simp [show i < xs.length from by omega])
    exact ⟨_, by simpa using h1, by simpa using h2⟩

theorem fb_struct2 {t : TypeId} {f1 f2 : Field} {T1 T2 : Type} {c1 : T1 → List Value} {c2 : T2 → List Value} {o1 : T1 → Prop} {o2 : T2 → Prop} (ht : P.underlying t = some (.struct #[f1, f2])) (hc : contig P [f1, f2] 0 (P.cellsOf t) = true)
    (h1 : FlatB P f1.type c1 o1) (h2 : FlatB P f2.type c2 o2) : FlatB P t (fun a : T1 × T2 => c1 a.1 ++ c2 a.2) (fun a => o1 a.1 ∧ o2 a.2) :=
  fun H enc W base sp held fuel cs x hx hs => by
    obtain ⟨n, hcs, hf⟩ := struct_partsB ht hc hx hs
    obtain ⟨y1, hy1, s1⟩ := hf f1 (by simp)
    obtain ⟨y2, hy2, s2⟩ := hf f2 (by simp)
    obtain ⟨a1, e1, k1⟩ := h1 _ _ _ _ _ _ _ _ _ hy1 s1
    obtain ⟨a2, e2, k2⟩ := h2 _ _ _ _ _ _ _ _ _ hy2 s2
    refine ⟨(a1, a2), ?_, k1, k2⟩
    rw [hcs]; simp [e1, e2]
theorem fb_struct3 {t : TypeId} {f1 f2 f3 : Field} {T1 T2 T3 : Type} {c1 : T1 → List Value} {c2 : T2 → List Value} {c3 : T3 → List Value} {o1 : T1 → Prop} {o2 : T2 → Prop} {o3 : T3 → Prop} (ht : P.underlying t = some (.struct #[f1, f2, f3])) (hc : contig P [f1, f2, f3] 0 (P.cellsOf t) = true)
    (h1 : FlatB P f1.type c1 o1) (h2 : FlatB P f2.type c2 o2) (h3 : FlatB P f3.type c3 o3) : FlatB P t (fun a : T1 × T2 × T3 => c1 a.1 ++ c2 a.2.1 ++ c3 a.2.2) (fun a => o1 a.1 ∧ o2 a.2.1 ∧ o3 a.2.2) :=
  fun H enc W base sp held fuel cs x hx hs => by
    obtain ⟨n, hcs, hf⟩ := struct_partsB ht hc hx hs
    obtain ⟨y1, hy1, s1⟩ := hf f1 (by simp)
    obtain ⟨y2, hy2, s2⟩ := hf f2 (by simp)
    obtain ⟨y3, hy3, s3⟩ := hf f3 (by simp)
    obtain ⟨a1, e1, k1⟩ := h1 _ _ _ _ _ _ _ _ _ hy1 s1
    obtain ⟨a2, e2, k2⟩ := h2 _ _ _ _ _ _ _ _ _ hy2 s2
    obtain ⟨a3, e3, k3⟩ := h3 _ _ _ _ _ _ _ _ _ hy3 s3
    refine ⟨(a1, a2, a3), ?_, k1, k2, k3⟩
    rw [hcs]; simp [e1, e2, e3]
theorem fb_struct5 {t : TypeId} {f1 f2 f3 f4 f5 : Field} {T1 T2 T3 T4 T5 : Type} {c1 : T1 → List Value} {c2 : T2 → List Value} {c3 : T3 → List Value} {c4 : T4 → List Value} {c5 : T5 → List Value} {o1 : T1 → Prop} {o2 : T2 → Prop} {o3 : T3 → Prop} {o4 : T4 → Prop} {o5 : T5 → Prop} (ht : P.underlying t = some (.struct #[f1, f2, f3, f4, f5])) (hc : contig P [f1, f2, f3, f4, f5] 0 (P.cellsOf t) = true)
    (h1 : FlatB P f1.type c1 o1) (h2 : FlatB P f2.type c2 o2) (h3 : FlatB P f3.type c3 o3) (h4 : FlatB P f4.type c4 o4) (h5 : FlatB P f5.type c5 o5) : FlatB P t (fun a : T1 × T2 × T3 × T4 × T5 => c1 a.1 ++ c2 a.2.1 ++ c3 a.2.2.1 ++ c4 a.2.2.2.1 ++ c5 a.2.2.2.2) (fun a => o1 a.1 ∧ o2 a.2.1 ∧ o3 a.2.2.1 ∧ o4 a.2.2.2.1 ∧ o5 a.2.2.2.2) :=
  fun H enc W base sp held fuel cs x hx hs => by
    obtain ⟨n, hcs, hf⟩ := struct_partsB ht hc hx hs
    obtain ⟨y1, hy1, s1⟩ := hf f1 (by simp)
    obtain ⟨y2, hy2, s2⟩ := hf f2 (by simp)
    obtain ⟨y3, hy3, s3⟩ := hf f3 (by simp)
    obtain ⟨y4, hy4, s4⟩ := hf f4 (by simp)
    obtain ⟨y5, hy5, s5⟩ := hf f5 (by simp)
    obtain ⟨a1, e1, k1⟩ := h1 _ _ _ _ _ _ _ _ _ hy1 s1
    obtain ⟨a2, e2, k2⟩ := h2 _ _ _ _ _ _ _ _ _ hy2 s2
    obtain ⟨a3, e3, k3⟩ := h3 _ _ _ _ _ _ _ _ _ hy3 s3
    obtain ⟨a4, e4, k4⟩ := h4 _ _ _ _ _ _ _ _ _ hy4 s4
    obtain ⟨a5, e5, k5⟩ := h5 _ _ _ _ _ _ _ _ _ hy5 s5
    refine ⟨(a1, a2, a3, a4, a5), ?_, k1, k2, k3, k4, k5⟩
    rw [hcs]; simp [e1, e2, e3, e4, e5]

theorem agg_openB {W : World} {r : Reach} {b0 : Nat} {t : TypeId} {v : Value} {d : TypeDesc} {H : Type} {enc : TypeId × Value → H} {base : Nat} {sp : Nat → Bool} {held : Bool} {D : DataW H} {ps : List MemPlace} {T : Type} {cells : T → List Value} {ok : T → Prop}
    (ht : P.underlying t = some d) (hd : (match d with | .struct _ | .array _ _ => true | _ => false) = true) (hf : FlatB P t cells ok) (hv : Value.okWide P W r b0 t v) (h : DataW.Trod enc P W base sp held t v D ps) (hs : (D.weights P t).all (· ≤ reachBytes) = true) :
    ∃ a : T, v = .agg (cells a).toArray ∧ ok a := by
  obtain ⟨cs, rfl⟩ : ∃ cs, v = .agg cs := by
    unfold Value.okWide at hv
    rw [ht] at hv
    cases d <;> simp at hd hv <;> exact ⟨_, hv.choose_spec.1⟩
  obtain ⟨fuel, hx⟩ := h
  obtain ⟨a, ha, hok⟩ := hf _ _ _ _ _ _ _ _ _ hx hs
  refine ⟨a, ?_, hok⟩
  rw [← ha]; simp [Value.cells]

theorem slice_openB {W : World} {r : Reach} {b0 : Nat} {t e : TypeId} {v : Value} {H : Type} {enc : TypeId × Value → H} {base : Nat} {sp : Nat → Bool} {held : Bool} {D : DataW H} {ps : List MemPlace} {T : Type} {cells : T → List Value} {ok : T → Prop} {sz : Nat}
    (ht : P.underlying t = some (.slice e)) (hsz : P.cellsOf e = sz) (hp : 0 < sz) (hf : FlatB P e cells ok) (hl : ∀ a, ok a → (cells a).length = sz) (hv : Value.okWide P W r b0 t v) (h : DataW.Trod enc P W base sp held t v D ps) (hw : (D.weights P t).all (· ≤ reachBytes) = true) :
    ∃ (A : Option Addr) (l : List T) (c : Nat), v = .slice A l.length c ∧ Row W A (l.flatMap cells) ∧ (∀ x ∈ l, ok x) ∧ l.length ≤ c ∧ l.length * P.bytesOf e ≤ reachBytes := by
  obtain ⟨A, m, c, rfl⟩ := okWide_slice ht hv
  obtain ⟨fuel, hx⟩ := h
  have hc : (Value.slice A m c).cells.toList = [.slice A m c] := rfl
  rw [hc] at hx
  rcases DataW.trod_slice ht hx with ⟨h1, h2⟩ | ⟨a, len, cap, elems, rest, n, _, h1, h2, _, hlc, _, hlen, hel, _, _⟩
  · simp only [List.cons.injEq, Value.slice.injEq, and_true] at h1
    obtain ⟨rfl, rfl, rfl⟩ := h1
    exact ⟨none, [], 0, rfl, .inl rfl, (fun x (h : x ∈ ([] : List T)) => nomatch h), Nat.le_refl _, by rw [List.length_nil, Nat.zero_mul]; exact Nat.zero_le _⟩
  · simp only [List.cons.injEq, Value.slice.injEq, and_true] at h1
    obtain ⟨rfl, rfl, rfl⟩ := h1
    have hD : D = .slice (elems.map (·.1)) (rest.map (·.1)) := congrArg Prod.fst h2
    subst hD
    unfold DataW.weights at hw
    rw [ht] at hw
    simp only [List.all_cons, List.all_append, Bool.and_eq_true, decide_eq_true_eq, List.length_map] at hw
    have hex : ∀ i ∈ List.range m, ∃ x : T, ok x ∧ ∀ j u, (cells x)[j]? = some u → W.cell? ((a.add (i * sz)).add j) = some u := fun i hi => by
      have hi : i < m := by simpa using hi
      have h3 := hel i hi
      rw [List.getElem?_eq_getElem (by omega), Option.bind_eq_some_iff] at h3
      obtain ⟨cs, hcs, htr⟩ := h3
      have hsm : Small P e (elems[i]'(by omega)).1 := all_get hw.2.1 (List.mem_map.2 ⟨elems[i]'(by omega), List.getElem_mem _, rfl⟩)
      obtain ⟨x, rfl, hok⟩ := hf _ _ _ _ _ _ _ _ _ htr hsm
      refine ⟨x, hok, fun j u hu => ?_⟩
      obtain ⟨_, hn, hg⟩ := World.cells?_some hcs
      have hj : j < P.cellsOf e := by rw [← hn]; exact (List.getElem?_eq_some_iff.1 hu).1
      rw [← hu, ← hg j hj, hsz]
    obtain ⟨l, hll, hr⟩ := choose_list (fun i (x : T) => ok x ∧ ∀ j u, (cells x)[j]? = some u → W.cell? ((a.add (i * sz)).add j) = some u) _ hex
    simp only [List.length_range] at hll hr
    have hok : ∀ x ∈ l, ok x := fun x hx => by
      obtain ⟨i, hi, rfl⟩ := List.getElem_of_mem hx
      exact (hr i (by omega) hi).1
    refine ⟨some a, l, c, by rw [hll], row_of hp (fun x hx => hl x (hok x hx)) (fun i h => ?_), hok, by omega, ?_⟩
    · have := (hr i (by omega) h).2
      simpa using this
    · rw [hll]
      refine Nat.le_trans ?_ hw.1
      exact Nat.mul_le_mul_right _ (by omega)
end Go.Proofs.YtehekgigmbnlfaaDoor.Fb
