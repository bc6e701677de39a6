/- Slices among the arguments: what they read as; how long they can be. -/
import Derived.Test.YtehekgigmbnlfaaDoorAp
import Derived.Test.YtehekgigmbnlfaaDoorFl
set_option linter.unusedVariables false
set_option linter.unusedSimpArgs false
namespace Go.Proofs.YtehekgigmbnlfaaDoor.Ar
open Go.ChangeShapes Go.WideShapes Go.ChangeAt Go.RowKit Go.Proofs.YtehekgigmbnlfaaDoor.Sx Go.Proofs.YtehekgigmbnlfaaDoor.Mx Go.Proofs.YtehekgigmbnlfaaDoor.By Go.Proofs.YtehekgigmbnlfaaDoor.Ap Go.Proofs.YtehekgigmbnlfaaDoor.Fl
variable {P : Program}

/-- Elements that stand one behind the other make a row. -/
theorem row_of {W : World} {a : Addr} {T : Type} {cells : T → List Value} {sz : Nat} {l : List T} (hp : 0 < sz) (hl : ∀ x ∈ l, (cells x).length = sz)
    (hr : ∀ i (h : i < l.length), ∀ j u, (cells l[i])[j]? = some u → W.cell? ((a.add (i * sz)).add j) = some u) : Row W (some a) (l.flatMap cells) := by
  cases hl0 : l with
  | nil => exact .inl rfl
  | cons x0 l0 =>
    have h0 : 0 < l.length := by rw [hl0]; simp
    have hspot : a.spot = none := by
      have h4 := hr 0 h0 0 _ (List.getElem?_eq_getElem (by rw [hl _ (List.getElem_mem h0)]; exact hp))
      simp only [Nat.zero_mul, Addr.add, if_true] at h4
      cases hs : a.spot with
      | none => rfl
      | some _ =>
        unfold World.cell? at h4
        split at h4
        · rw [hs] at h4; simp at h4
        · cases h4
    obtain ⟨g, o, spot⟩ := a
    simp only at hspot
    subst hspot
    rw [← hl0]
    refine .inr ⟨g, o, rfl, fun J u hu => ?_⟩
    have hJ : J < (l.flatMap cells).length := (List.getElem?_eq_some_iff.1 hu).1
    rw [flat_len l hl] at hJ
    have hi : J / sz < l.length := Nat.div_lt_of_lt_mul (by rwa [Nat.mul_comm])
    have hj : J % sz < sz := Nat.mod_lt _ hp
    have hJe : J / sz * sz + J % sz = J := Nat.div_add_mod' J sz
    have h5 := piece_get l hl (J / sz) hi
    have h6 : (cells l[J / sz])[J % sz]? = some u := by
      rw [← h5, List.getElem?_take, if_pos hj, List.getElem?_drop, hJe]
      exact hu
    have h7 := hr (J / sz) hi _ u h6
    simp only [add_plain'] at h7
    rwa [Nat.add_assoc, hJe] at h7

theorem slice_open {W : World} {r : Reach} {b0 : Nat} {t e : TypeId} {v : Value} {H : Type} {enc : TypeId × Value → H} {base : Nat} {sp : Nat → Bool} {held : Bool} {D : DataW H} {ps : List MemPlace} {T : Type} {cells : T → List Value} {ok : T → Prop} {sz : Nat}
    (ht : P.underlying t = some (.slice e)) (hsz : P.cellsOf e = sz) (hp : 0 < sz) (hf : Flat P e cells ok) (hl : ∀ a, ok a → (cells a).length = sz) (hv : Value.okWide P W r b0 t v) (h : DataW.Trod enc P W base sp held t v D ps) :
    ∃ (A : Option Addr) (l : List T) (c : Nat), v = .slice A l.length c ∧ Row W A (l.flatMap cells) ∧ (∀ x ∈ l, ok x) ∧ l.length ≤ c ∧ ((D.weights P t).all (· ≤ reachBytes) = true → l.length * P.bytesOf e ≤ reachBytes) := by
  obtain ⟨A, m, c, rfl⟩ := okWide_slice ht hv
  obtain ⟨fuel, hx⟩ := h
  have hc : (Value.slice A m c).cells.toList = [.slice A m c] := rfl
  rw [hc] at hx
  rcases DataW.trod_slice ht hx with ⟨h1, h2⟩ | ⟨a, len, cap, elems, rest, n, _, h1, h2, _, hlc, _, hlen, hel, _, _⟩
  · simp only [List.cons.injEq, Value.slice.injEq, and_true] at h1
    obtain ⟨rfl, rfl, rfl⟩ := h1
    exact ⟨none, [], 0, rfl, .inl rfl, (fun x (h : x ∈ ([] : List T)) => nomatch h), Nat.le_refl _, fun _ => by rw [List.length_nil, Nat.zero_mul]; exact Nat.zero_le _⟩
  · simp only [List.cons.injEq, Value.slice.injEq, and_true] at h1
    obtain ⟨rfl, rfl, rfl⟩ := h1
    have hex : ∀ i ∈ List.range m, ∃ x : T, ok x ∧ ∀ j u, (cells x)[j]? = some u → W.cell? ((a.add (i * sz)).add j) = some u := fun i hi => by
      have hi : i < m := by simpa using hi
      have h3 := hel i hi
      rw [List.getElem?_eq_getElem (by omega), Option.bind_eq_some_iff] at h3
      obtain ⟨cs, hcs, htr⟩ := h3
      obtain ⟨x, rfl, hok⟩ := hf _ _ _ _ _ _ _ _ _ htr
      refine ⟨x, hok, fun j u hu => ?_⟩
      obtain ⟨_, hn, hg⟩ := World.cells?_some hcs
      have hj : j < P.cellsOf e := by rw [← hn]; exact (List.getElem?_eq_some_iff.1 hu).1
      rw [← hu, ← hg j hj, hsz]
    obtain ⟨l, hll, hr⟩ := choose_list (fun i (x : T) => ok x ∧ ∀ j u, (cells x)[j]? = some u → W.cell? ((a.add (i * sz)).add j) = some u) _ hex
    simp only [List.length_range] at hll hr
    have hok : ∀ x ∈ l, ok x := fun x hx => by
      obtain ⟨i, hi, rfl⟩ := List.getElem_of_mem hx
      exact (hr i (by omega) hi).1
    refine ⟨some a, l, c, by rw [hll], ?_, hok, by omega, fun hw => ?_⟩
    · cases hl0 : l with
      | nil => exact .inl rfl
      | cons x0 l0 =>
        have h0 : 0 < l.length := by rw [hl0]; simp
        have hspot : a.spot = none := by
          have h4 := (hr 0 (by omega) h0).2 0 _ (List.getElem?_eq_getElem (by rw [hl _ (hok _ (List.getElem_mem h0))]; exact hp))
          simp only [List.getElem_range, Nat.zero_mul, Addr.add, if_true] at h4
          cases hs : a.spot with
          | none => rfl
          | some _ =>
            unfold World.cell? at h4
            split at h4
            · rw [hs] at h4; simp at h4
            · cases h4
        obtain ⟨g, o, spot⟩ := a
        simp only at hspot
        subst hspot
        rw [← hl0]
        refine .inr ⟨g, o, rfl, fun J u hu => ?_⟩
        have hJ : J < (l.flatMap cells).length := (List.getElem?_eq_some_iff.1 hu).1
        rw [flat_len l (fun x hx => hl x (hok x hx))] at hJ
        have hi : J / sz < l.length := Nat.div_lt_of_lt_mul (by rwa [Nat.mul_comm])
        have hj : J % sz < sz := Nat.mod_lt _ hp
        have hJe : J / sz * sz + J % sz = J := Nat.div_add_mod' J sz
        have h5 := piece_get l (fun x hx => hl x (hok x hx)) (J / sz) hi
        have h6 : (cells l[J / sz])[J % sz]? = some u := by
          rw [← h5, List.getElem?_take, if_pos hj, List.getElem?_drop, hJe]
          exact hu
        have h7 := (hr (J / sz) (by omega) hi).2 _ u h6
        simp only [List.getElem_range, add_plain'] at h7
        rwa [Nat.add_assoc, hJe] at h7
    · have : D = .slice (elems.map (·.1)) (rest.map (·.1)) := congrArg Prod.fst h2
      subst this
      unfold DataW.weights at hw
      rw [ht] at hw
      simp only [List.all_cons, Bool.and_eq_true, decide_eq_true_eq, List.length_map] at hw
      rw [hll]
      refine Nat.le_trans ?_ hw.1
      exact Nat.mul_le_mul_right _ (by omega)

/-- The first argument's weights, and those behind it. -/
theorem weights_cons {H : Type} {t : TypeId} {ts : List TypeId} {d : DataW H} {ds : List (DataW H)} (h : (DataW.weightsEach P (t :: ts) (d :: ds)).all (· ≤ reachBytes) = true) : (d.weights P t).all (· ≤ reachBytes) = true ∧ (DataW.weightsEach P ts ds).all (· ≤ reachBytes) = true := by
  rw [DataW.weightsEach, List.all_append, Bool.and_eq_true] at h
  exact h

theorem str_open {W : World} {r : Reach} {b0 : Nat} {t : TypeId} {v : Value} {H : Type} {enc : TypeId × Value → H} {base : Nat} {sp : Nat → Bool} {held : Bool} {D : DataW H} {ps : List MemPlace}
    (ht : P.underlying t = some .string) (hv : Value.okWide P W r b0 t v) (h : DataW.Trod enc P W base sp held t v D ps) : ∃ s : List Byte, v = str s ∧ s.length ≤ 9223372036854775807 ∧ ((D.weights P t).all (· ≤ reachBytes) = true → s.length ≤ reachBytes) := by
  obtain ⟨s, rfl, rfl, _, hs⟩ := Go.ChangeMaps.open_string ht hv h
  have hm : maxLen = 9223372036854775807 := by decide
  have hl : (ofBA s).length = s.size := by rw [← bs_size, bs_ofBA]
  refine ⟨ofBA s, by show Value.string s = .string (bs (ofBA s)); rw [bs_ofBA], by rw [hl]; omega, fun hw => ?_⟩
  unfold DataW.weights at hw
  rw [hl]
  have h2 := List.all_eq_true.1 hw s.data.toList.length (by simp)
  have h3 : s.data.toList.length ≤ reachBytes := of_decide_eq_true h2
  rw [Array.length_toList] at h3
  exact h3

theorem flat_cb (l : List Byte) : (l.flatMap fun b : Byte => [Value.int .u8 b.toNat]) = cb l := by
  induction l with
  | nil => rfl
  | cons x l ih => rw [List.flatMap_cons, ih]; rfl
/-- An array of bytes as an argument. -/
theorem flat_bytes {t e : TypeId} {n : Nat} (ht : P.underlying t = some (.array n e)) (he : P.underlying e = some (.int .u8)) (hc : P.cellsOf t = n * P.cellsOf e) : Flat P t cb (fun l : List Byte => l.length = n) :=
  (flat_array (cells := fun b : Byte => [Value.int .u8 b.toNat]) ht hc (flat_u8 he)).map id (fun l h => ⟨flat_cb l, h.1⟩)
end Go.Proofs.YtehekgigmbnlfaaDoor.Ar
