/- A slice out of a text's bytes, that grows: its row bears a mark past its end. -/
import Derived.Test.YtbfpgigbakhplaaXs
import Derived.Lib.FrozenHead
set_option linter.unusedVariables false
set_option linter.unusedSimpArgs false
namespace Go.Proofs.Ytbfpgigbakhplaa.Vg
open Go.RowKit Go.Lib Go.Proofs.Ytbfpgigbakhplaa.Sx Go.Proofs.Ytbfpgigbakhplaa.Mx Go.Proofs.Ytbfpgigbakhplaa.Bw Go.Proofs.Ytbfpgigbakhplaa.By Go.Proofs.Ytbfpgigbakhplaa.Ap Go.Proofs.Ytbfpgigbakhplaa.Stm
variable {P : Program}
def FzOk (cur : Array Value) (fz : Nat × Nat) : Prop := fz.2 = 0 ∨ cur.size ≤ fz.1
/-- Cells stored in a row that is marked past its end. -/
theorem run_storeG (g o : Nat) (t : TypeId) (fz : Nat × Nat) : ∀ (vs : List Value) (i : Nat) (cur : Array Value) (w : World), w.heap[g]? = some (.cells cur t fz) → FzOk cur fz → o + i + vs.length ≤ cur.size → (∀ v ∈ vs, v.oneCell' = true) →
    (storeCells ⟨g, o, none⟩ vs i).run P w = .ok () (w.setRow g (cur.toList.take (o + i) ++ vs ++ cur.toList.drop (o + i + vs.length)).toArray)
  | [], i, cur, w, hg, _, _, _ => by
    simp only [storeCells, List.append_nil, List.length_nil, Nat.add_zero, List.take_append_drop, Array.toArray_toList]
    rw [setRow_self w g cur t fz hg]
    rfl
  | v :: rest, i, cur, w, hg, hfz, hl, h1 => by
    have hi : o + i < cur.size := by simp at hl; omega
    have hadd : (⟨g, o, none⟩ : Addr).add i = ⟨g, o + i, none⟩ := by unfold Addr.add; split <;> simp_all
    have hcell : w.cell? ⟨g, o + i, none⟩ = some cur[o + i] := by simp [World.cell?, hg, hi]
    have hfro : w.frozen? ⟨g, o + i, none⟩ = false := by
      obtain ⟨lo, hi'⟩ := fz
      simp only [World.frozen?, hg, Bool.and_eq_false_iff, decide_eq_false_iff_not]
      simp only [FzOk] at hfz
      omega
    have hst : (store ((⟨g, o, none⟩ : Addr).add i) v).run P w = .ok () (w.setRow g (cur.setIfInBounds (o + i) v)) := by
      rw [hadd, run_store P w _ v _ (h1 v (by simp)), hcell]
      simp [hfro, setCell_eq_setRow w g (o + i) cur t fz v hg]
    have ih := run_storeG g o t fz rest (i + 1) (cur.setIfInBounds (o + i) v) (w.setRow g (cur.setIfInBounds (o + i) v)) (setRow_heap w g cur _ t _ hg) (by simpa [FzOk] using hfz) (by simp at hl ⊢; omega) (fun x hx => h1 x (by simp [hx]))
    simp only [storeCells, Sem.run_bind, hst, Result.andThen_ok, ih, setRow_setRow]
    congr 3
    have e := list_seg_step cur.toList (o + i) v rest (by simp at hl ⊢; omega)
    simpa [Array.toList_setIfInBounds, Nat.add_assoc] using e

def OwnG (w : World) (e : TypeId) (sz : Nat) (v : Value) (n : Nat) (xs : List Value) : Prop :=
  xs.length = n * sz ∧ ∃ g cap cur fz, v = .slice (some ⟨g, 0, none⟩) n cap ∧ w.heap[g]? = some (.cells cur e fz) ∧ FzOk cur fz ∧ n ≤ cap ∧ cap ≤ maxLen ∧ cur.size = cap * sz ∧ cur.toList.take (n * sz) = xs
def vgI (v : Value) (e : TypeId) (sz k : Nat) (xs : List Value) : Stm.Item where
  own := true
  foot := fun g => OwnB v g
  holds := fun w => OwnG w e sz v k xs
  inb := fun {w} h {g} hg => by
    obtain ⟨_, g', cap, cur, fz, rfl, hc, _⟩ := h
    cases hg
    exact (Array.getElem?_eq_some_iff.1 hc).1
  keep := fun {w w'} h hk => by
    obtain ⟨h1, g', cap, cur, fz, rfl, hc, h3⟩ := h
    exact ⟨h1, g', cap, cur, fz, rfl, (hk g' rfl).trans hc, h3⟩
theorem run_appG {w : World} (t ty e : TypeId) (i : TypeInfo) (z : Value) (size bytes : Nat) (ht : P.underlying t = some (.slice e)) (hi : P.info? e = some i) (hz : i.zero = some z)
    (hsize : i.size = size) (hby : i.bytes = bytes) (hzs : z.cells.size = size) (hsz : 0 < size) (v : Value) (n : Nat) (xs : List Value) (hown : OwnG w e size v n xs)
    (a : Addr) (m c : Nat) (news : List Value) (hl : news.length = m * size) (hnews : ∀ j u, news[j]? = some u → w.cell? (a.add j) = some u) (h1 : ∀ u ∈ news, u.oneCell' = true)
    (h63 : n + m ≤ maxLen) (hbytes : (n + m) * bytes ≤ 140737488355328) :
    ∃ v' w', (Builtin.append_ #[t, t] ty #[v, .slice (some a) m c]).run P w = .ok v' w' ∧ OwnG w' e size v' (n + m) (xs ++ news) ∧ Kp (OwnB v) w w' ∧ (v'.ownBlock = v.ownBlock ∨ v'.ownBlock = some w.heap.size) := by
  obtain ⟨hxl, g, cap, cur, fz, rfl, hg, hfz, hnc, hcm, hcs, htake⟩ := hown
  have hlen : (xs ++ news).length = (n + m) * size := by rw [List.length_append, hxl, hl, Nat.add_mul]
  have hsmall : n + m ≤ 9223372036854775807 := by simp only [maxLen] at h63; omega
  by_cases hroom : n + m ≤ cap
  · have hfit : n * size + news.length ≤ cur.size := by rw [hl, hcs, ← Nat.add_mul]; exact Nat.mul_le_mul_right _ hroom
    have hf := run_firstCells_some (P := P) w size m a m c news hl hnews
    have hst := run_storeG (P := P) g (n * size) e fz news 0 cur w hg hfz (by simpa using hfit) h1
    simp only [Nat.add_zero] at hst
    have hr : (Builtin.append_ #[t, t] ty #[.slice (some ⟨g, 0, none⟩) n cap, .slice (some a) m c]).run P w =
        .ok (.slice (some ⟨g, 0, none⟩) (n + m) cap) (w.setRow g (cur.toList.take (n * size) ++ news ++ cur.toList.drop (n * size + news.length)).toArray) := by
      simp [Builtin.append_, Go.run_underlying ht, sizeOf, typeInfo, hi, hsize, Builtin.lenOf, hroom, hf, Addr.add_lit, hst]
    have hsz' : (cur.toList.take (n * size) ++ news ++ cur.toList.drop (n * size + news.length)).toArray.size = cur.size := by
      simp only [List.size_toArray, List.length_append, List.length_take, List.length_drop, Array.length_toList]
      omega
    refine ⟨_, _, hr, ⟨hlen, g, cap, _, fz, rfl, setRow_heap w g cur _ e _ hg, ?_, hroom, hcm, by rw [hsz', hcs], ?_⟩, kp_setRow _ _ _ |>.mono (fun k hk => by rw [show k = g from hk]; rfl), .inl rfl⟩
    · unfold FzOk at hfz ⊢; rw [hsz']; exact hfz
    · rw [htake, ← hlen]
      exact List.take_left
  · have holds : ∀ j u, xs[j]? = some u → w.cell? ((⟨g, 0, none⟩ : Addr).add j) = some u := fun j u hu => by
      have hadd : (⟨g, 0, none⟩ : Addr).add j = ⟨g, j, none⟩ := by unfold Addr.add; split <;> simp_all
      rw [hadd, cell_of_row w g j cur e fz hg]
      rw [← htake, List.getElem?_take] at hu
      split at hu
      · simpa using hu
      · cases hu
    have hr := run_append_grow (P := P) w t ty e i z ht hi hz ⟨g, 0, none⟩ n cap xs (by rw [hsize]; exact hxl) holds a m c news (by rw [hsize]; exact hl) hnews (by omega) (by omega) (by rw [hby]; exact growslice_fits (by omega) hbytes)
    have hge := grownCap_ge w (n + m) cap e
    have hcm2 : grownCap w (n + m) cap e ≤ maxLen := grownCap_le_maxLen w (n + m) cap e h63
    refine ⟨_, _, hr, ⟨hlen, w.heap.size, _, _, (0, 0), rfl, heap_alloc_new w.drew _, .inl rfl, hge, hcm2, ?_, ?_⟩, ⟨rfl, rfl, rfl, by simp, fun k hk _ => heap_alloc_old w.drew _ hk⟩, .inr rfl⟩
    · simp only [Array.size_append, List.size_toArray, size_zeroCells, hzs, hxl, hl, ← Nat.add_mul]
      congr 1
      omega
    · simp only [Array.toList_append, List.append_assoc]
      rw [← List.append_assoc, ← hlen]
      exact List.take_left
section rules
variable {n : Nat} {Q : Exit → Act → World → Prop} {L : Ctx} {w w0 : World} {M0 M M' : List Stm.Item} {ops : Array Oper} {rest : List Oper} {d : Nat} {ty : TypeId} {pos : String} {af : Array Edge}
/-- A text's bytes as a slice that may grow. -/
theorem st_toBytesG (T : Tab P) {t u e : TypeId} {x : Operand} {s : List Byte} (hw : St w0 M0 M w) (hd : Nat.blt d n = true) (hx : ev L x = some (str s)) (hs : T.ty t = some .string) (hu : T.ty u = some (.slice e)) (he : T.ty e = some (.int .u8)) (hl : s.length ≤ maxLen)
    (h : ∀ v w', Kp No w w' → St w0 M0 (vgI v e 1 s.length (cb s) :: M) w' → Ow P n ops Q rest ((d, v) :: L) w') : Ow P n ops Q (⟨some d, .convert t u x, ty, pos, af, none⟩ :: rest) L w := by
  refine ow_run hd (w' := bytesWorld w e (bs s)) (v := .slice (some ⟨w.heap.size, 0, none⟩) s.length (grownCap w (bs s).size 0 e)) (fun a ha => ?_) (h _ _ (Stm.bytesWorld_kp w e (bs s)) (hw.new (Stm.bytesWorld_kp w e (bs s)) ?_ ?_))
  · unfold execOp
    simp only [ha.ev hx]
    rw [run_ok_bind (Lib.run_convert_string_bytes w t u e (bs s) (T.ty_ok _ _ hs) (T.ty_ok _ _ hu) (T.ty_ok _ _ he)), bs_size]
    rfl
  · have hge := grownCap_ge w (bs s).size 0 e
    have hcm := grownCap_le_maxLen w (bs s).size 0 e (by rw [bs_size]; exact hl)
    have hsz : (bytesCells w e (bs s)).size = grownCap w (bs s).size 0 e := by
      unfold bytesCells
      rw [Array.size_append, Array.size_map, Array.size_replicate]
      have : (bs s).data.size = (bs s).size := rfl
      omega
    refine ⟨by simp, w.heap.size, _, _, _, rfl, bytesWorld_at_new w e (bs s), .inr (Nat.le_refl _), by rw [bs_size] at hge ⊢; exact hge, hcm, by rw [hsz, Nat.mul_one], ?_⟩
    unfold bytesCells
    rw [Nat.mul_one, Array.toList_append]
    have : ((bs s).data.map fun b => Value.int .u8 b.toNat).toList = cb s := by simp [bs, cb, Function.comp_def]
    rw [this]
    exact List.take_left' (by simp)
  · intro g hg
    have : some w.heap.size = some g := hg
    cases this
    exact Nat.le_refl _
/-- append to it. -/
theorem st_appG (T : Tab P) {t e : TypeId} {s x : Operand} {v z : Value} {A : Option Addr} {sz bytes k m c : Nat} {xs news : List Value} (hw : St w0 M0 M w) (hp : Pick (vgI v e sz k xs) M M') (hs : ev L s = some v) (hx : ev L x = some (.slice A m c)) (hr : Row w A news) (ht : T.ty t = some (.slice e)) (hi : infoOf P e = some (some z, sz, bytes)) (hz : z.cells.size = sz) (h0 : 0 < sz) (h0b : 0 < bytes) (hd : Nat.blt d n = true)
    (hne : news ≠ []) (hl : news.length = m * sz) (h1 : oneCells news = true) (hb : (k + m) * bytes ≤ 140737488355328)
    (h : ∀ v' w', St w0 M0 (vgI v' e sz (k + m) (xs ++ news) :: M') w' → Ow P n ops Q rest ((d, v') :: L) w') :
    Ow P n ops Q (⟨some d, .call { callee := .builtin .append, args := #[s, x], argTypes := #[t, t] }, ty, pos, af, none⟩ :: rest) L w := by
  unfold infoOf at hi
  obtain ⟨i, hi', hzz⟩ := Option.map_eq_some_iff.1 hi
  simp only [Prod.mk.injEq] at hzz
  obtain ⟨z1, z2, z3⟩ := hzz
  obtain ⟨g, o, rfl, ha⟩ := Row.some hr hne
  have hk : k + m ≤ (k + m) * bytes := Nat.le_mul_of_pos_right _ h0b
  obtain ⟨v', w', hrun, own', kp, hv⟩ := run_appG (P := P) (w := w) t ty e i z sz bytes (T.ty_ok _ _ ht) hi' z1 z2 z3 hz h0 v k xs (hw.pick hp) ⟨g, o, none⟩ m c news hl (fun j u hu => by rw [add_plain']; exact ha j u hu) (by simpa [oneCells] using h1) (by unfold maxLen; omega) hb
  refine ow_run hd (fun a ha => ?_) (h v' w' ((hw.perm hp.perm).turn .here rfl (kp.mono (fun _ h => h)) own' (fun g hg => ?_)))
  · unfold execOp
    simp only [resolve, List.map_toArray, List.map_cons, List.map_nil, ha.ev hs, ha.ev hx]
    rw [run_ok_bind (w' := w) rfl]
    simp only [invoke, builtin]
    rw [run_ok_bind hrun]
    rfl
  · have hg' : v'.ownBlock = some g := hg
    rcases hv with h | h
    · left; show v.ownBlock = some g; rw [← h]; exact hg'
    · right; rw [h] at hg'; cases hg'; exact Nat.le_refl _
/-- It as a slice to be read. -/
theorem St.vgRow {v : Value} {e : TypeId} {sz k : Nat} {xs : List Value} (hw : St w0 M0 M w) (hp : Pick (vgI v e sz k xs) M M') : ∃ A c, k ≤ c ∧ v = .slice A k c ∧ Row w A xs := by
  obtain ⟨h1, g, cap, cur, fz, rfl, hc, hf, h3, h4, h5, h6⟩ := hw.pick hp
  refine ⟨_, cap, h3, rfl, .inr ⟨g, 0, rfl, fun j v hv => ?_⟩⟩
  rw [Nat.zero_add, cell_of_row w g j cur e fz hc]
  rw [← h6, List.getElem?_take] at hv
  split at hv
  · simpa using hv
  · cases hv
theorem St.frzG {A : Option Addr} {k c : Nat} {e : TypeId} {sz : Nat} {xs : List Value} (hw : St w0 M0 M w) (hp : Put (vgI (.slice A k c) e sz k xs) (rowI A xs) M M') : St w0 M0 M' w :=
  hw.as hp (fun h => by
    have h' : St w [vgI (.slice A k c) e sz k xs] [vgI (.slice A k c) e sz k xs] w := St.start ⟨fun i hi => by rw [List.mem_singleton.1 hi]; exact h, List.pairwise_singleton _ _⟩
    obtain ⟨A', c', _, h1, h2⟩ := St.vgRow h' .here
    cases h1
    exact h2) (fun h => by cases h) (fun g ⟨hne, a, h1, h2⟩ => by subst h1; subst h2; rfl)
end rules
end Go.Proofs.Ytbfpgigbakhplaa.Vg
