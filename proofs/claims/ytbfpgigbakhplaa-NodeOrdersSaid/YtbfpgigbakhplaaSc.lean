/- Slices of slices, copies between slices, and what is put behind a slice without room. -/
import Derived.Test.YtbfpgigbakhplaaXs
import Derived.Test.YtbfpgigbakhplaaAs
set_option linter.unusedVariables false
set_option linter.unusedSimpArgs false
namespace Go.Proofs.Ytbfpgigbakhplaa.Sc
open Go.RowKit Go.Lib Go.Proofs.Ytbfpgigbakhplaa.Sx Go.Proofs.Ytbfpgigbakhplaa.Mx Go.Proofs.Ytbfpgigbakhplaa.Bw Go.Proofs.Ytbfpgigbakhplaa.By Go.Proofs.Ytbfpgigbakhplaa.Ap Go.Proofs.Ytbfpgigbakhplaa.Stm Go.Proofs.Ytbfpgigbakhplaa.As
variable {P : Program} {n : Nat} {Q : Exit → Act → World → Prop} {L : Ctx} {w w0 : World} {M0 M M' : List Stm.Item} {ops : Array Oper} {rest : List Oper} {d : Nat} {ty : TypeId} {pos : String} {af : Array Edge}
/-- Where a piece of a slice lies. -/
def sA (A : Option Addr) (l m k : Nat) : Option Addr := if m = l then A else A.map (·.add (l * k))
theorem sA_row {A : Option Addr} {l m k : Nat} {cs : List Value} (h : Row w A cs) (hm : m = l → cs.length ≤ l * k) : Row w (sA A l m k) (cs.drop (l * k)) := by
  by_cases hml : m = l
  · exact .inl (List.drop_of_length_le (hm hml))
  · rcases h with h | ⟨g, o, rfl, ha⟩
    · exact .inl (by rw [h]; exact List.drop_nil)
    · refine .inr ⟨g, o + l * k, by simp [sA, hml, add_plain'], fun j v hv => ?_⟩
      rw [Nat.add_assoc]
      exact ha _ v (by rw [← hv, List.getElem?_drop])
theorem row_take {A : Option Addr} {cs : List Value} (h : Row w A cs) (m : Nat) : Row w A (cs.take m) := by
  rcases h with h | ⟨g, o, rfl, ha⟩
  · exact .inl (by rw [h]; exact List.take_nil)
  · exact .inr ⟨g, o, rfl, ha.take m⟩
theorem sA_zero (A : Option Addr) (m k : Nat) : sA A 0 m k = A := by
  unfold sA
  split
  · rfl
  · cases A with
    | none => rfl
    | some a => simp [Addr.add]
theorem ow_sliceSl (T : Tab P) {t e : TypeId} {x : Operand} {lo hi : Option Operand} {vlo vhi : Option Value} {A : Option Addr} {k len cap l h : Nat} (hd : Nat.blt d n = true) (hx : ev L x = some (.slice A len cap)) (hlo : boundV L lo vlo) (hhi : boundV L hi vhi) (ht : T.ty t = some (.slice e)) (hz : T.sz e = some k)
    (hl : lowOf vlo = some (l : Int)) (hh : highOf len vhi = some (h : Int)) (h1 : l ≤ h) (h2 : h ≤ cap) (h3 : len ≤ cap)
    (hk : Ow P n ops Q rest ((d, .slice (sA A l cap k) (h - l) (cap - l)) :: L) w) : Ow P n ops Q (⟨some d, .slice t x lo hi none, ty, pos, af, none⟩ :: rest) L w :=
  ow_run hd (fun a ha => by
    unfold execOp
    simp only [ha.ev hx, boundV_ok ha hlo, boundV_ok ha hhi, Option.map_none, Instr.sliceAt]
    rw [run_ok_bind (a := .slice (sA A l cap k) (h - l) (cap - l)) (w' := w) (by
      rw [run_ok_bind (Go.run_underlying (T.ty_ok _ _ ht) w)]
      simp only [Instr.slice]
      rw [run_ok_bind (Go.run_underlying (T.ty_ok _ _ ht) w)]
      simp only
      rw [run_ok_bind (run_bounds (isS := true) hl hh h1 h2 h3)]
      simp only
      rw [run_ok_bind (Mx.run_sizeOf (T.sz_ok _ _ hz) w)]
      rfl)]
    rfl) hk
/-- x[:h:m]. -/
theorem ow_slice3 (T : Tab P) {t e : TypeId} {x yh ym : Operand} {A : Option Addr} {k len cap h m : Nat} {kh km : IntKind} (hd : Nat.blt d n = true) (hx : ev L x = some (.slice A len cap)) (hh : ev L yh = some (.int kh (h : Int))) (hm : ev L ym = some (.int km (m : Int))) (ht : T.ty t = some (.slice e)) (hz : T.sz e = some k)
    (h1 : h ≤ m) (h2 : m ≤ cap)
    (hk : Ow P n ops Q rest ((d, .slice A h m) :: L) w) : Ow P n ops Q (⟨some d, .slice t x none (some yh) (some ym), ty, pos, af, none⟩ :: rest) L w :=
  ow_run hd (fun a ha => by
    unfold execOp
    simp only [ha.ev hx, ha.ev hh, ha.ev hm, Option.map_none, Option.map_some, Instr.sliceAt]
    rw [run_ok_bind (a := .slice A h m) (w' := w) (by
      rw [run_ok_bind (Go.run_underlying (T.ty_ok _ _ ht) w)]
      simp only [Instr.slice]
      rw [run_ok_bind (Go.run_underlying (T.ty_ok _ _ ht) w)]
      simp only
      rw [run_ok_bind (a := (0, h, m)) (w' := w) (by
        unfold Instr.sliceBounds
        simp only
        have b1 := run_bound (P := P) (w := w) (k := km) (i := (m : Int)) (y := cap) BoundsCode.slice3Acap (by omega) (by omega)
        have b2 := run_bound (P := P) (w := w) (k := kh) (i := (h : Int)) (y := m) BoundsCode.slice3B (by omega) (by omega)
        simp only [Int.toNat_natCast] at b1 b2
        simp only [if_true]
        rw [run_ok_bind b1, run_ok_bind b2]
        rfl)]
      simp only
      rw [run_ok_bind (Mx.run_sizeOf (T.sz_ok _ _ hz) w)]
      have := sA_zero A m k
      unfold sA at this
      rw [Nat.sub_zero, Nat.sub_zero]
      simp only [this]
      rfl)]
    rfl) hk
/-- copy: cells that lie somewhere into a slice of a block. -/
theorem ow_copyAt (T : Tab P) {dT sT e tb : TypeId} {x y : Operand} {g o gs os dl dc sl sc k : Nat} {cs ns : List Value} (hb : Blk w g tb cs) (hs : At w gs os ns) (hd : Nat.blt d n = true) (hx : ev L x = some (.slice (some ⟨g, o, none⟩) dl dc)) (hy : ev L y = some (.slice (some ⟨gs, os, none⟩) sl sc)) (ht : T.ty dT = some (.slice e)) (hz : T.sz e = some k)
    (hn : ns.length = Nat.min sl dl * k) (hfit : o + ns.length ≤ cs.length) (h1 : oneCells ns = true)
    (h : ∀ w', Kp (Only g) w w' → Blk w' g tb (splice cs o ns) → w'.heap.size = w.heap.size → Ow P n ops Q rest ((d, .int .i64 ((Nat.min sl dl : Nat) : Int)) :: L) w') :
    Ow P n ops Q (⟨some d, .call { callee := .builtin .copy, args := #[x, y], argTypes := #[dT, sT] }, ty, pos, af, none⟩ :: rest) L w :=
  ow_run hd (w' := w.setRow g (splice cs o ns).toArray) (fun a ha => by
    have hst := run_storeCells_at P g o tb ns 0 cs.toArray w hb (by simpa using hfit) (by simpa [oneCells] using h1)
    have hld := run_loadAt (P := P) hs (Nat.min sl dl * k) hn.symm
    unfold execOp
    simp only [resolve, List.map_toArray, List.map_cons, List.map_nil, ha.ev hx, ha.ev hy]
    rw [run_ok_bind (w' := w) rfl]
    simp only [invoke, builtin]
    rw [run_ok_bind (a := .int .i64 ((Nat.min sl dl : Nat) : Int)) (w' := w.setRow g (splice cs o ns).toArray) (by
      unfold Builtin.copy_
      simp only [List.getElem?_toArray, List.getElem?_cons_zero, List.getElem?_cons_succ]
      rw [run_ok_bind (Go.run_underlying (T.ty_ok _ _ ht) w)]
      simp only [Builtin.lenOf]
      rw [run_ok_bind (a := sl) (w' := w) rfl, run_ok_bind (Mx.run_sizeOf (T.sz_ok _ _ hz) w)]
      simp only [Builtin.firstCells]
      rw [run_ok_bind hld]
      simp only
      rw [run_ok_bind (a := ()) (w' := w.setRow g (splice cs o ns).toArray) (by simpa [splice] using hst)]
      rfl)]
    rfl) (h _ (kp_setRow _ _ _) (setRow_heap w g _ _ _ _ hb) (by simp))
/-- append of elements to a slice without room: a slice of one's own. -/
theorem st_appFull (T : Tab P) {t e : TypeId} {s x : Operand} {z : Value} {A : Option Addr} {g o sz bytes k m cx : Nat} {olds news : List Value} (hw : St w0 M0 M w) (hs : ev L s = some (.slice A k k)) (hro : Row w A olds) (hx : ev L x = some (.slice (some ⟨g, o, none⟩) m cx)) (hrn : At w g o news) (ht : T.ty t = some (.slice e)) (hi : infoOf P e = some (some z, sz, bytes)) (hzs : z.cells.size = sz) (h0 : 0 < sz) (h0b : 0 < bytes) (hd : Nat.blt d n = true)
    (hlo : olds.length = k * sz) (hl : news.length = m * sz) (hm : 0 < m) (hb : (k + m) * bytes ≤ 140737488355328)
    (h : ∀ v' w', Kp No w w' → St w0 M0 (vecI v' e sz (k + m) (olds ++ news) :: M) w' → Ow P n ops Q rest ((d, v') :: L) w') :
    Ow P n ops Q (⟨some d, .call { callee := .builtin .append, args := #[s, x], argTypes := #[t, t] }, ty, pos, af, none⟩ :: rest) L w := by
  unfold infoOf at hi
  obtain ⟨i, hi', hzz⟩ := Option.map_eq_some_iff.1 hi
  simp only [Prod.mk.injEq] at hzz
  obtain ⟨z1, z2, z3⟩ := hzz
  have hk : k + m ≤ (k + m) * bytes := Nat.le_mul_of_pos_right _ h0b
  have h63 : k + m ≤ maxLen := by unfold maxLen; omega
  have hnews : ∀ j v, news[j]? = some v → w.cell? ((⟨g, o, none⟩ : Addr).add j) = some v := fun j v hv => by rw [add_plain']; exact hrn j v hv
  have hge := grownCap_ge w (k + m) k e
  have hcm : grownCap w (k + m) k e ≤ maxLen := grownCap_le_maxLen w (k + m) k e h63
  have hr : (Builtin.append_ #[t, t] ty #[.slice A k k, .slice (some ⟨g, o, none⟩) m cx]).run P w = .ok (.slice (some ⟨w.heap.size, 0, none⟩) (k + m) (grownCap w (k + m) k e)) (w.drew.alloc (.cells (olds.toArray ++ news.toArray ++ Builtin.zeroCells z.cells (grownCap w (k + m) k e - (k + m))) e)) := by
    cases A with
    | none =>
      have ho : olds = [] := by rcases hro with h | ⟨_, _, h, _⟩; exact h; cases h
      subst ho
      have hk0 : k = 0 := by
        have := hlo.symm
        simp only [List.length_nil] at this
        rcases Nat.mul_eq_zero.1 this with h | h
        · exact h
        · omega
      subst hk0
      rw [Nat.zero_add] at hb hk
      have := run_append_nil (P := P) (w := w) t ty e i z (T.ty_ok _ _ ht) hi' z1 ⟨g, o, none⟩ m cx news (by rw [z2]; exact hl) hnews hm (by omega) (by rw [z3]; omega)
      simpa using this
    | some b =>
      have holds : ∀ j v, olds[j]? = some v → w.cell? (b.add j) = some v := fun j v hv => by
        rcases hro with h | ⟨g', o', h, ha⟩
        · rw [h] at hv; cases hv
        · cases h; rw [add_plain']; exact ha j v hv
      exact run_append_grow (P := P) w t ty e i z (T.ty_ok _ _ ht) hi' z1 b k k olds (by rw [z2]; exact hlo) holds ⟨g, o, none⟩ m cx news (by rw [z2]; exact hl) hnews (by omega) (by omega) (by rw [z3]; exact growslice_fits (by omega) hb)
  have kp : Kp No w (w.drew.alloc (.cells (olds.toArray ++ news.toArray ++ Builtin.zeroCells z.cells (grownCap w (k + m) k e - (k + m))) e)) := ⟨rfl, rfl, rfl, by simp, fun k hk _ => heap_alloc_old w.drew _ hk⟩
  refine ow_run hd (fun a ha => ?_) (h _ _ kp (hw.newVec kp ⟨?_, .inr ⟨w.heap.size, _, _, rfl, Nat.le_refl _, heap_alloc_new w.drew _, hge, hcm, ?_, ?_⟩⟩))
  · unfold execOp
    simp only [resolve, List.map_toArray, List.map_cons, List.map_nil, ha.ev hs, ha.ev hx]
    rw [run_ok_bind (w' := w) rfl]
    simp only [invoke, builtin]
    rw [run_ok_bind hr]
    rfl
  · rw [List.length_append, hlo, hl, Nat.add_mul]
  · simp only [Array.size_append, List.size_toArray, size_zeroCells, hzs, hlo, hl, ← Nat.add_mul]
    congr 1
    omega
  · simp only [Array.toList_append, List.append_assoc]
    rw [← List.append_assoc, show (k + m) * sz = (olds ++ news).length from by rw [List.length_append, hlo, hl, Nat.add_mul]]
    exact List.take_left
theorem St_more {A A' : Option Addr} {cs cs' : List Value} (hw : St w0 M0 M w) (hp : Pick (rowI A cs) M M') (hr : Row w A' cs') (hf : ∀ g, (rowI A' cs').foot g → (rowI A cs).foot g) : St w0 M0 (rowI A' cs' :: M) w := by
  have hm : rowI A cs ∈ M := hp.perm.mem_iff.2 (by simp)
  have ha : ∀ j ∈ M, Apart (rowI A' cs') j := by
    have hpw := (hw.perm hp.perm).pre.apart
    intro j hj
    rcases List.mem_cons.1 (hp.perm.mem_iff.1 hj) with rfl | hj
    · intro o; simp [rowI] at o
    · intro o g h1 h2
      exact (List.pairwise_cons.1 hpw).1 j hj (by simpa [rowI] using o) g (hf g h1) h2
  refine ⟨⟨fun i hi => ?_, .cons ha hw.pre.apart⟩, hw.kp, fun i hi g hg => ?_⟩
  · rcases List.mem_cons.1 hi with rfl | hi
    · exact hr
    · exact hw.pre.all i hi
  · rcases List.mem_cons.1 hi with rfl | hi
    · rcases hw.org _ hm g (hf g hg) with h | ⟨j, hj, h1, h2⟩
      · exact .inl h
      · exact .inr ⟨j, hj, h1, fun o => by simp [rowI] at o⟩
    · exact hw.org i hi g hg
theorem sA_foot {A : Option Addr} {l m k : Nat} {cs : List Value} : ∀ g, (rowI (sA A l m k) (cs.drop (l * k))).foot g → (rowI A cs).foot g := by
  rintro g ⟨hne, a, h1, h2⟩
  refine ⟨fun e => hne (by rw [e]; exact List.drop_nil), ?_⟩
  unfold sA at h1
  split at h1
  · exact ⟨a, h1, h2⟩
  · cases A with
    | none => cases h1
    | some b =>
      refine ⟨b, rfl, ?_⟩
      simp only [Option.map_some, Option.some.injEq] at h1
      rw [← h2, ← h1]
      unfold Addr.add
      split <;> rfl
theorem St_newRow {w' : World} {e : TypeId} {arr : Array Value} {cs X : List Value} (hw : St w0 M0 M w) (kp : Kp No w w') (hb : w'.heap[w.heap.size]? = some (.cells arr e (0, 0))) (ha : arr.toList = cs ++ X) : St w0 M0 (rowI (some ⟨w.heap.size, 0, none⟩) cs :: M) w' := by
  have b : Blk w' w.heap.size e arr.toList := by rw [Blk, hb]
  refine hw.new kp (.inr ⟨w.heap.size, 0, rfl, ?_⟩) (fun g ⟨_, a, h1, h2⟩ => by cases h1; exact Nat.le_of_eq h2)
  have := (Blk.at_ b 0).take cs.length
  rwa [List.drop_zero, ha, List.take_left] at this
/-- append of a text to a slice without room: a slice to be read. -/
theorem st_appFullStr (T : Tab P) {t u e : TypeId} {s x : Operand} {A : Option Addr} {k : Nat} {l : List Byte} {olds : List Value} (hw : St w0 M0 M w) (hs : ev L s = some (.slice A k k)) (hp : Pick (rowI A olds) M M') (hx : ev L x = some (str l)) (ht : T.ty t = some (.slice e)) (hu : T.ty u = some .string) (hi : infoOf P e = some (some (.int .u8 0), 1, 1)) (hd : Nat.blt d n = true)
    (hlo : olds.length = k) (hb : k + l.length ≤ 140737488355328)
    (h : ∀ A' c' w', k + l.length ≤ c' → Kp No w w' → St w0 M0 (rowI A' (olds ++ cb l) :: M) w' → Ow P n ops Q rest ((d, .slice A' (k + l.length) c') :: L) w') :
    Ow P n ops Q (⟨some d, .call { callee := .builtin .append, args := #[s, x], argTypes := #[t, u] }, ty, pos, af, none⟩ :: rest) L w := by
  unfold infoOf at hi
  obtain ⟨i, hi', hzz⟩ := Option.map_eq_some_iff.1 hi
  simp only [Prod.mk.injEq] at hzz
  obtain ⟨z1, z2, z3⟩ := hzz
  have hsz : (bs l).size = l.length := bs_size l
  have hro : Row w A olds := hw.pick hp
  by_cases hl : l = []
  · subst hl
    have hr : (Builtin.append_ #[t, u] ty #[.slice A k k, .string (bs [])]).run P w = .ok (.slice A k k) w := by
      have hs0 : (bs []).size = 0 := rfl
      have hf := run_firstCells_string (P := P) w 1 (bs [])
      rw [strCells_bs, hs0] at hf
      cases A with
      | none => simp [Builtin.append_, Go.run_underlying (T.ty_ok _ _ ht), Go.run_underlying (T.ty_ok _ _ hu), sizeOf, typeInfo, hi', z2, Builtin.lenOf, hs0, hf]
      | some b => simp [Builtin.append_, Go.run_underlying (T.ty_ok _ _ ht), Go.run_underlying (T.ty_ok _ _ hu), sizeOf, typeInfo, hi', z2, Builtin.lenOf, hs0, hf, storeCells]
    refine ow_run hd (fun a ha => ?_) (h A k w (Nat.le_refl _) Kp.refl ?_)
    · unfold execOp
      simp only [resolve, List.map_toArray, List.map_cons, List.map_nil, ha.ev hs, ha.ev hx]
      rw [run_ok_bind (w' := w) rfl]
      simp only [invoke, builtin]
      rw [run_ok_bind hr]
      rfl
    · simpa [cb] using St_more hw hp hro (fun g h => h)
  · have hlp : 0 < l.length := List.length_pos_iff.2 hl
    have hge := grownCap_ge w (k + l.length) k e
    obtain ⟨arr, X, hr, harr⟩ : ∃ (arr : Array Value) (X : List Value), (Builtin.append_ #[t, u] ty #[.slice A k k, .string (bs l)]).run P w = .ok (.slice (some ⟨w.heap.size, 0, none⟩) (k + l.length) (grownCap w (k + l.length) k e)) (w.drew.alloc (.cells arr e)) ∧ arr.toList = (olds ++ cb l) ++ X := by
      cases A with
      | none =>
        have ho : olds = [] := by rcases hro with h | ⟨_, _, h, _⟩; exact h; cases h
        subst ho
        have hk0 : k = 0 := by simpa using hlo.symm
        subst hk0
        have := run_append_nil_string (P := P) (w := w) t u ty e i (.int .u8 0) (T.ty_ok _ _ ht) (T.ty_ok _ _ hu) hi' z1 (bs l) (by omega) (by omega) (by rw [z3, hsz]; omega)
        rw [hsz] at this
        refine ⟨(bs l).data.map (fun b => Value.int .u8 b.toNat) ++ Builtin.zeroCells (Value.int .u8 0).cells (grownCap w l.length 0 e - l.length), (Builtin.zeroCells (Value.int .u8 0).cells (grownCap w l.length 0 e - l.length)).toList, by simpa using this, ?_⟩
        rw [Array.toList_append, List.nil_append]
        congr 1
        rw [← strCells_bs l]
        unfold strCells
        simp [ByteArray.toList_eq]
      | some b =>
        have holds : ∀ j v, olds[j]? = some v → w.cell? (b.add j) = some v := fun j v hv => by
          rcases hro with h | ⟨g', o', h, ha⟩
          · rw [h] at hv; cases hv
          · cases h; rw [add_plain']; exact ha j v hv
        have := run_append_grow_string (P := P) w t u ty e i (.int .u8 0) (T.ty_ok _ _ ht) (T.ty_ok _ _ hu) hi' z1 b k k olds (by rw [z2]; omega) holds (bs l) (by omega) (by omega) (by rw [z3, hsz]; exact growslice_fits (by omega) (by omega))
        rw [hsz] at this
        refine ⟨_, (Builtin.zeroCells (Value.int .u8 0).cells (grownCap w (k + l.length) k e - (k + l.length))).toList, this, ?_⟩
        rw [Array.toList_append, Array.toList_append, strCells_bs]
    have kp : Kp No w (w.drew.alloc (.cells arr e)) := ⟨rfl, rfl, rfl, by simp, fun k hk _ => heap_alloc_old w.drew _ hk⟩
    refine ow_run hd (fun a ha => ?_) (h _ _ _ hge kp (St_newRow hw kp (heap_alloc_new w.drew _) harr))
    unfold execOp
    simp only [resolve, List.map_toArray, List.map_cons, List.map_nil, ha.ev hs, ha.ev hx]
    rw [run_ok_bind (w' := w) rfl]
    simp only [invoke, builtin]
    rw [run_ok_bind hr]
    rfl
end Go.Proofs.Ytbfpgigbakhplaa.Sc
