/- append of a text's bytes to a slice that grows. -/
import Derived.Test.YtbfpgigbakhplaaSu
import Derived.Lib.AppendStr
set_option linter.unusedVariables false
set_option linter.unusedSimpArgs false
namespace Go.Proofs.Ytbfpgigbakhplaa.As
open Go.RowKit Go.Lib Go.Proofs.Ytbfpgigbakhplaa.Sx Go.Proofs.Ytbfpgigbakhplaa.Mx Go.Proofs.Ytbfpgigbakhplaa.Bw Go.Proofs.Ytbfpgigbakhplaa.By Go.Proofs.Ytbfpgigbakhplaa.Ap Go.Proofs.Ytbfpgigbakhplaa.Stm
variable {P : Program}
/-- Where the grown slice lies: where it lay, or in a new block. -/
theorem run_str_at {w : World} (base : Nat) (t u ty e : TypeId) (i : TypeInfo) (ht : P.underlying t = some (.slice e)) (hu : P.underlying u = some .string) (hi : P.info? e = some i) (hz : i.zero = some (.int .u8 0))
    (hsize : i.size = 1) (hby : i.bytes = 1) (v : Value) (n : Nat) (xs : List Value) (hown : w.ownsRow base e 1 v n xs) (s : ByteArray)
    (h63 : n + s.size ≤ maxLen) (hbytes : n + s.size ≤ 140737488355328) (hbase : base ≤ w.heap.size) :
    ∃ v' w', (Builtin.append_ #[t, u] ty #[v, .string s]).run P w = .ok v' w' ∧ w'.ownsRow base e 1 v' (n + s.size) (xs ++ strCells s) ∧ w.grownBy w' v.ownBlock ∧
      (v'.ownBlock = v.ownBlock ∨ v'.ownBlock = some w.heap.size) := by
  obtain ⟨v', w', hr, h1, h2, h3⟩ := run_append_own_string (P := P) (w := w) base t u ty e i ht hu hi hz hsize hby v n xs hown s h63 hbytes hbase
  refine ⟨v', w', hr, h1, h2, ?_⟩
  have hsmall : n + s.size ≤ 9223372036854775807 := by simp only [maxLen] at h63; omega
  have hxl : xs.length = n := by simpa using hown.1
  rcases hown.2 with ⟨rfl, rfl⟩ | ⟨g, cap, cur, rfl, hbg, hg, hnc, hcm, hcs, htake⟩
  · by_cases hm : s.size = 0
    · left; rw [h3.2 ⟨rfl, hm⟩]
    · right
      have hr' := run_append_nil_string (P := P) w t u ty e i (.int .u8 0) ht hu hi hz s (by omega) (by omega) (by rw [hby]; omega)
      rw [hr'] at hr
      injection hr with e1 e2
      subst e1
      rfl
  · by_cases hroom : n + s.size ≤ cap
    · left
      have hr' := run_append_room_string (P := P) w t u ty e i ht hu hi hsize g n cap cur hg s hroom (by omega)
      rw [hr'] at hr
      injection hr with e1 e2
      subst e1
      rfl
    · right
      have holds : ∀ j u, xs[j]? = some u → w.cell? ((⟨g, 0, none⟩ : Addr).add j) = some u := hown.cells (g := g) rfl
      have hr' := run_append_grow_string (P := P) w t u ty e i (.int .u8 0) ht hu hi hz ⟨g, 0, none⟩ n cap xs (by rw [hsize]; simpa using hxl) holds s (by omega) (by omega) (by rw [hby]; exact growslice_fits (by omega) (by omega))
      rw [hr'] at hr
      injection hr with e1 e2
      subst e1
      rfl
theorem strCells_bs (l : List Byte) : strCells (bs l) = cb l := by
  unfold strCells bs cb
  simp only [List.map_map]
  rfl
variable {n : Nat} {Q : Exit → Act → World → Prop} {L : Ctx} {w w0 : World} {M0 M M' : List Stm.Item} {ops : Array Oper} {rest : List Oper} {d : Nat} {ty : TypeId} {pos : String} {af : Array Edge}
/-- append(grows, text...). -/
theorem st_appStr (T : Tab P) {t u e : TypeId} {s x : Operand} {v : Value} {k : Nat} {l : List Byte} {xs : List Value} (hw : St w0 M0 M w) (hs : ev L s = some v) (hx : ev L x = some (str l)) (ht : T.ty t = some (.slice e)) (hu : T.ty u = some .string) (hi : infoOf P e = some (some (.int .u8 0), 1, 1))
    (hp : Pick (vecI v e 1 k xs) M M') (hd : Nat.blt d n = true) (hb : k + l.length ≤ 140737488355328)
    (h : ∀ v' w', St w0 M0 (vecI v' e 1 (k + l.length) (xs ++ cb l) :: M') w' → Ow P n ops Q rest ((d, v') :: L) w') :
    Ow P n ops Q (⟨some d, .call { callee := .builtin .append, args := #[s, x], argTypes := #[t, u] }, ty, pos, af, none⟩ :: rest) L w := fun a hA => by
  unfold infoOf at hi
  obtain ⟨i, hi, hzz⟩ := Option.map_eq_some_iff.1 hi
  simp only [Prod.mk.injEq] at hzz
  have own : Own w 0 e 1 v k xs := hw.pick hp
  have hsz : (bs l).size = l.length := bs_size l
  obtain ⟨v', w', hr, h1, h2, h4⟩ := run_str_at (P := P) (w := w) 0 t u ty e i (T.ty_ok _ _ ht) (T.ty_ok _ _ hu) hi hzz.1 hzz.2.1 hzz.2.2 v k xs own (bs l) (by rw [hsz]; unfold maxLen; omega) (by rw [hsz]; exact hb) (Nat.zero_le _)
  rw [hsz, strCells_bs] at h1
  refine wpList_plain rfl fun K hK => ?_
  unfold Oper.wp execOp
  simp only [resolve, invoke, builtin, Sem.run_bind, Sem.run_pure, Result.andThen_ok, List.map_toArray, List.map_cons, List.map_nil, hA.ev hs, hA.ev hx, hr]
  exact hK _ _ (h v' w' (vec_turn (hw.perm hp.perm) .here h1 (kp_grown h2) h4) _ (hA.put (by simpa [Nat.blt_eq] using hd) v'))
end Go.Proofs.Ytbfpgigbakhplaa.As
