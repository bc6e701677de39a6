/- A register that was written so often: its slots by their counters. Plain. -/
import Derived.Test.YtnpnphcklmlchaaSlt7
set_option linter.unusedVariables false
set_option linter.unusedSimpArgs false
namespace Go.Proofs.Ytnpnphcklmlchaa.Slt
open Go.RowKit Go.Proofs.Ytnpnphcklmlchaa.Sx Go.Proofs.Ytnpnphcklmlchaa.Mx Go.Proofs.Ytnpnphcklmlchaa.Bw Go.Proofs.Ytnpnphcklmlchaa.By Go.Proofs.Ytnpnphcklmlchaa.Eqs Go.Proofs.Ytnpnphcklmlchaa.Qx Go.Proofs.Ytnpnphcklmlchaa.Ap Go.Proofs.Ytnpnphcklmlchaa.Mi Go.Proofs.Ytnpnphcklmlchaa.Stm Go.Proofs.Ytnpnphcklmlchaa.Fl Go.Proofs.Ytnpnphcklmlchaa.Mp Go.Proofs.Ytnpnphcklmlchaa.Mf Go.Proofs.Ytnpnphcklmlchaa.Dp Go.Proofs.Ytnpnphcklmlchaa.Dsk Go.Proofs.Ytnpnphcklmlchaa.Nd Go.Maps
/-! A register as one thing. -/
def rgS (gr : Nat) (R : Rg) : Stm.Item := starI (rgI gr R)
theorem rgI_own (gr : Nat) (R : Rg) : ∀ i ∈ rgI gr R, i.own = true := by
  intro i hi
  simp only [rgI, dskI, List.mem_cons, List.not_mem_nil, or_false] at hi
  rcases hi with rfl | rfl | rfl | rfl | rfl | rfl <;> rfl
theorem star_pre {l : List Stm.Item} {w : World} (h : (starI l).holds w) : Pre l w := ⟨h.1, h.2⟩
theorem star_both {l l' : List Stm.Item} {w w' : World} (h : St w l l' w') (ho : ∀ i ∈ l, i.own = true) : St w [starI l] [starI l'] w' :=
  ⟨⟨fun i hi => by rw [List.mem_singleton.1 hi]; exact ⟨h.pre.all, h.pre.apart⟩, List.pairwise_singleton _ _⟩,
    h.kp.mono (fun g ⟨i, hi, _, hf⟩ => ⟨starI l, by simp, rfl, i, hi, hf⟩),
    fun i hi g hg => by
      rw [List.mem_singleton.1 hi] at hg
      obtain ⟨j, hj, hf⟩ := hg
      rcases h.org j hj g hf with h1 | ⟨k, hk, hkf, _⟩
      · exact .inl h1
      · exact .inr ⟨starI l, by simp, ⟨k, hk, hkf⟩, fun _ => rfl⟩⟩
/-! What was written. -/
def wasOf (ws : List Sl) : Sl → Option Bool := fun s => if s ∈ ws then some true else none
theorem wasOf_nil : wasOf [] = fun _ => none := by funext s; simp [wasOf]
theorem wasOf_upd (ws : List Sl) (s : Sl) : upd (wasOf ws) s true = wasOf (ws ++ [s]) := by
  funext x
  unfold upd wasOf
  by_cases h : x = s
  · subst h; simp
  · simp [h]
theorem wasOf_get (ws : List Sl) (s : Sl) : (wasOf ws s).getD false = decide (s ∈ ws) := by
  unfold wasOf
  by_cases h : s ∈ ws <;> simp [h]
def olS (i : Nat) (x : List Byte) : Sl := (BitVec.ofNat 64 (i + 1), (5, x))
def olL (xs : List (List Byte)) (i : Nat) : List Sl := (List.range i).map fun j => olS j (xs.getD j [])
theorem olL_len (xs : List (List Byte)) (i : Nat) : (olL xs i).length = i := by simp [olL]
theorem olL_succ (xs : List (List Byte)) (i : Nat) : olL xs (i + 1) = olL xs i ++ [olS i (xs.getD i [])] := by simp [olL, List.range_succ]
theorem olL_get (xs : List (List Byte)) (m i : Nat) (hi : i < (olL xs m).length) : (olL xs m)[i] = olS i (xs.getD i []) := by simp [olL]
theorem olL_ok {xs : List (List Byte)} (hx : ∀ x ∈ xs, x.length = 32) (m : Nat) (hm : m ≤ xs.length) : OkW (olL xs m) := fun s hs => by
  simp only [olL, List.mem_map, List.mem_range] at hs
  obtain ⟨j, hj, rfl⟩ := hs
  show (xs.getD j []).length = 32
  rw [List.getD_eq_getElem?_getD, List.getElem?_eq_getElem (by omega)]
  exact hx _ (List.getElem_mem _)
theorem olS_toNat (i : Nat) (hi : i < 1048576) (x : List Byte) : (olS i x).1.toNat = i + 1 := by
  show (BitVec.ofNat 64 (i + 1)).toNat = _
  rw [BitVec.toNat_ofNat]; omega
theorem olL_mem {xs : List (List Byte)} {m : Nat} {s : Sl} (h : s ∈ olL xs m) : ∃ j, j < m ∧ s = olS j (xs.getD j []) := by
  simp only [olL, List.mem_map, List.mem_range] at h
  obtain ⟨j, hj, rfl⟩ := h
  exact ⟨j, hj, rfl⟩
/-- The slots of one counter. -/
theorem btw_one (xs : List (List Byte)) (m : Nat) (hm : m < 1048576) (a : BitVec 64) : btwL a a (olL xs m) = if 1 ≤ a.toNat ∧ a.toNat ≤ m then [olS (a.toNat - 1) (xs.getD (a.toNat - 1) [])] else [] := by
  induction m with
  | zero => rw [if_neg (by omega)]; rfl
  | succ m ih =>
    have ih := ih (by omega)
    rw [olL_succ, btwL, List.filter_append]
    rw [btwL] at ih
    rw [ih]
    have hn := olS_toNat m (by omega) (xs.getD m [])
    by_cases h : a.toNat = m + 1
    · rw [if_neg (by omega), if_pos (by omega), h, Nat.add_sub_cancel]
      generalize olS m (xs.getD m []) = s at *
      have hb : btw a a s = true := by simp [btw, hn, h]
      simp [hb]
    · generalize olS m (xs.getD m []) = s at *
      have hb : btw a a s = false := by
        simp only [btw, hn, Bool.and_eq_false_iff, decide_eq_false_iff_not]; omega
      by_cases h2 : 1 ≤ a.toNat ∧ a.toNat ≤ m
      · rw [if_pos h2, if_pos (by omega)]; simp [hb]
      · rw [if_neg h2, if_neg (by omega)]; simp [hb]
theorem atS_in (xs : List (List Byte)) (m : Nat) (hm : m < 1048576) (a : BitVec 64) (h : 1 ≤ a.toNat ∧ a.toNat ≤ m) : atS a (olL xs m) = (olS (a.toNat - 1) (xs.getD (a.toNat - 1) []), true) := by
  rw [atS, btw_one xs m hm a, if_pos h]
theorem atS_out (xs : List (List Byte)) (m : Nat) (hm : m < 1048576) (a : BitVec 64) (h : ¬ (1 ≤ a.toNat ∧ a.toNat ≤ m)) : atS a (olL xs m) = (noSl, false) := by
  rw [atS, btw_one xs m hm a, if_neg h]
/-! The register after so many writes. -/
structure OlR (xs : List (List Byte)) (i : Nat) (R : Rg) : Prop where
  ws : R.ws = olL xs i
  now : R.now.1 = BitVec.ofNat 64 i
  ok : OkL R.now
  dead : R.D.dead = false
  f : R.D.f = fun _ => none
  ev : R.D.ev = i
  k : R.D.k = i
  n : R.n = i
  was : R.was = wasOf R.ws
theorem olR_zero (xs : List (List Byte)) (n gb gp gc gd gm : Nat) : OlR xs 0 (rg0' n gb gp gc gd gm) := ⟨rfl, rfl, noSl_ok, rfl, rfl, rfl, rfl, rfl, wasOf_nil.symm⟩
theorem olR_evA {xs : List (List Byte)} {i : Nat} {R : Rg} (h : OlR xs i R) : evA R.D = false ∧ evZ R.D = false := by
  unfold evA evZ; rw [h.f]; exact ⟨rfl, rfl⟩
theorem olR_step {xs : List (List Byte)} {i : Nat} {R : Rg} (h : OlR xs i R) (hx : (xs.getD i []).length = 32) (vl vw : Value) : OlR xs (i + 1) (wrR R (olS i (xs.getD i [])) vl vw) := by
  obtain ⟨ha, hz⟩ := olR_evA h
  unfold wrR
  rw [ha, if_neg (by decide)]
  refine ⟨?_, rfl, hx, ?_, h.f, ?_, ?_, ?_, ?_⟩
  · show R.ws ++ _ = _; rw [h.ws, olL_succ]
  · simp [evD, ha, hz, h.dead]
  · simp [evD, h.ev]
  · simp [evD, ha, h.k]
  · simp [h.n]
  · show upd R.was _ true = wasOf (R.ws ++ _); rw [h.was, wasOf_upd]
end Go.Proofs.Ytnpnphcklmlchaa.Slt
