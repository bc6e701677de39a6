/- Every WordCounts returns true, and leaves its arguments as they were; the table of the library's is tied to the program's text. -/
import Derived.Test.YtehekgigmbnlfaaDoorRows
import Derived.Test.YtehekgigmbnlfaaDoorCards
import Derived.Test.YtehekgigmbnlfaaDoorTie
import Derived.Test.YtehekgigmbnlfaaDoorWordCt4
import Derived.Test.YtehekgigmbnlfaaDoorFb
import Derived.WalkKit
import Derived.ProofKit
import Derived.OpenShut
import Derived.Deep.DeepHandedRow
import Derived.Lib.LaidTab
namespace Go.Proofs.YtehekgigmbnlfaaDoor.wordCounts
open Go.ChangeShapes Go.WideShapes Go.ChangeAt Go.RowKit Go.Proofs.YtehekgigmbnlfaaDoor.Fl Go.Proofs.YtehekgigmbnlfaaDoor.Sx Go.Proofs.YtehekgigmbnlfaaDoor.Mx Go.Proofs.YtehekgigmbnlfaaDoor.By Go.Proofs.YtehekgigmbnlfaaDoor.Ar Go.Proofs.YtehekgigmbnlfaaDoor.Fb Go.Proofs.YtehekgigmbnlfaaDoor.Stm Go.Proofs.YtehekgigmbnlfaaDoor.Ap
set_option linter.unusedVariables false
theorem own : ownKnob Tryd.prog.godebug = none := by kernel_rfl
theorem laidOut : laidOutB Tryd.prog = true := by kernel_rfl
def zs : List Int := Cnt.tab64.map Int.ofNat
theorem gTab : Tryd.prog.globalNamed "math/bits.deBruijn64tab" = some 0 := by kernel_rfl
theorem gTabType : (Tryd.prog.globals[0]?).map (·.type) = some 41 := by kernel_rfl
theorem cells41 : Tryd.prog.cellsOf 41 = 64 := by kernel_rfl
theorem cells5 : Tryd.prog.cellsOf 5 = 1 := by kernel_rfl
/-- What the row's list gives: the table's cells. -/
theorem table {W : World} (h : laidMetH Tryd.prog Rows.wordCountsRow.laid W) : Lib.TabIs Tryd.prog W "math/bits.deBruijn64tab" .u8 zs :=
  Lib.tabIs_of_head (rest := []) gTab gTabType Tryd.underlying41 Tryd.underlying5 cells5 cells41 h
theorem t64 : ∀ j : Fin 64, Cnt.tab64.getD j.val 0 < 64 := by decide +kernel
theorem pre_tab {W : World} (h : Lib.TabIs Tryd.prog W "math/bits.deBruijn64tab" .u8 zs) : Pre [Wd.tabI] W := by
  refine Pre.cons_ro Pre.nil (i := Wd.tabI) ?_ rfl ro_nil
  refine Or.inr ⟨0, 0, rfl, ?_⟩
  intro i v hv
  have hi : i < 64 := by
    apply Classical.byContradiction; intro hn
    rw [List.getElem?_eq_none (show (cb Wd.tabB).length ≤ i from (show (cb Wd.tabB).length = 64 from rfl) ▸ Nat.le_of_not_lt hn)] at hv; cases hv
  have c := h.cell gTab i (show i < 64 from hi)
  rw [Nat.zero_add, c]
  have : ∀ j : Fin 64, (cb Wd.tabB)[j.val]? = some (Value.int .u8 (zs.getD j.val 0)) := by
    intro j
    obtain ⟨b, b1, b2⟩ := Wd.tabB_at j.val j.isLt (Cnt.tab64.getD j.val 0) rfl (t64 j)
    rw [b1]
    show some (Value.int .u8 (b.toNat : Int)) = _
    rw [b2]
    have : ∀ j : Fin 64, ((Cnt.tab64.getD j.val 0 : Nat) : Int) = zs.getD j.val 0 := by decide +kernel
    rw [this j]
  rw [← hv, this ⟨i, hi⟩]
theorem calls {H : Type} {enc : TypeId × Value → H} (W : World) (base : Nat)
    (v0 : Value) (d0 : DataW H) (p0 : List MemPlace) (k0 : Value.okWide Tryd.prog W .any base 22 v0) (h0 : DataW.Trod enc Tryd.prog W 0 (fun _ => true) true 22 v0 d0 p0)
    (v1 : Value) (d1 : DataW H) (p1 : List MemPlace) (k1 : Value.okWide Tryd.prog W .any base 3 v1) (h1 : DataW.Trod enc Tryd.prog W 0 (fun _ => true) true 3 v1 d1 p1)
    (hT : Lib.TabIs Tryd.prog W "math/bits.deBruijn64tab" .u8 zs) :
    Calls Tryd.prog 3 #[v0, v1] W fun e W' => e = .returned (.bool true) ∧ Below W.heap.size W W' := by
  obtain ⟨x, rfl⟩ := one_open Tryd.underlying22 k0 h0
  obtain ⟨n, rfl, hn⟩ := i64_open Tryd.underlying3 k1 h1
  exact Calls.mono (Wd.wordCounts x n hn W (pre_tab hT)) fun e w' ⟨v, he, hv, hk⟩ => ⟨by rw [he, hv], hk.below⟩
/-- What the walk gives, for every argument and every world that holds the table. -/
theorem contract (H : Type) (enc : TypeId × Value → H) (W : World) (base : Nat) (args : Array Value) (ds gs : List (DataW H)) (before : List MemPlace)
    (hval0 : ∀ (j : Nat) t v, Tryd.f3.params[j]? = some t → args[j]? = some v → Value.okWide Tryd.prog W .any base t v)
    (hW : DataW.Whole enc Tryd.prog Tryd.f3.params.toList Rows.wordCountsSpec.vars false W args.toList ds gs before) (hL : laidMetH Tryd.prog Rows.wordCountsRow.laid W) :
    Calls Tryd.prog 3 args W fun e W' => ∃ v, e = .returned v ∧ Rows.wordCountsSpec.post enc Tryd.prog Tryd.f3 false true false false W args v W' := by
  have hval : ∀ (j : Nat) t v, Tryd.f3.params[j]? = some t → args[j]? = some v → Value.okWide Tryd.prog W .any base t v := hval0
  have hW' := hW
  obtain ⟨p, q, hA0, hV, rfl, hfz, hnd⟩ := hW
  have hA : DataW.TrodAll enc Tryd.prog W 0 (fun _ => true) true Tryd.f3.params.toList args.toList ds p := hA0
  rw [Tryd.params3] at hA hval
  obtain ⟨v0, vs0, d0, ds0, p0, q0, hargs, rfl, rfl, h0, r0⟩ := trodAll_cons hA
  obtain ⟨v1, vs1, d1, ds1, p1, q1, rfl, rfl, rfl, h1, r1⟩ := trodAll_cons r0
  obtain ⟨rfl, rfl, rfl⟩ := trodAll_nil r1
  obtain rfl : args = #[v0, v1] := by cases args; simp_all
  obtain ⟨rfl, rfl⟩ := trodVars_none hV
  have hlt : ∀ x ∈ (p0 ++ (p1 ++ [])), x.block < W.heap.size := fun x hx => hW'.lt x (by simpa using hx)
  refine (calls W base v0 d0 p0 (hval 0 _ v0 rfl rfl) h0 v1 d1 p1 (hval 1 _ v1 rfl rfl) h1 (table hL)).mono fun e W' ⟨he, bel⟩ => ?_
  subst he
  exact ⟨_, rfl, _, _, _, [], _, [], hW', trodAll_mk1 (shut_bool Tryd.underlying4 _), Below_trodAll laidOut bel (by decide +kernel) hA hlt, rfl, bel.frame _, fun h => by cases h⟩
/-- A world for the witness: the table as its initialiser lays it. -/
noncomputable def laidWorld (os : Os) : World :=
  { World.holding Tryd.prog os ⟨#[], #[], []⟩ with heap := (World.holding Tryd.prog os ⟨#[], #[], []⟩).heap.modify 0 fun
      | .cells _ t frozen => .cells (zs.map (Value.int .u8)).toArray t frozen
      | o => o }
theorem laid_met (os : Os) : laidMet Tryd.prog Rows.wordCountsRow.laid ((laidWorld os).forCall (fun _ _ => 0) ⟨#[], #[.int .u64 0, .int .i64 0], []⟩).memory :=
  laidMet_of_run' 8 (by kernel_rfl) (by kernel_rfl)
theorem reads (os : Os) {H : Type} (enc : TypeId × Value → H) : ∃ places, DataW.whole enc Tryd.prog ((laidWorld os).forCall (fun _ _ => 0) ⟨#[], #[.int .u64 0, .int .i64 0], []⟩).memory Tryd.f3.params.toList Rows.wordCountsSpec.vars false #[Value.int .u64 0, .int .i64 0].toList 8 = some ([.lit (.int .u64 0), .lit (.int .i64 0)], [], places) :=
  ⟨[], by kernel_rfl⟩
set_option maxRecDepth 100000 in
theorem lifted (os : Os) (started : os.Started) (H : Type) (enc : TypeId × Value → H) (F : Stop.Interp) :
    ReturnsInHanded {} Tryd.checked os 3 .any ((OpenSpec.ofChange Rows.wordCountsSpec).preRow enc Tryd.prog Tryd.f3 Rows.wordCountsRow.domain false Rows.wordCountsRow.laid) (((OpenSpec.ofChange Rows.wordCountsSpec).at F).post enc Tryd.prog Tryd.f3 false true false false) := by
  obtain ⟨places, hx⟩ := reads os enc
  refine returnsInHanded_of_row (C := Tryd.checked) (s := OpenSpec.ofChange Rows.wordCountsSpec) own started (by kernel_rfl) Tryd.func3
    (witness_row_at (enc := enc) (C := Tryd.checked) false (laidWorld os) #[.int .u64 0, .int .i64 0] rfl (by kernel_rfl) (by kernel_rfl) (by kernel_rfl)
      (OpenSpec.preRow_of_cond 8 hx (by kernel_rfl) (fun k hk => by cases hk) (by kernel_rfl) (laid_met os))) ?_
  intro W base args ds gs before hval hW _ _ _ hL _ _
  exact contract H enc W base args ds gs before hval hW hL
theorem said : Rows.WordCountsSaid :=
  OpenClaim.holds_of_cond 3 Tryd.f3 rfl rfl rfl rfl rfl rfl rfl ⟨rfl, rfl, rfl, rfl, rfl⟩ rfl rfl rfl rfl rfl (by kernel_rfl) Tryd.func3 (by kernel_rfl)
    (of_decide_eq_true (by kernel_rfl)) (by unfold Func.isWrapper; first | (rw [if_pos (by decide +kernel)]; kernel_rfl) | (rw [if_neg (by decide +kernel)]; exact ⟨rfl, rfl⟩))
    (fun os started H enc _ F => by rw [OpenClaim.pre_eq_preRow]; exact lifted os started H enc F)
theorem plain (f : FuncId) (fn : Func) (hf : Tryd.pinned.checked.prog.funcNamed "signet/signetlaw01.WordCounts" = some f) (hfn : Tryd.pinned.checked.prog.funcs[f]? = some fn) :
    false = Tryd.pinned.checked.prog.looks [] ∧ ∀ (j : Nat) t, fn.params[j]? = some t → Tryd.pinned.checked.prog.wantsStandIn t = false := by
  obtain rfl : f = 3 := Option.some.inj ((show Tryd.prog.funcNamed "signet/signetlaw01.WordCounts" = some 3 by kernel_rfl).symm.trans hf) |>.symm
  obtain rfl : fn = Tryd.f3 := (Option.some.inj (Tryd.func3.symm.trans hfn)).symm
  refine ⟨by kernel_rfl, fun j t ht => ?_⟩
  rw [Tryd.params3] at ht
  have hm : t = 22 ∨ t = 3 := by simpa using Array.mem_of_getElem? ht
  rcases hm with rfl | rfl
  · exact (show Tryd.prog.wantsStandIn 22 = false by kernel_rfl)
  · exact (show Tryd.prog.wantsStandIn 3 = false by kernel_rfl)
theorem proved : Rows.WordCountsCardSaid :=
  Claim7.holds_tied_plain_at .later [] _ _ _ _ said (fun _ h => by cases h) (by kernel_rfl) (fun _ h => by cases h) wordCounts_row_tie rfl ⟨rfl, rfl⟩ (by kernel_rfl) rfl plain (by kernel_rfl)
#print axioms proved
end Go.Proofs.YtehekgigmbnlfaaDoor.wordCounts
namespace Go.Proofs.YtehekgigmbnlfaaDoor
theorem wordCounts_holds : Rows.WordCountsCardSaid := wordCounts.proved
end Go.Proofs.YtehekgigmbnlfaaDoor
