/- References, each once, as the program has them. -/
import Derived.Test.YtbfpgigbakhplaaOrd3
import Derived.Test.YtbfpgigbakhplaaOrdL
import Derived.Shelf.SlSortCmp.NoneTotal
set_option linter.unusedVariables false
set_option linter.unusedSimpArgs false
namespace Go.Proofs.Ytbfpgigbakhplaa.Ord
open Go.RowKit Go.Proofs.Ytbfpgigbakhplaa.Sx Go.Proofs.Ytbfpgigbakhplaa.Mx Go.Proofs.Ytbfpgigbakhplaa.Bw Go.Proofs.Ytbfpgigbakhplaa.By Go.Proofs.Ytbfpgigbakhplaa.Eqs Go.Proofs.Ytbfpgigbakhplaa.Qx Go.Proofs.Ytbfpgigbakhplaa.Ap Go.Proofs.Ytbfpgigbakhplaa.Mi Go.Proofs.Ytbfpgigbakhplaa.Stm Go.Proofs.Ytbfpgigbakhplaa.Fl Go.Proofs.Ytbfpgigbakhplaa.Wd Go.Proofs.Ytbfpgigbakhplaa.Nd Go.Proofs.Ytbfpgigbakhplaa.Mf Go.Proofs.Ytbfpgigbakhplaa.Sc Go.Proofs.Ytbfpgigbakhplaa.Mp Go.Maps
open Go.Proofs Go.Sort Go.Shelf
/-- References of 32 bytes. -/
abbrev RefT := {r : Ref // OkR r}
instance : Inhabited RefT := ⟨⟨noRef, noRef_ok⟩⟩
def encT (r : RefT) : List Value := refC r.1
def cfT (a b : RefT) : Int := cmpR a.1 b.1
theorem ltT (a b : RefT) : ltOf cfT a b = decide (key a.1 < key b.1) := by
  unfold ltOf cfT cmpR sgn
  by_cases h1 : key a.1 < key b.1
  · simp [h1]
  · by_cases h2 : key b.1 < key a.1 <;> simp [h1, h2]
theorem swoT : SWO (ltOf cfT) where
  irrefl x := by rw [ltT]; simp
  trans x y z h1 h2 := by rw [ltT] at *; simp at *; omega
  ntrans x y z h1 h2 := by rw [ltT] at *; simp at *; omega
/-- As what they are. -/
def upT (l : List Ref) (h : OkRs l) : Array RefT := (l.attach.map fun r => (⟨r.1, h r.1 r.2⟩ : RefT)).toArray
theorem upT_size (l : List Ref) (h : OkRs l) : (upT l h).size = l.length := by simp [upT]
theorem upT_list (l : List Ref) (h : OkRs l) : (upT l h).toList.map (·.1) = l := by
  simp only [upT, List.map_map, Function.comp_def]
  exact List.attach_map_subtype_val l
def dnT (d : Array RefT) : List Ref := d.toList.map (·.1)
theorem dnT_ok (d : Array RefT) : OkRs (dnT d) := fun r hr => by
  obtain ⟨x, _, rfl⟩ := List.mem_map.1 hr
  exact x.2
theorem refsC_up (d : Array RefT) : refsC (dnT d) = d.toList.flatMap encT := by
  unfold refsC dnT encT
  rw [List.flatMap_map]
theorem flat_get (d : Array RefT) (s : Nat) (h : s < d.size * 33) : (refsC (dnT d))[s]? = some (encT d[s / 33]!)[s % 33]! := by
  have hi : s / 33 < d.toList.length := by rw [Array.length_toList]; omega
  have hlen : ∀ x ∈ d.toList, (encT x).length = 33 := fun x _ => refC_len x.2
  have hp := piece_get d.toList hlen (s / 33) hi
  have hl : (encT d.toList[s / 33]).length = 33 := refC_len (d.toList[s / 33]).2
  rw [refsC_up]
  have e : (d.toList.flatMap encT)[s]? = (((d.toList.flatMap encT).drop (s / 33 * 33)).take 33)[s % 33]? := by
    rw [List.getElem?_take, if_pos (Nat.mod_lt _ (by omega)), List.getElem?_drop]
    congr 1
    omega
  rw [e, hp]
  have hg : d[s / 33]! = d.toList[s / 33] := by
    rw [getElem!_pos d (s / 33) (by rw [Array.length_toList] at hi; exact hi)]; rfl
  rw [hg, List.getElem?_eq_getElem (by rw [hl]; omega), List.getElem!_eq_getElem?_getD, List.getElem?_eq_getElem (by rw [hl]; omega)]
  rfl
theorem holds_of_blk {w : World} {g : Nat} {t : TypeId} {d : Array RefT} {rest : List Value} (h : Blk w g t (refsC (dnT d) ++ rest)) : HoldsK encT 33 w g 0 d := fun j hj => by
  rw [size_flatK] at hj
  rw [get_flatK _ _ _ _ hj, Nat.zero_add]
  refine ⟨?_, ?_⟩
  · rw [h.cell, List.getElem?_append_left (by rw [refsC_len (dnT_ok d)]; simp only [dnT, List.length_map, Array.length_toList]; omega), flat_get d j hj]; rfl
  · unfold World.frozen?
    rw [show w.heap[g]? = _ from h]
    simp
theorem row_of_holds {w : World} {g : Nat} {d : Array RefT} (h : HoldsK encT 33 w g 0 d) : Row w (some ⟨g, 0, none⟩) (refsC (dnT d)) := .inr ⟨g, 0, rfl, fun j v hv => by
  have hj : j < d.size * 33 := by
    have := (List.getElem?_eq_some_iff.1 hv).1
    rw [refsC_len (dnT_ok d)] at this
    simpa [dnT] using this
  have h1 := (h j (by rw [size_flatK]; exact hj)).1
  rw [get_flatK _ _ _ _ hj] at h1
  rw [flat_get d j hj] at hv
  rw [h1, ← hv]; rfl⟩
theorem kp_sort {w : World} {g n : Nat} {os : Array Obj} (d : Array RefT) : Kp (Only g) w (sortWorldK encT 33 w g 0 n d os) := by
  unfold sortWorldK
  refine ⟨rfl, rfl, rfl, ?_, fun k hk hne => ?_⟩
  · simp [putRowK, putRow, mapBlock, Sort.ahead]
  · rw [heap_grow_old _ _ (by simpa [putRowK, putRow, mapBlock, Sort.ahead] using hk)]
    have : g ≠ k := fun e => hne e.symm
    simp [putRowK, putRow, mapBlock, Sort.ahead, Array.getElem?_modify, this]
attribute [local irreducible] Ow Cw Xw Mw
set_option maxHeartbeats 4000000
theorem sortNone_calls (A : Option Addr) (c : Nat) (fv : Value) (w0 : World) : Does Try.prog 84 [.slice A 0 c, fv] w0 fun v w' => v = .tuple #[] ∧ w0 = w' :=
  (AnyF.slices_SortFunc_none sortRef A c fv w0).mono fun e w' ⟨he, hw⟩ => ⟨_, he, rfl, hw.symm⟩
theorem cmpE : ∀ args w, (callFunc 64 args).run Try.prog w = .ok (.enter 64 args) w := enters_of Try.func64 (by kernel_rfl) rfl
theorem sort_calls (g c : Nat) (l : List Ref) (hl : OkRs l) (rest : List Value) (hn : l.length * 33 ≤ 140737488355328) (w0 : World) (hb : Blk w0 g 89 (refsC l ++ rest)) :
    Does Try.prog 84 [.slice (some ⟨g, 0, none⟩) l.length c, .func (.func 64) #[] #[]] w0 fun v w' => v = .tuple #[] ∧ Kp (Only g) w0 w' ∧ ∃ l', l'.Perm l ∧ Row w' (some ⟨g, 0, none⟩) (refsC l') ∧ l'.Pairwise (fun a b => key a ≤ key b) := by
  have hd : dnT (upT l hl) = l := upT_list l hl
  have hs : (upT l hl).size = l.length := upT_size l hl
  generalize upT l hl = dd at hd hs
  have hb' : Blk w0 g 89 (refsC (dnT dd) ++ rest) := by rw [hd]; exact hb
  have hH := holds_of_blk hb'
  have hcon := AnyQ.slices_SortFunc sortRef 33 Try.isAgg89 Try.sizeOf89 encT (fun x => refC_len x.2) (fun x v hv => List.all_eq_true.1 (refC_one x.1) v hv) cfT swoT 64 #[] g 0 c dd w0 cmpE
    (fun m os dk _ x y => Calls.mono (cmp_calls x.1 y.1 x.2 y.2 _) fun e w' ⟨v, he, hv, hg⟩ => ⟨by rw [he, hv]; rfl, hg⟩) hH hb.lt (by omega)
  rw [hs] at hcon
  refine Calls.mono hcon ?_
  rintro e w' ⟨he, d', n, os, hp, hsd, rfl⟩
  refine ⟨_, he, rfl, kp_sort d', dnT d', ?_, row_of_holds ?_, ?_⟩
  · have h3 := hp.2.2
    have e1 : ∀ a : Array RefT, a.size = l.length → a.extract 0 l.length = a := fun a ha => by rw [← ha]; simp
    rw [e1 d' (by rw [hp.1, hs]), e1 dd hs] at h3
    rw [← hd]
    exact h3.map _
  · unfold sortWorldK
    refine holdsK_grow encT 33 _ _ _ _ _ (by simpa [putRowK, putRow, mapBlock, Sort.ahead] using hb.lt) (holdsK_putRowK encT 33 _ _ _ dd d' (holdsK_ahead encT 33 w0 n g 0 dd hH) hp.1)
  · have hsz : d'.size = l.length := by rw [hp.1, hs]
    rw [List.pairwise_iff_getElem]
    intro i j hi hj hij
    have hi' : i < d'.size := by simpa [dnT] using hi
    have hj' : j < d'.size := by simpa [dnT] using hj
    have := hsd i j (Nat.zero_le _) hij (by omega)
    rw [ltT, getElem!_pos d' i hi', getElem!_pos d' j hj'] at this
    simp only [decide_eq_false_iff_not] at this
    simp only [dnT, List.getElem_map, Array.getElem_toList]
    omega
end Go.Proofs.Ytbfpgigbakhplaa.Ord
