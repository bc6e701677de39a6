/- Patches: what they are, without the program. -/
import Derived.Test.YtbfpgigbakhplaaBlkNear
set_option linter.unusedVariables false
set_option linter.unusedSimpArgs false
namespace Go.Proofs.Ytbfpgigbakhplaa.Blk1
open Go.RowKit Go.Proofs.Ytbfpgigbakhplaa.Sx Go.Proofs.Ytbfpgigbakhplaa.Mx Go.Proofs.Ytbfpgigbakhplaa.Bw Go.Proofs.Ytbfpgigbakhplaa.By Go.Proofs.Ytbfpgigbakhplaa.Eqs Go.Proofs.Ytbfpgigbakhplaa.Fl Go.Proofs.Ytbfpgigbakhplaa.Qx Go.Proofs.Ytbfpgigbakhplaa.Ap Go.Proofs.Ytbfpgigbakhplaa.Ar Go.Proofs.Ytbfpgigbakhplaa.Mi

/-- The first place from i on where two blocks are alike (or the end). -/
def runF (a b : List Byte) : Nat → Nat → Nat
  | 0, i => i
  | f + 1, i => if a[i]? = b[i]? then i else runF a b f (i + 1)
def runE (a b : List Byte) (i : Nat) : Nat := runF a b (256 - i) i
theorem runE_eq (a b : List Byte) (i : Nat) : runE a b i = if i < 256 ∧ a[i]? ≠ b[i]? then runE a b (i + 1) else i := by
  unfold runE
  rcases Nat.lt_or_ge i 256 with h | h
  · rw [show 256 - i = (256 - (i + 1)) + 1 from by omega, runF]
    by_cases he : a[i]? = b[i]?
    · rw [if_pos he, if_neg (fun h => h.2 he)]
    · rw [if_neg he, if_pos ⟨h, he⟩]
  · rw [show 256 - i = 0 from by omega, runF, if_neg (by omega)]
theorem runE_step {a b : List Byte} {i : Nat} (h : i < 256 ∧ a[i]? ≠ b[i]?) : runE a b i = runE a b (i + 1) := by rw [runE_eq, if_pos h]
theorem runE_end {a b : List Byte} {i : Nat} (h : ¬ (i < 256 ∧ a[i]? ≠ b[i]?)) : runE a b i = i := by rw [runE_eq, if_neg h]
theorem runE_ge (a b : List Byte) (i : Nat) : i ≤ runE a b i := by
  rw [runE_eq]
  split
  · have := runE_ge a b (i + 1); omega
  · exact Nat.le_refl _
termination_by 256 - i
theorem runE_le (a b : List Byte) (i : Nat) (hi : i ≤ 256) : runE a b i ≤ 256 := by
  rw [runE_eq]
  split
  · exact runE_le a b (i + 1) (by omega)
  · exact hi
termination_by 256 - i
theorem runE_stop (a b : List Byte) (i : Nat) (hi : i ≤ 256) : runE a b i = 256 ∨ a[runE a b i]? = b[runE a b i]? := by
  rw [runE_eq]
  split
  · exact runE_stop a b (i + 1) (by omega)
  · rename_i h
    rcases Nat.lt_or_ge i 256 with h1 | h1
    · exact .inr (Classical.byContradiction fun h2 => h ⟨h1, h2⟩)
    · exact .inl (by omega)
termination_by 256 - i
/-- The patches from i on. -/
def ptsF (a b : List Byte) : Nat → Nat → List (Nat × List Byte)
  | 0, _ => []
  | f + 1, i => if i < 256 then (if a[i]? = b[i]? then ptsF a b f (i + 1) else (i, (b.take (runE a b i)).drop i) :: ptsF a b f (max (i + 1) (runE a b i))) else []
def pts (a b : List Byte) (i : Nat) : List (Nat × List Byte) := ptsF a b (256 - i) i
theorem ptsF_fuel (a b : List Byte) : ∀ (f i : Nat), 256 - i ≤ f → ptsF a b f i = ptsF a b (256 - i) i
  | 0, i, h => by rw [show 256 - i = 0 from by omega]
  | f + 1, i, h => by
    rcases Nat.lt_or_ge i 256 with h1 | h1
    · rw [show 256 - i = (256 - (i + 1)) + 1 from by omega, ptsF, ptsF, if_pos h1, if_pos h1]
      rw [ptsF_fuel a b f (i + 1) (by omega), ptsF_fuel a b f (max (i + 1) (runE a b i)) (by omega), ptsF_fuel a b (256 - (i + 1)) (max (i + 1) (runE a b i)) (by omega)]
    · rw [show 256 - i = 0 from by omega, ptsF, ptsF, if_neg (by omega)]
theorem pts_eq (a b : List Byte) (i : Nat) : pts a b i = if i < 256 then (if a[i]? = b[i]? then pts a b (i + 1) else (i, (b.take (runE a b i)).drop i) :: pts a b (max (i + 1) (runE a b i))) else [] := by
  unfold pts
  rcases Nat.lt_or_ge i 256 with h1 | h1
  · rw [show 256 - i = (256 - (i + 1)) + 1 from by omega, ptsF, if_pos h1, if_pos h1, ptsF_fuel a b (256 - (i + 1)) (max (i + 1) (runE a b i)) (by omega)]
  · rw [show 256 - i = 0 from by omega, ptsF, if_neg (by omega)]
theorem pts_end {a b : List Byte} {i : Nat} (h : 256 ≤ i) : pts a b i = [] := by rw [pts_eq, if_neg (by omega)]
theorem pts_same {a b : List Byte} {i : Nat} (h : i < 256) (he : a[i]? = b[i]?) : pts a b i = pts a b (i + 1) := by rw [pts_eq, if_pos h, if_pos he]
theorem runE_gt {a b : List Byte} {i : Nat} (h : i < 256) (he : a[i]? ≠ b[i]?) : i < runE a b i := by
  rw [runE_step ⟨h, he⟩]; have := runE_ge a b (i + 1); omega
theorem pts_not {a b : List Byte} {i : Nat} (h : i < 256) (he : a[i]? ≠ b[i]?) : pts a b i = (i, (b.take (runE a b i)).drop i) :: pts a b (runE a b i) := by
  have := runE_gt h he
  rw [pts_eq, if_pos h, if_neg he, Nat.max_eq_right (by omega)]
theorem pts_refl (a : List Byte) (i : Nat) : pts a a i = [] := by
  rw [pts_eq]
  split
  · rw [if_pos rfl]; exact pts_refl a (i + 1)
  · rfl
termination_by 256 - i
/-- .. where a run ends. -/
theorem pts_runE (a b : List Byte) (i : Nat) (hi : i ≤ 256) : pts a b (runE a b i) = pts a b (runE a b i + 1) := by
  have hle := runE_le a b i hi
  rcases runE_stop a b i hi with h | h
  · rw [h, pts_end (Nat.le_refl _), pts_end (by omega)]
  · rcases Nat.lt_or_ge (runE a b i) 256 with h1 | h1
    · exact pts_same h1 h
    · rw [pts_end h1, pts_end (by omega)]
/-- How many places a run holds. -/
theorem dfs_run {a b : List Byte} (ha : a.length = 256) (hb : b.length = 256) (i : Nat) (hi : i ≤ 256) : (dfs a b (runE a b i)).2 = (dfs a b i).2 + (runE a b i - i) := by
  rw [runE_eq]
  split
  · rename_i h
    have ih := dfs_run ha hb (i + 1) (by omega)
    have hge := runE_ge a b (i + 1)
    have hn : ¬ a[i]'(by omega) = b[i]'(by omega) := fun e => h.2 (by rw [List.getElem?_eq_getElem (by omega), List.getElem?_eq_getElem (by omega), e])
    have hs := dfs_not (by omega) (by omega) hn
    have h2 : (dfs a b (i + 1)).2 = (dfs a b i).2 + 1 := by rw [hs]
    omega
  · omega
termination_by 256 - i

/-- These patches, and those from i on, are all. -/
structure Pre (a b : List Byte) (P : List (Nat × List Byte)) (i : Nat) : Prop where
  eq : P ++ pts a b i = pts a b 0
theorem pre_nil (a b : List Byte) : Pre a b [] 0 := ⟨List.nil_append _⟩
/-- Patches laid one behind the other. -/
def apL : List Byte → List (Int × List Byte) → Int → List Byte × Int × Int
  | c, [], _ => (c, 0, 0)
  | c, p :: r, i => if (layR c p.1 p.2).2 = 0 then apL (layR c p.1 p.2).1 r (i + 1) else (z256, i, 40)
def ofN (p : Nat × List Byte) : Int × List Byte := ((p.1 : Int), p.2)
theorem layR_err (b : List Byte) (at_ : Int) (s : List Byte) : (layR b at_ s).2 = 0 ∨ ((layR b at_ s).2 = 40 ∧ (layR b at_ s).1 = z256) := by
  unfold layR; split
  · exact .inl rfl
  · exact .inr ⟨rfl, rfl⟩
theorem apL_pts (a b : List Byte) (ha : a.length = 256) (hb : b.length = 256) (i : Nat) (hi : i ≤ 256) (k : Int) : apL (b.take i ++ a.drop i) ((pts a b i).map ofN) k = (b, 0, 0) := by
  rcases Nat.lt_or_ge i 256 with h | h
  · by_cases he : a[i]? = b[i]?
    · have he0 := he
      have e : b.take i ++ a.drop i = b.take (i + 1) ++ a.drop (i + 1) := by
        rw [List.take_succ_eq_append_getElem (show i < b.length by omega), List.drop_eq_getElem_cons (show i < a.length by omega)]
        rw [List.getElem?_eq_getElem (by omega), List.getElem?_eq_getElem (by omega), Option.some.injEq] at he
        rw [he, List.append_assoc, List.singleton_append]
      rw [pts_same h he0, e]
      exact apL_pts a b ha hb (i + 1) (by omega) k
    · have hgt := runE_gt h he
      have hle := runE_le a b i hi
      have hlen : ((b.take (runE a b i)).drop i).length = runE a b i - i := by simp; omega
      have e : layR (b.take i ++ a.drop i) (i : Int) ((b.take (runE a b i)).drop i) = (b.take (runE a b i) ++ a.drop (runE a b i), 0) := by
        unfold layR
        rw [if_pos (by rw [hlen]; omega)]
        simp only [Int.toNat_natCast, hlen]
        have e1 : (b.take i ++ a.drop i).take i = b.take i := List.take_left' (by simp; omega)
        have e3 : (b.take i).length = i := by simp; omega
        have e2 : (b.take i ++ a.drop i).drop (i + (runE a b i - i)) = a.drop (runE a b i) := by
          rw [show i + (runE a b i - i) = runE a b i from by omega, List.drop_append, List.drop_of_length_le (by omega), List.nil_append, List.drop_drop, e3]
          congr 1
          omega
        have e4 : b.take i ++ (b.take (runE a b i)).drop i = b.take (runE a b i) := by
          have e5 : (b.take (runE a b i)).take i ++ (b.take (runE a b i)).drop i = b.take (runE a b i) := List.take_append_drop i _
          rwa [List.take_take, Nat.min_eq_left (by omega)] at e5
        rw [e1, e2, e4]
      rw [pts_not h he, List.map_cons, apL]
      show (if (layR (b.take i ++ a.drop i) (i : Int) ((b.take (runE a b i)).drop i)).2 = 0 then _ else _) = _
      rw [e, if_pos rfl]
      show apL (layR (b.take i ++ a.drop i) (i : Int) ((b.take (runE a b i)).drop i)).1 _ _ = _
      rw [e]
      exact apL_pts a b ha hb (runE a b i) hle (k + 1)
  · have : i = 256 := by omega
    rw [pts_end h, List.map_nil, apL, this, List.take_of_length_le (by omega), List.drop_of_length_le (by omega), List.append_nil]
termination_by 256 - i
theorem apL_len (c : List Byte) (hc : c.length = 256) : ∀ (l : List (Int × List Byte)) (i : Int), (apL c l i).1.length = 256
  | [], i => hc
  | p :: r, i => by
    rw [apL]
    split
    · exact apL_len _ (layR_len c hc p.1 p.2) r (i + 1)
    · exact z256_len
termination_by l => l.length

def ptC (p : Int × List Byte) : List Value := [.int .i64 p.1, str p.2]
abbrev ptsC (l : List (Int × List Byte)) : List Value := l.flatMap ptC
end Go.Proofs.Ytbfpgigbakhplaa.Blk1
