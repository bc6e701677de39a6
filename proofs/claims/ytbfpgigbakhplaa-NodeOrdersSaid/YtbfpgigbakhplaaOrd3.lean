/- Sets of references, gone over in whatever order. -/
import Derived.Test.YtbfpgigbakhplaaOrd2
import Derived.Test.YtbfpgigbakhplaaDp
import Derived.Maps.Range
set_option linter.unusedVariables false
set_option linter.unusedSimpArgs false
namespace Go.Proofs.Ytbfpgigbakhplaa.Ord
open Go.RowKit Go.Proofs.Ytbfpgigbakhplaa.Sx Go.Proofs.Ytbfpgigbakhplaa.Mx Go.Proofs.Ytbfpgigbakhplaa.Bw Go.Proofs.Ytbfpgigbakhplaa.By Go.Proofs.Ytbfpgigbakhplaa.Eqs Go.Proofs.Ytbfpgigbakhplaa.Qx Go.Proofs.Ytbfpgigbakhplaa.Ap Go.Proofs.Ytbfpgigbakhplaa.Mi Go.Proofs.Ytbfpgigbakhplaa.Stm Go.Proofs.Ytbfpgigbakhplaa.Fl Go.Proofs.Ytbfpgigbakhplaa.Wd Go.Proofs.Ytbfpgigbakhplaa.Nd Go.Proofs.Ytbfpgigbakhplaa.Mf Go.Proofs.Ytbfpgigbakhplaa.Sc Go.Proofs.Ytbfpgigbakhplaa.Mp Go.Maps
theorem agg_inj {a b : List Value} (h : Value.agg a.toArray = .agg b.toArray) : a = b := by
  have := congrArg (fun v => match v with | Value.agg a => a.toList | _ => []) h
  simpa using this
theorem refV_inj {x y : Ref} (h : refV x = refV y) : x = y := by
  have h1 := agg_inj h
  simp only [refC, List.cons.injEq] at h1
  refine Prod.ext ?_ (By.cb_inj h1.2)
  have := h1.1
  simp at this
  exact BitVec.eq_of_toNat_eq (by omega)
/-- Each once, in the order in which they come first. -/
def ddR : List Ref → List Ref := List.foldl (fun ks x => if x ∈ ks then ks else ks ++ [x]) []
theorem dd_snoc (l : List Ref) (x : Ref) : ddR (l ++ [x]) = if x ∈ ddR l then ddR l else ddR l ++ [x] := by unfold ddR; rw [List.foldl_append]; rfl
theorem dd_mem (l : List Ref) (y : Ref) : y ∈ ddR l ↔ y ∈ l := by
  have : ∀ (l a : List Ref), y ∈ l.foldl (fun ks x => if x ∈ ks then ks else ks ++ [x]) a ↔ y ∈ a ∨ y ∈ l := fun l => by
    induction l with
    | nil => intro a; simp
    | cons x l ih =>
      intro a
      rw [List.foldl_cons, ih]
      split
      · rename_i h
        constructor
        · rintro (h1 | h1) <;> simp [h1]
        · rintro (h1 | h1)
          · exact .inl h1
          · rcases List.mem_cons.1 h1 with rfl | h1
            · exact .inl h
            · exact .inr h1
      · simp [or_assoc]
  rw [ddR, this]; simp
theorem dd_nodup (l : List Ref) : (ddR l).Nodup := by
  have : ∀ (l a : List Ref), a.Nodup → (l.foldl (fun ks x => if x ∈ ks then ks else ks ++ [x]) a).Nodup := fun l => by
    induction l with
    | nil => intro a h; exact h
    | cons x l ih =>
      intro a h
      rw [List.foldl_cons]
      refine ih _ ?_
      split
      · exact h
      · rename_i hn
        rw [List.nodup_append]
        exact ⟨h, by simp, fun y hy z hz e => by rw [List.mem_singleton] at hz; subst hz; subst e; exact hn hy⟩
  exact this l [] List.nodup_nil
theorem dd_len (l : List Ref) : (ddR l).length ≤ l.length := by
  have : ∀ (l a : List Ref), (l.foldl (fun ks x => if x ∈ ks then ks else ks ++ [x]) a).length ≤ a.length + l.length := fun l => by
    induction l with
    | nil => intro a; simp
    | cons x l ih =>
      intro a
      rw [List.foldl_cons]
      refine Nat.le_trans (ih _) ?_
      split
      · simp
      · simp; omega
  have := this l []; simpa [ddR] using this
theorem dd_ok {l : List Ref} (h : OkRs l) : OkRs (ddR l) := fun y hy => h y ((dd_mem l y).1 hy)
section rules
variable {P : Program} {n : Nat} {Q : Exit → Act → World → Prop} {L : Ctx} {w w0 : World} {M0 M M' : List Stm.Item} {ops : Array Oper} {rest : List Oper} {d : Nat} {ty : TypeId} {pos : String} {af : Array Edge}
variable {k e t : TypeId} {b m : Nat}
def SetS (P : Program) (k : TypeId) (ks : List Ref) (f : Lit → Bool) : Prop := (∀ x ∈ ks, ∃ kl, keyOf P k (refV x) = some kl ∧ f kl = true) ∧ ∀ kl, f kl = true → ∃ x ∈ ks, keyOf P k (refV x) = some kl
def setI (P : Program) (b : Nat) (k e : TypeId) (m : Nat) (ks : List Ref) : Stm.Item where
  own := true
  foot := fun g => g = b
  holds := fun w => ∃ D : Dt, w.ownsMap P k (plainElem P e) b m D ∧ IsMap D ∧ SetS P k ks (has D)
  inb := fun {w} ⟨D, h, _⟩ {g} hg => by subst hg; exact h.lt
  keep := fun {w w'} ⟨D, ⟨es, clock, hb, F, hs, hD⟩, h2⟩ hk => ⟨D, ⟨es, clock, (hk b rfl).trans hb, F, hs, hD⟩, h2⟩
def rngI (P : Program) (b r : Nat) (k e : TypeId) (m : Nat) (rem : List Ref) : Stm.Item where
  own := true
  foot := fun g => g = b ∨ g = r
  holds := fun w => ∃ (D : Dt) (left : Lit → Bool) (cnt : Nat), w.ranges P k (plainElem P e) b r m D left cnt ∧ SetS P k rem left
  inb := fun {w} ⟨D, left, cnt, h, _⟩ {g} hg => by
    rcases hg with rfl | rfl
    · exact h.owns.lt
    · exact h.lt
  keep := fun {w w'} ⟨D, left, cnt, ⟨es, clock, since, seen, c0, hb, F, hs, hD, hr, rest⟩, h2⟩ hk => ⟨D, left, cnt, ⟨es, clock, since, seen, c0, (hk b (.inl rfl)).trans hb, F, hs, hD, (hk r (.inr rfl)).trans hr, rest⟩, h2⟩
theorem mkset (hw : St w0 M0 M w) (h : ∀ g w', Kp No w w' → St w0 M0 (setI P g k e 0 [] :: M) w' → Ow P n ops Q rest ((d, .map (some g)) :: L) w') (hd : Nat.blt d n = true := by exact rfl) :
    Ow P n ops Q (⟨some d, .makeMap t none, ty, pos, af, none⟩ :: rest) L w :=
  ow_run hd (w' := w.alloc (.map #[] 0)) (v := .map (some w.heap.size)) (fun a ha => by
    unfold execOp
    simp only [Option.map_none]
    rw [run_ok_bind (run_makeMap (P := P) t w)]
    rfl) (h _ _ (kp_alloc _ _) (hw.new (kp_alloc _ _) ⟨.map [], World.ownsMap_made w P k _, isMap_empty, fun x hx => (by cases hx), fun kl hk => (by cases hk)⟩ (fun g hg => Nat.le_of_eq (show g = _ from hg).symm)))
theorem putset {mo xo yo : Operand} {x : Ref} {ks : List Ref} {y : Value} {dd : Dt} (hw : St w0 M0 M w) (hp : Put (setI P b k e m ks) (setI P b k e (m + 1) (if x ∈ ks then ks else ks ++ [x])) M M') (K : Keyed P k) (ht : P.underlying t = some (.map k e)) (hn : m < maxLen) (hx : ∃ kl, keyOf P k (refV x) = some kl) (hyd : plainElem P e y = some (dd, []))
    (h : ∀ w', St w0 M0 M' w' → Ow P n ops Q rest L w') (hm : ev L mo = some (.map (some b)) := by exact rfl) (hxo : ev L xo = some (refV x) := by exact rfl) (hyo : ev L yo = some y := by exact rfl) :
    Ow P n ops Q (⟨none, .mapUpdate t mo xo yo, ty, pos, af, none⟩ :: rest) L w := by
  obtain ⟨N, p1, p2⟩ := hp.ex
  obtain ⟨D, hD, hI, hS⟩ := hw.pre.all (setI P b k e m ks) (p1.mem_iff.2 (by simp))
  obtain ⟨kl, hkey⟩ := hx
  obtain ⟨w', hrun, hD', hg⟩ := hD.update K ht hn hkey hyd
  refine ow_skip (w' := w') (fun a ha => ?_) (h w' ?_)
  · unfold execOp
    simp only [ha.ev hm, ha.ev hxo, ha.ev hyo]
    rw [run_ok_bind hrun]
    rfl
  · refine hw.turn hp rfl ⟨hg.os, hg.tape, hg.output, hg.size, fun i hi hne => hg.block i hi (fun e => hne (by cases e; rfl))⟩ ⟨_, hD', hI.put kl dd, fun z hz => ?_, fun kl' hk' => ?_⟩ (fun g hg' => .inl hg')
    · have hz' : z ∈ ks ∨ z = x := by
        split at hz
        · exact .inl hz
        · simpa using hz
      rcases hz' with hz' | rfl
      · obtain ⟨kz, h1, h2⟩ := hS.1 z hz'
        refine ⟨kz, h1, ?_⟩
        by_cases hkk : kz = kl
        · subst hkk; exact has_put_same hI (K.key hkey) dd
        · rw [has_put_other hkk]; exact h2
      · exact ⟨kl, hkey, has_put_same hI (K.key hkey) dd⟩
    · by_cases hkk : kl' = kl
      · subst hkk
        refine ⟨x, ?_, hkey⟩
        split
        · assumption
        · simp
      · rw [has_put_other hkk] at hk'
        obtain ⟨z, hz, h2⟩ := hS.2 kl' hk'
        refine ⟨z, ?_, h2⟩
        split
        · exact hz
        · exact List.mem_append_left _ hz
theorem rangeset {mo : Operand} {ks : List Ref} {Mx : Nat → List Stm.Item} (hw : St w0 M0 M w) (hp : ∀ r, Put (setI P b k e m ks) (rngI P b r k e m ks) M (Mx r)) (K : Keyed P k) (ht : P.underlying t = some (.map k e))
    (h : ∀ r w', St w0 M0 (Mx r) w' → Ow P n ops Q rest ((d, .pointer (some ⟨r, 0, none⟩)) :: L) w') (hm : ev L mo = some (.map (some b)) := by exact rfl) (hd : Nat.blt d n = true := by exact rfl) :
    Ow P n ops Q (⟨some d, .range t mo, ty, pos, af, none⟩ :: rest) L w := by
  obtain ⟨D, hD, hI, hS⟩ := hw.pre.all (setI P b k e m ks) (hp 0).pick
  obtain ⟨w', hrun, r1, r2, r3⟩ := hD.range K ht
  refine ow_run hd (w' := w') (v := .pointer (some ⟨w.heap.size, 0, none⟩)) (fun a ha => ?_) (h w.heap.size w' (hw.turn (hp _) rfl ⟨r2.os, r2.tape, r2.output, r2.size, fun i hi _ => r2.block i hi (by simp)⟩ ⟨D, _, _, r1, hS⟩ (fun g hg => ?_)))
  · unfold execOp
    simp only [ha.ev hm]
    rw [run_ok_bind hrun]
    rfl
  · rcases hg with rfl | rfl
    · exact .inl rfl
    · exact .inr (Nat.le_refl _)
theorem nextset {it : Operand} {rem : List Ref} {r : Nat} {Mx : List Ref → List Stm.Item} (hw : St w0 M0 M w) (hp : ∀ rem', Put (rngI P b r k e m rem) (rngI P b r k e m rem') M (Mx rem')) (K : Keyed P k) (hnd : rem.Nodup)
    (hDone : rem = [] → Ow P n ops Q rest ((d, .tuple #[.bool false]) :: L) w)
    (hMore : ∀ x v w', x ∈ rem → St w0 M0 (Mx (rem.erase x)) w' → (Instr.entry (.pointer (some ⟨r, 0, none⟩))).run P w' = .ok (.tuple #[refV x, v]) w' → Ow P n ops Q rest ((d, .tuple #[.bool true, refV x, v]) :: L) w')
    (hi : ev L it = some (.pointer (some ⟨r, 0, none⟩)) := by exact rfl) (hd : Nat.blt d n = true := by exact rfl) :
    Ow P n ops Q (⟨some d, .next it false, ty, pos, af, none⟩ :: rest) L w := by
  obtain ⟨D, left, cnt, hR, hS⟩ := hw.pre.all (rngI P b r k e m rem) (hp []).pick
  rcases hR.next K ty with ⟨_, h0, hrun⟩ | ⟨key, v, kl, y, w', cnt', hkey, hlk, hv, hat, hrun, hrg, hlt, hgr, hsz, hen⟩
  · refine ow_run hd (w' := w) (v := .tuple #[.bool false]) (fun a ha => ?_) (hDone ?_)
    · unfold execOp
      simp only [ha.ev hi]
      rw [run_ok_bind hrun]
      rfl
    · cases rem with
      | nil => rfl
      | cons x rem =>
        obtain ⟨kx, _, h2⟩ := hS.1 x (by simp)
        rw [h0 kx] at h2; cases h2
  · obtain ⟨x, hx, hkx⟩ := hS.2 kl hlk
    have hkk : key = refV x := K.inj hkey hkx
    subst hkk
    refine ow_run hd (w' := w') (v := .tuple #[.bool true, refV x, v]) (fun a ha => ?_) (hMore x v w' hx (hw.turn (hp _) rfl ⟨hgr.os, hgr.tape, hgr.output, hgr.size, fun i hi2 hne => hgr.block i hi2 (fun e => hne (.inr (by cases e; rfl)))⟩ ⟨D, _, _, hrg, fun z hz => ?_, fun kl' hk' => ?_⟩ (fun g hg => .inl hg)) hen)
    · unfold execOp
      simp only [ha.ev hi]
      rw [run_ok_bind hrun]
      rfl
    · have hzr := List.mem_of_mem_erase hz
      obtain ⟨kz, h1, h2⟩ := hS.1 z hzr
      refine ⟨kz, h1, ?_⟩
      have hne : kz.sameKey kl = false := by
        cases hs : kz.sameKey kl with
        | false => rfl
        | true =>
          have := WideAt.sameKey_eq hs
          subst this
          have := refV_inj (K.inj h1 hkx)
          subst this
          exact absurd hz (by rw [List.Nodup.mem_erase_iff hnd]; simp)
      simp [h2, hne]
    · simp only [Bool.and_eq_true, Bool.not_eq_true'] at hk'
      obtain ⟨z, hz, h2⟩ := hS.2 kl' hk'.1
      refine ⟨z, (List.Nodup.mem_erase_iff hnd).2 ⟨fun e => ?_, hz⟩, h2⟩
      subst e
      rw [hkx] at h2
      cases h2
      rw [WideAt.sameKey_self (K.key hkx)] at hk'
      cases hk'.2
theorem entryset {it : Operand} {x : Ref} {v : Value} {r : Nat} (hen : (Instr.entry (.pointer (some ⟨r, 0, none⟩))).run P w = .ok (.tuple #[refV x, v]) w) (h : Ow P n ops Q rest ((d, .tuple #[refV x, v]) :: L) w)
    (hi : ev L it = some (.pointer (some ⟨r, 0, none⟩)) := by exact rfl) (hd : Nat.blt d n = true := by exact rfl) :
    Ow P n ops Q (⟨some d, .entry it, ty, pos, af, none⟩ :: rest) L w :=
  ow_run hd (fun a ha => by
    unfold execOp
    simp only [ha.ev hi]
    rw [run_ok_bind hen]
    rfl) h
end rules
attribute [local irreducible] Ow Cw Xw Mw
set_option maxHeartbeats 4000000
theorem refKey (r : Ref) (hr : OkR r) : ∃ kl, keyOf Try.prog 89 (refV r) = some kl := by
  refine key_agg (by rw [Try.underlying89]) (by kernel_rfl) (by rw [refC_len hr]; kernel_rfl) ?_
  refine key_struct2 (c1 := [u32 r.1]) (c2 := cb r.2) Try.underlying89 (by kernel_rfl) (by rw [List.length_append, List.length_map, show r.2.length = 32 from hr]; kernel_rfl) rfl (by kernel_rfl) rfl (by rw [List.length_map, show r.2.length = 32 from hr]; kernel_rfl) (key_int Try.underlying42 ?_) (key_bytes Try.underlying79 Try.underlying5 (by kernel_rfl) (by kernel_rfl) hr)
  have := r.1.isLt
  simp only [Lit.wf, Bool.and_eq_true, decide_eq_true_eq, IntKind.min, IntKind.max, IntKind.signed, IntKind.bits]
  simp
  omega
theorem refKeyed : Keyed Try.prog 89 := Keyed.of_law (deep_law_laid (by kernel_rfl) (m := 9) (by decide) (of_decide_eq_true (by kernel_rfl)) (by kernel_rfl) (by rw [Try.underlying89]))
theorem plTrue : plainElem (H := Unit) Try.prog 4 (.bool true) = some (.lit (.bool true), []) := by
  unfold plainElem
  simp [Try.underlying4]
end Go.Proofs.Ytbfpgigbakhplaa.Ord
