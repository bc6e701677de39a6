-- PRINTED BY print.sh 35421559b90ae4d0a3588c463048766b98c2df88dd9212a6774a882060cdf62d: not written by this session
import Derived.Test.YtfpikmfonpnicaaPWordBackx0
import Derived.Test.YtfpikmfonpnicaaPWordBackx1
namespace Go.Proofs.Ytfpikmfonpnicaa.PWordBack
open Go.RowKit Go.Proofs.YtfpikmfonpnicaaW.PrintWords Go.Proofs.YtfpikmfonpnicaaW.PrintLast Go.Proofs.YtfpikmfonpnicaaW.PrintMore
attribute [local go_sem] max2_int min2_int max_two min_two max_three min_three max_four min_four   -- for this text's walks alone
set_option linter.unusedVariables false
set_option linter.unusedSimpArgs false

/-! ### signetlaw01_WordBack: function 5 -/
mutual
def signetlaw01_WordBack.j0 : Nat → Int → Bool → Int → Int → Int → Option (Bool)
  | 0, _, _, _, _, _ => none
  | k + 1, x0, x40, x112000, x112001, x112002 => if x40 = true then (some false) else ((word_Extend.f x0 x112001).bind fun bt115 => (if bt115.2 = 0 then ((word_Narrow.f bt115.1 x112001).bind fun bt117 => ((word_Extend.f bt117.1 x112001).bind fun bt119 => (if bt117.2 = 0 then (if bt119.2 = 0 then (if bt119.1 = bt115.1 then (signetlaw01_WordBack.j1 k x0 x112000 x112001 x112002) else (some false)) else (some false)) else (some false)))) else (signetlaw01_WordBack.j1 k x0 x112000 x112001 x112002)))
def signetlaw01_WordBack.j1 : Nat → Int → Int → Int → Int → Option (Bool)
  | 0, _, _, _, _ => none
  | k + 1, x0, x112000, x112001, x112002 => (word_Lay.f k x0 x112000 x112001 x112002).bind fun bt121 => (if bt121.2 = 0 then ((word_Field.f bt121.1 x112000 x112001).bind fun bt123 => ((word_Field.f x0 x112000 x112001).bind fun bt125 => ((word_Lay.f k bt121.1 x112000 x112001 bt125.1).bind fun bt127 => (if bt123.2 = 0 then (if bt125.2 = 0 then (if bt127.2 = 0 then (if bt123.1 = x112002 then (some (bt127.1 == x0)) else (some false)) else (some false)) else (some false)) else (some false))))) else (some true))
end
def signetlaw01_WordBack.f (k : Nat) (a0 : Int) (a1 : Int) (a2_0 : Int) (a2_1 : Int) (a2_2 : Int) : Option (Bool) := (signetlaw01_awake.f).bind fun t112 => (if t112 = true then (if a1 = (-9223372036854775808) then (signetlaw01_WordBack.j0 k a0 false a2_0 a2_1 a2_2) else ((word_Turn.f ((a0) % 4294967296) a1).bind fun t113 => ((word_Turn.f t113 (wrap64 (-a1))).bind fun t114 => (signetlaw01_WordBack.j0 k a0 (t114 != ((a0) % 4294967296)) a2_0 a2_1 a2_2)))) else (signetlaw01_WordBack.j0 k a0 true a2_0 a2_1 a2_2))
theorem signetlaw01_WordBack.mono_l : ∀ k, (∀ y0 y1 y2 y3 y4, LeO (signetlaw01_WordBack.j0 k y0 y1 y2 y3 y4) (signetlaw01_WordBack.j0 (k + 1) y0 y1 y2 y3 y4)) ∧ (∀ y0 y1 y2 y3, LeO (signetlaw01_WordBack.j1 k y0 y1 y2 y3) (signetlaw01_WordBack.j1 (k + 1) y0 y1 y2 y3))
  | 0 => ⟨fun _ _ _ _ _ r h => by simp [signetlaw01_WordBack.j0] at h, fun _ _ _ _ r h => by simp [signetlaw01_WordBack.j1] at h⟩
  | k + 1 => by
    obtain ⟨ih0, ih1⟩ := signetlaw01_WordBack.mono_l k
    refine ⟨?_, ?_⟩
    · intro y0 y1 y2 y3 y4
      unfold signetlaw01_WordBack.j0
      repeat' first
      | (with_reducible exact ih0 _ _ _ _ _)
      | (with_reducible exact ih1 _ _ _ _)
      | (with_reducible exact word_Lay.mono _ _ _ _ _)
      | (with_reducible exact LeO.refl _)
      | (with_reducible exact LeO.none _)
      | (with_reducible refine LeO.ite ?_ ?_)
      | (with_reducible refine LeO.bind ?_ (fun _ => ?_))
      | exact ih0 _ _ _ _ _
      | exact ih1 _ _ _ _
      | exact word_Lay.mono _ _ _ _ _
      | exact LeO.none _
      | refine LeO.ite ?_ ?_
      | refine LeO.bind ?_ (fun _ => ?_)
    · intro y0 y1 y2 y3
      unfold signetlaw01_WordBack.j1
      repeat' first
      | (with_reducible exact ih0 _ _ _ _ _)
      | (with_reducible exact ih1 _ _ _ _)
      | (with_reducible exact word_Lay.mono _ _ _ _ _)
      | (with_reducible exact LeO.refl _)
      | (with_reducible exact LeO.none _)
      | (with_reducible refine LeO.ite ?_ ?_)
      | (with_reducible refine LeO.bind ?_ (fun _ => ?_))
      | exact ih0 _ _ _ _ _
      | exact ih1 _ _ _ _
      | exact word_Lay.mono _ _ _ _ _
      | exact LeO.none _
      | refine LeO.ite ?_ ?_
      | refine LeO.bind ?_ (fun _ => ?_)
theorem signetlaw01_WordBack.mono : ∀ a0 a1 a2 a3 a4 k, LeO (signetlaw01_WordBack.f k a0 a1 a2 a3 a4) (signetlaw01_WordBack.f (k + 1) a0 a1 a2 a3 a4) := by
  intro a0 a1 a2 a3 a4 k
  obtain ⟨ih0, ih1⟩ := signetlaw01_WordBack.mono_l k
  unfold signetlaw01_WordBack.f
  repeat' first
      | (with_reducible exact ih0 _ _ _ _ _)
      | (with_reducible exact ih1 _ _ _ _)
      | (with_reducible exact word_Lay.mono _ _ _ _ _)
      | (with_reducible exact LeO.refl _)
      | (with_reducible exact LeO.none _)
      | (with_reducible refine LeO.ite ?_ ?_)
      | (with_reducible refine LeO.bind ?_ (fun _ => ?_))
      | exact ih0 _ _ _ _ _
      | exact ih1 _ _ _ _
      | exact word_Lay.mono _ _ _ _ _
      | exact LeO.none _
      | refine LeO.ite ?_ ?_
      | refine LeO.bind ?_ (fun _ => ?_)
set_option maxHeartbeats 8000000 in
set_option maxRecDepth 100000 in
theorem signetlaw01_WordBack.calls (k : Nat) (a0 : Int) (a1 : Int) (a2_0 : Int) (a2_1 : Int) (a2_2 : Int) (r : Bool) (w : World) (h : signetlaw01_WordBack.f k a0 a1 a2_0 a2_1 a2_2 = some r) :
    Calls Try.prog 5 #[.int .u64 a0, .int .i64 a1, .agg #[.int .i64 a2_0, .int .i64 a2_1, .int .u64 a2_2]] w fun e w' => e = .returned (.bool r) ∧ Below w.heap.size w w' := by
  have hu43 := Try.underlying43
  have HB := Aside0.mk (Below.refl w.heap.size w)
  have H : ((signetlaw01_awake.f).bind fun t112 => (if t112 = true then (if a1 = (-9223372036854775808) then (signetlaw01_WordBack.j0 k a0 false a2_0 a2_1 a2_2) else ((word_Turn.f ((a0) % 4294967296) a1).bind fun t113 => ((word_Turn.f t113 (wrap64 (-a1))).bind fun t114 => (signetlaw01_WordBack.j0 k a0 (t114 != ((a0) % 4294967296)) a2_0 a2_1 a2_2)))) else (signetlaw01_WordBack.j0 k a0 true a2_0 a2_1 a2_2))) = some r := h
  clear h
  have HC4 := Aside0.mk H
  clear H
  go_enter Try.func5, Try.ntmps5
  go_upto_region 2 with (first | ((with_reducible refine gate_dst (N := 5) rfl ?_); refine box_event ?hg (N := 5) ?hd (cs := #[.int .i64 a2_0, .int .i64 a2_1, .int .u64 a2_2]) (t := 43) ?hr ?_; (case hd => rfl); (case hg => rfl); (case hr => first | (go_simp; done) | (go_simp; rfl)); intro gb111 hg w5 hbox hb; have n0_ := Aside0.mk (below_step (by repeat (first | (with_reducible first | exact HB.out | apply below_alloc | apply pw_below_drewN | apply below_drew1) | exact HB.out)) hb); have n1_ := Aside0.mk (hbox); have n2_ := Aside0.mk ((by rw [hg]; exact (below_size (by repeat (first | (with_reducible first | exact HB.out | apply below_alloc | apply pw_below_drewN | apply below_drew1) | exact HB.out))) : w.heap.size ≤ gb111)); have n3_ := Aside0.mk ((by rw [hg]; exact (below_size (by repeat (first | (with_reducible first | exact HB.out | apply below_alloc | apply pw_below_drewN | apply below_drew1) | exact HB.out))) : w.heap.size ≤ gb111)); clear HB; have HB := n0_; have BK111 := n1_; have GW111 := n2_; have GE111 := n3_; clear n0_ n1_ n2_ n3_; clear hb hbox hg))
  (try simp only [Act.put, List.setIfInBounds_toArray, List.set_cons_zero, List.set_cons_succ])
  go_cut [40] (fun v40 wc => ∃ (kq : Nat) (x40_3 : Bool), v40 = .bool x40_3 ∧ Aside0 (signetlaw01_WordBack.j0 kq a0 x40_3 a2_0 a2_1 a2_2 = some r) ∧ Aside0 (kq ≤ k) ∧ Aside0 (wc.heap[gb111]? = some (.cells #[.int .i64 a2_0, .int .i64 a2_1, .int .u64 a2_2] 43 (0, 0))) ∧ Aside0 (Below w.heap.size w wc))
  case first =>
    have H := HC4.out
    clear HC4
    replace H := Option.bind_eq_some_iff.mp H
    obtain ⟨t112, A60, H⟩ := H
    replace H : (if t112 = true then (if a1 = (-9223372036854775808) then (signetlaw01_WordBack.j0 k a0 false a2_0 a2_1 a2_2) else ((word_Turn.f ((a0) % 4294967296) a1).bind fun t113 => ((word_Turn.f t113 (wrap64 (-a1))).bind fun t114 => (signetlaw01_WordBack.j0 k a0 (t114 != ((a0) % 4294967296)) a2_0 a2_1 a2_2)))) else (signetlaw01_WordBack.j0 k a0 true a2_0 a2_1 a2_2)) = some r := H
    have A6 := Aside0.mk A60
    clear A60
    by_cases c7 : t112 = true
    · subst c7
      have H1 : (if a1 = (-9223372036854775808) then (signetlaw01_WordBack.j0 k a0 false a2_0 a2_1 a2_2) else ((word_Turn.f ((a0) % 4294967296) a1).bind fun t113 => ((word_Turn.f t113 (wrap64 (-a1))).bind fun t114 => (signetlaw01_WordBack.j0 k a0 (t114 != ((a0) % 4294967296)) a2_0 a2_1 a2_2)))) = some r := by rw [if_pos rfl] at H; exact H
      clear H
      have H := H1
      clear H1
      by_cases c8 : a1 = (-9223372036854775808)
      · rw [if_pos c8] at H
        have c8b0 : (a1 == (-9223372036854775808)) = true := beq_iff_eq.mpr c8
        have c8b1 : (a1 != (-9223372036854775808)) = false := bne_eq_false_iff_eq.mpr c8
        clear c8
        (first | rw [c8b0] | (simp only [i64_w, i32_w]; rw [c8b0]) | skip)
        have H' := Aside0.mk H
        clear H
        go_wp2_with (first | ((with_reducible refine gate_callee (f := 13) rfl ?_); refine goesL_ (some 22) rfl rfl Try.func13 (by kernel_rfl) rfl #[] rfl (by (try simp only [List.map_toArray, List.map_cons, List.map_nil]); first | done | rfl | (simp only [List.length_drop, List.length_take]; rfl)) ?_; (with_reducible refine (signetlaw01_awake.calls  true _ A6.out).mono ?_); rintro e w' ⟨rfl, ⟨nd, rfl⟩⟩; refine ⟨_, rfl, ?_⟩))
        go_meet
        case rel => exact ⟨_, (false), (by first | rfl | (simp; done) | (simp [*]; done)), H', ⟨by first | omega | exact Nat.le_refl _⟩, ⟨by (with_reducible repeat (first | refine blk_drewN ?_ _ | refine blk_drew ?_ | refine blk_alloc ?_ _)); exact BK111.out⟩, ⟨by repeat (first | (with_reducible first | exact HB.out | apply below_alloc | apply pw_below_drewN | apply below_drew1 | refine below_set ?_ GE111.out) | exact HB.out)⟩⟩
      · rw [if_neg c8] at H
        have c8b0 : (a1 == (-9223372036854775808)) = false := beq_eq_false_iff_ne.mpr c8
        have c8b1 : (a1 != (-9223372036854775808)) = true := bne_iff_ne.mpr c8
        (first | rw [c8b0] | (simp only [i64_w, i32_w]; rw [c8b0]) | skip)
        replace H := Option.bind_eq_some_iff.mp H
        obtain ⟨t113, A90, H⟩ := H
        replace H : ((word_Turn.f t113 (wrap64 (-a1))).bind fun t114 => (signetlaw01_WordBack.j0 k a0 (t114 != ((a0) % 4294967296)) a2_0 a2_1 a2_2)) = some r := H
        have A9 := Aside0.mk A90
        clear A90
        replace H := Option.bind_eq_some_iff.mp H
        obtain ⟨t114, A100, H⟩ := H
        replace H : (signetlaw01_WordBack.j0 k a0 (t114 != ((a0) % 4294967296)) a2_0 a2_1 a2_2) = some r := H
        have A10 := Aside0.mk A100
        clear A100
        have H' := Aside0.mk H
        clear H
        go_wp2_with (first | ((with_reducible refine gate_callee (f := 13) rfl ?_); refine goesL_ (some 22) rfl rfl Try.func13 (by kernel_rfl) rfl #[] rfl (by (try simp only [List.map_toArray, List.map_cons, List.map_nil]); first | done | rfl | (simp only [List.length_drop, List.length_take]; rfl)) ?_; (with_reducible refine (signetlaw01_awake.calls  true _ A6.out).mono ?_); rintro e w' ⟨rfl, ⟨nd, rfl⟩⟩; refine ⟨_, rfl, ?_⟩) | (go_at_call 14; (with_reducible refine (word_Turn.calls ((a0) % 4294967296) a1 t113 _ A9.out).mono ?_); rintro e w' ⟨rfl, ⟨nd, rfl⟩⟩) | (go_at_call 14; (with_reducible refine (word_Turn.calls t113 (wrap64 (-a1)) t114 _ A10.out).mono ?_); rintro e w' ⟨rfl, ⟨nd, rfl⟩⟩))
        go_meet
        case rel => exact ⟨_, ((t114 != ((a0) % 4294967296))), (by first | rfl | (simp; done) | (simp [*]; done)), H', ⟨by first | omega | exact Nat.le_refl _⟩, ⟨by (with_reducible repeat (first | refine blk_drewN ?_ _ | refine blk_drew ?_ | refine blk_alloc ?_ _)); exact BK111.out⟩, ⟨by repeat (first | (with_reducible first | exact HB.out | apply below_alloc | apply pw_below_drewN | apply below_drew1 | refine below_set ?_ GE111.out) | exact HB.out)⟩⟩
    · replace c7 := Bool.eq_false_iff.mpr c7
      subst c7
      have H1 : (signetlaw01_WordBack.j0 k a0 true a2_0 a2_1 a2_2) = some r := by rw [if_neg (show ¬ (false = true) by decide)] at H; exact H
      clear H
      have H := H1
      clear H1
      have H' := Aside0.mk H
      clear H
      go_wp2_with (first | ((with_reducible refine gate_callee (f := 13) rfl ?_); refine goesL_ (some 22) rfl rfl Try.func13 (by kernel_rfl) rfl #[] rfl (by (try simp only [List.map_toArray, List.map_cons, List.map_nil]); first | done | rfl | (simp only [List.length_drop, List.length_take]; rfl)) ?_; (with_reducible refine (signetlaw01_awake.calls  false _ A6.out).mono ?_); rintro e w' ⟨rfl, ⟨nd, rfl⟩⟩; refine ⟨_, rfl, ?_⟩))
      go_meet
      case rel => exact ⟨_, (true), (by first | rfl | (simp; done) | (simp [*]; done)), H', ⟨by first | omega | exact Nat.le_refl _⟩, ⟨by (with_reducible repeat (first | refine blk_drewN ?_ _ | refine blk_drew ?_ | refine blk_alloc ?_ _)); exact BK111.out⟩, ⟨by repeat (first | (with_reducible first | exact HB.out | apply below_alloc | apply pw_below_drewN | apply below_drew1 | refine below_set ?_ GE111.out) | exact HB.out)⟩⟩
  case rest =>
    clear HC4
    try clear c1
    try clear p2
    try clear c5
    try clear p6
    try clear c7
    try clear c8
    try clear c8b0
    try clear c8b1
    obtain ⟨kq, x40_3, rfl, HA, HJ3, BK111, HB⟩ := hcut
    cases kq with
    | zero => exact absurd HA.out (by simp [signetlaw01_WordBack.j0])
    | succ kj3 =>
      have H := HA.out
      clear HA
      simp only [signetlaw01_WordBack.j0] at H
      by_cases c11 : x40_3 = true
      · subst c11
        have H1 : (some false) = some r := by rw [if_pos rfl] at H; exact H
        clear H
        have H := H1
        clear H1
        obtain rfl := Option.some.inj H
        go_wp2
        go_ret
        exact ⟨by first | rfl | (simp [errW_none, errW_some] <;> rfl) | (simp [*, errW_none, errW_some] <;> rfl), by repeat (first | (with_reducible first | exact HB.out | apply below_alloc | apply pw_below_drewN | apply below_drew1 | refine below_set ?_ GE111.out) | exact HB.out)⟩
      · replace c11 := Bool.eq_false_iff.mpr c11
        subst c11
        have H1 : ((word_Extend.f a0 a2_1).bind fun bt115 => (if bt115.2 = 0 then ((word_Narrow.f bt115.1 a2_1).bind fun bt117 => ((word_Extend.f bt117.1 a2_1).bind fun bt119 => (if bt117.2 = 0 then (if bt119.2 = 0 then (if bt119.1 = bt115.1 then (signetlaw01_WordBack.j1 kj3 a0 a2_0 a2_1 a2_2) else (some false)) else (some false)) else (some false)))) else (signetlaw01_WordBack.j1 kj3 a0 a2_0 a2_1 a2_2))) = some r := by rw [if_neg (show ¬ (false = true) by decide)] at H; exact H
        clear H
        have H := H1
        clear H1
        replace H := Option.bind_eq_some_iff.mp H
        obtain ⟨⟨t115, t116⟩, A120, H⟩ := H
        replace H : (if t116 = 0 then ((word_Narrow.f t115 a2_1).bind fun bt117 => ((word_Extend.f bt117.1 a2_1).bind fun bt119 => (if bt117.2 = 0 then (if bt119.2 = 0 then (if bt119.1 = t115 then (signetlaw01_WordBack.j1 kj3 a0 a2_0 a2_1 a2_2) else (some false)) else (some false)) else (some false)))) else (signetlaw01_WordBack.j1 kj3 a0 a2_0 a2_1 a2_2)) = some r := H
        have A12 := Aside0.mk A120
        clear A120
        have HC13 := Aside0.mk H
        clear H
        have hcz14_0 : wc.cell? ⟨gb111, 0, none⟩ = some (.int .i64 a2_0) := (blk_cell BK111.out 0).trans rfl
        have hcz14_1 : wc.cell? ⟨gb111, 1, none⟩ = some (.int .i64 a2_1) := (blk_cell BK111.out 1).trans rfl
        have hcz14_2 : wc.cell? ⟨gb111, 2, none⟩ = some (.int .u64 a2_2) := (blk_cell BK111.out 2).trans rfl
        have hfz14_0 := blk_frozen BK111.out 0
        have hfz14_1 := blk_frozen BK111.out 1
        have hfz14_2 := blk_frozen BK111.out 2
        go_upto_if 49 with (first | ((with_reducible refine gate_callee (f := 20) rfl ?_); refine goesL_ (some 45) rfl rfl Try.func20 (by kernel_rfl) rfl #[.int .u64 a0, .int .i64 a2_1] rfl (by (try simp only [List.map_toArray, List.map_cons, List.map_nil]); first | done | rfl | (simp only [List.length_drop, List.length_take]; rfl)) ?_; (with_reducible refine (word_Extend.calls a0 a2_1 t115 t116 _ A12.out).mono ?_); rintro e w' ⟨rfl, ⟨nd, rfl⟩⟩; refine ⟨_, rfl, ?_⟩))
        (try simp only [Act.put, List.setIfInBounds_toArray, List.set_cons_zero, List.set_cons_succ])
        go_cut [] (fun wc => ∃ (kq : Nat), Aside0 (signetlaw01_WordBack.j1 kq a0 a2_0 a2_1 a2_2 = some r) ∧ Aside0 (kq ≤ kj3) ∧ Aside0 (wc.heap[gb111]? = some (.cells #[.int .i64 a2_0, .int .i64 a2_1, .int .u64 a2_2] 43 (0, 0))) ∧ Aside0 (Below w.heap.size w wc))
        case first =>
          have H := HC13.out
          clear HC13
          by_cases c15 : t116 = 0
          · rw [if_pos c15] at H
            have c15b0 : (t116 == 0) = true := beq_iff_eq.mpr c15
            have c15b1 : (t116 != 0) = false := bne_eq_false_iff_eq.mpr c15
            clear c15
            (first | rw [c15b0] | (simp only [i64_w, i32_w]; rw [c15b0]) | skip)
            replace H := Option.bind_eq_some_iff.mp H
            obtain ⟨⟨t117, t118⟩, A160, H⟩ := H
            replace H : ((word_Extend.f t117 a2_1).bind fun bt119 => (if t118 = 0 then (if bt119.2 = 0 then (if bt119.1 = t115 then (signetlaw01_WordBack.j1 kj3 a0 a2_0 a2_1 a2_2) else (some false)) else (some false)) else (some false))) = some r := H
            have A16 := Aside0.mk A160
            clear A160
            replace H := Option.bind_eq_some_iff.mp H
            obtain ⟨⟨t119, t120⟩, A170, H⟩ := H
            replace H : (if t118 = 0 then (if t120 = 0 then (if t119 = t115 then (signetlaw01_WordBack.j1 kj3 a0 a2_0 a2_1 a2_2) else (some false)) else (some false)) else (some false)) = some r := H
            have A17 := Aside0.mk A170
            clear A170
            by_cases c18 : t118 = 0
            · rw [if_pos c18] at H
              have c18b0 : (t118 == 0) = true := beq_iff_eq.mpr c18
              have c18b1 : (t118 != 0) = false := bne_eq_false_iff_eq.mpr c18
              clear c18
              by_cases c19 : t120 = 0
              · rw [if_pos c19] at H
                have c19b0 : (t120 == 0) = true := beq_iff_eq.mpr c19
                have c19b1 : (t120 != 0) = false := bne_eq_false_iff_eq.mpr c19
                clear c19
                by_cases c20 : t119 = t115
                · rw [if_pos c20] at H
                  have c20b0 : (t119 == t115) = true := beq_iff_eq.mpr c20
                  have c20b1 : (t119 != t115) = false := bne_eq_false_iff_eq.mpr c20
                  clear c20
                  have H' := Aside0.mk H
                  clear H
                  have hcz21_0 : wc.cell? ⟨gb111, 0, none⟩ = some (.int .i64 a2_0) := (blk_cell BK111.out 0).trans rfl
                  have hcz21_1 : wc.cell? ⟨gb111, 1, none⟩ = some (.int .i64 a2_1) := (blk_cell BK111.out 1).trans rfl
                  have hcz21_2 : wc.cell? ⟨gb111, 2, none⟩ = some (.int .u64 a2_2) := (blk_cell BK111.out 2).trans rfl
                  have hfz21_0 := blk_frozen BK111.out 0
                  have hfz21_1 := blk_frozen BK111.out 1
                  have hfz21_2 := blk_frozen BK111.out 2
                  go_wp2_with (first | ((with_reducible refine gate_callee (f := 22) rfl ?_); refine goesL_ (some 54) rfl rfl Try.func22 (by kernel_rfl) rfl #[.int .i64 t115, .int .i64 a2_1] rfl (by (try simp only [List.map_toArray, List.map_cons, List.map_nil]); first | done | rfl | (simp only [List.length_drop, List.length_take]; rfl)) ?_; (with_reducible refine (word_Narrow.calls t115 a2_1 t117 t118 _ A16.out).mono ?_); rintro e w' ⟨rfl, ⟨nd, rfl⟩⟩; refine ⟨_, rfl, ?_⟩) | ((with_reducible refine gate_callee (f := 20) rfl ?_); refine goesL_ (some 61) rfl rfl Try.func20 (by kernel_rfl) rfl #[.int .u64 t117, .int .i64 a2_1] rfl (by (try simp only [List.map_toArray, List.map_cons, List.map_nil]); first | done | rfl | (simp only [List.length_drop, List.length_take]; rfl)) ?_; (with_reducible refine (word_Extend.calls t117 a2_1 t119 t120 _ A17.out).mono ?_); rintro e w' ⟨rfl, ⟨nd, rfl⟩⟩; refine ⟨_, rfl, ?_⟩))
                  go_meet
                  case rel => exact ⟨_, H', ⟨by have := HJ3.out; first | omega | exact Nat.le_refl _⟩, ⟨by (with_reducible repeat (first | refine blk_drewN ?_ _ | refine blk_drew ?_ | refine blk_alloc ?_ _)); exact BK111.out⟩, ⟨by repeat (first | (with_reducible first | exact HB.out | apply below_alloc | apply pw_below_drewN | apply below_drew1 | refine below_set ?_ GE111.out) | exact HB.out)⟩⟩
                · rw [if_neg c20] at H
                  have c20b0 : (t119 == t115) = false := beq_eq_false_iff_ne.mpr c20
                  have c20b1 : (t119 != t115) = true := bne_iff_ne.mpr c20
                  obtain rfl := Option.some.inj H
                  have hcz22_0 : wc.cell? ⟨gb111, 0, none⟩ = some (.int .i64 a2_0) := (blk_cell BK111.out 0).trans rfl
                  have hcz22_1 : wc.cell? ⟨gb111, 1, none⟩ = some (.int .i64 a2_1) := (blk_cell BK111.out 1).trans rfl
                  have hcz22_2 : wc.cell? ⟨gb111, 2, none⟩ = some (.int .u64 a2_2) := (blk_cell BK111.out 2).trans rfl
                  have hfz22_0 := blk_frozen BK111.out 0
                  have hfz22_1 := blk_frozen BK111.out 1
                  have hfz22_2 := blk_frozen BK111.out 2
                  go_wp2_with (first | ((with_reducible refine gate_callee (f := 22) rfl ?_); refine goesL_ (some 54) rfl rfl Try.func22 (by kernel_rfl) rfl #[.int .i64 t115, .int .i64 a2_1] rfl (by (try simp only [List.map_toArray, List.map_cons, List.map_nil]); first | done | rfl | (simp only [List.length_drop, List.length_take]; rfl)) ?_; (with_reducible refine (word_Narrow.calls t115 a2_1 t117 t118 _ A16.out).mono ?_); rintro e w' ⟨rfl, ⟨nd, rfl⟩⟩; refine ⟨_, rfl, ?_⟩) | ((with_reducible refine gate_callee (f := 20) rfl ?_); refine goesL_ (some 61) rfl rfl Try.func20 (by kernel_rfl) rfl #[.int .u64 t117, .int .i64 a2_1] rfl (by (try simp only [List.map_toArray, List.map_cons, List.map_nil]); first | done | rfl | (simp only [List.length_drop, List.length_take]; rfl)) ?_; (with_reducible refine (word_Extend.calls t117 a2_1 t119 t120 _ A17.out).mono ?_); rintro e w' ⟨rfl, ⟨nd, rfl⟩⟩; refine ⟨_, rfl, ?_⟩))
                  go_ret
                  exact ⟨by first | rfl | (simp [errW_none, errW_some] <;> rfl) | (simp [*, errW_none, errW_some] <;> rfl), by repeat (first | (with_reducible first | exact HB.out | apply below_alloc | apply pw_below_drewN | apply below_drew1 | refine below_set ?_ GE111.out) | exact HB.out)⟩
              · rw [if_neg c19] at H
                have c19b0 : (t120 == 0) = false := beq_eq_false_iff_ne.mpr c19
                have c19b1 : (t120 != 0) = true := bne_iff_ne.mpr c19
                obtain rfl := Option.some.inj H
                have hcz23_0 : wc.cell? ⟨gb111, 0, none⟩ = some (.int .i64 a2_0) := (blk_cell BK111.out 0).trans rfl
                have hcz23_1 : wc.cell? ⟨gb111, 1, none⟩ = some (.int .i64 a2_1) := (blk_cell BK111.out 1).trans rfl
                have hcz23_2 : wc.cell? ⟨gb111, 2, none⟩ = some (.int .u64 a2_2) := (blk_cell BK111.out 2).trans rfl
                have hfz23_0 := blk_frozen BK111.out 0
                have hfz23_1 := blk_frozen BK111.out 1
                have hfz23_2 := blk_frozen BK111.out 2
                go_wp2_with (first | ((with_reducible refine gate_callee (f := 22) rfl ?_); refine goesL_ (some 54) rfl rfl Try.func22 (by kernel_rfl) rfl #[.int .i64 t115, .int .i64 a2_1] rfl (by (try simp only [List.map_toArray, List.map_cons, List.map_nil]); first | done | rfl | (simp only [List.length_drop, List.length_take]; rfl)) ?_; (with_reducible refine (word_Narrow.calls t115 a2_1 t117 t118 _ A16.out).mono ?_); rintro e w' ⟨rfl, ⟨nd, rfl⟩⟩; refine ⟨_, rfl, ?_⟩) | ((with_reducible refine gate_callee (f := 20) rfl ?_); refine goesL_ (some 61) rfl rfl Try.func20 (by kernel_rfl) rfl #[.int .u64 t117, .int .i64 a2_1] rfl (by (try simp only [List.map_toArray, List.map_cons, List.map_nil]); first | done | rfl | (simp only [List.length_drop, List.length_take]; rfl)) ?_; (with_reducible refine (word_Extend.calls t117 a2_1 t119 t120 _ A17.out).mono ?_); rintro e w' ⟨rfl, ⟨nd, rfl⟩⟩; refine ⟨_, rfl, ?_⟩))
                go_ret
                exact ⟨by first | rfl | (simp [errW_none, errW_some] <;> rfl) | (simp [*, errW_none, errW_some] <;> rfl), by repeat (first | (with_reducible first | exact HB.out | apply below_alloc | apply pw_below_drewN | apply below_drew1 | refine below_set ?_ GE111.out) | exact HB.out)⟩
            · rw [if_neg c18] at H
              have c18b0 : (t118 == 0) = false := beq_eq_false_iff_ne.mpr c18
              have c18b1 : (t118 != 0) = true := bne_iff_ne.mpr c18
              obtain rfl := Option.some.inj H
              have hcz24_0 : wc.cell? ⟨gb111, 0, none⟩ = some (.int .i64 a2_0) := (blk_cell BK111.out 0).trans rfl
              have hcz24_1 : wc.cell? ⟨gb111, 1, none⟩ = some (.int .i64 a2_1) := (blk_cell BK111.out 1).trans rfl
              have hcz24_2 : wc.cell? ⟨gb111, 2, none⟩ = some (.int .u64 a2_2) := (blk_cell BK111.out 2).trans rfl
              have hfz24_0 := blk_frozen BK111.out 0
              have hfz24_1 := blk_frozen BK111.out 1
              have hfz24_2 := blk_frozen BK111.out 2
              go_wp2_with (first | ((with_reducible refine gate_callee (f := 22) rfl ?_); refine goesL_ (some 54) rfl rfl Try.func22 (by kernel_rfl) rfl #[.int .i64 t115, .int .i64 a2_1] rfl (by (try simp only [List.map_toArray, List.map_cons, List.map_nil]); first | done | rfl | (simp only [List.length_drop, List.length_take]; rfl)) ?_; (with_reducible refine (word_Narrow.calls t115 a2_1 t117 t118 _ A16.out).mono ?_); rintro e w' ⟨rfl, ⟨nd, rfl⟩⟩; refine ⟨_, rfl, ?_⟩) | ((with_reducible refine gate_callee (f := 20) rfl ?_); refine goesL_ (some 61) rfl rfl Try.func20 (by kernel_rfl) rfl #[.int .u64 t117, .int .i64 a2_1] rfl (by (try simp only [List.map_toArray, List.map_cons, List.map_nil]); first | done | rfl | (simp only [List.length_drop, List.length_take]; rfl)) ?_; (with_reducible refine (word_Extend.calls t117 a2_1 t119 t120 _ A17.out).mono ?_); rintro e w' ⟨rfl, ⟨nd, rfl⟩⟩; refine ⟨_, rfl, ?_⟩))
              go_ret
              exact ⟨by first | rfl | (simp [errW_none, errW_some] <;> rfl) | (simp [*, errW_none, errW_some] <;> rfl), by repeat (first | (with_reducible first | exact HB.out | apply below_alloc | apply pw_below_drewN | apply below_drew1 | refine below_set ?_ GE111.out) | exact HB.out)⟩
          · rw [if_neg c15] at H
            have c15b0 : (t116 == 0) = false := beq_eq_false_iff_ne.mpr c15
            have c15b1 : (t116 != 0) = true := bne_iff_ne.mpr c15
            (first | rw [c15b0] | (simp only [i64_w, i32_w]; rw [c15b0]) | skip)
            have H' := Aside0.mk H
            clear H
            go_wp2
            go_meet
            case rel => exact ⟨_, H', ⟨by have := HJ3.out; first | omega | exact Nat.le_refl _⟩, ⟨by (with_reducible repeat (first | refine blk_drewN ?_ _ | refine blk_drew ?_ | refine blk_alloc ?_ _)); exact BK111.out⟩, ⟨by repeat (first | (with_reducible first | exact HB.out | apply below_alloc | apply pw_below_drewN | apply below_drew1 | refine below_set ?_ GE111.out) | exact HB.out)⟩⟩
        case rest =>
          clear HC13
          try clear c1
          try clear c2
          try clear p2
          try clear c5
          try clear p6
          try clear c7
          try clear c8
          try clear c8b0
          try clear c8b1
          try clear c11
          try clear c13
          try clear c15
          try clear c15b0
          try clear c15b1
          try clear c18
          try clear c18b0
          try clear c18b1
          try clear c19
          try clear c19b0
          try clear c19b1
          try clear c20
          try clear c20b0
          try clear c20b1
          try clear c22
          try clear hcz14_0
          try clear hcz14_1
          try clear hcz14_2
          try clear hcz21_0
          try clear hcz21_1
          try clear hcz21_2
          try clear hcz22_0
          try clear hcz22_1
          try clear hcz22_2
          try clear hcz23_0
          try clear hcz23_1
          try clear hcz23_2
          try clear hcz24_0
          try clear hcz24_1
          try clear hcz24_2
          try clear hfz14_0
          try clear hfz14_1
          try clear hfz14_2
          try clear hfz21_0
          try clear hfz21_1
          try clear hfz21_2
          try clear hfz22_0
          try clear hfz22_1
          try clear hfz22_2
          try clear hfz23_0
          try clear hfz23_1
          try clear hfz23_2
          try clear hfz24_0
          try clear hfz24_1
          try clear hfz24_2
          try clear p2
          try clear p6
          obtain ⟨kq, HA, HJ12, BK111, HB⟩ := hcut
          cases kq with
          | zero => exact absurd HA.out (by simp [signetlaw01_WordBack.j1])
          | succ kj12 =>
            have H := HA.out
            clear HA
            simp only [signetlaw01_WordBack.j1] at H
            replace H := Option.bind_eq_some_iff.mp H
            obtain ⟨⟨t121, t122⟩, A250, H⟩ := H
            replace H : (if t122 = 0 then ((word_Field.f t121 a2_0 a2_1).bind fun bt123 => ((word_Field.f a0 a2_0 a2_1).bind fun bt125 => ((word_Lay.f kj12 t121 a2_0 a2_1 bt125.1).bind fun bt127 => (if bt123.2 = 0 then (if bt125.2 = 0 then (if bt127.2 = 0 then (if bt123.1 = a2_2 then (some (bt127.1 == a0)) else (some false)) else (some false)) else (some false)) else (some false))))) else (some true)) = some r := H
            have A25 := Aside0.mk A250
            clear A250
            by_cases c26 : t122 = 0
            · rw [if_pos c26] at H
              have c26b0 : (t122 == 0) = true := beq_iff_eq.mpr c26
              have c26b1 : (t122 != 0) = false := bne_eq_false_iff_eq.mpr c26
              clear c26
              replace H := Option.bind_eq_some_iff.mp H
              obtain ⟨⟨t123, t124⟩, A270, H⟩ := H
              replace H : ((word_Field.f a0 a2_0 a2_1).bind fun bt125 => ((word_Lay.f kj12 t121 a2_0 a2_1 bt125.1).bind fun bt127 => (if t124 = 0 then (if bt125.2 = 0 then (if bt127.2 = 0 then (if t123 = a2_2 then (some (bt127.1 == a0)) else (some false)) else (some false)) else (some false)) else (some false)))) = some r := H
              have A27 := Aside0.mk A270
              clear A270
              replace H := Option.bind_eq_some_iff.mp H
              obtain ⟨⟨t125, t126⟩, A280, H⟩ := H
              replace H : ((word_Lay.f kj12 t121 a2_0 a2_1 t125).bind fun bt127 => (if t124 = 0 then (if t126 = 0 then (if bt127.2 = 0 then (if t123 = a2_2 then (some (bt127.1 == a0)) else (some false)) else (some false)) else (some false)) else (some false))) = some r := H
              have A28 := Aside0.mk A280
              clear A280
              replace H := Option.bind_eq_some_iff.mp H
              obtain ⟨⟨t127, t128⟩, A290, H⟩ := H
              replace H : (if t124 = 0 then (if t126 = 0 then (if t128 = 0 then (if t123 = a2_2 then (some (t127 == a0)) else (some false)) else (some false)) else (some false)) else (some false)) = some r := H
              have A29 := Aside0.mk A290
              clear A290
              by_cases c30 : t124 = 0
              · rw [if_pos c30] at H
                have c30b0 : (t124 == 0) = true := beq_iff_eq.mpr c30
                have c30b1 : (t124 != 0) = false := bne_eq_false_iff_eq.mpr c30
                clear c30
                by_cases c31 : t126 = 0
                · rw [if_pos c31] at H
                  have c31b0 : (t126 == 0) = true := beq_iff_eq.mpr c31
                  have c31b1 : (t126 != 0) = false := bne_eq_false_iff_eq.mpr c31
                  clear c31
                  by_cases c32 : t128 = 0
                  · rw [if_pos c32] at H
                    have c32b0 : (t128 == 0) = true := beq_iff_eq.mpr c32
                    have c32b1 : (t128 != 0) = false := bne_eq_false_iff_eq.mpr c32
                    clear c32
                    by_cases c33 : t123 = a2_2
                    · rw [if_pos c33] at H
                      have c33b0 : (t123 == a2_2) = true := beq_iff_eq.mpr c33
                      have c33b1 : (t123 != a2_2) = false := bne_eq_false_iff_eq.mpr c33
                      clear c33
                      obtain rfl := Option.some.inj H
                      have hcz34_0 : wc.cell? ⟨gb111, 0, none⟩ = some (.int .i64 a2_0) := (blk_cell BK111.out 0).trans rfl
                      have hcz34_1 : wc.cell? ⟨gb111, 1, none⟩ = some (.int .i64 a2_1) := (blk_cell BK111.out 1).trans rfl
                      have hcz34_2 : wc.cell? ⟨gb111, 2, none⟩ = some (.int .u64 a2_2) := (blk_cell BK111.out 2).trans rfl
                      have hfz34_0 := blk_frozen BK111.out 0
                      have hfz34_1 := blk_frozen BK111.out 1
                      have hfz34_2 := blk_frozen BK111.out 2
                      go_wp2_with (first | ((with_reducible refine gate_callee (f := 26) rfl ?_); refine goesL_ (some 83) rfl rfl Try.func26 (by kernel_rfl) rfl #[.int .u64 a0, .int .i64 a2_0, .int .i64 a2_1, .int .u64 a2_2] rfl (by (try simp only [List.map_toArray, List.map_cons, List.map_nil]); first | done | rfl | (simp only [List.length_drop, List.length_take]; rfl)) ?_; (with_reducible refine (word_Lay.calls kj12 a0 a2_0 a2_1 a2_2 t121 t122 _ A25.out).mono ?_); rintro e w' ⟨rfl, ⟨nd, rfl⟩⟩; refine ⟨_, rfl, ?_⟩) | ((with_reducible refine gate_callee (f := 27) rfl ?_); refine goesL_ (some 94) rfl rfl Try.func27 (by kernel_rfl) rfl #[.int .u64 t121, .int .i64 a2_0, .int .i64 a2_1] rfl (by (try simp only [List.map_toArray, List.map_cons, List.map_nil]); first | done | rfl | (simp only [List.length_drop, List.length_take]; rfl)) ?_; (with_reducible refine (word_Field.calls t121 a2_0 a2_1 t123 t124 _ A27.out).mono ?_); rintro e w' ⟨rfl, ⟨nd, rfl⟩⟩; refine ⟨_, rfl, ?_⟩) | ((with_reducible refine gate_callee (f := 27) rfl ?_); refine goesL_ (some 103) rfl rfl Try.func27 (by kernel_rfl) rfl #[.int .u64 a0, .int .i64 a2_0, .int .i64 a2_1] rfl (by (try simp only [List.map_toArray, List.map_cons, List.map_nil]); first | done | rfl | (simp only [List.length_drop, List.length_take]; rfl)) ?_; (with_reducible refine (word_Field.calls a0 a2_0 a2_1 t125 t126 _ A28.out).mono ?_); rintro e w' ⟨rfl, ⟨nd, rfl⟩⟩; refine ⟨_, rfl, ?_⟩) | ((with_reducible refine gate_callee (f := 26) rfl ?_); refine goesL_ (some 113) rfl rfl Try.func26 (by kernel_rfl) rfl #[.int .u64 t121, .int .i64 a2_0, .int .i64 a2_1, .int .u64 t125] rfl (by (try simp only [List.map_toArray, List.map_cons, List.map_nil]); first | done | rfl | (simp only [List.length_drop, List.length_take]; rfl)) ?_; (with_reducible refine (word_Lay.calls kj12 t121 a2_0 a2_1 t125 t127 t128 _ A29.out).mono ?_); rintro e w' ⟨rfl, ⟨nd, rfl⟩⟩; refine ⟨_, rfl, ?_⟩))
                      go_ret
                      exact ⟨by first | rfl | (simp [errW_none, errW_some] <;> rfl) | (simp [*, errW_none, errW_some] <;> rfl), by repeat (first | (with_reducible first | exact HB.out | apply below_alloc | apply pw_below_drewN | apply below_drew1 | refine below_set ?_ GE111.out) | exact HB.out)⟩
                    · rw [if_neg c33] at H
                      have c33b0 : (t123 == a2_2) = false := beq_eq_false_iff_ne.mpr c33
                      have c33b1 : (t123 != a2_2) = true := bne_iff_ne.mpr c33
                      obtain rfl := Option.some.inj H
                      have hcz35_0 : wc.cell? ⟨gb111, 0, none⟩ = some (.int .i64 a2_0) := (blk_cell BK111.out 0).trans rfl
                      have hcz35_1 : wc.cell? ⟨gb111, 1, none⟩ = some (.int .i64 a2_1) := (blk_cell BK111.out 1).trans rfl
                      have hcz35_2 : wc.cell? ⟨gb111, 2, none⟩ = some (.int .u64 a2_2) := (blk_cell BK111.out 2).trans rfl
                      have hfz35_0 := blk_frozen BK111.out 0
                      have hfz35_1 := blk_frozen BK111.out 1
                      have hfz35_2 := blk_frozen BK111.out 2
                      go_wp2_with (first | ((with_reducible refine gate_callee (f := 26) rfl ?_); refine goesL_ (some 83) rfl rfl Try.func26 (by kernel_rfl) rfl #[.int .u64 a0, .int .i64 a2_0, .int .i64 a2_1, .int .u64 a2_2] rfl (by (try simp only [List.map_toArray, List.map_cons, List.map_nil]); first | done | rfl | (simp only [List.length_drop, List.length_take]; rfl)) ?_; (with_reducible refine (word_Lay.calls kj12 a0 a2_0 a2_1 a2_2 t121 t122 _ A25.out).mono ?_); rintro e w' ⟨rfl, ⟨nd, rfl⟩⟩; refine ⟨_, rfl, ?_⟩) | ((with_reducible refine gate_callee (f := 27) rfl ?_); refine goesL_ (some 94) rfl rfl Try.func27 (by kernel_rfl) rfl #[.int .u64 t121, .int .i64 a2_0, .int .i64 a2_1] rfl (by (try simp only [List.map_toArray, List.map_cons, List.map_nil]); first | done | rfl | (simp only [List.length_drop, List.length_take]; rfl)) ?_; (with_reducible refine (word_Field.calls t121 a2_0 a2_1 t123 t124 _ A27.out).mono ?_); rintro e w' ⟨rfl, ⟨nd, rfl⟩⟩; refine ⟨_, rfl, ?_⟩) | ((with_reducible refine gate_callee (f := 27) rfl ?_); refine goesL_ (some 103) rfl rfl Try.func27 (by kernel_rfl) rfl #[.int .u64 a0, .int .i64 a2_0, .int .i64 a2_1] rfl (by (try simp only [List.map_toArray, List.map_cons, List.map_nil]); first | done | rfl | (simp only [List.length_drop, List.length_take]; rfl)) ?_; (with_reducible refine (word_Field.calls a0 a2_0 a2_1 t125 t126 _ A28.out).mono ?_); rintro e w' ⟨rfl, ⟨nd, rfl⟩⟩; refine ⟨_, rfl, ?_⟩) | ((with_reducible refine gate_callee (f := 26) rfl ?_); refine goesL_ (some 113) rfl rfl Try.func26 (by kernel_rfl) rfl #[.int .u64 t121, .int .i64 a2_0, .int .i64 a2_1, .int .u64 t125] rfl (by (try simp only [List.map_toArray, List.map_cons, List.map_nil]); first | done | rfl | (simp only [List.length_drop, List.length_take]; rfl)) ?_; (with_reducible refine (word_Lay.calls kj12 t121 a2_0 a2_1 t125 t127 t128 _ A29.out).mono ?_); rintro e w' ⟨rfl, ⟨nd, rfl⟩⟩; refine ⟨_, rfl, ?_⟩))
                      go_ret
                      exact ⟨by first | rfl | (simp [errW_none, errW_some] <;> rfl) | (simp [*, errW_none, errW_some] <;> rfl), by repeat (first | (with_reducible first | exact HB.out | apply below_alloc | apply pw_below_drewN | apply below_drew1 | refine below_set ?_ GE111.out) | exact HB.out)⟩
                  · rw [if_neg c32] at H
                    have c32b0 : (t128 == 0) = false := beq_eq_false_iff_ne.mpr c32
                    have c32b1 : (t128 != 0) = true := bne_iff_ne.mpr c32
                    obtain rfl := Option.some.inj H
                    have hcz36_0 : wc.cell? ⟨gb111, 0, none⟩ = some (.int .i64 a2_0) := (blk_cell BK111.out 0).trans rfl
                    have hcz36_1 : wc.cell? ⟨gb111, 1, none⟩ = some (.int .i64 a2_1) := (blk_cell BK111.out 1).trans rfl
                    have hcz36_2 : wc.cell? ⟨gb111, 2, none⟩ = some (.int .u64 a2_2) := (blk_cell BK111.out 2).trans rfl
                    have hfz36_0 := blk_frozen BK111.out 0
                    have hfz36_1 := blk_frozen BK111.out 1
                    have hfz36_2 := blk_frozen BK111.out 2
                    go_wp2_with (first | ((with_reducible refine gate_callee (f := 26) rfl ?_); refine goesL_ (some 83) rfl rfl Try.func26 (by kernel_rfl) rfl #[.int .u64 a0, .int .i64 a2_0, .int .i64 a2_1, .int .u64 a2_2] rfl (by (try simp only [List.map_toArray, List.map_cons, List.map_nil]); first | done | rfl | (simp only [List.length_drop, List.length_take]; rfl)) ?_; (with_reducible refine (word_Lay.calls kj12 a0 a2_0 a2_1 a2_2 t121 t122 _ A25.out).mono ?_); rintro e w' ⟨rfl, ⟨nd, rfl⟩⟩; refine ⟨_, rfl, ?_⟩) | ((with_reducible refine gate_callee (f := 27) rfl ?_); refine goesL_ (some 94) rfl rfl Try.func27 (by kernel_rfl) rfl #[.int .u64 t121, .int .i64 a2_0, .int .i64 a2_1] rfl (by (try simp only [List.map_toArray, List.map_cons, List.map_nil]); first | done | rfl | (simp only [List.length_drop, List.length_take]; rfl)) ?_; (with_reducible refine (word_Field.calls t121 a2_0 a2_1 t123 t124 _ A27.out).mono ?_); rintro e w' ⟨rfl, ⟨nd, rfl⟩⟩; refine ⟨_, rfl, ?_⟩) | ((with_reducible refine gate_callee (f := 27) rfl ?_); refine goesL_ (some 103) rfl rfl Try.func27 (by kernel_rfl) rfl #[.int .u64 a0, .int .i64 a2_0, .int .i64 a2_1] rfl (by (try simp only [List.map_toArray, List.map_cons, List.map_nil]); first | done | rfl | (simp only [List.length_drop, List.length_take]; rfl)) ?_; (with_reducible refine (word_Field.calls a0 a2_0 a2_1 t125 t126 _ A28.out).mono ?_); rintro e w' ⟨rfl, ⟨nd, rfl⟩⟩; refine ⟨_, rfl, ?_⟩) | ((with_reducible refine gate_callee (f := 26) rfl ?_); refine goesL_ (some 113) rfl rfl Try.func26 (by kernel_rfl) rfl #[.int .u64 t121, .int .i64 a2_0, .int .i64 a2_1, .int .u64 t125] rfl (by (try simp only [List.map_toArray, List.map_cons, List.map_nil]); first | done | rfl | (simp only [List.length_drop, List.length_take]; rfl)) ?_; (with_reducible refine (word_Lay.calls kj12 t121 a2_0 a2_1 t125 t127 t128 _ A29.out).mono ?_); rintro e w' ⟨rfl, ⟨nd, rfl⟩⟩; refine ⟨_, rfl, ?_⟩))
                    go_ret
                    exact ⟨by first | rfl | (simp [errW_none, errW_some] <;> rfl) | (simp [*, errW_none, errW_some] <;> rfl), by repeat (first | (with_reducible first | exact HB.out | apply below_alloc | apply pw_below_drewN | apply below_drew1 | refine below_set ?_ GE111.out) | exact HB.out)⟩
                · rw [if_neg c31] at H
                  have c31b0 : (t126 == 0) = false := beq_eq_false_iff_ne.mpr c31
                  have c31b1 : (t126 != 0) = true := bne_iff_ne.mpr c31
                  obtain rfl := Option.some.inj H
                  have hcz37_0 : wc.cell? ⟨gb111, 0, none⟩ = some (.int .i64 a2_0) := (blk_cell BK111.out 0).trans rfl
                  have hcz37_1 : wc.cell? ⟨gb111, 1, none⟩ = some (.int .i64 a2_1) := (blk_cell BK111.out 1).trans rfl
                  have hcz37_2 : wc.cell? ⟨gb111, 2, none⟩ = some (.int .u64 a2_2) := (blk_cell BK111.out 2).trans rfl
                  have hfz37_0 := blk_frozen BK111.out 0
                  have hfz37_1 := blk_frozen BK111.out 1
                  have hfz37_2 := blk_frozen BK111.out 2
                  go_wp2_with (first | ((with_reducible refine gate_callee (f := 26) rfl ?_); refine goesL_ (some 83) rfl rfl Try.func26 (by kernel_rfl) rfl #[.int .u64 a0, .int .i64 a2_0, .int .i64 a2_1, .int .u64 a2_2] rfl (by (try simp only [List.map_toArray, List.map_cons, List.map_nil]); first | done | rfl | (simp only [List.length_drop, List.length_take]; rfl)) ?_; (with_reducible refine (word_Lay.calls kj12 a0 a2_0 a2_1 a2_2 t121 t122 _ A25.out).mono ?_); rintro e w' ⟨rfl, ⟨nd, rfl⟩⟩; refine ⟨_, rfl, ?_⟩) | ((with_reducible refine gate_callee (f := 27) rfl ?_); refine goesL_ (some 94) rfl rfl Try.func27 (by kernel_rfl) rfl #[.int .u64 t121, .int .i64 a2_0, .int .i64 a2_1] rfl (by (try simp only [List.map_toArray, List.map_cons, List.map_nil]); first | done | rfl | (simp only [List.length_drop, List.length_take]; rfl)) ?_; (with_reducible refine (word_Field.calls t121 a2_0 a2_1 t123 t124 _ A27.out).mono ?_); rintro e w' ⟨rfl, ⟨nd, rfl⟩⟩; refine ⟨_, rfl, ?_⟩) | ((with_reducible refine gate_callee (f := 27) rfl ?_); refine goesL_ (some 103) rfl rfl Try.func27 (by kernel_rfl) rfl #[.int .u64 a0, .int .i64 a2_0, .int .i64 a2_1] rfl (by (try simp only [List.map_toArray, List.map_cons, List.map_nil]); first | done | rfl | (simp only [List.length_drop, List.length_take]; rfl)) ?_; (with_reducible refine (word_Field.calls a0 a2_0 a2_1 t125 t126 _ A28.out).mono ?_); rintro e w' ⟨rfl, ⟨nd, rfl⟩⟩; refine ⟨_, rfl, ?_⟩) | ((with_reducible refine gate_callee (f := 26) rfl ?_); refine goesL_ (some 113) rfl rfl Try.func26 (by kernel_rfl) rfl #[.int .u64 t121, .int .i64 a2_0, .int .i64 a2_1, .int .u64 t125] rfl (by (try simp only [List.map_toArray, List.map_cons, List.map_nil]); first | done | rfl | (simp only [List.length_drop, List.length_take]; rfl)) ?_; (with_reducible refine (word_Lay.calls kj12 t121 a2_0 a2_1 t125 t127 t128 _ A29.out).mono ?_); rintro e w' ⟨rfl, ⟨nd, rfl⟩⟩; refine ⟨_, rfl, ?_⟩))
                  go_ret
                  exact ⟨by first | rfl | (simp [errW_none, errW_some] <;> rfl) | (simp [*, errW_none, errW_some] <;> rfl), by repeat (first | (with_reducible first | exact HB.out | apply below_alloc | apply pw_below_drewN | apply below_drew1 | refine below_set ?_ GE111.out) | exact HB.out)⟩
              · rw [if_neg c30] at H
                have c30b0 : (t124 == 0) = false := beq_eq_false_iff_ne.mpr c30
                have c30b1 : (t124 != 0) = true := bne_iff_ne.mpr c30
                obtain rfl := Option.some.inj H
                have hcz38_0 : wc.cell? ⟨gb111, 0, none⟩ = some (.int .i64 a2_0) := (blk_cell BK111.out 0).trans rfl
                have hcz38_1 : wc.cell? ⟨gb111, 1, none⟩ = some (.int .i64 a2_1) := (blk_cell BK111.out 1).trans rfl
                have hcz38_2 : wc.cell? ⟨gb111, 2, none⟩ = some (.int .u64 a2_2) := (blk_cell BK111.out 2).trans rfl
                have hfz38_0 := blk_frozen BK111.out 0
                have hfz38_1 := blk_frozen BK111.out 1
                have hfz38_2 := blk_frozen BK111.out 2
                go_wp2_with (first | ((with_reducible refine gate_callee (f := 26) rfl ?_); refine goesL_ (some 83) rfl rfl Try.func26 (by kernel_rfl) rfl #[.int .u64 a0, .int .i64 a2_0, .int .i64 a2_1, .int .u64 a2_2] rfl (by (try simp only [List.map_toArray, List.map_cons, List.map_nil]); first | done | rfl | (simp only [List.length_drop, List.length_take]; rfl)) ?_; (with_reducible refine (word_Lay.calls kj12 a0 a2_0 a2_1 a2_2 t121 t122 _ A25.out).mono ?_); rintro e w' ⟨rfl, ⟨nd, rfl⟩⟩; refine ⟨_, rfl, ?_⟩) | ((with_reducible refine gate_callee (f := 27) rfl ?_); refine goesL_ (some 94) rfl rfl Try.func27 (by kernel_rfl) rfl #[.int .u64 t121, .int .i64 a2_0, .int .i64 a2_1] rfl (by (try simp only [List.map_toArray, List.map_cons, List.map_nil]); first | done | rfl | (simp only [List.length_drop, List.length_take]; rfl)) ?_; (with_reducible refine (word_Field.calls t121 a2_0 a2_1 t123 t124 _ A27.out).mono ?_); rintro e w' ⟨rfl, ⟨nd, rfl⟩⟩; refine ⟨_, rfl, ?_⟩) | ((with_reducible refine gate_callee (f := 27) rfl ?_); refine goesL_ (some 103) rfl rfl Try.func27 (by kernel_rfl) rfl #[.int .u64 a0, .int .i64 a2_0, .int .i64 a2_1] rfl (by (try simp only [List.map_toArray, List.map_cons, List.map_nil]); first | done | rfl | (simp only [List.length_drop, List.length_take]; rfl)) ?_; (with_reducible refine (word_Field.calls a0 a2_0 a2_1 t125 t126 _ A28.out).mono ?_); rintro e w' ⟨rfl, ⟨nd, rfl⟩⟩; refine ⟨_, rfl, ?_⟩) | ((with_reducible refine gate_callee (f := 26) rfl ?_); refine goesL_ (some 113) rfl rfl Try.func26 (by kernel_rfl) rfl #[.int .u64 t121, .int .i64 a2_0, .int .i64 a2_1, .int .u64 t125] rfl (by (try simp only [List.map_toArray, List.map_cons, List.map_nil]); first | done | rfl | (simp only [List.length_drop, List.length_take]; rfl)) ?_; (with_reducible refine (word_Lay.calls kj12 t121 a2_0 a2_1 t125 t127 t128 _ A29.out).mono ?_); rintro e w' ⟨rfl, ⟨nd, rfl⟩⟩; refine ⟨_, rfl, ?_⟩))
                go_ret
                exact ⟨by first | rfl | (simp [errW_none, errW_some] <;> rfl) | (simp [*, errW_none, errW_some] <;> rfl), by repeat (first | (with_reducible first | exact HB.out | apply below_alloc | apply pw_below_drewN | apply below_drew1 | refine below_set ?_ GE111.out) | exact HB.out)⟩
            · rw [if_neg c26] at H
              have c26b0 : (t122 == 0) = false := beq_eq_false_iff_ne.mpr c26
              have c26b1 : (t122 != 0) = true := bne_iff_ne.mpr c26
              obtain rfl := Option.some.inj H
              have hcz39_0 : wc.cell? ⟨gb111, 0, none⟩ = some (.int .i64 a2_0) := (blk_cell BK111.out 0).trans rfl
              have hcz39_1 : wc.cell? ⟨gb111, 1, none⟩ = some (.int .i64 a2_1) := (blk_cell BK111.out 1).trans rfl
              have hcz39_2 : wc.cell? ⟨gb111, 2, none⟩ = some (.int .u64 a2_2) := (blk_cell BK111.out 2).trans rfl
              have hfz39_0 := blk_frozen BK111.out 0
              have hfz39_1 := blk_frozen BK111.out 1
              have hfz39_2 := blk_frozen BK111.out 2
              go_wp2_with (first | ((with_reducible refine gate_callee (f := 26) rfl ?_); refine goesL_ (some 83) rfl rfl Try.func26 (by kernel_rfl) rfl #[.int .u64 a0, .int .i64 a2_0, .int .i64 a2_1, .int .u64 a2_2] rfl (by (try simp only [List.map_toArray, List.map_cons, List.map_nil]); first | done | rfl | (simp only [List.length_drop, List.length_take]; rfl)) ?_; (with_reducible refine (word_Lay.calls kj12 a0 a2_0 a2_1 a2_2 t121 t122 _ A25.out).mono ?_); rintro e w' ⟨rfl, ⟨nd, rfl⟩⟩; refine ⟨_, rfl, ?_⟩))
              go_ret
              exact ⟨by first | rfl | (simp [errW_none, errW_some] <;> rfl) | (simp [*, errW_none, errW_some] <;> rfl), by repeat (first | (with_reducible first | exact HB.out | apply below_alloc | apply pw_below_drewN | apply below_drew1 | refine below_set ?_ GE111.out) | exact HB.out)⟩

end Go.Proofs.Ytfpikmfonpnicaa.PWordBack
