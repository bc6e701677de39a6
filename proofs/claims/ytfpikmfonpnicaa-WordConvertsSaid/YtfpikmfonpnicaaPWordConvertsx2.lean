-- PRINTED BY print.sh 35421559b90ae4d0a3588c463048766b98c2df88dd9212a6774a882060cdf62d: not written by this session
import Derived.Test.YtfpikmfonpnicaaPWordConvertsx0
import Derived.Test.YtfpikmfonpnicaaPWordConvertsx1
namespace Go.Proofs.Ytfpikmfonpnicaa.PWordConverts
open Go.RowKit Go.Proofs.YtfpikmfonpnicaaW.PrintWords Go.Proofs.YtfpikmfonpnicaaW.PrintLast Go.Proofs.YtfpikmfonpnicaaW.PrintMore
attribute [local go_sem] max2_int min2_int max_two min_two max_three min_three max_four min_four   -- for this text's walks alone
set_option linter.unusedVariables false
set_option linter.unusedSimpArgs false

/-! ### signetlaw01_WordConverts: function 4 -/
def signetlaw01_WordConverts.j0 : Nat → Int → Int → Int → Int → Int → Bool → Option (Bool)
  | 0, _, _, _, _, _, _ => none
  | k + 1, x0, x13, x14, x15, x16, x75 => if x75 = true then (some false) else (if x0 > 9223372036854775807 then (if x13 = 0 then (if x14 = 10 then (if x15 = 0 then (some (x16 == 10)) else (some false)) else (some false)) else (some false)) else (if x0 > 4294967295 then (if x13 = (wrap64 (x0)) then (if x14 = 0 then (if x15 = 0 then (some (x16 == 10)) else (some false)) else (some false)) else (some false)) else (if x13 = (wrap64 (x0)) then (if x14 = 0 then (if x15 = ((x0) % 4294967296) then (some (x16 == 0)) else (some false)) else (some false)) else (some false))))
def signetlaw01_WordConverts.f (k : Nat) (a0 : Int) (a1 : Int) : Option (Bool) := (word_Extend.f a0 a1).bind fun bt113 => ((signetref01_Extend.f k a0 a1).bind fun bt115 => ((word_Narrow.f (wrap64 (a0)) a1).bind fun bt117 => ((signetref01_Narrow.f k (wrap64 (a0)) a1).bind fun bt119 => ((word_Int.f a0).bind fun bt121 => ((word_Word.f (wrap64 (a0))).bind fun bt123 => ((signetlaw01_awake.f).bind fun t125 => (if t125 = true then (if bt113.1 = bt115.1 then (if bt113.2 = bt115.2 then (if bt117.1 = bt119.1 then (signetlaw01_WordConverts.j0 k a0 bt121.1 bt121.2 bt123.1 bt123.2 (bt117.2 != bt119.2)) else (signetlaw01_WordConverts.j0 k a0 bt121.1 bt121.2 bt123.1 bt123.2 true)) else (signetlaw01_WordConverts.j0 k a0 bt121.1 bt121.2 bt123.1 bt123.2 true)) else (signetlaw01_WordConverts.j0 k a0 bt121.1 bt121.2 bt123.1 bt123.2 true)) else (signetlaw01_WordConverts.j0 k a0 bt121.1 bt121.2 bt123.1 bt123.2 true))))))))
theorem signetlaw01_WordConverts.mono_l : ∀ k, (∀ y0 y1 y2 y3 y4 y5, LeO (signetlaw01_WordConverts.j0 k y0 y1 y2 y3 y4 y5) (signetlaw01_WordConverts.j0 (k + 1) y0 y1 y2 y3 y4 y5))
  | 0 => fun _ _ _ _ _ _ r h => by simp [signetlaw01_WordConverts.j0] at h
  | k + 1 => by
    have ih0 := signetlaw01_WordConverts.mono_l k
    · intro y0 y1 y2 y3 y4 y5
      unfold signetlaw01_WordConverts.j0
      repeat' first
      | (with_reducible exact ih0 _ _ _ _ _ _)
      | (with_reducible exact signetref01_Extend.mono _ _ _)
      | (with_reducible exact signetref01_Narrow.mono _ _ _)
      | (with_reducible exact LeO.refl _)
      | (with_reducible exact LeO.none _)
      | (with_reducible refine LeO.ite ?_ ?_)
      | (with_reducible refine LeO.bind ?_ (fun _ => ?_))
      | exact ih0 _ _ _ _ _ _
      | exact signetref01_Extend.mono _ _ _
      | exact signetref01_Narrow.mono _ _ _
      | exact LeO.none _
      | refine LeO.ite ?_ ?_
      | refine LeO.bind ?_ (fun _ => ?_)
theorem signetlaw01_WordConverts.mono : ∀ a0 a1 k, LeO (signetlaw01_WordConverts.f k a0 a1) (signetlaw01_WordConverts.f (k + 1) a0 a1) := by
  intro a0 a1 k
  have ih0 := signetlaw01_WordConverts.mono_l k
  unfold signetlaw01_WordConverts.f
  repeat' first
      | (with_reducible exact ih0 _ _ _ _ _ _)
      | (with_reducible exact signetref01_Extend.mono _ _ _)
      | (with_reducible exact signetref01_Narrow.mono _ _ _)
      | (with_reducible exact LeO.refl _)
      | (with_reducible exact LeO.none _)
      | (with_reducible refine LeO.ite ?_ ?_)
      | (with_reducible refine LeO.bind ?_ (fun _ => ?_))
      | exact ih0 _ _ _ _ _ _
      | exact signetref01_Extend.mono _ _ _
      | exact signetref01_Narrow.mono _ _ _
      | exact LeO.none _
      | refine LeO.ite ?_ ?_
      | refine LeO.bind ?_ (fun _ => ?_)
set_option maxHeartbeats 8000000 in
set_option maxRecDepth 100000 in
theorem signetlaw01_WordConverts.calls (k : Nat) (a0 : Int) (a1 : Int) (r : Bool) (w : World) (h : signetlaw01_WordConverts.f k a0 a1 = some r) :
    Calls Try.prog 4 #[.int .u64 a0, .int .i64 a1] w fun e w' => e = .returned (.bool r) ∧ Drawn0 w w' := by
  have H : ((word_Extend.f a0 a1).bind fun bt113 => ((signetref01_Extend.f k a0 a1).bind fun bt115 => ((word_Narrow.f (wrap64 (a0)) a1).bind fun bt117 => ((signetref01_Narrow.f k (wrap64 (a0)) a1).bind fun bt119 => ((word_Int.f a0).bind fun bt121 => ((word_Word.f (wrap64 (a0))).bind fun bt123 => ((signetlaw01_awake.f).bind fun t125 => (if t125 = true then (if bt113.1 = bt115.1 then (if bt113.2 = bt115.2 then (if bt117.1 = bt119.1 then (signetlaw01_WordConverts.j0 k a0 bt121.1 bt121.2 bt123.1 bt123.2 (bt117.2 != bt119.2)) else (signetlaw01_WordConverts.j0 k a0 bt121.1 bt121.2 bt123.1 bt123.2 true)) else (signetlaw01_WordConverts.j0 k a0 bt121.1 bt121.2 bt123.1 bt123.2 true)) else (signetlaw01_WordConverts.j0 k a0 bt121.1 bt121.2 bt123.1 bt123.2 true)) else (signetlaw01_WordConverts.j0 k a0 bt121.1 bt121.2 bt123.1 bt123.2 true))))))))) = some r := h
  clear h
  replace H := Option.bind_eq_some_iff.mp H
  obtain ⟨⟨t113, t114⟩, A30, H⟩ := H
  replace H : ((signetref01_Extend.f k a0 a1).bind fun bt115 => ((word_Narrow.f (wrap64 (a0)) a1).bind fun bt117 => ((signetref01_Narrow.f k (wrap64 (a0)) a1).bind fun bt119 => ((word_Int.f a0).bind fun bt121 => ((word_Word.f (wrap64 (a0))).bind fun bt123 => ((signetlaw01_awake.f).bind fun t125 => (if t125 = true then (if t113 = bt115.1 then (if t114 = bt115.2 then (if bt117.1 = bt119.1 then (signetlaw01_WordConverts.j0 k a0 bt121.1 bt121.2 bt123.1 bt123.2 (bt117.2 != bt119.2)) else (signetlaw01_WordConverts.j0 k a0 bt121.1 bt121.2 bt123.1 bt123.2 true)) else (signetlaw01_WordConverts.j0 k a0 bt121.1 bt121.2 bt123.1 bt123.2 true)) else (signetlaw01_WordConverts.j0 k a0 bt121.1 bt121.2 bt123.1 bt123.2 true)) else (signetlaw01_WordConverts.j0 k a0 bt121.1 bt121.2 bt123.1 bt123.2 true)))))))) = some r := H
  have A3 := Aside0.mk A30
  clear A30
  replace H := Option.bind_eq_some_iff.mp H
  obtain ⟨⟨t115, t116⟩, A40, H⟩ := H
  replace H : ((word_Narrow.f (wrap64 (a0)) a1).bind fun bt117 => ((signetref01_Narrow.f k (wrap64 (a0)) a1).bind fun bt119 => ((word_Int.f a0).bind fun bt121 => ((word_Word.f (wrap64 (a0))).bind fun bt123 => ((signetlaw01_awake.f).bind fun t125 => (if t125 = true then (if t113 = t115 then (if t114 = t116 then (if bt117.1 = bt119.1 then (signetlaw01_WordConverts.j0 k a0 bt121.1 bt121.2 bt123.1 bt123.2 (bt117.2 != bt119.2)) else (signetlaw01_WordConverts.j0 k a0 bt121.1 bt121.2 bt123.1 bt123.2 true)) else (signetlaw01_WordConverts.j0 k a0 bt121.1 bt121.2 bt123.1 bt123.2 true)) else (signetlaw01_WordConverts.j0 k a0 bt121.1 bt121.2 bt123.1 bt123.2 true)) else (signetlaw01_WordConverts.j0 k a0 bt121.1 bt121.2 bt123.1 bt123.2 true))))))) = some r := H
  have A4 := Aside0.mk A40
  clear A40
  replace H := Option.bind_eq_some_iff.mp H
  obtain ⟨⟨t117, t118⟩, A50, H⟩ := H
  replace H : ((signetref01_Narrow.f k (wrap64 (a0)) a1).bind fun bt119 => ((word_Int.f a0).bind fun bt121 => ((word_Word.f (wrap64 (a0))).bind fun bt123 => ((signetlaw01_awake.f).bind fun t125 => (if t125 = true then (if t113 = t115 then (if t114 = t116 then (if t117 = bt119.1 then (signetlaw01_WordConverts.j0 k a0 bt121.1 bt121.2 bt123.1 bt123.2 (t118 != bt119.2)) else (signetlaw01_WordConverts.j0 k a0 bt121.1 bt121.2 bt123.1 bt123.2 true)) else (signetlaw01_WordConverts.j0 k a0 bt121.1 bt121.2 bt123.1 bt123.2 true)) else (signetlaw01_WordConverts.j0 k a0 bt121.1 bt121.2 bt123.1 bt123.2 true)) else (signetlaw01_WordConverts.j0 k a0 bt121.1 bt121.2 bt123.1 bt123.2 true)))))) = some r := H
  have A5 := Aside0.mk A50
  clear A50
  replace H := Option.bind_eq_some_iff.mp H
  obtain ⟨⟨t119, t120⟩, A60, H⟩ := H
  replace H : ((word_Int.f a0).bind fun bt121 => ((word_Word.f (wrap64 (a0))).bind fun bt123 => ((signetlaw01_awake.f).bind fun t125 => (if t125 = true then (if t113 = t115 then (if t114 = t116 then (if t117 = t119 then (signetlaw01_WordConverts.j0 k a0 bt121.1 bt121.2 bt123.1 bt123.2 (t118 != t120)) else (signetlaw01_WordConverts.j0 k a0 bt121.1 bt121.2 bt123.1 bt123.2 true)) else (signetlaw01_WordConverts.j0 k a0 bt121.1 bt121.2 bt123.1 bt123.2 true)) else (signetlaw01_WordConverts.j0 k a0 bt121.1 bt121.2 bt123.1 bt123.2 true)) else (signetlaw01_WordConverts.j0 k a0 bt121.1 bt121.2 bt123.1 bt123.2 true))))) = some r := H
  have A6 := Aside0.mk A60
  clear A60
  replace H := Option.bind_eq_some_iff.mp H
  obtain ⟨⟨t121, t122⟩, A70, H⟩ := H
  replace H : ((word_Word.f (wrap64 (a0))).bind fun bt123 => ((signetlaw01_awake.f).bind fun t125 => (if t125 = true then (if t113 = t115 then (if t114 = t116 then (if t117 = t119 then (signetlaw01_WordConverts.j0 k a0 t121 t122 bt123.1 bt123.2 (t118 != t120)) else (signetlaw01_WordConverts.j0 k a0 t121 t122 bt123.1 bt123.2 true)) else (signetlaw01_WordConverts.j0 k a0 t121 t122 bt123.1 bt123.2 true)) else (signetlaw01_WordConverts.j0 k a0 t121 t122 bt123.1 bt123.2 true)) else (signetlaw01_WordConverts.j0 k a0 t121 t122 bt123.1 bt123.2 true)))) = some r := H
  have A7 := Aside0.mk A70
  clear A70
  replace H := Option.bind_eq_some_iff.mp H
  obtain ⟨⟨t123, t124⟩, A80, H⟩ := H
  replace H : ((signetlaw01_awake.f).bind fun t125 => (if t125 = true then (if t113 = t115 then (if t114 = t116 then (if t117 = t119 then (signetlaw01_WordConverts.j0 k a0 t121 t122 t123 t124 (t118 != t120)) else (signetlaw01_WordConverts.j0 k a0 t121 t122 t123 t124 true)) else (signetlaw01_WordConverts.j0 k a0 t121 t122 t123 t124 true)) else (signetlaw01_WordConverts.j0 k a0 t121 t122 t123 t124 true)) else (signetlaw01_WordConverts.j0 k a0 t121 t122 t123 t124 true))) = some r := H
  have A8 := Aside0.mk A80
  clear A80
  have HC9 := Aside0.mk H
  clear H
  go_enter Try.func4, Try.ntmps4
  go_upto_region 7 with (first | ((with_reducible refine gate_callee (f := 20) rfl ?_); refine goesL_ (some 20) rfl rfl Try.func20 (by kernel_rfl) rfl #[.int .u64 a0, .int .i64 a1] rfl (by (try simp only [List.map_toArray, List.map_cons, List.map_nil]); first | done | rfl | (simp only [List.length_drop, List.length_take]; rfl)) ?_; (with_reducible refine (word_Extend.calls a0 a1 t113 t114 _ A3.out).mono ?_); rintro e w' ⟨rfl, ⟨nd, rfl⟩⟩; refine ⟨_, rfl, ?_⟩) | ((with_reducible refine gate_callee (f := 21) rfl ?_); refine goesL_ (some 26) rfl rfl Try.func21 (by kernel_rfl) rfl #[.int .u64 a0, .int .i64 a1] rfl (by (try simp only [List.map_toArray, List.map_cons, List.map_nil]); first | done | rfl | (simp only [List.length_drop, List.length_take]; rfl)) ?_; (with_reducible refine (signetref01_Extend.calls k a0 a1 t115 t116 _ A4.out).mono ?_); rintro e w' ⟨rfl, ⟨nd, rfl⟩⟩; refine ⟨_, rfl, ?_⟩) | ((with_reducible refine gate_callee (f := 22) rfl ?_); refine goesL_ (some 33) rfl rfl Try.func22 (by kernel_rfl) rfl #[.int .i64 (wrap64 (a0)), .int .i64 a1] rfl (by (try simp only [List.map_toArray, List.map_cons, List.map_nil]); first | done | rfl | (simp only [List.length_drop, List.length_take]; rfl)) ?_; (with_reducible refine (word_Narrow.calls (wrap64 (a0)) a1 t117 t118 _ A5.out).mono ?_); rintro e w' ⟨rfl, ⟨nd, rfl⟩⟩; refine ⟨_, rfl, ?_⟩) | ((with_reducible refine gate_callee (f := 23) rfl ?_); refine goesL_ (some 40) rfl rfl Try.func23 (by kernel_rfl) rfl #[.int .i64 (wrap64 (a0)), .int .i64 a1] rfl (by (try simp only [List.map_toArray, List.map_cons, List.map_nil]); first | done | rfl | (simp only [List.length_drop, List.length_take]; rfl)) ?_; (with_reducible refine (signetref01_Narrow.calls k (wrap64 (a0)) a1 t119 t120 _ A6.out).mono ?_); rintro e w' ⟨rfl, ⟨nd, rfl⟩⟩; refine ⟨_, rfl, ?_⟩) | ((with_reducible refine gate_callee (f := 24) rfl ?_); refine goesL_ (some 45) rfl rfl Try.func24 (by kernel_rfl) rfl #[.int .u64 a0] rfl (by (try simp only [List.map_toArray, List.map_cons, List.map_nil]); first | done | rfl | (simp only [List.length_drop, List.length_take]; rfl)) ?_; (with_reducible refine (word_Int.calls a0 t121 t122 _ A7.out).mono ?_); rintro e w' ⟨rfl, ⟨nd, rfl⟩⟩; refine ⟨_, rfl, ?_⟩) | ((with_reducible refine gate_callee (f := 25) rfl ?_); refine goesL_ (some 51) rfl rfl Try.func25 (by kernel_rfl) rfl #[.int .i64 (wrap64 (a0))] rfl (by (try simp only [List.map_toArray, List.map_cons, List.map_nil]); first | done | rfl | (simp only [List.length_drop, List.length_take]; rfl)) ?_; (with_reducible refine (word_Word.calls (wrap64 (a0)) t123 t124 _ A8.out).mono ?_); rintro e w' ⟨rfl, ⟨nd, rfl⟩⟩; refine ⟨_, rfl, ?_⟩))
  (try simp only [Act.put, List.setIfInBounds_toArray, List.set_cons_zero, List.set_cons_succ])
  go_cut [75] (fun v75 wc => ∃ (kq : Nat) (x75_8 : Bool), v75 = .bool x75_8 ∧ Aside0 (signetlaw01_WordConverts.j0 kq a0 t121 t122 t123 t124 x75_8 = some r) ∧ Aside0 (kq ≤ k) ∧ Drawn0 w wc)
  case first =>
    have H := HC9.out
    clear HC9
    replace H := Option.bind_eq_some_iff.mp H
    obtain ⟨t125, A100, H⟩ := H
    replace H : (if t125 = true then (if t113 = t115 then (if t114 = t116 then (if t117 = t119 then (signetlaw01_WordConverts.j0 k a0 t121 t122 t123 t124 (t118 != t120)) else (signetlaw01_WordConverts.j0 k a0 t121 t122 t123 t124 true)) else (signetlaw01_WordConverts.j0 k a0 t121 t122 t123 t124 true)) else (signetlaw01_WordConverts.j0 k a0 t121 t122 t123 t124 true)) else (signetlaw01_WordConverts.j0 k a0 t121 t122 t123 t124 true)) = some r := H
    have A10 := Aside0.mk A100
    clear A100
    by_cases c11 : t125 = true
    · subst c11
      have H1 : (if t113 = t115 then (if t114 = t116 then (if t117 = t119 then (signetlaw01_WordConverts.j0 k a0 t121 t122 t123 t124 (t118 != t120)) else (signetlaw01_WordConverts.j0 k a0 t121 t122 t123 t124 true)) else (signetlaw01_WordConverts.j0 k a0 t121 t122 t123 t124 true)) else (signetlaw01_WordConverts.j0 k a0 t121 t122 t123 t124 true)) = some r := by rw [if_pos rfl] at H; exact H
      clear H
      have H := H1
      clear H1
      by_cases c12 : t113 = t115
      · rw [if_pos c12] at H
        have c12b0 : (t113 == t115) = true := beq_iff_eq.mpr c12
        have c12b1 : (t113 != t115) = false := bne_eq_false_iff_eq.mpr c12
        clear c12
        (first | rw [c12b0] | (simp only [i64_w, i32_w]; rw [c12b0]) | skip)
        by_cases c13 : t114 = t116
        · rw [if_pos c13] at H
          have c13b0 : (t114 == t116) = true := beq_iff_eq.mpr c13
          have c13b1 : (t114 != t116) = false := bne_eq_false_iff_eq.mpr c13
          clear c13
          by_cases c14 : t117 = t119
          · rw [if_pos c14] at H
            have c14b0 : (t117 == t119) = true := beq_iff_eq.mpr c14
            have c14b1 : (t117 != t119) = false := bne_eq_false_iff_eq.mpr c14
            clear c14
            have H' := Aside0.mk H
            clear H
            go_wp2_with (first | ((with_reducible refine gate_callee (f := 13) rfl ?_); refine goesL_ (some 54) rfl rfl Try.func13 (by kernel_rfl) rfl #[] rfl (by (try simp only [List.map_toArray, List.map_cons, List.map_nil]); first | done | rfl | (simp only [List.length_drop, List.length_take]; rfl)) ?_; (with_reducible refine (signetlaw01_awake.calls  true _ A10.out).mono ?_); rintro e w' ⟨rfl, ⟨nd, rfl⟩⟩; refine ⟨_, rfl, ?_⟩))
            go_meet
            case rel => exact ⟨_, ((t118 != t120)), (by first | rfl | (simp; done) | (simp [*]; done)), H', ⟨by first | omega | exact Nat.le_refl _⟩, by repeat (first | exact Drawn0.refl _ | apply Drawn0.step)⟩
          · rw [if_neg c14] at H
            have c14b0 : (t117 == t119) = false := beq_eq_false_iff_ne.mpr c14
            have c14b1 : (t117 != t119) = true := bne_iff_ne.mpr c14
            have H' := Aside0.mk H
            clear H
            go_wp2_with (first | ((with_reducible refine gate_callee (f := 13) rfl ?_); refine goesL_ (some 54) rfl rfl Try.func13 (by kernel_rfl) rfl #[] rfl (by (try simp only [List.map_toArray, List.map_cons, List.map_nil]); first | done | rfl | (simp only [List.length_drop, List.length_take]; rfl)) ?_; (with_reducible refine (signetlaw01_awake.calls  true _ A10.out).mono ?_); rintro e w' ⟨rfl, ⟨nd, rfl⟩⟩; refine ⟨_, rfl, ?_⟩))
            go_meet
            case rel => exact ⟨_, (true), (by first | rfl | (simp; done) | (simp [*]; done)), H', ⟨by first | omega | exact Nat.le_refl _⟩, by repeat (first | exact Drawn0.refl _ | apply Drawn0.step)⟩
        · rw [if_neg c13] at H
          have c13b0 : (t114 == t116) = false := beq_eq_false_iff_ne.mpr c13
          have c13b1 : (t114 != t116) = true := bne_iff_ne.mpr c13
          have H' := Aside0.mk H
          clear H
          go_wp2_with (first | ((with_reducible refine gate_callee (f := 13) rfl ?_); refine goesL_ (some 54) rfl rfl Try.func13 (by kernel_rfl) rfl #[] rfl (by (try simp only [List.map_toArray, List.map_cons, List.map_nil]); first | done | rfl | (simp only [List.length_drop, List.length_take]; rfl)) ?_; (with_reducible refine (signetlaw01_awake.calls  true _ A10.out).mono ?_); rintro e w' ⟨rfl, ⟨nd, rfl⟩⟩; refine ⟨_, rfl, ?_⟩))
          go_meet
          case rel => exact ⟨_, (true), (by first | rfl | (simp; done) | (simp [*]; done)), H', ⟨by first | omega | exact Nat.le_refl _⟩, by repeat (first | exact Drawn0.refl _ | apply Drawn0.step)⟩
      · rw [if_neg c12] at H
        have c12b0 : (t113 == t115) = false := beq_eq_false_iff_ne.mpr c12
        have c12b1 : (t113 != t115) = true := bne_iff_ne.mpr c12
        (first | rw [c12b0] | (simp only [i64_w, i32_w]; rw [c12b0]) | skip)
        have H' := Aside0.mk H
        clear H
        go_wp2_with (first | ((with_reducible refine gate_callee (f := 13) rfl ?_); refine goesL_ (some 54) rfl rfl Try.func13 (by kernel_rfl) rfl #[] rfl (by (try simp only [List.map_toArray, List.map_cons, List.map_nil]); first | done | rfl | (simp only [List.length_drop, List.length_take]; rfl)) ?_; (with_reducible refine (signetlaw01_awake.calls  true _ A10.out).mono ?_); rintro e w' ⟨rfl, ⟨nd, rfl⟩⟩; refine ⟨_, rfl, ?_⟩))
        go_meet
        case rel => exact ⟨_, (true), (by first | rfl | (simp; done) | (simp [*]; done)), H', ⟨by first | omega | exact Nat.le_refl _⟩, by repeat (first | exact Drawn0.refl _ | apply Drawn0.step)⟩
    · replace c11 := Bool.eq_false_iff.mpr c11
      subst c11
      have H1 : (signetlaw01_WordConverts.j0 k a0 t121 t122 t123 t124 true) = some r := by rw [if_neg (show ¬ (false = true) by decide)] at H; exact H
      clear H
      have H := H1
      clear H1
      have H' := Aside0.mk H
      clear H
      go_wp2_with (first | ((with_reducible refine gate_callee (f := 13) rfl ?_); refine goesL_ (some 54) rfl rfl Try.func13 (by kernel_rfl) rfl #[] rfl (by (try simp only [List.map_toArray, List.map_cons, List.map_nil]); first | done | rfl | (simp only [List.length_drop, List.length_take]; rfl)) ?_; (with_reducible refine (signetlaw01_awake.calls  false _ A10.out).mono ?_); rintro e w' ⟨rfl, ⟨nd, rfl⟩⟩; refine ⟨_, rfl, ?_⟩))
      go_meet
      case rel => exact ⟨_, (true), (by first | rfl | (simp; done) | (simp [*]; done)), H', ⟨by first | omega | exact Nat.le_refl _⟩, by repeat (first | exact Drawn0.refl _ | apply Drawn0.step)⟩
  case rest =>
    clear HC9
    try clear c1
    try clear c2
    try clear p2
    try clear c4
    try clear p6
    try clear c11
    try clear c12
    try clear c12b0
    try clear c12b1
    try clear c13
    try clear c13b0
    try clear c13b1
    try clear c14
    try clear c14b0
    try clear c14b1
    obtain ⟨kq, x75_8, rfl, HA, HJ8, ⟨mc8, rfl⟩⟩ := hcut
    cases kq with
    | zero => exact absurd HA.out (by simp [signetlaw01_WordConverts.j0])
    | succ kj8 =>
      have H := HA.out
      clear HA
      simp only [signetlaw01_WordConverts.j0] at H
      by_cases c15 : x75_8 = true
      · subst c15
        have H1 : (some false) = some r := by rw [if_pos rfl] at H; exact H
        clear H
        have H := H1
        clear H1
        obtain rfl := Option.some.inj H
        go_wp2
        go_ret
        exact ⟨by first | rfl | (simp; done) | (simp [*]; done), by repeat (first | exact Drawn0.refl _ | apply Drawn0.step)⟩
      · replace c15 := Bool.eq_false_iff.mpr c15
        subst c15
        have H1 : (if a0 > 9223372036854775807 then (if t121 = 0 then (if t122 = 10 then (if t123 = 0 then (some (t124 == 10)) else (some false)) else (some false)) else (some false)) else (if a0 > 4294967295 then (if t121 = (wrap64 (a0)) then (if t122 = 0 then (if t123 = 0 then (some (t124 == 10)) else (some false)) else (some false)) else (some false)) else (if t121 = (wrap64 (a0)) then (if t122 = 0 then (if t123 = ((a0) % 4294967296) then (some (t124 == 0)) else (some false)) else (some false)) else (some false)))) = some r := by rw [if_neg (show ¬ (false = true) by decide)] at H; exact H
        clear H
        have H := H1
        clear H1
        by_cases c16 : a0 > 9223372036854775807
        · rw [if_pos c16] at H
          have c16b0 : decide (9223372036854775807 < a0) = true := decide_eq_true c16
          clear c16
          by_cases c17 : t121 = 0
          · rw [if_pos c17] at H
            have c17b0 : (t121 == 0) = true := beq_iff_eq.mpr c17
            have c17b1 : (t121 != 0) = false := bne_eq_false_iff_eq.mpr c17
            clear c17
            by_cases c18 : t122 = 10
            · rw [if_pos c18] at H
              have c18b0 : (t122 == 10) = true := beq_iff_eq.mpr c18
              have c18b1 : (t122 != 10) = false := bne_eq_false_iff_eq.mpr c18
              clear c18
              by_cases c19 : t123 = 0
              · rw [if_pos c19] at H
                have c19b0 : (t123 == 0) = true := beq_iff_eq.mpr c19
                have c19b1 : (t123 != 0) = false := bne_eq_false_iff_eq.mpr c19
                clear c19
                obtain rfl := Option.some.inj H
                go_wp2
                go_ret
                exact ⟨by first | rfl | (simp; done) | (simp [*]; done), by repeat (first | exact Drawn0.refl _ | apply Drawn0.step)⟩
              · rw [if_neg c19] at H
                have c19b0 : (t123 == 0) = false := beq_eq_false_iff_ne.mpr c19
                have c19b1 : (t123 != 0) = true := bne_iff_ne.mpr c19
                obtain rfl := Option.some.inj H
                go_wp2
                go_ret
                exact ⟨by first | rfl | (simp; done) | (simp [*]; done), by repeat (first | exact Drawn0.refl _ | apply Drawn0.step)⟩
            · rw [if_neg c18] at H
              have c18b0 : (t122 == 10) = false := beq_eq_false_iff_ne.mpr c18
              have c18b1 : (t122 != 10) = true := bne_iff_ne.mpr c18
              obtain rfl := Option.some.inj H
              go_wp2
              go_ret
              exact ⟨by first | rfl | (simp; done) | (simp [*]; done), by repeat (first | exact Drawn0.refl _ | apply Drawn0.step)⟩
          · rw [if_neg c17] at H
            have c17b0 : (t121 == 0) = false := beq_eq_false_iff_ne.mpr c17
            have c17b1 : (t121 != 0) = true := bne_iff_ne.mpr c17
            obtain rfl := Option.some.inj H
            go_wp2
            go_ret
            exact ⟨by first | rfl | (simp; done) | (simp [*]; done), by repeat (first | exact Drawn0.refl _ | apply Drawn0.step)⟩
        · rw [if_neg c16] at H
          have c16b0 : decide (9223372036854775807 < a0) = false := decide_eq_false c16
          clear c16
          by_cases c20 : a0 > 4294967295
          · rw [if_pos c20] at H
            have c20b0 : decide (4294967295 < a0) = true := decide_eq_true c20
            clear c20
            by_cases c21 : t121 = (wrap64 (a0))
            · rw [if_pos c21] at H
              have c21b0 : (t121 == (wrap64 (a0))) = true := beq_iff_eq.mpr c21
              have c21b1 : (t121 != (wrap64 (a0))) = false := bne_eq_false_iff_eq.mpr c21
              clear c21
              by_cases c22 : t122 = 0
              · rw [if_pos c22] at H
                have c22b0 : (t122 == 0) = true := beq_iff_eq.mpr c22
                have c22b1 : (t122 != 0) = false := bne_eq_false_iff_eq.mpr c22
                clear c22
                by_cases c23 : t123 = 0
                · rw [if_pos c23] at H
                  have c23b0 : (t123 == 0) = true := beq_iff_eq.mpr c23
                  have c23b1 : (t123 != 0) = false := bne_eq_false_iff_eq.mpr c23
                  clear c23
                  obtain rfl := Option.some.inj H
                  go_wp2
                  go_ret
                  exact ⟨by first | rfl | (simp; done) | (simp [*]; done), by repeat (first | exact Drawn0.refl _ | apply Drawn0.step)⟩
                · rw [if_neg c23] at H
                  have c23b0 : (t123 == 0) = false := beq_eq_false_iff_ne.mpr c23
                  have c23b1 : (t123 != 0) = true := bne_iff_ne.mpr c23
                  obtain rfl := Option.some.inj H
                  go_wp2
                  go_ret
                  exact ⟨by first | rfl | (simp; done) | (simp [*]; done), by repeat (first | exact Drawn0.refl _ | apply Drawn0.step)⟩
              · rw [if_neg c22] at H
                have c22b0 : (t122 == 0) = false := beq_eq_false_iff_ne.mpr c22
                have c22b1 : (t122 != 0) = true := bne_iff_ne.mpr c22
                obtain rfl := Option.some.inj H
                go_wp2
                go_ret
                exact ⟨by first | rfl | (simp; done) | (simp [*]; done), by repeat (first | exact Drawn0.refl _ | apply Drawn0.step)⟩
            · rw [if_neg c21] at H
              have c21b0 : (t121 == (wrap64 (a0))) = false := beq_eq_false_iff_ne.mpr c21
              have c21b1 : (t121 != (wrap64 (a0))) = true := bne_iff_ne.mpr c21
              obtain rfl := Option.some.inj H
              go_wp2
              go_ret
              exact ⟨by first | rfl | (simp; done) | (simp [*]; done), by repeat (first | exact Drawn0.refl _ | apply Drawn0.step)⟩
          · rw [if_neg c20] at H
            have c20b0 : decide (4294967295 < a0) = false := decide_eq_false c20
            clear c20
            by_cases c24 : t121 = (wrap64 (a0))
            · rw [if_pos c24] at H
              have c24b0 : (t121 == (wrap64 (a0))) = true := beq_iff_eq.mpr c24
              have c24b1 : (t121 != (wrap64 (a0))) = false := bne_eq_false_iff_eq.mpr c24
              clear c24
              by_cases c25 : t122 = 0
              · rw [if_pos c25] at H
                have c25b0 : (t122 == 0) = true := beq_iff_eq.mpr c25
                have c25b1 : (t122 != 0) = false := bne_eq_false_iff_eq.mpr c25
                clear c25
                by_cases c26 : t123 = ((a0) % 4294967296)
                · rw [if_pos c26] at H
                  have c26b0 : (t123 == ((a0) % 4294967296)) = true := beq_iff_eq.mpr c26
                  have c26b1 : (t123 != ((a0) % 4294967296)) = false := bne_eq_false_iff_eq.mpr c26
                  clear c26
                  obtain rfl := Option.some.inj H
                  go_wp2
                  go_ret
                  exact ⟨by first | rfl | (simp; done) | (simp [*]; done), by repeat (first | exact Drawn0.refl _ | apply Drawn0.step)⟩
                · rw [if_neg c26] at H
                  have c26b0 : (t123 == ((a0) % 4294967296)) = false := beq_eq_false_iff_ne.mpr c26
                  have c26b1 : (t123 != ((a0) % 4294967296)) = true := bne_iff_ne.mpr c26
                  obtain rfl := Option.some.inj H
                  go_wp2
                  go_ret
                  exact ⟨by first | rfl | (simp; done) | (simp [*]; done), by repeat (first | exact Drawn0.refl _ | apply Drawn0.step)⟩
              · rw [if_neg c25] at H
                have c25b0 : (t122 == 0) = false := beq_eq_false_iff_ne.mpr c25
                have c25b1 : (t122 != 0) = true := bne_iff_ne.mpr c25
                obtain rfl := Option.some.inj H
                go_wp2
                go_ret
                exact ⟨by first | rfl | (simp; done) | (simp [*]; done), by repeat (first | exact Drawn0.refl _ | apply Drawn0.step)⟩
            · rw [if_neg c24] at H
              have c24b0 : (t121 == (wrap64 (a0))) = false := beq_eq_false_iff_ne.mpr c24
              have c24b1 : (t121 != (wrap64 (a0))) = true := bne_iff_ne.mpr c24
              obtain rfl := Option.some.inj H
              go_wp2
              go_ret
              exact ⟨by first | rfl | (simp; done) | (simp [*]; done), by repeat (first | exact Drawn0.refl _ | apply Drawn0.step)⟩

/-- THE ONE PURE STATEMENT of signetlaw01_WordConverts: yours. -/
def signetlaw01_WordConverts.Pure : Prop := ∀ (a0 : Int) (a1 : Int), (Lit.int .u64 a0).wf = true → (Lit.int .i64 a1).wf = true → ∃ k, signetlaw01_WordConverts.f k a0 a1 = some true
theorem signetlaw01_WordConverts.walk (P : signetlaw01_WordConverts.Pure) (a0 : Int) (a1 : Int) (w : World) (w0 : (Lit.int .u64 a0).wf = true) (w1 : (Lit.int .i64 a1).wf = true) :
    Calls Try.prog 4 #[.int .u64 a0, .int .i64 a1] w fun e w' => e = .returned (.bool true) ∧ Below w.heap.size w w' := by
  obtain ⟨k, h⟩ := P a0 a1 w0 w1
  refine (signetlaw01_WordConverts.calls k a0 a1 true w h).mono ?_
  rintro e w' ⟨rfl, hd⟩
  exact ⟨rfl, hd.below⟩

end Go.Proofs.Ytfpikmfonpnicaa.PWordConverts
