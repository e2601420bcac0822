/- The lines of script and their laws, part Qd: contracts by hand. -/
import Derived.Test.YtcgkmomhjincgaaDoorTLibQ0
import Derived.Test.YtcgkmomhjincgaaDoorTQb
import Derived.Test.YtcgkmomhjincgaaDoorTLibQ4
import Derived.Test.YtcgkmomhjincgaaDoorTLibQ5
import Derived.Test.YtcgkmomhjincgaaDoorTLibQ6
import Derived.Test.YtcgkmomhjincgaaDoorTLibQ7
import Derived.Deep.RegionHeld3
import Derived.Lib.ItoaLen
namespace Go.Proofs.YtcgkmomhjincgaaDoor.LibQ.Scr
open Go.RowKit Go.Proofs.YtcgkmomhjincgaaDoor.LibQ Go.Proofs.YtcgkmomhjincgaaDoorW.PrintWords Go.Proofs.YtcgkmomhjincgaaDoorW.PrintLast Go.Proofs.YtcgkmomhjincgaaDoorW.PrintMore
set_option linter.unusedVariables false
set_option linter.unusedSimpArgs false
attribute [local go_sem] max2_int min2_int max_two min_two max_three min_three max_four min_four
def setR (x : S42) (p n : Int) : S42 := if p = 82 then { x with f1 := n } else if p = 84 then { x with f2 := n } else if p = 78 then { x with f3 := n } else if p = 65 then { x with f5 := n } else if p = 88 then { x with f4 := n } else if p = 70 then { x with f7 := n } else x
def takeF (k : Nat) (x : S42) (p : Int) (wd : ByteArray) : Option (S42 × Bool) :=
  (scholiaref29_Number.f k wd).bind fun n => (scholiaref29_Unquote.f k wd).bind fun s =>
    some (if p = 68 then ({ x with f6 := s.1 }, s.2) else if p = 83 then ({ x with f8 := s.1 }, s.2) else (setR x p n.1, n.2))
theorem setS_int {w : World} {g : Nat} {x : S42} {v : Value} (h : StepAt w g x v) (j : Nat) (u : Value) (x' : S42) (e : (SC x v).setIfInBounds j u = SC x' v) : StepAt (w.setCell ⟨g, j, none⟩ u) g x' v := by
  have hs := blk_set h j u
  rw [e] at hs
  exact hs
theorem rnumber_calls (k : Nat) (wd : ByteArray) (n : Int) (b : Bool) (w : World) (h : scholiaref29_Number.f k wd = some (n, b)) :
    Calls Tryd.prog 62 #[.string wd] w fun e w' => e = .returned (.tuple #[.int .i64 n, .bool b]) ∧ Below w.heap.size w w' :=
  (scholiaref29_Number.calls k wd n b w h).mono fun e w' ⟨he, ⟨nd, hw⟩⟩ => ⟨he, by subst hw; exact pw_below_drewN (Below.refl _ _) nd⟩
set_option maxHeartbeats 8000000 in
set_option maxRecDepth 100000 in
theorem take_calls (k : Nat) (x x' : S42) (v : Value) (p : Int) (wd : ByteArray) (b : Bool) (w : World) (hv : v.oneCell' = true) (hf : takeF k x p wd = some (x', b)) :
    Calls Tryd.prog 63 #[.agg (SC x v), .int .u8 p, .string wd] w fun e w' => e = .returned (.tuple #[.agg (SC x' v), .bool b]) ∧ Below w.heap.size w w' := by
  have hu := Tryd.underlying42
  unfold takeF at hf
  obtain ⟨⟨n, nb⟩, hn, hf⟩ := Option.bind_eq_some_iff.1 hf
  obtain ⟨⟨s, sb⟩, hs, hf⟩ := Option.bind_eq_some_iff.1 hf
  simp only [Option.some.injEq] at hf
  have HX0 := Aside0.mk (show StepAt ((w.alloc (.cells (SC x v) 42)).alloc (.cells (SC z42 (.slice none 0 0)) 42)) w.heap.size x v from blk_below (blk_new w _) (below_alloc (Below.refl _ _) _))
  have HZ0 := Aside0.mk (show StepAt ((w.alloc (.cells (SC x v) 42)).alloc (.cells (SC z42 (.slice none 0 0)) 42)) (w.heap.size + 1) z42 (.slice none 0 0) from by have h := blk_new (w.alloc (.cells (SC x v) 42)) (.cells (SC z42 (.slice none 0 0)) 42); rw [show (w.alloc (.cells (SC x v) 42)).heap.size = w.heap.size + 1 by simp] at h; exact h)
  have HB0 := Aside0.mk (below_alloc (below_alloc (Below.refl w.heap.size w) (.cells (SC x v) 42)) (.cells (SC z42 (.slice none 0 0)) 42))
  have HN := Aside0.mk hn
  have HS := Aside0.mk hs
  have HF := Aside0.mk hf
  have HV := Aside0.mk hv
  clear hn hs hf hv
  go_enter Tryd.func63, Tryd.ntmps63
  go_wp2_with fail
  refine (rnumber_calls k wd n nb _ HN.out).mono ?_
  rintro e w1 ⟨rfl, hb⟩
  have HX1 := Aside0.mk (show StepAt w1 w.heap.size x v from blk_below HX0.out hb)
  have HZ1 := Aside0.mk (show StepAt w1 (w.heap.size + 1) z42 (.slice none 0 0) from blk_below HZ0.out hb)
  have HB1 := Aside0.mk (HB0.out.trans (hb.mono HB0.out.size))
  clear hb HX0 HZ0 HB0
  go_wp2_with fail
  refine (scholiaref29_Unquote.calls k wd s sb _ HS.out).mono ?_
  rintro e w2 ⟨rfl, hb⟩
  have HX := Aside0.mk (show StepAt w2 w.heap.size x v from blk_below HX1.out hb)
  have HZ := Aside0.mk (show StepAt w2 (w.heap.size + 1) z42 (.slice none 0 0) from blk_below HZ1.out hb)
  have HB := Aside0.mk (HB1.out.trans (hb.mono HB1.out.size))
  clear hb HX1 HZ1 HB1
  have hf := HF.out
  by_cases p68 : p = 68
  · rw [if_pos p68] at hf
    obtain ⟨rfl, rfl⟩ := Prod.mk.inj hf
    subst p68
    clear hf HF
    have zc := (blk_cell HX.out 6).trans rfl
    have zf := (step_cells HX.out).2.2.2.2.2.2.2.2.2.2 6
    have HXS := Aside0.mk (setS_int HX.out 6 (.string s) { x with f6 := s } (by simp [SC]))
    have HZS := Aside0.mk (show StepAt (w2.setCell ⟨w.heap.size, 6, none⟩ (.string s)) (w.heap.size + 1) z42 (.slice none 0 0) from blk_far HZ.out (by simp) _)
    have HBS := Aside0.mk (HB.out.setCell (p := ⟨w.heap.size, 6, none⟩) (Nat.le_refl _) (.string s))
    have hv := HV.out
    go_wp2_with (first | ((with_reducible refine gate_dst (N := 27) rfl ?_); refine Kd.event_run rfl (load_step HXS.out _ _ (.tmp 3) rfl rfl) ?_) | ((with_reducible refine gate_store (t := 42) (p := 6) rfl ?_); refine store_event (t := 42) (p := 6) (v := .tmp 27) (w1 := putS (w2.setCell ⟨w.heap.size, 6, none⟩ (.string s)) (w.heap.size + 1) { x with f6 := s } v) rfl rfl rfl (store_step HZS.out { x with f6 := s } v HV.out _ _ (.tmp 6) (.tmp 27) rfl rfl rfl) ?_; intro w9 hw9; have HS9 : StepAt w9 (w.heap.size + 1) { x with f6 := s } v := (by rw [hw9]; exact putS_at HZS.out _ _); have HB9 : Below w.heap.size w w9 := (by rw [hw9]; exact putS_below HBS.out (Nat.le_succ _) _ _); clear hw9))
    refine bodyPost_ret (results_ct (fn := Tryd.f63) (p := 6) (u := 7) (ty := 42) (P := Tryd.prog) rfl _ w9 (w.heap.size + 1) 42 (SC { x with f6 := s } v) (0, 0) _ rfl HS9 hu rfl info42s) rfl ?_
    exact ⟨rfl, HB9⟩
  · rw [if_neg p68] at hf
    have b68 : (p == 68) = false := by simpa using p68
    by_cases p83 : p = 83
    · rw [if_pos p83] at hf
      obtain ⟨rfl, rfl⟩ := Prod.mk.inj hf
      subst p83
      clear hf HF
      have zc := (blk_cell HX.out 8).trans rfl
      have zf := (step_cells HX.out).2.2.2.2.2.2.2.2.2.2 8
      have HXS := Aside0.mk (setS_int HX.out 8 (.string s) { x with f8 := s } (by simp [SC]))
      have HZS := Aside0.mk (show StepAt (w2.setCell ⟨w.heap.size, 8, none⟩ (.string s)) (w.heap.size + 1) z42 (.slice none 0 0) from blk_far HZ.out (by simp) _)
      have HBS := Aside0.mk (HB.out.setCell (p := ⟨w.heap.size, 8, none⟩) (Nat.le_refl _) (.string s))
      have hv := HV.out
      go_wp2_with (first | ((with_reducible refine gate_dst (N := 33) rfl ?_); refine Kd.event_run rfl (load_step HXS.out _ _ (.tmp 3) rfl rfl) ?_) | ((with_reducible refine gate_store (t := 42) (p := 6) rfl ?_); refine store_event (t := 42) (p := 6) (v := .tmp 33) (w1 := putS (w2.setCell ⟨w.heap.size, 8, none⟩ (.string s)) (w.heap.size + 1) { x with f8 := s } v) rfl rfl rfl (store_step HZS.out { x with f8 := s } v HV.out _ _ (.tmp 6) (.tmp 33) rfl rfl rfl) ?_; intro w9 hw9; have HS9 : StepAt w9 (w.heap.size + 1) { x with f8 := s } v := (by rw [hw9]; exact putS_at HZS.out _ _); have HB9 : Below w.heap.size w w9 := (by rw [hw9]; exact putS_below HBS.out (Nat.le_succ _) _ _); clear hw9))
      refine bodyPost_ret (results_ct (fn := Tryd.f63) (p := 6) (u := 7) (ty := 42) (P := Tryd.prog) rfl _ w9 (w.heap.size + 1) 42 (SC { x with f8 := s } v) (0, 0) _ rfl HS9 hu rfl info42s) rfl ?_
      exact ⟨rfl, HB9⟩
    · rw [if_neg p83] at hf
      have b83 : (p == 83) = false := by simpa using p83
      obtain ⟨hx, rfl⟩ := Prod.mk.inj hf
      unfold setR at hx
      clear hf HF
      by_cases p82 : p = 82
      · rw [if_pos p82] at hx
        subst hx
        subst p82
        have zc := (blk_cell HX.out 1).trans rfl
        have zf := (step_cells HX.out).2.2.2.2.2.2.2.2.2.2 1
        have HXS := Aside0.mk (setS_int HX.out 1 (.int .i64 n) { x with f1 := n } (by simp [SC]))
        have HZS := Aside0.mk (show StepAt (w2.setCell ⟨w.heap.size, 1, none⟩ (.int .i64 n)) (w.heap.size + 1) z42 (.slice none 0 0) from blk_far HZ.out (by simp) _)
        have HBS := Aside0.mk (HB.out.setCell (p := ⟨w.heap.size, 1, none⟩) (Nat.le_refl _) (.int .i64 n))
        have hv := HV.out
        go_wp2_with (first | ((with_reducible refine gate_dst (N := 59) rfl ?_); refine Kd.event_run rfl (load_step HXS.out _ _ (.tmp 3) rfl rfl) ?_) | ((with_reducible refine gate_store (t := 42) (p := 6) rfl ?_); refine store_event (t := 42) (p := 6) (v := .tmp 59) (w1 := putS (w2.setCell ⟨w.heap.size, 1, none⟩ (.int .i64 n)) (w.heap.size + 1) { x with f1 := n } v) rfl rfl rfl (store_step HZS.out { x with f1 := n } v HV.out _ _ (.tmp 6) (.tmp 59) rfl rfl rfl) ?_; intro w9 hw9; have HS9 : StepAt w9 (w.heap.size + 1) { x with f1 := n } v := (by rw [hw9]; exact putS_at HZS.out _ _); have HB9 : Below w.heap.size w w9 := (by rw [hw9]; exact putS_below HBS.out (Nat.le_succ _) _ _); clear hw9))
        refine bodyPost_ret (results_ct (fn := Tryd.f63) (p := 6) (u := 7) (ty := 42) (P := Tryd.prog) rfl _ w9 (w.heap.size + 1) 42 (SC { x with f1 := n } v) (0, 0) _ rfl HS9 hu rfl info42s) rfl ?_
        exact ⟨rfl, HB9⟩
      · rw [if_neg p82] at hx
        have b82 : (p == 82) = false := by simpa using p82
        by_cases p84 : p = 84
        · rw [if_pos p84] at hx
          subst hx
          subst p84
          have zc := (blk_cell HX.out 2).trans rfl
          have zf := (step_cells HX.out).2.2.2.2.2.2.2.2.2.2 2
          have HXS := Aside0.mk (setS_int HX.out 2 (.int .i64 n) { x with f2 := n } (by simp [SC]))
          have HZS := Aside0.mk (show StepAt (w2.setCell ⟨w.heap.size, 2, none⟩ (.int .i64 n)) (w.heap.size + 1) z42 (.slice none 0 0) from blk_far HZ.out (by simp) _)
          have HBS := Aside0.mk (HB.out.setCell (p := ⟨w.heap.size, 2, none⟩) (Nat.le_refl _) (.int .i64 n))
          have hv := HV.out
          go_wp2_with (first | ((with_reducible refine gate_dst (N := 59) rfl ?_); refine Kd.event_run rfl (load_step HXS.out _ _ (.tmp 3) rfl rfl) ?_) | ((with_reducible refine gate_store (t := 42) (p := 6) rfl ?_); refine store_event (t := 42) (p := 6) (v := .tmp 59) (w1 := putS (w2.setCell ⟨w.heap.size, 2, none⟩ (.int .i64 n)) (w.heap.size + 1) { x with f2 := n } v) rfl rfl rfl (store_step HZS.out { x with f2 := n } v HV.out _ _ (.tmp 6) (.tmp 59) rfl rfl rfl) ?_; intro w9 hw9; have HS9 : StepAt w9 (w.heap.size + 1) { x with f2 := n } v := (by rw [hw9]; exact putS_at HZS.out _ _); have HB9 : Below w.heap.size w w9 := (by rw [hw9]; exact putS_below HBS.out (Nat.le_succ _) _ _); clear hw9))
          refine bodyPost_ret (results_ct (fn := Tryd.f63) (p := 6) (u := 7) (ty := 42) (P := Tryd.prog) rfl _ w9 (w.heap.size + 1) 42 (SC { x with f2 := n } v) (0, 0) _ rfl HS9 hu rfl info42s) rfl ?_
          exact ⟨rfl, HB9⟩
        · rw [if_neg p84] at hx
          have b84 : (p == 84) = false := by simpa using p84
          by_cases p78 : p = 78
          · rw [if_pos p78] at hx
            subst hx
            subst p78
            have zc := (blk_cell HX.out 3).trans rfl
            have zf := (step_cells HX.out).2.2.2.2.2.2.2.2.2.2 3
            have HXS := Aside0.mk (setS_int HX.out 3 (.int .i64 n) { x with f3 := n } (by simp [SC]))
            have HZS := Aside0.mk (show StepAt (w2.setCell ⟨w.heap.size, 3, none⟩ (.int .i64 n)) (w.heap.size + 1) z42 (.slice none 0 0) from blk_far HZ.out (by simp) _)
            have HBS := Aside0.mk (HB.out.setCell (p := ⟨w.heap.size, 3, none⟩) (Nat.le_refl _) (.int .i64 n))
            have hv := HV.out
            go_wp2_with (first | ((with_reducible refine gate_dst (N := 59) rfl ?_); refine Kd.event_run rfl (load_step HXS.out _ _ (.tmp 3) rfl rfl) ?_) | ((with_reducible refine gate_store (t := 42) (p := 6) rfl ?_); refine store_event (t := 42) (p := 6) (v := .tmp 59) (w1 := putS (w2.setCell ⟨w.heap.size, 3, none⟩ (.int .i64 n)) (w.heap.size + 1) { x with f3 := n } v) rfl rfl rfl (store_step HZS.out { x with f3 := n } v HV.out _ _ (.tmp 6) (.tmp 59) rfl rfl rfl) ?_; intro w9 hw9; have HS9 : StepAt w9 (w.heap.size + 1) { x with f3 := n } v := (by rw [hw9]; exact putS_at HZS.out _ _); have HB9 : Below w.heap.size w w9 := (by rw [hw9]; exact putS_below HBS.out (Nat.le_succ _) _ _); clear hw9))
            refine bodyPost_ret (results_ct (fn := Tryd.f63) (p := 6) (u := 7) (ty := 42) (P := Tryd.prog) rfl _ w9 (w.heap.size + 1) 42 (SC { x with f3 := n } v) (0, 0) _ rfl HS9 hu rfl info42s) rfl ?_
            exact ⟨rfl, HB9⟩
          · rw [if_neg p78] at hx
            have b78 : (p == 78) = false := by simpa using p78
            by_cases p65 : p = 65
            · rw [if_pos p65] at hx
              subst hx
              subst p65
              have zc := (blk_cell HX.out 5).trans rfl
              have zf := (step_cells HX.out).2.2.2.2.2.2.2.2.2.2 5
              have HXS := Aside0.mk (setS_int HX.out 5 (.int .i64 n) { x with f5 := n } (by simp [SC]))
              have HZS := Aside0.mk (show StepAt (w2.setCell ⟨w.heap.size, 5, none⟩ (.int .i64 n)) (w.heap.size + 1) z42 (.slice none 0 0) from blk_far HZ.out (by simp) _)
              have HBS := Aside0.mk (HB.out.setCell (p := ⟨w.heap.size, 5, none⟩) (Nat.le_refl _) (.int .i64 n))
              have hv := HV.out
              go_wp2_with (first | ((with_reducible refine gate_dst (N := 59) rfl ?_); refine Kd.event_run rfl (load_step HXS.out _ _ (.tmp 3) rfl rfl) ?_) | ((with_reducible refine gate_store (t := 42) (p := 6) rfl ?_); refine store_event (t := 42) (p := 6) (v := .tmp 59) (w1 := putS (w2.setCell ⟨w.heap.size, 5, none⟩ (.int .i64 n)) (w.heap.size + 1) { x with f5 := n } v) rfl rfl rfl (store_step HZS.out { x with f5 := n } v HV.out _ _ (.tmp 6) (.tmp 59) rfl rfl rfl) ?_; intro w9 hw9; have HS9 : StepAt w9 (w.heap.size + 1) { x with f5 := n } v := (by rw [hw9]; exact putS_at HZS.out _ _); have HB9 : Below w.heap.size w w9 := (by rw [hw9]; exact putS_below HBS.out (Nat.le_succ _) _ _); clear hw9))
              refine bodyPost_ret (results_ct (fn := Tryd.f63) (p := 6) (u := 7) (ty := 42) (P := Tryd.prog) rfl _ w9 (w.heap.size + 1) 42 (SC { x with f5 := n } v) (0, 0) _ rfl HS9 hu rfl info42s) rfl ?_
              exact ⟨rfl, HB9⟩
            · rw [if_neg p65] at hx
              have b65 : (p == 65) = false := by simpa using p65
              by_cases p88 : p = 88
              · rw [if_pos p88] at hx
                subst hx
                subst p88
                have zc := (blk_cell HX.out 4).trans rfl
                have zf := (step_cells HX.out).2.2.2.2.2.2.2.2.2.2 4
                have HXS := Aside0.mk (setS_int HX.out 4 (.int .i64 n) { x with f4 := n } (by simp [SC]))
                have HZS := Aside0.mk (show StepAt (w2.setCell ⟨w.heap.size, 4, none⟩ (.int .i64 n)) (w.heap.size + 1) z42 (.slice none 0 0) from blk_far HZ.out (by simp) _)
                have HBS := Aside0.mk (HB.out.setCell (p := ⟨w.heap.size, 4, none⟩) (Nat.le_refl _) (.int .i64 n))
                have hv := HV.out
                go_wp2_with (first | ((with_reducible refine gate_dst (N := 59) rfl ?_); refine Kd.event_run rfl (load_step HXS.out _ _ (.tmp 3) rfl rfl) ?_) | ((with_reducible refine gate_store (t := 42) (p := 6) rfl ?_); refine store_event (t := 42) (p := 6) (v := .tmp 59) (w1 := putS (w2.setCell ⟨w.heap.size, 4, none⟩ (.int .i64 n)) (w.heap.size + 1) { x with f4 := n } v) rfl rfl rfl (store_step HZS.out { x with f4 := n } v HV.out _ _ (.tmp 6) (.tmp 59) rfl rfl rfl) ?_; intro w9 hw9; have HS9 : StepAt w9 (w.heap.size + 1) { x with f4 := n } v := (by rw [hw9]; exact putS_at HZS.out _ _); have HB9 : Below w.heap.size w w9 := (by rw [hw9]; exact putS_below HBS.out (Nat.le_succ _) _ _); clear hw9))
                refine bodyPost_ret (results_ct (fn := Tryd.f63) (p := 6) (u := 7) (ty := 42) (P := Tryd.prog) rfl _ w9 (w.heap.size + 1) 42 (SC { x with f4 := n } v) (0, 0) _ rfl HS9 hu rfl info42s) rfl ?_
                exact ⟨rfl, HB9⟩
              · rw [if_neg p88] at hx
                have b88 : (p == 88) = false := by simpa using p88
                by_cases p70 : p = 70
                · rw [if_pos p70] at hx
                  subst hx
                  subst p70
                  have zc := (blk_cell HX.out 7).trans rfl
                  have zf := (step_cells HX.out).2.2.2.2.2.2.2.2.2.2 7
                  have HXS := Aside0.mk (setS_int HX.out 7 (.int .i64 n) { x with f7 := n } (by simp [SC]))
                  have HZS := Aside0.mk (show StepAt (w2.setCell ⟨w.heap.size, 7, none⟩ (.int .i64 n)) (w.heap.size + 1) z42 (.slice none 0 0) from blk_far HZ.out (by simp) _)
                  have HBS := Aside0.mk (HB.out.setCell (p := ⟨w.heap.size, 7, none⟩) (Nat.le_refl _) (.int .i64 n))
                  have hv := HV.out
                  go_wp2_with (first | ((with_reducible refine gate_dst (N := 59) rfl ?_); refine Kd.event_run rfl (load_step HXS.out _ _ (.tmp 3) rfl rfl) ?_) | ((with_reducible refine gate_store (t := 42) (p := 6) rfl ?_); refine store_event (t := 42) (p := 6) (v := .tmp 59) (w1 := putS (w2.setCell ⟨w.heap.size, 7, none⟩ (.int .i64 n)) (w.heap.size + 1) { x with f7 := n } v) rfl rfl rfl (store_step HZS.out { x with f7 := n } v HV.out _ _ (.tmp 6) (.tmp 59) rfl rfl rfl) ?_; intro w9 hw9; have HS9 : StepAt w9 (w.heap.size + 1) { x with f7 := n } v := (by rw [hw9]; exact putS_at HZS.out _ _); have HB9 : Below w.heap.size w w9 := (by rw [hw9]; exact putS_below HBS.out (Nat.le_succ _) _ _); clear hw9))
                  refine bodyPost_ret (results_ct (fn := Tryd.f63) (p := 6) (u := 7) (ty := 42) (P := Tryd.prog) rfl _ w9 (w.heap.size + 1) 42 (SC { x with f7 := n } v) (0, 0) _ rfl HS9 hu rfl info42s) rfl ?_
                  exact ⟨rfl, HB9⟩
                · rw [if_neg p70] at hx
                  have b70 : (p == 70) = false := by simpa using p70
                  subst hx
                  have hv := HV.out
                  go_wp2_with (first | ((with_reducible refine gate_dst (N := 59) rfl ?_); refine Kd.event_run rfl (load_step HX.out _ _ (.tmp 3) rfl rfl) ?_) | ((with_reducible refine gate_store (t := 42) (p := 6) rfl ?_); refine store_event (t := 42) (p := 6) (v := .tmp 59) (w1 := putS w2 (w.heap.size + 1) x v) rfl rfl rfl (store_step HZ.out x v HV.out _ _ (.tmp 6) (.tmp 59) rfl rfl rfl) ?_; intro w9 hw9; have HS9 : StepAt w9 (w.heap.size + 1) x v := (by rw [hw9]; exact putS_at HZ.out _ _); have HB9 : Below w.heap.size w w9 := (by rw [hw9]; exact putS_below HB.out (Nat.le_succ _) _ _); clear hw9))
                  refine bodyPost_ret (results_ct (fn := Tryd.f63) (p := 6) (u := 7) (ty := 42) (P := Tryd.prog) rfl _ w9 (w.heap.size + 1) 42 (SC x v) (0, 0) _ rfl HS9 hu rfl info42s) rfl ?_
                  exact ⟨rfl, HB9⟩
def numsR (k : Nat) : List ByteArray → List Int → Option (List Int × Bool)
  | [], l => some (l, true)
  | w :: t, l => (scholiaref29_Number.f k w).bind fun n => if n.2 = false then some ([], false) else numsR k t (l ++ [n.1])
def rgo (k : Nat) (kd : Int) : List Int → List ByteArray → S42 → Option (S42 × Bool)
  | [], ws, x => some (if kd = 0 ∨ ws ≠ [] then (z42, false) else (x, true))
  | p :: ps, ws, x => if p = 75 then (numsR k ws x.f9).bind fun r => if r.2 = false then some (z42, false) else rgo k kd ps [] { x with f9 := r.1 }
    else match ws with
      | [] => some (z42, false)
      | wd :: t => (takeF k x p wd).bind fun q => if q.2 = false then some (z42, false) else rgo k kd ps t q.1
theorem rgo_K (k : Nat) (kd p : Int) (ps : List Int) (ws : List ByteArray) (x : S42) (h : p = 75) : rgo k kd (p :: ps) ws x = (numsR k ws x.f9).bind fun r => if r.2 = false then some (z42, false) else rgo k kd ps [] { x with f9 := r.1 } := by
  cases ws with
  | nil => rw [rgo, if_pos h]
  | cons a t => rw [rgo, if_pos h]
def rreadF (k : Nat) (s : ByteArray) : Option (S42 × Bool) := if 240 < s.size then some (z42, false) else
  (scholiaref29_Words.f k s).bind fun W => if 0 < W.length ∧ W.length ≤ 40000000 then ((scholiaref29_Parts.f k (W.headD ⟨#[]⟩)).bind fun r => if r.1.size ≤ 40000000 then rgo k r.2 (bytesOf r.1) W.tail { z42 with f0 := r.2 } else none) else none
theorem take_f9 (k : Nat) (p : Int) (wd : ByteArray) (x x' : S42) (b : Bool) (h : takeF k x p wd = some (x', b)) : x'.f9 = x.f9 := by
  unfold takeF at h
  obtain ⟨n, _, h⟩ := Option.bind_eq_some_iff.1 h
  obtain ⟨s, _, h⟩ := Option.bind_eq_some_iff.1 h
  simp only [Option.some.injEq] at h
  split at h
  · obtain ⟨rfl, _⟩ := Prod.mk.inj h; rfl
  · split at h
    · obtain ⟨rfl, _⟩ := Prod.mk.inj h; rfl
    · obtain ⟨rfl, _⟩ := Prod.mk.inj h
      unfold setR
      repeat' split
      all_goals rfl
theorem R_lt {α : Type} {d : Kd α} {e : Nat} {w w1 : World} {base : Nat} {ok : Nat → Prop} {v : Value} {xs : List α} (h : d.R e w base ok v xs) (hk : ∀ q, base ≤ q → q < w.heap.size → w1.heap[q]? = w.heap[q]?) : d.R e w1 base ok v xs := by
  have h1 := Kd.R_step (Kd.R_bound h) (fun q hq hlt => hk q hq.2.1 hlt)
  exact Kd.R_mono h1 (fun _ hq => hq.1)
theorem putS_q {W : World} {g q : Nat} {x : S42} {v : Value} (h2 : q ≠ g) : (putS W g x v).heap[q]? = W.heap[q]? := by
  unfold putS
  rw [Below.heap_setCell _ _ _ _ h2, Below.heap_setCell _ _ _ _ h2, Below.heap_setCell _ _ _ _ h2, Below.heap_setCell _ _ _ _ h2, Below.heap_setCell _ _ _ _ h2, Below.heap_setCell _ _ _ _ h2, Below.heap_setCell _ _ _ _ h2, Below.heap_setCell _ _ _ _ h2, Below.heap_setCell _ _ _ _ h2, Below.heap_setCell _ _ _ _ h2]
theorem upon_store {P : Program} {o : Oper} {a : Act} {K : Act → World → Prop} {Q : Exit → Act → World → Prop} {R : Result Next} {w1 : World} (hR : R = .ok .skip w1) (hN : o.dst = none) (h : ∀ w', w' = w1 → K a w') : Oper.upon P o a K Q R := by
  subst hR
  show K (a.put o.dst undef) w1
  rw [hN]
  exact h _ rfl
theorem store_run {W : World} {g : Nat} {y : S42} {u : Value} (h : StepAt W g y u) (x : S42) (v : Value) (h1 : v.oneCell' = true) :
    ((storeCells ⟨g, 0, none⟩ (SC x v).toList 0).run Tryd.prog W).andThen (fun _ w' => Result.ok Next.skip w') = .ok .skip (putS W g x v) := by
  obtain ⟨z0, z1, z2, z3, z4, z5, z6, z7, z8, z9, zf⟩ := step_cells h
  have hst := run_storeCells_cells (P := Tryd.prog) g 0 (SC x v).toList 0 W
    (fun j hj => by
      have hj10 : j < 10 := hj
      have e0 : 0 + 0 + j = j := by omega
      rw [e0, blk_cell h]
      have : (SC y u).size = 10 := rfl
      rw [Array.getElem?_eq_getElem (by omega)]; rfl)
    (fun j _ => by have e0 : 0 + 0 + j = j := by omega
                   rw [e0]; exact zf j)
    (by intro z hz; simp only [SC, List.mem_cons, List.not_mem_nil, or_false] at hz; rcases hz with rfl | rfl | rfl | rfl | rfl | rfl | rfl | rfl | rfl | rfl <;> first | rfl | exact h1)
  rw [hst]
  rfl
theorem putS_cell {W : World} {g : Nat} {a : Addr} {x : S42} {v : Value} (h2 : a.block ≠ g) : (putS W g x v).cell? a = W.cell? a := by
  unfold putS
  have h : ∀ (j : Nat), (⟨g, j, none⟩ : Addr) ≠ a := fun j e => h2 (by rw [← e])
  rw [World.cell?_setCell_other _ _ _ _ (h _), World.cell?_setCell_other _ _ _ _ (h _), World.cell?_setCell_other _ _ _ _ (h _), World.cell?_setCell_other _ _ _ _ (h _), World.cell?_setCell_other _ _ _ _ (h _), World.cell?_setCell_other _ _ _ _ (h _), World.cell?_setCell_other _ _ _ _ (h _), World.cell?_setCell_other _ _ _ _ (h _), World.cell?_setCell_other _ _ _ _ (h _), World.cell?_setCell_other _ _ _ _ (h _)]
set_option maxHeartbeats 8000000 in
set_option maxRecDepth 100000 in
theorem rread_long (k : Nat) (s : ByteArray) (w : World) (hs : 240 < s.size) :
    Calls Tryd.prog 28 #[.string s] w (ReadP w z42 false) := by
  have hu := Tryd.underlying42
  have b1 : decide ((240 : Int) < (s.size : Int)) = true := decide_eq_true (by omega)
  have HZ := Aside0.mk (blk_new w (.cells (SC z42 (.slice none 0 0)) 42))
  have HB := Aside0.mk (below_alloc (Below.refl w.heap.size w) (.cells (SC z42 (.slice none 0 0)) 42))
  clear hs
  go_enter Tryd.func28, Tryd.ntmps28
  go_wp2_with (first | ((with_reducible refine gate_store (t := 42) (p := 2) rfl ?_); refine store_event (t := 42) (p := 2) (v := .tmp 19) (w1 := putS (w.alloc (.cells (SC z42 (.slice none 0 0)) 42)) w.heap.size z42 (.slice none 0 0)) rfl rfl rfl (store_step HZ.out z42 (.slice none 0 0) rfl _ _ (.tmp 2) (.tmp 19) rfl rfl rfl) ?_; intro w9 hw9; have HS9 : StepAt w9 w.heap.size z42 (.slice none 0 0) := (by rw [hw9]; exact putS_at HZ.out _ _); have HB9 : Below w.heap.size w w9 := (by rw [hw9]; exact putS_below HB.out (Nat.le_refl _) _ _); clear hw9))
  refine bodyPost_ret (results_ct (fn := Tryd.f28) (p := 2) (u := 3) (ty := 42) (P := Tryd.prog) rfl _ w9 w.heap.size 42 (SC z42 (.slice none 0 0)) (0, 0) _ rfl HS9 hu rfl info42s) rfl ?_
  exact ⟨_, rfl, Kd.R_nil _ _ _ _ _, HB9⟩
set_option maxHeartbeats 8000000 in
set_option maxRecDepth 100000 in
theorem rread_short (k : Nat) (s : ByteArray) (w : World) (x : S42) (b : Bool) (hs : ¬ 240 < s.size) (hf : rreadF k s = some (x, b)) :
    Calls Tryd.prog 28 #[.string s] w (ReadP w x b) := by
  have hu := Tryd.underlying42
  have b1 : decide ((240 : Int) < (s.size : Int)) = false := decide_eq_false (by omega)
  unfold rreadF at hf
  rw [if_neg hs] at hf
  obtain ⟨W, hW, hf⟩ := Option.bind_eq_some_iff.1 hf
  by_cases hWl : 0 < W.length ∧ W.length ≤ 40000000
  · rw [if_pos hWl] at hf
    obtain ⟨⟨pt, kd⟩, hps, hf⟩ := Option.bind_eq_some_iff.1 hf
    by_cases hpt : pt.size ≤ 40000000
    · rw [if_pos hpt] at hf
      simp only at hf
      have HF := Aside0.mk hf
      have HPS := Aside0.mk hps
      have HWL := Aside0.mk hWl
      have HPT := Aside0.mk hpt
      have HZ := Aside0.mk (show StepAt (w.alloc (.cells (SC z42 (.slice none 0 0)) 42)) w.heap.size z42 (.slice none 0 0) from blk_new w _)
      have HB := Aside0.mk (below_alloc (Below.refl w.heap.size w) (.cells (SC z42 (.slice none 0 0)) 42))
      have HWC := Aside0.mk (scholiaref29_Words.calls k s W (w.alloc (.cells (SC z42 (.slice none 0 0)) 42)) hW)
      clear hf hps hW hWl hs hpt
      go_enter Tryd.func28, Tryd.ntmps28
      go_wp2_with fail
      refine HWC.out.mono ?_
      rintro e w1 ⟨v4, rfl, hR, hb⟩
      obtain ⟨A, c, rfl, hc, hFW⟩ := Kd.R_V (base' := 0) hR
      have HB1 := Aside0.mk (HB.out.trans (hb.mono HB.out.size))
      have HZ1 := Aside0.mk (show StepAt w1 w.heap.size z42 (.slice none 0 0) from blk_below HZ.out hb)
      have HFW := Aside0.mk (Kd.F_bound hFW)
      have HC := Aside0.mk hc
      obtain ⟨ad, cc, eA, _, hK, hcell⟩ := Kd.C_get (Kd.F_now HFW.out) (⟨#[]⟩ : ByteArray) 0 (by omega) (by have := HWL.out; omega)
      have hK2 : cc = [.string (W.getD 0 ⟨#[]⟩)] := hK
      subst hK2 eA
      have hc0 := hcell 0 _ rfl
      have e0 : ad.add (((0 : Int).toNat) * Kd.string.sz + 0) = ad := by simp [Addr.add, Kd.string, Kd.scalar]
      rw [e0] at hc0
      have hdl : decide (0 < W.length) = true := decide_eq_true HWL.out.1
      have hw0 : W.getD 0 ⟨#[]⟩ = W.headD ⟨#[]⟩ := by cases W <;> rfl
      rw [hw0] at hc0
      obtain ⟨wd0, hwd0⟩ : ∃ z, z = W.headD ⟨#[]⟩ := ⟨_, rfl⟩
      rw [← hwd0] at hc0 HPS
      have hwl := HWL.out.1
      clear hR hFW hc hcell hK e0 hw0 hb HB HZ HWC hwd0
      go_wp2_with fail
      refine (scholiaref29_Parts.calls k wd0 pt kd w1 HPS.out).mono ?_
      rintro e w2 ⟨rfl, hb⟩
      have HX := Aside0.mk (show StepAt (w2.alloc (.cells (SC { z42 with f0 := kd } (.slice none 0 0)) 42)) w2.heap.size { z42 with f0 := kd } (.slice none 0 0) from blk_new w2 _)
      have hba := hb.trans ((below_alloc (Below.refl w2.heap.size w2) (.cells (SC { z42 with f0 := kd } (.slice none 0 0)) 42)).mono hb.size)
      have HB2 := Aside0.mk (HB1.out.trans (hba.mono HB1.out.size))
      have HZ2 := Aside0.mk (show StepAt (w2.alloc (.cells (SC { z42 with f0 := kd } (.slice none 0 0)) 42)) w.heap.size z42 (.slice none 0 0) from blk_below HZ1.out hba)
      have HFW2 := Aside0.mk (Kd.F_mono (Kd.F_below HFW.out hba) (fun q hq => (show q < w2.heap.size by have := hb.size; omega)))
      have HLZ := Aside0.mk (show w.heap.size < w2.heap.size from Nat.lt_of_lt_of_le (blk_lt HZ1.out) hb.size)
      clear hb hba hc0 HB1 HZ1 HFW HPS hwl hdl
      go_wp2_with fail
      go_loopg [8, 33] pt.size (fun n v8 v33 wr => ∃ (i at_ : Nat) (y : S42) (v : Value), v33 = .int .i64 i ∧ v8 = .int .i64 at_ ∧ Aside0 (n + i = pt.size) ∧ Aside0 (1 ≤ at_ ∧ at_ ≤ W.length ∧ y.f9.length ≤ at_) ∧ Aside0 (Kd.F Kd.string wr (fun q => q < w2.heap.size) (some ad) W.length W) ∧ Aside0 (StepAt wr w2.heap.size y v) ∧ Aside0 (Kd.R (Kd.int .i64) 3 wr (w2.heap.size + 1) (fun _ => True) v y.f9) ∧ Aside0 (StepAt wr w.heap.size z42 (.slice none 0 0)) ∧ Aside0 (Below w.heap.size w wr) ∧ Aside0 (rgo k kd ((bytesOf pt).drop i) (W.drop at_) y = some (x, b)))
      case atStart => exact ⟨0, 1, { z42 with f0 := kd }, .slice none 0 0, rfl, rfl, ⟨by simp⟩, ⟨⟨Nat.le_refl _, HWL.out.1, Nat.zero_le _⟩⟩, HFW2, HX, ⟨Kd.R_nil _ _ _ _ _⟩, HZ2, HB2, ⟨by rw [List.drop_zero, List.drop_one]; exact HF.out⟩⟩
      case round =>
        obtain ⟨i, at_, y, v, rfl, rfl, HN, HAT, HWS, HY, HR, HZ, HBW, HG⟩ := hrel
        have hlz := HLZ.out
        have hptb := HPT.out
        have hwlb := HWL.out.2
        obtain ⟨A9, c9, rfl⟩ := Kd.R_slice HR.out
        by_cases hi : i < pt.size
        · have hi' : decide ((i : Int) < (pt.size : Int)) = true := decide_eq_true (by omega)
          have hi2 : decide (i < pt.size) = true := decide_eq_true hi
          have hbt0 := bt_at pt (i : Int)
          simp only [Int.toNat_natCast] at hbt0
          have hbt := hbt0 hi
          have hg := HG.out
          rw [plain_step pt i hi, rd_bytesOf] at hg
          obtain ⟨p, hp⟩ : ∃ p, p = bt pt (i : Int) := ⟨_, rfl⟩
          rw [← hp] at hg hbt
          clear hbt0 hp
          by_cases p75 : p = 75
          · rw [rgo_K k kd p _ _ y p75] at hg
            obtain ⟨⟨li, ok⟩, hnum, hg⟩ := Option.bind_eq_some_iff.1 hg
            simp only at hg
            have b75 : (p == 75) = true := by simpa using p75
            have HNUM := Aside0.mk hnum
            have HGG := Aside0.mk hg
            have hat := HAT.out.2.1
            have HCUT := Aside0.mk (Kd.F_cut (m := at_) HWS.out HAT.out.2.1 HC.out)
            have hcl := HC.out
            have HR0 := HR
            have HY0 := HY
            clear hnum hg p75
            obtain ⟨wo, hwo⟩ : ∃ wo : World, wo = wr := ⟨_, rfl⟩
            rcases Classical.em (c = at_) with h | h
            all_goals (
              go_wp2_with fail
              go_loopg [44] (W.length - at_) (fun n v44 wr => ∃ (j : Nat) (y1 : S42) (v1 : Value), v44 = .int .i64 j ∧ Aside0 (n + j = W.length - at_) ∧ Aside0 (y1.f9.length ≤ at_ + j) ∧ Aside0 (StepAt wr w2.heap.size y1 v1) ∧ Aside0 (Kd.R (Kd.int .i64) 3 wr (w2.heap.size + 1) (fun _ => True) v1 y1.f9) ∧ Aside0 (StepAt wr w.heap.size z42 (.slice none 0 0)) ∧ Aside0 (Below w.heap.size w wr) ∧ Aside0 (∀ q, q < w2.heap.size → wr.heap[q]? = wo.heap[q]?) ∧ Aside0 (y1 = { y with f9 := y1.f9 }) ∧ Aside0 (numsR k (W.drop (at_ + j)) y1.f9 = some (li, ok)))
              case atStart => exact ⟨0, y, _, rfl, ⟨by simp⟩, ⟨HAT.out.2.2⟩, HY0, HR0, HZ, HBW, ⟨fun q _ => by rw [hwo]⟩, ⟨rfl⟩, HNUM⟩
              case round =>
                obtain ⟨j, y1, v1, rfl, HN1, HL1, HY1, HR1, HZ1, HB1, HK1, HE1, HM1⟩ := hrel
                obtain ⟨B9, d9, rfl⟩ := Kd.R_slice HR1.out
                by_cases hj : j < W.length - at_
                · first
                  | (exfalso; omega)
                  | (have hj' : decide (j < W.length - at_) = true := decide_eq_true hj
                     have hF4 : Kd.F Kd.string wr (fun q => q < w2.heap.size) (some (ad.add at_)) (W.drop at_).length (W.drop at_) := (by
                       have h1 := HCUT.out
                       rw [if_neg h] at h1
                       have h2 : (some ad : Option Addr).map (·.add (at_ * Kd.string.sz)) = some (ad.add at_) := by simp [Kd.string, Kd.scalar]
                       rw [h2] at h1
                       rw [← hwo] at h1
                       exact Kd.F_step h1 (fun q hq _ => HK1.out q hq))
                     obtain ⟨ad3, cs3, e3, _, hK4, hcell3⟩ := Kd.C_get (Kd.F_now hF4) (⟨#[]⟩ : ByteArray) (j : Int) (by omega) (by rw [List.length_drop]; omega)
                     have hK5 : cs3 = [.string ((W.drop at_).getD j ⟨#[]⟩)] := hK4
                     subst hK5
                     obtain rfl := Option.some.inj e3
                     have hwc : wr.cell? ((ad.add at_).add j) = some (.string ((W.drop at_).getD j ⟨#[]⟩)) := by simpa [Kd.string, Kd.scalar] using hcell3 0 _ rfl
                     obtain ⟨wd, hwd⟩ : ∃ wd, wd = (W.drop at_).getD j ⟨#[]⟩ := ⟨_, rfl⟩
                     rw [← hwd] at hwc
                     have hm := HM1.out
                     rw [show W.drop (at_ + j) = wd :: W.drop (at_ + (j + 1)) by rw [List.drop_eq_getElem_cons (show at_ + j < W.length by omega), hwd, List.getD_eq_getElem?_getD, List.getElem?_drop, List.getElem?_eq_getElem (show at_ + j < W.length by omega)]; rfl, numsR] at hm
                     obtain ⟨⟨m, mb⟩, hmn, hm⟩ := Option.bind_eq_some_iff.1 hm
                     simp only at hm
                     have HMN := Aside0.mk hmn
                     have HM2 := Aside0.mk hm
                     clear hF4 hcell3 hK4 hwd hm hmn
                     go_wp2_with fail
                     refine (rnumber_calls k wd m mb wr HMN.out).mono ?_
                     rintro e w5 ⟨rfl, hb⟩
                     have HY5 := Aside0.mk (show StepAt w5 w2.heap.size y1 (.slice B9 y1.f9.length d9) from blk_below HY1.out hb)
                     have HR5 := Aside0.mk (Kd.R_below HR1.out hb)
                     have HZ5 := Aside0.mk (show StepAt w5 w.heap.size z42 (.slice none 0 0) from blk_below HZ1.out hb)
                     have HB5 := Aside0.mk (HB1.out.trans (hb.mono HB1.out.size))
                     have HK5 := Aside0.mk (show ∀ q, q < w2.heap.size → w5.heap[q]? = wo.heap[q]? from fun q hq => (hb.block q (by have := blk_lt HY1.out; omega)).trans (HK1.out q hq))
                     clear hb hwc
                     cases mb with
                     | false =>
                       have hm := HM2.out
                       rw [if_pos rfl] at hm
                       simp only [Option.some.injEq, Prod.mk.injEq] at hm
                       obtain ⟨rfl, rfl⟩ := hm
                       have hg := HGG.out
                       rw [if_pos rfl] at hg
                       simp only [Option.some.injEq, Prod.mk.injEq] at hg
                       obtain ⟨rfl, rfl⟩ := hg
                       go_wp2_with (first | ((with_reducible refine gate_store (t := 42) (p := 2) rfl ?_); refine store_event (t := 42) (p := 2) (v := .tmp 55) (w1 := putS w5 w.heap.size z42 (.slice none 0 0)) rfl rfl rfl (store_step HZ5.out z42 (.slice none 0 0) rfl _ _ (.tmp 2) (.tmp 55) rfl rfl rfl) ?_; intro w9 hw9; have HS9 : StepAt w9 w.heap.size z42 (.slice none 0 0) := (by rw [hw9]; exact putS_at HZ5.out _ _); have HB9 : Below w.heap.size w w9 := (by rw [hw9]; exact putS_below HB5.out (Nat.le_refl _) _ _); clear hw9))
                       refine bodyPost_ret (results_ct (fn := Tryd.f28) (p := 2) (u := 3) (ty := 42) (P := Tryd.prog) rfl _ w9 w.heap.size 42 (SC z42 (.slice none 0 0)) (0, 0) _ rfl HS9 hu rfl info42s) rfl ?_
                       exact ⟨_, rfl, Kd.R_nil _ _ _ _ _, HB9⟩
                     | true =>
                       have hm := HM2.out
                       rw [if_neg (by simp)] at hm
                       have HM3 := Aside0.mk hm
                       clear hm
                       obtain ⟨_, _, _, _, _, _, _, _, _, z9, zf⟩ := step_cells HY5.out
                       have zf9 := zf 9
                       clear zf
                       have hlt5 := blk_lt HY5.out
                       go_wp2_with (at_builtin; refine Kd.R_append (Kd.int .i64) (w0 := w5) (w2.heap.size + 1) rfl (.tmp 57) (.tmp 59) 40 3 (.int .i64 0) 8 rfl Tryd.underlying40 info3 rfl (by decide) (by decide) (.slice B9 y1.f9.length d9) y1.f9 m [.int .i64 m] (fun _ => True) (fun _ => False) rfl rfl ?aP (fun _ hk => hk.elim) (fun _ _ => trivial) HR5.out (Below.refl _ _) hlt5 (by have := HL1.out; omega) ?_; (case aP => exact rfl); intro v7 w7 ho7 hb7 hg7 hat7; obtain ⟨E9, e9, hv7⟩ := Kd.R_slice ho7; obtain ⟨L9, hL9⟩ : ∃ L9, L9 = (y1.f9 ++ [m]).length := ⟨_, rfl⟩; rw [← hL9] at hv7; subst hv7; clear hL9; have HY7 : StepAt w7 w2.heap.size y1 (.slice B9 y1.f9.length d9) := (hb7.block w2.heap.size (Nat.lt_succ_self _)).trans HY5.out; have HO7 := Aside0.mk ho7; have HB7 := Aside0.mk hb7; have z97 := (step_cells HY7).2.2.2.2.2.2.2.2.2.1; have zf7 := (step_cells HY7).2.2.2.2.2.2.2.2.2.2 9; have HYY := Aside0.mk HY7; clear ho7 hb7 hg7 hat7 HY7)
                       go_roundg (gk - 1)
                       case measure => have := HN1.out; omega
                       case rel =>
                         exact ⟨j + 1, { y1 with f9 := y1.f9 ++ [m] }, .slice E9 L9 e9, by go_num, ⟨by have := HN1.out; omega⟩, ⟨by have := HL1.out; simp; omega⟩, ⟨set9 HYY.out _⟩, ⟨R_lt HO7.out (fun q hq _ => Below.heap_setCell _ _ _ _ (by simp; omega))⟩, ⟨show StepAt _ w.heap.size _ _ from blk_far ((HB7.out.block w.heap.size (by omega)).trans HZ5.out) (by simp; omega) _⟩, ⟨(HB5.out.trans (HB7.out.mono (by have := HB5.out.size; omega))).setCell (p := ⟨w2.heap.size, 9, none⟩) (Nat.le_of_lt HLZ.out) _⟩, ⟨fun q hq => (Below.heap_setCell _ _ _ _ (by simp; omega)).trans ((HB7.out.block q (by omega)).trans (HK5.out q hq))⟩, ⟨by have := HE1.out; rw [this]⟩, ⟨HM3.out⟩⟩)
                · have hj' : decide (j < W.length - at_) = false := decide_eq_false hj
                  have hje : at_ + j = W.length := by have := HN1.out; omega
                  have hm := HM1.out
                  rw [hje, List.drop_length, numsR] at hm
                  simp only [Option.some.injEq, Prod.mk.injEq] at hm
                  obtain ⟨rfl, rfl⟩ := hm
                  have hg := HGG.out
                  rw [if_neg (by simp), ← HE1.out] at hg
                  have HG2 := Aside0.mk hg
                  have HJE := Aside0.mk hje
                  clear hg hj hje
                  go_wp2
                  go_roundg (pt.size - (i + 1))
                  case measure => have := HN.out; omega
                  case rel => exact ⟨i + 1, W.length, y1, _, by go_num, rfl, ⟨by omega⟩, ⟨⟨by have := HAT.out; omega, Nat.le_refl _, by have := HL1.out; have := HJE.out; omega⟩⟩, ⟨Kd.F_step HWS.out (fun q hq _ => by rw [← hwo]; exact HK1.out q hq)⟩, HY1, HR1, HZ1, HB1, ⟨by rw [List.drop_length]; exact HG2.out⟩⟩)
          · have b75 : (p == 75) = false := by simpa using p75
            by_cases hat : at_ < W.length
            · have hge : decide ((W.length : Int) ≤ (at_ : Int)) = false := decide_eq_false (by omega)
              have hge2 : decide (W.length ≤ at_) = false := decide_eq_false (by omega)
              obtain ⟨ad3, cs3, e3, _, hK4, hcell3⟩ := Kd.C_get (Kd.F_now HWS.out) (⟨#[]⟩ : ByteArray) (at_ : Int) (by omega) (by omega)
              have hK5 : cs3 = [.string (W.getD at_ ⟨#[]⟩)] := hK4
              subst hK5
              obtain rfl := Option.some.inj e3
              have hwc : wr.cell? (ad.add at_) = some (.string (W.getD at_ ⟨#[]⟩)) := by simpa [Kd.string, Kd.scalar] using hcell3 0 _ rfl
              obtain ⟨wd, hwd⟩ : ∃ wd, wd = W.getD at_ ⟨#[]⟩ := ⟨_, rfl⟩
              rw [show W.drop at_ = wd :: W.drop (at_ + 1) by rw [List.drop_eq_getElem_cons hat, hwd]; simp [List.getD_eq_getElem?_getD, List.getElem?_eq_getElem hat], rgo, if_neg p75] at hg
              rw [← hwd] at hwc
              obtain ⟨⟨y2, b2⟩, htk, hg⟩ := Option.bind_eq_some_iff.1 hg
              simp only at hg
              have HTK : Aside0 (∀ W0 : World, Calls Tryd.prog 63 #[.agg #[.int .i64 y.f0, .int .i64 y.f1, .int .i64 y.f2, .int .i64 y.f3, .int .i64 y.f4, .int .i64 y.f5, .string y.f6, .int .i64 y.f7, .string y.f8, .slice A9 y.f9.length c9], .int .u8 p, .string wd] W0 fun e w' => e = .returned (.tuple #[.agg (SC y2 (.slice A9 y.f9.length c9)), .bool b2]) ∧ Below W0.heap.size W0 w') := ⟨fun W0 => take_calls k y y2 (.slice A9 y.f9.length c9) p wd b2 W0 rfl htk⟩
              have HTF := Aside0.mk (take_f9 k p wd y y2 b2 htk)
              have HGG := Aside0.mk hg
              obtain ⟨z0, z1, z2, z3, z4, z5, z6, z7, z8, z9, _⟩ := step_cells HY.out
              have KEEP := Aside0.mk (show ∀ W1 W2 : World, Below W1.heap.size W1 W2 → (W1.cell? ⟨w2.heap.size, 0, none⟩ = some (.int .i64 y.f0) ∧ W1.cell? ⟨w2.heap.size, 1, none⟩ = some (.int .i64 y.f1) ∧ W1.cell? ⟨w2.heap.size, 2, none⟩ = some (.int .i64 y.f2) ∧ W1.cell? ⟨w2.heap.size, 3, none⟩ = some (.int .i64 y.f3) ∧ W1.cell? ⟨w2.heap.size, 4, none⟩ = some (.int .i64 y.f4) ∧ W1.cell? ⟨w2.heap.size, 5, none⟩ = some (.int .i64 y.f5) ∧ W1.cell? ⟨w2.heap.size, 6, none⟩ = some (.string y.f6) ∧ W1.cell? ⟨w2.heap.size, 7, none⟩ = some (.int .i64 y.f7) ∧ W1.cell? ⟨w2.heap.size, 8, none⟩ = some (.string y.f8) ∧ W1.cell? ⟨w2.heap.size, 9, none⟩ = some (.slice A9 y.f9.length c9) ∧ W1.cell? (ad.add at_) = some (.string wd)) → (W2.cell? ⟨w2.heap.size, 0, none⟩ = some (.int .i64 y.f0) ∧ W2.cell? ⟨w2.heap.size, 1, none⟩ = some (.int .i64 y.f1) ∧ W2.cell? ⟨w2.heap.size, 2, none⟩ = some (.int .i64 y.f2) ∧ W2.cell? ⟨w2.heap.size, 3, none⟩ = some (.int .i64 y.f3) ∧ W2.cell? ⟨w2.heap.size, 4, none⟩ = some (.int .i64 y.f4) ∧ W2.cell? ⟨w2.heap.size, 5, none⟩ = some (.int .i64 y.f5) ∧ W2.cell? ⟨w2.heap.size, 6, none⟩ = some (.string y.f6) ∧ W2.cell? ⟨w2.heap.size, 7, none⟩ = some (.int .i64 y.f7) ∧ W2.cell? ⟨w2.heap.size, 8, none⟩ = some (.string y.f8) ∧ W2.cell? ⟨w2.heap.size, 9, none⟩ = some (.slice A9 y.f9.length c9) ∧ W2.cell? (ad.add at_) = some (.string wd)) from fun W1 W2 hb ⟨h0, h1, h2, h3, h4, h5, h6, h7, h8, h9, h10⟩ => ⟨gl_cell hb h0, gl_cell hb h1, gl_cell hb h2, gl_cell hb h3, gl_cell hb h4, gl_cell hb h5, gl_cell hb h6, gl_cell hb h7, gl_cell hb h8, gl_cell hb h9, gl_cell hb h10⟩)
              have hglt := blk_lt HY.out
              have hadl := World.block_lt_of_cell? _ _ hwc
              have KEEP2 := Aside0.mk (show ∀ (W1 : World) (q : Nat), wr.heap.size ≤ q → (W1.cell? ⟨w2.heap.size, 0, none⟩ = some (.int .i64 y.f0) ∧ W1.cell? ⟨w2.heap.size, 1, none⟩ = some (.int .i64 y.f1) ∧ W1.cell? ⟨w2.heap.size, 2, none⟩ = some (.int .i64 y.f2) ∧ W1.cell? ⟨w2.heap.size, 3, none⟩ = some (.int .i64 y.f3) ∧ W1.cell? ⟨w2.heap.size, 4, none⟩ = some (.int .i64 y.f4) ∧ W1.cell? ⟨w2.heap.size, 5, none⟩ = some (.int .i64 y.f5) ∧ W1.cell? ⟨w2.heap.size, 6, none⟩ = some (.string y.f6) ∧ W1.cell? ⟨w2.heap.size, 7, none⟩ = some (.int .i64 y.f7) ∧ W1.cell? ⟨w2.heap.size, 8, none⟩ = some (.string y.f8) ∧ W1.cell? ⟨w2.heap.size, 9, none⟩ = some (.slice A9 y.f9.length c9) ∧ W1.cell? (ad.add at_) = some (.string wd)) → ((putS W1 q y2 (.slice A9 y.f9.length c9)).cell? ⟨w2.heap.size, 0, none⟩ = some (.int .i64 y.f0) ∧ (putS W1 q y2 (.slice A9 y.f9.length c9)).cell? ⟨w2.heap.size, 1, none⟩ = some (.int .i64 y.f1) ∧ (putS W1 q y2 (.slice A9 y.f9.length c9)).cell? ⟨w2.heap.size, 2, none⟩ = some (.int .i64 y.f2) ∧ (putS W1 q y2 (.slice A9 y.f9.length c9)).cell? ⟨w2.heap.size, 3, none⟩ = some (.int .i64 y.f3) ∧ (putS W1 q y2 (.slice A9 y.f9.length c9)).cell? ⟨w2.heap.size, 4, none⟩ = some (.int .i64 y.f4) ∧ (putS W1 q y2 (.slice A9 y.f9.length c9)).cell? ⟨w2.heap.size, 5, none⟩ = some (.int .i64 y.f5) ∧ (putS W1 q y2 (.slice A9 y.f9.length c9)).cell? ⟨w2.heap.size, 6, none⟩ = some (.string y.f6) ∧ (putS W1 q y2 (.slice A9 y.f9.length c9)).cell? ⟨w2.heap.size, 7, none⟩ = some (.int .i64 y.f7) ∧ (putS W1 q y2 (.slice A9 y.f9.length c9)).cell? ⟨w2.heap.size, 8, none⟩ = some (.string y.f8) ∧ (putS W1 q y2 (.slice A9 y.f9.length c9)).cell? ⟨w2.heap.size, 9, none⟩ = some (.slice A9 y.f9.length c9) ∧ (putS W1 q y2 (.slice A9 y.f9.length c9)).cell? (ad.add at_) = some (.string wd)) from fun W1 q hq ⟨h0, h1, h2, h3, h4, h5, h6, h7, h8, h9, h10⟩ => ⟨(putS_cell (Nat.ne_of_lt (Nat.lt_of_lt_of_le hglt hq))).trans h0, (putS_cell (Nat.ne_of_lt (Nat.lt_of_lt_of_le hglt hq))).trans h1, (putS_cell (Nat.ne_of_lt (Nat.lt_of_lt_of_le hglt hq))).trans h2, (putS_cell (Nat.ne_of_lt (Nat.lt_of_lt_of_le hglt hq))).trans h3, (putS_cell (Nat.ne_of_lt (Nat.lt_of_lt_of_le hglt hq))).trans h4, (putS_cell (Nat.ne_of_lt (Nat.lt_of_lt_of_le hglt hq))).trans h5, (putS_cell (Nat.ne_of_lt (Nat.lt_of_lt_of_le hglt hq))).trans h6, (putS_cell (Nat.ne_of_lt (Nat.lt_of_lt_of_le hglt hq))).trans h7, (putS_cell (Nat.ne_of_lt (Nat.lt_of_lt_of_le hglt hq))).trans h8, (putS_cell (Nat.ne_of_lt (Nat.lt_of_lt_of_le hglt hq))).trans h9, (putS_cell (Nat.ne_of_lt (Nat.lt_of_lt_of_le hadl hq))).trans h10⟩)
              have HGL := Aside0.mk hglt
              have HGW := Aside0.mk (show wr.heap.size ≤ wr.heap.size from Nat.le_refl _)
              clear hcell3 hK4 hwd htk hg p75 hglt hadl
              go_wp2_with fail
              go_region_held3 (fun w' => w'.cell? ⟨w2.heap.size, 0, none⟩ = some (.int .i64 y.f0) ∧ w'.cell? ⟨w2.heap.size, 1, none⟩ = some (.int .i64 y.f1) ∧ w'.cell? ⟨w2.heap.size, 2, none⟩ = some (.int .i64 y.f2) ∧ w'.cell? ⟨w2.heap.size, 3, none⟩ = some (.int .i64 y.f3) ∧ w'.cell? ⟨w2.heap.size, 4, none⟩ = some (.int .i64 y.f4) ∧ w'.cell? ⟨w2.heap.size, 5, none⟩ = some (.int .i64 y.f5) ∧ w'.cell? ⟨w2.heap.size, 6, none⟩ = some (.string y.f6) ∧ w'.cell? ⟨w2.heap.size, 7, none⟩ = some (.int .i64 y.f7) ∧ w'.cell? ⟨w2.heap.size, 8, none⟩ = some (.string y.f8) ∧ w'.cell? ⟨w2.heap.size, 9, none⟩ = some (.slice A9 y.f9.length c9) ∧ w'.cell? (ad.add at_) = some (.string wd)) (first | assumption | go_keep) (first | (go_at_call 63; refine (HTK.out _).mono ?_; rintro e w5 ⟨rfl, hb⟩; have hS5 := KEEP.out _ _ hb (by assumption); first | (have hZ5 : StepAt w5 wr.heap.size z42 (.slice none 0 0) := blk_below (blk_new wr.drew _) hb; have hA5 := below_alloc (below_drew (Below.refl wr.heap.size wr)) (.cells (SC z42 (.slice none 0 0)) 42); have hB5 : Below wr.heap.size wr w5 := hA5.trans (hb.mono hA5.size); obtain ⟨q0, q1, q2, q3, q4, q5, q6, q7, q8, q9, qf⟩ := step_cells hZ5) | (have hB5 : Below wr.heap.size wr w5 := (below_drew (Below.refl wr.heap.size wr)).trans hb)) | (refine upon_store (w1 := putS w5 wr.heap.size y2 (.slice A9 y.f9.length c9)) (store_run hZ5 y2 (.slice A9 y.f9.length c9) rfl) rfl ?_; intro w6 hw6; have hS6 := KEEP2.out w5 wr.heap.size (Nat.le_refl _) (by assumption); rw [← hw6] at hS6; have hY6 : StepAt w6 wr.heap.size y2 (.slice A9 y.f9.length c9) := (by rw [hw6]; exact putS_at hZ5 _ _); have hB6 : Below wr.heap.size wr w6 := (by rw [hw6]; exact putS_below hB5 (Nat.le_refl _) _ _); clear hw6) | (refine upon_store (w1 := putS (w5.alloc (.cells (SC z42 (.slice none 0 0)) 42)) w5.heap.size y2 (.slice A9 y.f9.length c9)) (store_run (show StepAt (w5.alloc (.cells (SC z42 (.slice none 0 0)) 42)) w5.heap.size z42 (.slice none 0 0) from blk_new w5 _) y2 (.slice A9 y.f9.length c9) rfl) rfl ?_; intro w6 hw6; have hS6 := KEEP2.out (w5.alloc (.cells (SC z42 (.slice none 0 0)) 42)) w5.heap.size hB5.size (by assumption); rw [← hw6] at hS6; have hY6 : StepAt w6 w5.heap.size y2 (.slice A9 y.f9.length c9) := (by rw [hw6]; exact putS_at (show StepAt (w5.alloc (.cells (SC z42 (.slice none 0 0)) 42)) w5.heap.size z42 (.slice none 0 0) from blk_new w5 _) _ _); have hB6 : Below wr.heap.size wr w6 := (by rw [hw6]; exact putS_below (below_alloc hB5 _) hB5.size _ _); clear hw6) | fail)
              all_goals (
                have HY6 := Aside0.mk hY6
                have HR6 := Aside0.mk hB6
                have HX6 := Aside0.mk (show StepAt w6 w2.heap.size y (.slice A9 y.f9.length c9) from blk_below HY.out HR6.out)
                have HZ6 := Aside0.mk (show StepAt w6 w.heap.size z42 (.slice none 0 0) from blk_below HZ.out HR6.out)
                have HB6 := Aside0.mk (show Below w.heap.size w w6 from HBW.out.trans (HR6.out.mono HBW.out.size))
                clear hS6 hY6 hB6 hB5
                clear z0 z1 z2 z3 z4 z5 z6 z7 z8 z9 hwc hb KEEP KEEP2 HTK
                cases b2 with
                | false =>
                  have hg := HGG.out
                  rw [if_pos rfl] at hg
                  simp only [Option.some.injEq, Prod.mk.injEq] at hg
                  obtain ⟨rfl, rfl⟩ := hg
                  go_wp2_with (first | ((with_reducible refine gate_store (t := 42) (p := 2) rfl ?_); refine store_event (t := 42) (p := 2) (v := .tmp 84) (w1 := putS w6 w.heap.size z42 (.slice none 0 0)) rfl rfl rfl (store_step HZ6.out z42 (.slice none 0 0) rfl _ _ (.tmp 2) (.tmp 84) rfl rfl rfl) ?_; intro w9 hw9; have HS9 : StepAt w9 w.heap.size z42 (.slice none 0 0) := (by rw [hw9]; exact putS_at HZ6.out _ _); have HB9 : Below w.heap.size w w9 := (by rw [hw9]; exact putS_below HB6.out (Nat.le_refl _) _ _); clear hw9))
                  refine bodyPost_ret (results_ct (fn := Tryd.f28) (p := 2) (u := 3) (ty := 42) (P := Tryd.prog) rfl _ w9 w.heap.size 42 (SC z42 (.slice none 0 0)) (0, 0) _ rfl HS9 hu rfl info42s) rfl ?_
                  exact ⟨_, rfl, Kd.R_nil _ _ _ _ _, HB9⟩
                | true =>
                  have hg := HGG.out
                  rw [if_neg (by simp)] at hg
                  have HG2 := Aside0.mk hg
                  clear hg
                  go_wp2_with (first | ((with_reducible refine gate_dst (N := 85) rfl ?_); refine Kd.event_run rfl (load_step HY6.out _ _ (.tmp 14) rfl rfl) ?_) | ((with_reducible refine gate_store (t := 42) (p := 7) rfl ?_); refine store_event (t := 42) (p := 7) (v := .tmp 85) (w1 := putS w6 w2.heap.size y2 (.slice A9 y.f9.length c9)) rfl rfl rfl (store_step HX6.out y2 (.slice A9 y.f9.length c9) rfl _ _ (.tmp 7) (.tmp 85) rfl rfl rfl) ?_; intro w9 hw9; have HS9 := Aside0.mk (show StepAt w9 w2.heap.size y2 (.slice A9 y.f9.length c9) by rw [hw9]; exact putS_at HX6.out _ _); have HB9 := Aside0.mk (show Below w.heap.size w w9 by rw [hw9]; exact putS_below HB6.out (Nat.le_of_lt HLZ.out) _ _); have HK9 := Aside0.mk (show ∀ q, q ≠ w2.heap.size → w9.heap[q]? = w6.heap[q]? by intro q hq; rw [hw9]; exact putS_q hq); clear hw9))
                  go_roundg (pt.size - (i + 1))
                  case measure => have := HN.out; omega
                  case rel => exact ⟨i + 1, at_ + 1, y2, (.slice A9 y.f9.length c9), by go_num, by go_num, ⟨by omega⟩, ⟨by have h1 := HAT.out; have h2 := HTF.out; rw [h2]; omega⟩, ⟨Kd.F_step (Kd.F_below HWS.out HR6.out) (fun q hq _ => HK9.out q (by omega))⟩, HS9, ⟨by rw [HTF.out]; exact R_lt (Kd.R_below HR.out HR6.out) (fun q hq _ => HK9.out q (by omega))⟩, ⟨(HK9.out _ (by omega)).trans HZ6.out⟩, HB9, HG2⟩)
            · have hge : decide ((W.length : Int) ≤ (at_ : Int)) = true := decide_eq_true (by omega)
              have hge2 : decide (W.length ≤ at_) = true := decide_eq_true (by omega)
              rw [List.drop_eq_nil_of_le (show W.length ≤ at_ by omega), rgo, if_neg p75] at hg
              simp only [Option.some.injEq, Prod.mk.injEq] at hg
              obtain ⟨rfl, rfl⟩ := hg
              clear p75 hat
              go_wp2_with (first | ((with_reducible refine gate_store (t := 42) (p := 2) rfl ?_); refine store_event (t := 42) (p := 2) (v := .tmp 69) (w1 := putS wr w.heap.size z42 (.slice none 0 0)) rfl rfl rfl (store_step HZ.out z42 (.slice none 0 0) rfl _ _ (.tmp 2) (.tmp 69) rfl rfl rfl) ?_; intro w9 hw9; have HS9 : StepAt w9 w.heap.size z42 (.slice none 0 0) := (by rw [hw9]; exact putS_at HZ.out _ _); have HB9 : Below w.heap.size w w9 := (by rw [hw9]; exact putS_below HBW.out (Nat.le_refl _) _ _); clear hw9))
              refine bodyPost_ret (results_ct (fn := Tryd.f28) (p := 2) (u := 3) (ty := 42) (P := Tryd.prog) rfl _ w9 w.heap.size 42 (SC z42 (.slice none 0 0)) (0, 0) _ rfl HS9 hu rfl info42s) rfl ?_
              exact ⟨_, rfl, Kd.R_nil _ _ _ _ _, HB9⟩
        · have hi' : decide ((i : Int) < (pt.size : Int)) = false := decide_eq_false (by omega)
          have hi2 : decide (i < pt.size) = false := decide_eq_false hi
          have hg := HG.out
          rw [List.drop_eq_nil_of_le (show (bytesOf pt).length ≤ i by rw [bytesOf_length]; omega), rgo] at hg
          have hat := HAT.out
          clear hi
          by_cases k0 : kd = 0
          · rw [if_pos (.inl k0)] at hg
            simp only [Option.some.injEq, Prod.mk.injEq] at hg
            obtain ⟨rfl, rfl⟩ := hg
            have bk : (kd == 0) = true := by simpa using k0
            clear k0
            go_wp2_with (first | ((with_reducible refine gate_store (t := 42) (p := 2) rfl ?_); refine store_event (t := 42) (p := 2) (v := .tmp 97) (w1 := putS wr w.heap.size z42 (.slice none 0 0)) rfl rfl rfl (store_step HZ.out z42 (.slice none 0 0) rfl _ _ (.tmp 2) (.tmp 97) rfl rfl rfl) ?_; intro w9 hw9; have HS9 : StepAt w9 w.heap.size z42 (.slice none 0 0) := (by rw [hw9]; exact putS_at HZ.out _ _); have HB9 : Below w.heap.size w w9 := (by rw [hw9]; exact putS_below HBW.out (Nat.le_refl _) _ _); clear hw9))
            refine bodyPost_ret (results_ct (fn := Tryd.f28) (p := 2) (u := 3) (ty := 42) (P := Tryd.prog) rfl _ w9 w.heap.size 42 (SC z42 (.slice none 0 0)) (0, 0) _ rfl HS9 hu rfl info42s) rfl ?_
            exact ⟨_, rfl, Kd.R_nil _ _ _ _ _, HB9⟩
          · have bk : (kd == 0) = false := by simpa using k0
            by_cases hd : at_ = W.length
            · have be : ((at_ : Int) != (W.length : Int)) = false := by simp [hd]
              rw [if_neg (by rw [hd, List.drop_length]; simp [k0])] at hg
              simp only [Option.some.injEq, Prod.mk.injEq] at hg
              obtain ⟨rfl, rfl⟩ := hg
              clear k0 hd
              go_wp2_with (first | ((with_reducible refine gate_dst (N := 98) rfl ?_); refine Kd.event_run rfl (load_step HY.out _ _ (.tmp 7) rfl rfl) ?_) | ((with_reducible refine gate_store (t := 42) (p := 2) rfl ?_); refine store_event (t := 42) (p := 2) (v := .tmp 98) (w1 := putS wr w.heap.size y (.slice A9 y.f9.length c9)) rfl rfl rfl (store_step HZ.out y (.slice A9 y.f9.length c9) rfl _ _ (.tmp 2) (.tmp 98) rfl rfl rfl) ?_; intro w9 hw9; have HS9 : StepAt w9 w.heap.size y (.slice A9 y.f9.length c9) := (by rw [hw9]; exact putS_at HZ.out _ _); have HB9 : Below w.heap.size w w9 := (by rw [hw9]; exact putS_below HBW.out (Nat.le_refl _) _ _); have HK9 : ∀ q, q ≠ w.heap.size → w9.heap[q]? = wr.heap[q]? := (by intro q hq; rw [hw9]; exact putS_q hq); clear hw9))
              refine bodyPost_ret (results_ct (fn := Tryd.f28) (p := 2) (u := 3) (ty := 42) (P := Tryd.prog) rfl _ w9 w.heap.size 42 (SC y (.slice A9 y.f9.length c9)) (0, 0) _ rfl HS9 hu rfl info42s) rfl ?_
              exact ⟨_, rfl, Kd.R_lower (R_lt HR.out (fun q hq _ => HK9 q (by omega))) (by omega), HB9⟩
            · have be : ((at_ : Int) != (W.length : Int)) = true := by simp; omega
              rw [if_pos (.inr (by intro h0; have := congrArg List.length h0; rw [List.length_drop] at this; simp at this; omega))] at hg
              simp only [Option.some.injEq, Prod.mk.injEq] at hg
              obtain ⟨rfl, rfl⟩ := hg
              clear k0 hd
              go_wp2_with (first | ((with_reducible refine gate_store (t := 42) (p := 2) rfl ?_); refine store_event (t := 42) (p := 2) (v := .tmp 97) (w1 := putS wr w.heap.size z42 (.slice none 0 0)) rfl rfl rfl (store_step HZ.out z42 (.slice none 0 0) rfl _ _ (.tmp 2) (.tmp 97) rfl rfl rfl) ?_; intro w9 hw9; have HS9 : StepAt w9 w.heap.size z42 (.slice none 0 0) := (by rw [hw9]; exact putS_at HZ.out _ _); have HB9 : Below w.heap.size w w9 := (by rw [hw9]; exact putS_below HBW.out (Nat.le_refl _) _ _); clear hw9))
              refine bodyPost_ret (results_ct (fn := Tryd.f28) (p := 2) (u := 3) (ty := 42) (P := Tryd.prog) rfl _ w9 w.heap.size 42 (SC z42 (.slice none 0 0)) (0, 0) _ rfl HS9 hu rfl info42s) rfl ?_
              exact ⟨_, rfl, Kd.R_nil _ _ _ _ _, HB9⟩
    · rw [if_neg hpt] at hf; cases hf
  · rw [if_neg hWl] at hf; cases hf
theorem rread_calls (k : Nat) (s : ByteArray) (w : World) (x : S42) (b : Bool) (hf : rreadF k s = some (x, b)) :
    Calls Tryd.prog 28 #[.string s] w (ReadP w x b) := by
  by_cases hs : 240 < s.size
  · unfold rreadF at hf
    rw [if_pos hs] at hf
    obtain ⟨rfl, rfl⟩ := Prod.mk.inj (Option.some.inj hf)
    exact rread_long k s w hs
  · exact rread_short k s w x b hs hf
def gluE (s d : ByteArray) : Option ByteArray := if (s ++ ⟨#[32]⟩ ++ d).size ≤ 40000000 then some (s ++ ⟨#[32]⟩ ++ d) else none
def rkeep : List Int → ByteArray → Option ByteArray
  | [], s => some s
  | n :: t, s => (scholiaref29_Digits.f n).bind fun d => (gluE s d).bind fun s' => rkeep t s'
def rpart (x : S42) (p : Int) (s : ByteArray) : Option ByteArray :=
  if p = 82 then (scholiaref29_Digits.f x.f1).bind fun d => gluE s d else
  if p = 84 then (scholiaref29_Digits.f x.f2).bind fun d => gluE s d else
  if p = 78 then (scholiaref29_Digits.f x.f3).bind fun d => gluE s d else
  if p = 65 then (scholiaref29_Digits.f x.f5).bind fun d => gluE s d else
  if p = 88 then (scholiaref29_Digits.f x.f4).bind fun d => gluE s d else
  if p = 70 then (scholiaref29_Digits.f x.f7).bind fun d => gluE s d else
  if p = 68 then (scholiaref29_Quote.f x.f6).bind fun d => gluE s d else
  if p = 83 then (scholiaref29_Quote.f x.f8).bind fun d => gluE s d else
  rkeep x.f9 s
def rparts (x : S42) : List Int → ByteArray → Option ByteArray
  | [], s => some s
  | p :: ps, s => (rpart x p s).bind fun s' => rparts x ps s'
def noL : ByteArray × Int := (⟨#[]⟩, 1)
def rlineF (k : Nat) (x : S42) : Option (ByteArray × Int) :=
  (scholiaref29_word.f k x.f0).bind fun nm => if nm.size = 0 then some noL else if nm.size ≤ 40000000 then
    (scholiaref29_small.f k [x.f1, x.f2, x.f3, x.f4, x.f5, x.f7]).bind fun b1 => if b1 = false then some noL else
    (scholiaref29_small.f k x.f9).bind fun b2 => if b2 = false then some noL else
    if 240 < x.f9.length then some noL else if 240 < x.f6.size then some noL else if 240 < x.f8.size then some noL else
    (scholiaref29_Parts.f k nm).bind fun r => if r.1.size ≤ 40000000 then ((rparts x (bytesOf r.1) nm).bind fun s => (rreadF k s).bind fun q => if q.2 = false then some noL else
      (scholiaref29_Same.f k x.f0 x.f1 x.f2 x.f3 x.f4 x.f5 x.f6 x.f7 x.f8 x.f9 q.1.f0 q.1.f1 q.1.f2 q.1.f3 q.1.f4 q.1.f5 q.1.f6 q.1.f7 q.1.f8 q.1.f9).bind fun b => if b = true then some (s, 0) else some noL) else none
    else none
theorem gluE_some {s d r : ByteArray} (h : gluE s d = some r) : r = s ++ ⟨#[32]⟩ ++ d ∧ s.size ≤ 40000000 ∧ d.size ≤ 40000000 ∧ (s ++ (⟨#[32]⟩ : ByteArray)).size ≤ 40000001 := by
  unfold gluE at h
  split at h
  · rename_i hs
    cases h
    have h1 : (⟨#[32]⟩ : ByteArray).size = 1 := rfl
    rw [ByteArray.size_append, ByteArray.size_append] at hs
    exact ⟨rfl, by omega, by omega, by rw [ByteArray.size_append]; omega⟩
  · cases h
theorem small_calls (k : Nat) (A0 : Option Addr) (c0 : Nat) (l0 : List Int) (r : Bool) (w : World) (hr0 : Kd.C (Kd.int .i64) w A0 l0.length l0) (hc0 : l0.length ≤ c0) (h : scholiaref29_small.f k l0 = some r) :
    Calls Tryd.prog 54 #[.slice A0 l0.length c0] w fun e w' => e = .returned (.bool r) ∧ Below w.heap.size w w' :=
  (scholiaref29_small.calls k A0 c0 l0 r w hr0 hc0 h).mono fun e w' ⟨he, ⟨nd, hw⟩⟩ => ⟨he, by subst hw; exact pw_below_drewN (Below.refl _ _) nd⟩
theorem rquote_calls (s r : ByteArray) (w : World) (h : scholiaref29_Quote.f s = some r) :
    Calls Tryd.prog 23 #[.string s] w fun e w' => e = .returned (.string r) ∧ Below w.heap.size w w' :=
  (scholiaref29_Quote.calls s r w h).mono fun e w' ⟨he, ⟨nd, hw⟩⟩ => ⟨he, by subst hw; exact pw_below_drewN (Below.refl _ _) nd⟩
theorem ints_new (W : World) (l : List Int) (hl : l.length ≤ 140737488355328) : Kd.R (Kd.int .i64) 3 (W.alloc (.cells (l.map (Value.int .i64)).toArray 3)) W.heap.size (fun _ => True) (.slice (some ⟨W.heap.size, 0, none⟩) l.length l.length) l := by
  refine ⟨fun _ _ => trivial, l.map (Value.int .i64), ?_, ?_⟩
  · have h2 := World.ownsRow_lit (base := W.heap.size) (e := 3) (size := (Kd.int .i64).sz) W (l.map (Value.int .i64)).toArray l.length (Nat.le_refl _) (by have : maxLen = 9223372036854775807 := rfl; omega) (by simp [Kd.int, Kd.scalar])
    simpa using h2
  · refine ⟨by simp [Kd.int, Kd.scalar], fun j p hj => ?_⟩
    obtain ⟨hjl, hp⟩ := List.getElem?_eq_some_iff.1 hj
    show ((l.map (Value.int .i64)).drop (j * 1)).take 1 = [.int .i64 p]
    rw [Nat.mul_one, List.drop_eq_getElem_cons (by simpa using hjl)]
    simp [hp]
set_option maxHeartbeats 8000000 in
set_option maxRecDepth 100000 in
theorem rline_calls (k : Nat) (x : S42) (A9 : Option Addr) (c9 : Nat) (w : World) (s : ByteArray) (er : Int) (hr : Kd.C (Kd.int .i64) w A9 x.f9.length x.f9) (hc : x.f9.length ≤ c9) (hf : rlineF k x = some (s, er)) :
    Calls Tryd.prog 26 #[.agg (SC x (.slice A9 x.f9.length c9))] w fun e w' => e = .returned (.tuple #[.string s, .int .i64 er]) ∧ Below w.heap.size w w' := by
  have hu := Tryd.underlying42
  unfold rlineF at hf
  obtain ⟨nm, hw, hf⟩ := Option.bind_eq_some_iff.1 hf
  have HX := Aside0.mk (show StepAt (w.alloc (.cells (SC x (.slice A9 x.f9.length c9)) 42)) w.heap.size x (.slice A9 x.f9.length c9) from blk_new w _)
  have HB := Aside0.mk (below_alloc (Below.refl w.heap.size w) (.cells (SC x (.slice A9 x.f9.length c9)) 42))
  have HR := Aside0.mk (Kd.C_below hr HB.out)
  have HC9 := Aside0.mk hc
  have HW := Aside0.mk hw
  have HF := Aside0.mk hf
  have z0 := (step_cells HX.out).1
  clear hr hc hw hf
  go_enter Tryd.func26, Tryd.ntmps26
  go_wp2_with fail
  refine (scholiaref29_word.calls k x.f0 nm _ HW.out).mono ?_
  rintro e w1 ⟨rfl, hb⟩
  have HB1 := Aside0.mk (HB.out.trans (hb.mono HB.out.size))
  have HX1 := Aside0.mk (show StepAt w1 w.heap.size x (.slice A9 x.f9.length c9) from blk_below HX.out hb)
  have HR1 := Aside0.mk (Kd.C_below HR.out hb)
  clear hb z0 HX HB HR
  have hf := HF.out
  by_cases c0 : nm.size = 0
  · rw [if_pos c0] at hf
    obtain ⟨rfl, rfl⟩ := Prod.mk.inj (Option.some.inj hf)
    have b0 := empty_of nm c0
    go_wp2
    go_ret2
    exact ⟨rfl, HB1.out⟩
  rw [if_neg c0] at hf
  have b0 := empty_not nm c0
  by_cases cn : nm.size ≤ 40000000
  rotate_left
  · rw [if_neg cn] at hf; cases hf
  rw [if_pos cn] at hf
  obtain ⟨b1, hb1, hf⟩ := Option.bind_eq_some_iff.1 hf
  have HB1S := Aside0.mk hb1
  have HFF := Aside0.mk hf
  obtain ⟨x0, x1, x2, x3, x4, x5, x6, x7, x8, x9, _⟩ := step_cells HX1.out
  clear hb1 hf c0 HF HW
  go_wp2_with fail
  have HI := Aside0.mk (ints_new w1 [x.f1, x.f2, x.f3, x.f4, x.f5, x.f7] (by simp))
  have HSM : Aside0 (Calls Tryd.prog 54 #[.slice (some ⟨w1.heap.size, 0, none⟩) 6 6] (w1.alloc (.cells #[.int .i64 x.f1, .int .i64 x.f2, .int .i64 x.f3, .int .i64 x.f4, .int .i64 x.f5, .int .i64 x.f7] 3)) fun e w' => e = .returned (.bool b1) ∧ Below (w1.alloc (.cells #[.int .i64 x.f1, .int .i64 x.f2, .int .i64 x.f3, .int .i64 x.f4, .int .i64 x.f5, .int .i64 x.f7] 3)).heap.size (w1.alloc (.cells #[.int .i64 x.f1, .int .i64 x.f2, .int .i64 x.f3, .int .i64 x.f4, .int .i64 x.f5, .int .i64 x.f7] 3)) w') := ⟨small_calls k _ 6 [x.f1, x.f2, x.f3, x.f4, x.f5, x.f7] b1 _ (Kd.R_reads' HI.out).2.2 (by simp) HB1S.out⟩
  refine HSM.out.mono ?_
  rintro e w2 ⟨rfl, hb⟩
  have hba := (below_alloc (Below.refl w1.heap.size w1) (.cells #[.int .i64 x.f1, .int .i64 x.f2, .int .i64 x.f3, .int .i64 x.f4, .int .i64 x.f5, .int .i64 x.f7] 3)).trans (hb.mono (below_alloc (Below.refl w1.heap.size w1) (.cells #[.int .i64 x.f1, .int .i64 x.f2, .int .i64 x.f3, .int .i64 x.f4, .int .i64 x.f5, .int .i64 x.f7] 3)).size)
  have HB2 := Aside0.mk (HB1.out.trans (hba.mono HB1.out.size))
  have HX2 := Aside0.mk (show StepAt w2 w.heap.size x (.slice A9 x.f9.length c9) from blk_below HX1.out hba)
  have HR2 := Aside0.mk (Kd.C_below HR1.out hba)
  clear hb hba HI HSM HB1S x0 x1 x2 x3 x4 x5 x6 x7 x8 x9
  have hf := HFF.out
  cases b1 with
  | false =>
    rw [if_pos rfl] at hf
    obtain ⟨rfl, rfl⟩ := Prod.mk.inj (Option.some.inj hf)
    go_wp2
    go_ret2
    exact ⟨rfl, HB2.out⟩
  | true =>
  rw [if_neg (by simp)] at hf
  obtain ⟨b2, hb2, hf⟩ := Option.bind_eq_some_iff.1 hf
  have HFG := Aside0.mk hf
  have HSM := Aside0.mk (small_calls k A9 c9 x.f9 b2 w2 HR2.out HC9.out hb2)
  obtain ⟨x0, x1, x2, x3, x4, x5, x6, x7, x8, x9, _⟩ := step_cells HX2.out
  clear hb2 hf HFF
  go_wp2_with fail
  refine HSM.out.mono ?_
  rintro e w3 ⟨rfl, hb⟩
  have HB3 := Aside0.mk (HB2.out.trans (hb.mono HB2.out.size))
  have HX3 := Aside0.mk (show StepAt w3 w.heap.size x (.slice A9 x.f9.length c9) from blk_below HX2.out hb)
  have HR3 := Aside0.mk (Kd.C_below HR2.out hb)
  clear hb HSM x0 x1 x2 x3 x4 x5 x6 x7 x8 x9
  have hf := HFG.out
  cases b2 with
  | false =>
    rw [if_pos rfl] at hf
    obtain ⟨rfl, rfl⟩ := Prod.mk.inj (Option.some.inj hf)
    go_wp2
    go_ret2
    exact ⟨rfl, HB3.out⟩
  | true =>
  rw [if_neg (by simp)] at hf
  obtain ⟨x0, x1, x2, x3, x4, x5, x6, x7, x8, x9, _⟩ := step_cells HX3.out
  by_cases c1 : 240 < x.f9.length
  · rw [if_pos c1] at hf
    obtain ⟨rfl, rfl⟩ := Prod.mk.inj (Option.some.inj hf)
    have d1 : decide ((240 : Int) < (x.f9.length : Int)) = true := decide_eq_true (by omega)
    have d1n : decide (240 < x.f9.length) = true := decide_eq_true c1
    go_wp2
    go_ret2
    exact ⟨rfl, HB3.out⟩
  rw [if_neg c1] at hf
  have d1 : decide ((240 : Int) < (x.f9.length : Int)) = false := decide_eq_false (by omega)
  have d1n : decide (240 < x.f9.length) = false := decide_eq_false c1
  by_cases c2 : 240 < x.f6.size
  · rw [if_pos c2] at hf
    obtain ⟨rfl, rfl⟩ := Prod.mk.inj (Option.some.inj hf)
    have d2 : decide ((240 : Int) < (x.f6.size : Int)) = true := decide_eq_true (by omega)
    go_wp2
    go_ret2
    exact ⟨rfl, HB3.out⟩
  rw [if_neg c2] at hf
  have d2 : decide ((240 : Int) < (x.f6.size : Int)) = false := decide_eq_false (by omega)
  by_cases c3 : 240 < x.f8.size
  · rw [if_pos c3] at hf
    obtain ⟨rfl, rfl⟩ := Prod.mk.inj (Option.some.inj hf)
    have d3 : decide ((240 : Int) < (x.f8.size : Int)) = true := decide_eq_true (by omega)
    go_wp2
    go_ret2
    exact ⟨rfl, HB3.out⟩
  rw [if_neg c3] at hf
  have d3 : decide ((240 : Int) < (x.f8.size : Int)) = false := decide_eq_false (by omega)
  obtain ⟨⟨pt, kd⟩, hps, hf⟩ := Option.bind_eq_some_iff.1 hf
  by_cases hpt : pt.size ≤ 40000000
  rotate_left
  · rw [if_neg hpt] at hf; cases hf
  rw [if_pos hpt] at hf
  obtain ⟨sL, hsL, hf⟩ := Option.bind_eq_some_iff.1 hf
  have HPS := Aside0.mk hps
  have HPT := Aside0.mk hpt
  have HFH := Aside0.mk hf
  have HSL := Aside0.mk hsL
  have hl9 := c1
  clear hf hps hsL HFG c1 c2 c3 hpt
  go_wp2_with fail
  refine (scholiaref29_Parts.calls k nm pt kd w3 HPS.out).mono ?_
  rintro e w4 ⟨rfl, hb⟩
  have HB4 := Aside0.mk (HB3.out.trans (hb.mono HB3.out.size))
  have HX4 := Aside0.mk (show StepAt w4 w.heap.size x (.slice A9 x.f9.length c9) from blk_below HX3.out hb)
  have HR4 := Aside0.mk (Kd.C_below HR3.out hb)
  clear hb d1 d1n d2 d3 b0 x0 x1 x2 x3 x4 x5 x6 x7 x8 x9 HX1 HX2 HX3 HR1 HR2 HR3
  go_wp2_with fail
  go_loopg [4, 65] pt.size (fun n v4 v65 wr => ∃ (i : Nat) (u : ByteArray), v65 = .int .i64 i ∧ v4 = .string u ∧ Aside0 (n + i = pt.size) ∧ Aside0 (rparts x ((bytesOf pt).drop i) u = some sL) ∧ Aside0 (Below w4.heap.size w4 wr))
  case atStart => exact ⟨0, nm, rfl, rfl, ⟨by simp⟩, ⟨by simpa using HSL.out⟩, ⟨Below.refl _ _⟩⟩
  case round =>
    obtain ⟨i, u, rfl, rfl, HN, HU, HBW⟩ := hrel
    have hptb := HPT.out
    by_cases hi : i < pt.size
    · have hi' : decide ((i : Int) < (pt.size : Int)) = true := decide_eq_true (by omega)
      have hi2 : decide (i < pt.size) = true := decide_eq_true hi
      have hbt0 := bt_at pt (i : Int)
      simp only [Int.toNat_natCast] at hbt0
      have hbt := hbt0 hi
      have hg := HU.out
      rw [plain_step pt i hi, rd_bytesOf, rparts] at hg
      obtain ⟨p, hp⟩ : ∃ p, p = bt pt (i : Int) := ⟨_, rfl⟩
      rw [← hp] at hg hbt
      clear hbt0 hp
      obtain ⟨u2, hu2, hg⟩ := Option.bind_eq_some_iff.1 hg
      have HG2 := Aside0.mk hg
      have HXW := Aside0.mk (show StepAt wr w.heap.size x (.slice A9 x.f9.length c9) from blk_below HX4.out HBW.out)
      unfold rpart at hu2
      clear hg
      by_cases p82 : p = 82
      · rw [if_pos p82] at hu2
        obtain ⟨d, hd, hu2⟩ := Option.bind_eq_some_iff.1 hu2
        obtain ⟨hu3, hz1, hz2, hz3⟩ := gluE_some hu2
        have bb : (p == 82) = true := by simpa using p82
        have HD := Aside0.mk hd
        have HU3 := Aside0.mk hu3
        obtain ⟨x0, x1, x2, x3, x4, x5, x6, x7, x8, x9, _⟩ := step_cells HXW.out
        clear hu2 hu3 hd p82
        go_wp2_with fail
        refine (scholiaref29_Digits.calls x.f1 d wr HD.out).mono ?_
        rintro e w5 ⟨rfl, hb⟩
        have HB5 := Aside0.mk (HBW.out.trans (hb.mono HBW.out.size))
        clear hb x0 x1 x2 x3 x4 x5 x6 x7 x8 x9
        go_wp2
        go_roundg (gk - 1)
        case measure => have := HN.out; omega
        case rel => exact ⟨i + 1, u2, by go_num, by rw [HU3.out], ⟨by have := HN.out; omega⟩, HG2, HB5⟩
      · rw [if_neg p82] at hu2
        have b82 : (p == 82) = false := by simpa using p82
        by_cases p84 : p = 84
        · rw [if_pos p84] at hu2
          obtain ⟨d, hd, hu2⟩ := Option.bind_eq_some_iff.1 hu2
          obtain ⟨hu3, hz1, hz2, hz3⟩ := gluE_some hu2
          have bb : (p == 84) = true := by simpa using p84
          have HD := Aside0.mk hd
          have HU3 := Aside0.mk hu3
          obtain ⟨x0, x1, x2, x3, x4, x5, x6, x7, x8, x9, _⟩ := step_cells HXW.out
          clear hu2 hu3 hd p84
          go_wp2_with fail
          refine (scholiaref29_Digits.calls x.f2 d wr HD.out).mono ?_
          rintro e w5 ⟨rfl, hb⟩
          have HB5 := Aside0.mk (HBW.out.trans (hb.mono HBW.out.size))
          clear hb x0 x1 x2 x3 x4 x5 x6 x7 x8 x9
          go_wp2
          go_roundg (gk - 1)
          case measure => have := HN.out; omega
          case rel => exact ⟨i + 1, u2, by go_num, by rw [HU3.out], ⟨by have := HN.out; omega⟩, HG2, HB5⟩
        · rw [if_neg p84] at hu2
          have b84 : (p == 84) = false := by simpa using p84
          by_cases p78 : p = 78
          · rw [if_pos p78] at hu2
            obtain ⟨d, hd, hu2⟩ := Option.bind_eq_some_iff.1 hu2
            obtain ⟨hu3, hz1, hz2, hz3⟩ := gluE_some hu2
            have bb : (p == 78) = true := by simpa using p78
            have HD := Aside0.mk hd
            have HU3 := Aside0.mk hu3
            obtain ⟨x0, x1, x2, x3, x4, x5, x6, x7, x8, x9, _⟩ := step_cells HXW.out
            clear hu2 hu3 hd p78
            go_wp2_with fail
            refine (scholiaref29_Digits.calls x.f3 d wr HD.out).mono ?_
            rintro e w5 ⟨rfl, hb⟩
            have HB5 := Aside0.mk (HBW.out.trans (hb.mono HBW.out.size))
            clear hb x0 x1 x2 x3 x4 x5 x6 x7 x8 x9
            go_wp2
            go_roundg (gk - 1)
            case measure => have := HN.out; omega
            case rel => exact ⟨i + 1, u2, by go_num, by rw [HU3.out], ⟨by have := HN.out; omega⟩, HG2, HB5⟩
          · rw [if_neg p78] at hu2
            have b78 : (p == 78) = false := by simpa using p78
            by_cases p65 : p = 65
            · rw [if_pos p65] at hu2
              obtain ⟨d, hd, hu2⟩ := Option.bind_eq_some_iff.1 hu2
              obtain ⟨hu3, hz1, hz2, hz3⟩ := gluE_some hu2
              have bb : (p == 65) = true := by simpa using p65
              have HD := Aside0.mk hd
              have HU3 := Aside0.mk hu3
              obtain ⟨x0, x1, x2, x3, x4, x5, x6, x7, x8, x9, _⟩ := step_cells HXW.out
              clear hu2 hu3 hd p65
              go_wp2_with fail
              refine (scholiaref29_Digits.calls x.f5 d wr HD.out).mono ?_
              rintro e w5 ⟨rfl, hb⟩
              have HB5 := Aside0.mk (HBW.out.trans (hb.mono HBW.out.size))
              clear hb x0 x1 x2 x3 x4 x5 x6 x7 x8 x9
              go_wp2
              go_roundg (gk - 1)
              case measure => have := HN.out; omega
              case rel => exact ⟨i + 1, u2, by go_num, by rw [HU3.out], ⟨by have := HN.out; omega⟩, HG2, HB5⟩
            · rw [if_neg p65] at hu2
              have b65 : (p == 65) = false := by simpa using p65
              by_cases p88 : p = 88
              · rw [if_pos p88] at hu2
                obtain ⟨d, hd, hu2⟩ := Option.bind_eq_some_iff.1 hu2
                obtain ⟨hu3, hz1, hz2, hz3⟩ := gluE_some hu2
                have bb : (p == 88) = true := by simpa using p88
                have HD := Aside0.mk hd
                have HU3 := Aside0.mk hu3
                obtain ⟨x0, x1, x2, x3, x4, x5, x6, x7, x8, x9, _⟩ := step_cells HXW.out
                clear hu2 hu3 hd p88
                go_wp2_with fail
                refine (scholiaref29_Digits.calls x.f4 d wr HD.out).mono ?_
                rintro e w5 ⟨rfl, hb⟩
                have HB5 := Aside0.mk (HBW.out.trans (hb.mono HBW.out.size))
                clear hb x0 x1 x2 x3 x4 x5 x6 x7 x8 x9
                go_wp2
                go_roundg (gk - 1)
                case measure => have := HN.out; omega
                case rel => exact ⟨i + 1, u2, by go_num, by rw [HU3.out], ⟨by have := HN.out; omega⟩, HG2, HB5⟩
              · rw [if_neg p88] at hu2
                have b88 : (p == 88) = false := by simpa using p88
                by_cases p70 : p = 70
                · rw [if_pos p70] at hu2
                  obtain ⟨d, hd, hu2⟩ := Option.bind_eq_some_iff.1 hu2
                  obtain ⟨hu3, hz1, hz2, hz3⟩ := gluE_some hu2
                  have bb : (p == 70) = true := by simpa using p70
                  have HD := Aside0.mk hd
                  have HU3 := Aside0.mk hu3
                  obtain ⟨x0, x1, x2, x3, x4, x5, x6, x7, x8, x9, _⟩ := step_cells HXW.out
                  clear hu2 hu3 hd p70
                  go_wp2_with fail
                  refine (scholiaref29_Digits.calls x.f7 d wr HD.out).mono ?_
                  rintro e w5 ⟨rfl, hb⟩
                  have HB5 := Aside0.mk (HBW.out.trans (hb.mono HBW.out.size))
                  clear hb x0 x1 x2 x3 x4 x5 x6 x7 x8 x9
                  go_wp2
                  go_roundg (gk - 1)
                  case measure => have := HN.out; omega
                  case rel => exact ⟨i + 1, u2, by go_num, by rw [HU3.out], ⟨by have := HN.out; omega⟩, HG2, HB5⟩
                · rw [if_neg p70] at hu2
                  have b70 : (p == 70) = false := by simpa using p70
                  by_cases p68 : p = 68
                  · rw [if_pos p68] at hu2
                    obtain ⟨d, hd, hu2⟩ := Option.bind_eq_some_iff.1 hu2
                    obtain ⟨hu3, hz1, hz2, hz3⟩ := gluE_some hu2
                    have bb : (p == 68) = true := by simpa using p68
                    have HD := Aside0.mk hd
                    have HU3 := Aside0.mk hu3
                    obtain ⟨x0, x1, x2, x3, x4, x5, x6, x7, x8, x9, _⟩ := step_cells HXW.out
                    clear hu2 hu3 hd p68
                    go_wp2_with fail
                    refine (rquote_calls x.f6 d wr HD.out).mono ?_
                    rintro e w5 ⟨rfl, hb⟩
                    have HB5 := Aside0.mk (HBW.out.trans (hb.mono HBW.out.size))
                    clear hb x0 x1 x2 x3 x4 x5 x6 x7 x8 x9
                    go_wp2
                    go_roundg (gk - 1)
                    case measure => have := HN.out; omega
                    case rel => exact ⟨i + 1, u2, by go_num, by rw [HU3.out], ⟨by have := HN.out; omega⟩, HG2, HB5⟩
                  · rw [if_neg p68] at hu2
                    have b68 : (p == 68) = false := by simpa using p68
                    by_cases p83 : p = 83
                    · rw [if_pos p83] at hu2
                      obtain ⟨d, hd, hu2⟩ := Option.bind_eq_some_iff.1 hu2
                      obtain ⟨hu3, hz1, hz2, hz3⟩ := gluE_some hu2
                      have bb : (p == 83) = true := by simpa using p83
                      have HD := Aside0.mk hd
                      have HU3 := Aside0.mk hu3
                      obtain ⟨x0, x1, x2, x3, x4, x5, x6, x7, x8, x9, _⟩ := step_cells HXW.out
                      clear hu2 hu3 hd p83
                      go_wp2_with fail
                      refine (rquote_calls x.f8 d wr HD.out).mono ?_
                      rintro e w5 ⟨rfl, hb⟩
                      have HB5 := Aside0.mk (HBW.out.trans (hb.mono HBW.out.size))
                      clear hb x0 x1 x2 x3 x4 x5 x6 x7 x8 x9
                      go_wp2
                      go_roundg (gk - 1)
                      case measure => have := HN.out; omega
                      case rel => exact ⟨i + 1, u2, by go_num, by rw [HU3.out], ⟨by have := HN.out; omega⟩, HG2, HB5⟩
                    · rw [if_neg p83] at hu2
                      have b83 : (p == 83) = false := by simpa using p83
                      have HKP := Aside0.mk hu2
                      have xc := (step_cells HXW.out).2.2.2.2.2.2.2.2.2.1
                      have hfl : x.f9.length ≤ 240 := by omega
                      clear hu2
                      obtain ⟨wo, hwo⟩ : ∃ wo : World, wo = wr := ⟨_, rfl⟩
                      go_wp2_with fail
                      clear xc
                      go_loopg [4, 74] x.f9.length (fun n v4 v74 wr => ∃ (j : Nat) (u1 : ByteArray), v74 = .int .i64 j ∧ v4 = .string u1 ∧ Aside0 (n + j = x.f9.length) ∧ Aside0 (rkeep (x.f9.drop j) u1 = some u2) ∧ Aside0 (Below w4.heap.size w4 wr))
                      case atStart => exact ⟨0, u, rfl, rfl, ⟨by simp⟩, ⟨by simpa using HKP.out⟩, HBW⟩
                      case round =>
                        obtain ⟨j, u1, rfl, rfl, HN1, HK1, HB1'⟩ := hrel
                        by_cases hj : j < x.f9.length
                        · have hj' : decide (j < x.f9.length) = true := decide_eq_true hj
                          obtain ⟨ad3, cs3, e3, _, hK4, hcell4⟩ := Kd.C_get (Kd.C_below HR4.out HB1'.out) (0 : Int) (j : Int) (by omega) (by omega)
                          have hK5 : cs3 = [.int .i64 (x.f9.getD j 0)] := hK4
                          subst hK5 e3
                          have hqc : wr.cell? (ad3.add j) = some (.int .i64 (x.f9.getD j 0)) := by simpa [Kd.int, Kd.scalar] using hcell4 0 _ rfl
                          have hdr : x.f9.drop j = x.f9.getD j 0 :: x.f9.drop (j + 1) := by
                            rw [List.drop_eq_getElem_cons hj]
                            simp [List.getD_eq_getElem?_getD, List.getElem?_eq_getElem hj]
                          have hv := HK1.out
                          rw [hdr, rkeep] at hv
                          obtain ⟨d, hd, hv⟩ := Option.bind_eq_some_iff.1 hv
                          obtain ⟨u3, hu3, hv⟩ := Option.bind_eq_some_iff.1 hv
                          obtain ⟨hu4, hz1, hz2, hz3⟩ := gluE_some hu3
                          obtain ⟨m, hm⟩ : ∃ m, m = x.f9.getD j 0 := ⟨_, rfl⟩
                          rw [← hm] at hd hqc
                          have HD := Aside0.mk hd
                          have HV2 := Aside0.mk hv
                          have HU4 := Aside0.mk hu4
                          clear hdr hcell4 hK4 hm hv hu3 hu4 hd
                          go_wp2_with fail
                          refine (scholiaref29_Digits.calls m d wr HD.out).mono ?_
                          rintro e w5 ⟨rfl, hb⟩
                          have HB5 := Aside0.mk (HB1'.out.trans (hb.mono HB1'.out.size))
                          clear hb hqc
                          go_wp2
                          go_roundg (gk - 1)
                          case measure => have := HN1.out; omega
                          case rel => exact ⟨j + 1, u3, by go_num, by rw [HU4.out], ⟨by have := HN1.out; omega⟩, HV2, HB5⟩
                        · have hj' : decide (j < x.f9.length) = false := decide_eq_false hj
                          have hv := HK1.out
                          rw [List.drop_eq_nil_of_le (show x.f9.length ≤ j by omega), rkeep] at hv
                          obtain rfl := Option.some.inj hv
                          clear hv
                          go_wp2
                          go_roundg (pt.size - (i + 1))
                          case measure => have := HN.out; omega
                          case rel => exact ⟨i + 1, u1, by go_num, rfl, ⟨by omega⟩, HG2, HB1'⟩
    · have hi' : decide ((i : Int) < (pt.size : Int)) = false := decide_eq_false (by omega)
      have hi2 : decide (i < pt.size) = false := decide_eq_false hi
      have hg := HU.out
      rw [List.drop_eq_nil_of_le (show (bytesOf pt).length ≤ i by rw [bytesOf_length]; omega), rparts] at hg
      obtain rfl := Option.some.inj hg
      have hfr := HFH.out
      obtain ⟨⟨y, ok⟩, hrd, hfr⟩ := Option.bind_eq_some_iff.1 hfr
      have HRD := Aside0.mk hrd
      have HFE := Aside0.mk hfr
      have HBA := Aside0.mk (HB4.out.trans (HBW.out.mono HB4.out.size))
      have HX5 := Aside0.mk (show StepAt wr w.heap.size x (.slice A9 x.f9.length c9) from blk_below HX4.out HBW.out)
      have HR5 := Aside0.mk (Kd.C_below HR4.out HBW.out)
      clear hrd hfr hg hi
      go_wp2_with fail
      refine (rread_calls k u wr y ok HRD.out).mono ?_
      rintro e w6 ⟨v, rfl, hR6, hb⟩
      obtain ⟨Av, cv, rfl, hcv, hFv⟩ := Kd.R_V (base' := 0) hR6
      have HB6 := Aside0.mk (HBA.out.trans (hb.mono HBA.out.size))
      have HX6 := Aside0.mk (show StepAt w6 w.heap.size x (.slice A9 x.f9.length c9) from blk_below HX5.out hb)
      have HR6 := Aside0.mk (Kd.C_below HR5.out hb)
      have HV6 := Aside0.mk (And.intro (Kd.F_now hFv) hcv)
      have HZ6 := Aside0.mk (show StepAt (w6.alloc (.cells (SC z42 (.slice none 0 0)) 42)) w6.heap.size z42 (.slice none 0 0) from blk_new w6 _)
      have HB7 := Aside0.mk (below_alloc (Below.refl w6.heap.size w6) (.cells (SC z42 (.slice none 0 0)) 42))
      clear hb hR6 hFv hcv
      obtain ⟨w9, hw9⟩ : ∃ w9, w9 = putS (w6.alloc (.cells (SC z42 (.slice none 0 0)) 42)) w6.heap.size y (.slice Av y.f9.length cv) := ⟨_, rfl⟩
      have HBB := Aside0.mk (show Below w6.heap.size w6 w9 by rw [hw9]; exact putS_below HB7.out (Nat.le_refl _) _ _)
      have HX9 := Aside0.mk (show StepAt w9 w.heap.size x (.slice A9 x.f9.length c9) from blk_below HX6.out HBB.out)
      have HY9 := Aside0.mk (show StepAt w9 w6.heap.size y (.slice Av y.f9.length cv) by rw [hw9]; exact putS_at HZ6.out _ _)
      have HEQ := Aside0.mk hw9
      have HB9 := Aside0.mk (HB6.out.trans (HBB.out.mono HB6.out.size))
      clear hw9
      cases ok with
      | false =>
        have hfr := HFE.out
        rw [if_pos rfl] at hfr
        obtain ⟨rfl, rfl⟩ := Prod.mk.inj (Option.some.inj hfr)
        go_wp2_with (first | ((with_reducible refine gate_store (t := 42) (p := 10) rfl ?_); refine store_event (t := 42) (p := 10) (v := .tmp 152) (w1 := w9) rfl rfl rfl (by rw [HEQ.out]; exact store_step HZ6.out y (.slice Av y.f9.length cv) rfl _ _ (.tmp 10) (.tmp 152) rfl rfl rfl) ?_; intro w11 hw11; subst hw11))
        go_ret2
        exact ⟨rfl, HB9.out⟩
      | true =>
        have hfr := HFE.out
        rw [if_neg (by simp)] at hfr
        obtain ⟨b, hsm, hfr⟩ := Option.bind_eq_some_iff.1 hfr
        have HSM := Aside0.mk (scholiaref29_Same.calls k x.f0 x.f1 x.f2 x.f3 x.f4 x.f5 x.f6 x.f7 x.f8 A9 c9 x.f9 y.f0 y.f1 y.f2 y.f3 y.f4 y.f5 y.f6 y.f7 y.f8 Av cv y.f9 b w9 (Kd.C_below HR6.out HBB.out) HC9.out (Kd.C_below HV6.out.1 HBB.out) HV6.out.2 hsm)
        have HFB := Aside0.mk hfr
        obtain ⟨x0, x1, x2, x3, x4, x5, x6, x7, x8, x9, _⟩ := step_cells HX9.out
        obtain ⟨y0, y1, y2, y3, y4, y5, y6, y7, y8, y9, _⟩ := step_cells HY9.out
        clear hfr hsm
        go_wp2_with (first | ((with_reducible refine gate_store (t := 42) (p := 10) rfl ?_); refine store_event (t := 42) (p := 10) (v := .tmp 152) (w1 := w9) rfl rfl rfl (by rw [HEQ.out]; exact store_step HZ6.out y (.slice Av y.f9.length cv) rfl _ _ (.tmp 10) (.tmp 152) rfl rfl rfl) ?_; intro w11 hw11; subst hw11))
        refine HSM.out.mono ?_
        rintro e w10 ⟨rfl, hb⟩
        have HB10 := Aside0.mk (HB9.out.trans (hb.mono HB9.out.size))
        clear hb x0 x1 x2 x3 x4 x5 x6 x7 x8 x9 y0 y1 y2 y3 y4 y5 y6 y7 y8 y9
        cases b with
        | false =>
          have hfr := HFB.out
          rw [if_neg (by simp)] at hfr
          obtain ⟨rfl, rfl⟩ := Prod.mk.inj (Option.some.inj hfr)
          go_wp2
          go_ret2
          exact ⟨rfl, HB10.out⟩
        | true =>
          have hfr := HFB.out
          rw [if_pos rfl] at hfr
          obtain ⟨rfl, rfl⟩ := Prod.mk.inj (Option.some.inj hfr)
          go_wp2
          go_ret2
          exact ⟨rfl, HB10.out⟩
end Go.Proofs.YtcgkmomhjincgaaDoor.LibQ.Scr
