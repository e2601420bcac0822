/- The lines of script and their laws, part Qf: contracts by hand. -/
import Derived.Test.YtcgkmomhjincgaaDoorLLibQ0
import Derived.Test.YtcgkmomhjincgaaDoorLQe
import Derived.Deep.RegionHeld3
import Derived.Lib.ItoaLen
namespace Go.Proofs.YtcgkmomhjincgaaDoor.LibQ.Scr
open Go.RowKit Go.Proofs.YtcgkmomhjincgaaDoor.LibQ Go.Proofs.YtcgkmomhjincgaaDoorW.PrintWords Go.Proofs.YtcgkmomhjincgaaDoorW.PrintLast Go.Proofs.YtcgkmomhjincgaaDoorW.PrintMore
set_option linter.unusedVariables false
set_option linter.unusedSimpArgs false
attribute [local go_sem] max2_int min2_int max_two min_two max_three min_three max_four min_four
theorem two_steps (W : World) (x y : S42) (Ax Ay : Option Addr) (cx cy : Nat) (hx : Kd.C (Kd.int .i64) W Ax x.f9.length x.f9) (lx : x.f9.length ≤ cx) (hy : Kd.C (Kd.int .i64) W Ay y.f9.length y.f9) (ly : y.f9.length ≤ cy) :
    Kd.C k42 (W.alloc (.cells #[.int .i64 x.f0, .int .i64 x.f1, .int .i64 x.f2, .int .i64 x.f3, .int .i64 x.f4, .int .i64 x.f5, .string x.f6, .int .i64 x.f7, .string x.f8, .slice Ax x.f9.length cx, .int .i64 y.f0, .int .i64 y.f1, .int .i64 y.f2, .int .i64 y.f3, .int .i64 y.f4, .int .i64 y.f5, .string y.f6, .int .i64 y.f7, .string y.f8, .slice Ay y.f9.length cy] 42)) (some ⟨W.heap.size, 0, none⟩) 2 [x, y] := by
  have hb : (W.alloc (.cells #[.int .i64 x.f0, .int .i64 x.f1, .int .i64 x.f2, .int .i64 x.f3, .int .i64 x.f4, .int .i64 x.f5, .string x.f6, .int .i64 x.f7, .string x.f8, .slice Ax x.f9.length cx, .int .i64 y.f0, .int .i64 y.f1, .int .i64 y.f2, .int .i64 y.f3, .int .i64 y.f4, .int .i64 y.f5, .string y.f6, .int .i64 y.f7, .string y.f8, .slice Ay y.f9.length cy] 42)).heap[W.heap.size]? = some (.cells #[.int .i64 x.f0, .int .i64 x.f1, .int .i64 x.f2, .int .i64 x.f3, .int .i64 x.f4, .int .i64 x.f5, .string x.f6, .int .i64 x.f7, .string x.f8, .slice Ax x.f9.length cx, .int .i64 y.f0, .int .i64 y.f1, .int .i64 y.f2, .int .i64 y.f3, .int .i64 y.f4, .int .i64 y.f5, .string y.f6, .int .i64 y.f7, .string y.f8, .slice Ay y.f9.length cy] 42 (0, 0)) := blk_new W _
  have hw := below_alloc (Below.refl W.heap.size W) (.cells #[.int .i64 x.f0, .int .i64 x.f1, .int .i64 x.f2, .int .i64 x.f3, .int .i64 x.f4, .int .i64 x.f5, .string x.f6, .int .i64 x.f7, .string x.f8, .slice Ax x.f9.length cx, .int .i64 y.f0, .int .i64 y.f1, .int .i64 y.f2, .int .i64 y.f3, .int .i64 y.f4, .int .i64 y.f5, .string y.f6, .int .i64 y.f7, .string y.f8, .slice Ay y.f9.length cy] 42)
  refine ⟨rfl, by decide, fun _ => ⟨_, rfl, fun j p hj => ?_⟩⟩
  have ea : ∀ q : Nat, (⟨W.heap.size, 0, none⟩ : Addr).add q = ⟨W.heap.size, q, none⟩ := by
    intro q
    unfold Addr.add
    by_cases h : q = 0
    · subst h; rfl
    · rw [if_neg h]; simp
  match j, hj with
  | 0, hj =>
    obtain rfl : x = p := Option.some.inj hj
    refine ⟨(SC x (.slice Ax x.f9.length cx)).toList, rfl, k42_mk _ x lx (Kd.C_below hx hw), fun i u hu => ?_⟩
    have hi : i < 10 := (List.getElem?_eq_some_iff.1 hu).1
    rw [ea, blk_cell hb]
    have hc : i = 0 ∨ i = 1 ∨ i = 2 ∨ i = 3 ∨ i = 4 ∨ i = 5 ∨ i = 6 ∨ i = 7 ∨ i = 8 ∨ i = 9 := by omega
    rcases hc with rfl | rfl | rfl | rfl | rfl | rfl | rfl | rfl | rfl | rfl <;> exact hu
  | 1, hj =>
    obtain rfl : y = p := Option.some.inj hj
    refine ⟨(SC y (.slice Ay y.f9.length cy)).toList, rfl, k42_mk _ y ly (Kd.C_below hy hw), fun i u hu => ?_⟩
    have hi : i < 10 := (List.getElem?_eq_some_iff.1 hu).1
    rw [ea, blk_cell hb]
    have hc : i = 0 ∨ i = 1 ∨ i = 2 ∨ i = 3 ∨ i = 4 ∨ i = 5 ∨ i = 6 ∨ i = 7 ∨ i = 8 ∨ i = 9 := by omega
    rcases hc with rfl | rfl | rfl | rfl | rfl | rfl | rfl | rfl | rfl | rfl <;> exact hu
  | j + 2, hj => simp at hj
set_option maxHeartbeats 16000000 in
set_option maxRecDepth 100000 in
theorem lines_calls (x y : S42) (Ax Ay : Option Addr) (cx cy : Nat) (s : ByteArray) (w : World) (hG : GL w) (hx : OkS x) (hy : OkS y) (hs : s.size ≤ 1048576)
    (rx : Kd.C (Kd.int .i64) w Ax x.f9.length x.f9) (lx : x.f9.length ≤ cx) (ry : Kd.C (Kd.int .i64) w Ay y.f9.length y.f9) (ly : y.f9.length ≤ cy) :
    Calls Tryd.prog 7 #[.agg (SC x (.slice Ax x.f9.length cx)), .agg (SC y (.slice Ay y.f9.length cy)), .string s] w fun e w' => e = .returned (.bool true) ∧ Below w.heap.size w w' := by
  have hu := Tryd.underlying42
  have HLX := Aside0.mk lx
  have HLY := Aside0.mk ly
  have hfx : x.f9.length ≤ 1048576 := by have := hx.sz; omega
  have hfy : y.f9.length ≤ 1048576 := by have := hy.sz; omega
  obtain ⟨bb, hbb⟩ := brief_f [x, y] (by simp) 2 400000001 (by omega)
  have HBB := Aside0.mk hbb
  have HX0 := Aside0.mk (show StepAt ((w.alloc (.cells (SC x (.slice Ax x.f9.length cx)) 42)).alloc (.cells (SC y (.slice Ay y.f9.length cy)) 42)) w.heap.size x (.slice Ax x.f9.length cx) from blk_below (blk_new w _) (below_alloc (Below.refl _ _) _))
  have HY0 := Aside0.mk (show StepAt ((w.alloc (.cells (SC x (.slice Ax x.f9.length cx)) 42)).alloc (.cells (SC y (.slice Ay y.f9.length cy)) 42)) (w.heap.size + 1) y (.slice Ay y.f9.length cy) from by have h := blk_new (w.alloc (.cells (SC x (.slice Ax x.f9.length cx)) 42)) (.cells (SC y (.slice Ay y.f9.length cy)) 42); rw [show (w.alloc (.cells (SC x (.slice Ax x.f9.length cx)) 42)).heap.size = w.heap.size + 1 by simp] at h; exact h)
  have HB0 := Aside0.mk (below_alloc (below_alloc (Below.refl w.heap.size w) (.cells (SC x (.slice Ax x.f9.length cx)) 42)) (.cells (SC y (.slice Ay y.f9.length cy)) 42))
  have HRX := Aside0.mk (Kd.C_below rx HB0.out)
  have HRY := Aside0.mk (Kd.C_below ry HB0.out)
  have HG0 := Aside0.mk (hG.below HB0.out)
  have HSX := Aside0.mk hfx
  have HOX := Aside0.mk hx
  have HOY := Aside0.mk hy
  have HSS := Aside0.mk hs
  have HBRIEF : Aside0 (Calls Tryd.prog 24 #[.slice (some ⟨w.heap.size + 2, 0, none⟩) 2 2, .int .i64 2] (((w.alloc (.cells (SC x (.slice Ax x.f9.length cx)) 42)).alloc (.cells (SC y (.slice Ay y.f9.length cy)) 42)).alloc (.cells #[.int .i64 x.f0, .int .i64 x.f1, .int .i64 x.f2, .int .i64 x.f3, .int .i64 x.f4, .int .i64 x.f5, .string x.f6, .int .i64 x.f7, .string x.f8, .slice Ax x.f9.length cx, .int .i64 y.f0, .int .i64 y.f1, .int .i64 y.f2, .int .i64 y.f3, .int .i64 y.f4, .int .i64 y.f5, .string y.f6, .int .i64 y.f7, .string y.f8, .slice Ay y.f9.length cy] 42)) fun e w' => e = .returned (.bool bb) ∧ Below (((w.alloc (.cells (SC x (.slice Ax x.f9.length cx)) 42)).alloc (.cells (SC y (.slice Ay y.f9.length cy)) 42)).alloc (.cells #[.int .i64 x.f0, .int .i64 x.f1, .int .i64 x.f2, .int .i64 x.f3, .int .i64 x.f4, .int .i64 x.f5, .string x.f6, .int .i64 x.f7, .string x.f8, .slice Ax x.f9.length cx, .int .i64 y.f0, .int .i64 y.f1, .int .i64 y.f2, .int .i64 y.f3, .int .i64 y.f4, .int .i64 y.f5, .string y.f6, .int .i64 y.f7, .string y.f8, .slice Ay y.f9.length cy] 42)).heap.size (((w.alloc (.cells (SC x (.slice Ax x.f9.length cx)) 42)).alloc (.cells (SC y (.slice Ay y.f9.length cy)) 42)).alloc (.cells #[.int .i64 x.f0, .int .i64 x.f1, .int .i64 x.f2, .int .i64 x.f3, .int .i64 x.f4, .int .i64 x.f5, .string x.f6, .int .i64 x.f7, .string x.f8, .slice Ax x.f9.length cx, .int .i64 y.f0, .int .i64 y.f1, .int .i64 y.f2, .int .i64 y.f3, .int .i64 y.f4, .int .i64 y.f5, .string y.f6, .int .i64 y.f7, .string y.f8, .slice Ay y.f9.length cy] 42)) w') :=
    ⟨by
      have h := scholiaplain_Brief.calls 400000001 _ 2 [x, y] 2 bb _ (two_steps ((w.alloc (.cells (SC x (.slice Ax x.f9.length cx)) 42)).alloc (.cells (SC y (.slice Ay y.f9.length cy)) 42)) x y Ax Ay cx cy HRX.out lx HRY.out ly) (by simp) HBB.out
      rw [show ((w.alloc (.cells (SC x (.slice Ax x.f9.length cx)) 42)).alloc (.cells (SC y (.slice Ay y.f9.length cy)) 42)).heap.size = w.heap.size + 2 by simp] at h
      exact h⟩
  have HBA := Aside0.mk (below_alloc (Below.refl ((w.alloc (.cells (SC x (.slice Ax x.f9.length cx)) 42)).alloc (.cells (SC y (.slice Ay y.f9.length cy)) 42)).heap.size ((w.alloc (.cells (SC x (.slice Ax x.f9.length cx)) 42)).alloc (.cells (SC y (.slice Ay y.f9.length cy)) 42))) (.cells #[.int .i64 x.f0, .int .i64 x.f1, .int .i64 x.f2, .int .i64 x.f3, .int .i64 x.f4, .int .i64 x.f5, .string x.f6, .int .i64 x.f7, .string x.f8, .slice Ax x.f9.length cx, .int .i64 y.f0, .int .i64 y.f1, .int .i64 y.f2, .int .i64 y.f3, .int .i64 y.f4, .int .i64 y.f5, .string y.f6, .int .i64 y.f7, .string y.f8, .slice Ay y.f9.length cy] 42))
  clear hbb rx ry hG hx hy hs lx ly hfx hfy
  obtain ⟨x0, x1, x2, x3, x4, x5, x6, x7, x8, x9, _⟩ := step_cells HX0.out
  obtain ⟨y0, y1, y2, y3, y4, y5, y6, y7, y8, y9, _⟩ := step_cells HY0.out
  go_enter Tryd.func7, Tryd.ntmps7
  go_wp2_with fail
  clear x0 x1 x2 x3 x4 x5 x6 x7 x8 x9 y0 y1 y2 y3 y4 y5 y6 y7 y8 y9
  refine HBRIEF.out.mono ?_
  rintro e w1 ⟨rfl, hb⟩
  have hba := HBA.out.trans (hb.mono HBA.out.size)
  have HX1 := Aside0.mk (show StepAt w1 w.heap.size x (.slice Ax x.f9.length cx) from blk_below HX0.out hba)
  have HY1 := Aside0.mk (show StepAt w1 (w.heap.size + 1) y (.slice Ay y.f9.length cy) from blk_below HY0.out hba)
  have HB1 := Aside0.mk (HB0.out.trans (hba.mono HB0.out.size))
  have HRX1 := Aside0.mk (Kd.C_below HRX.out hba)
  have HRY1 := Aside0.mk (Kd.C_below HRY.out hba)
  have HG1 := Aside0.mk (HG0.out.below hba)
  clear hb hba HX0 HY0 HB0 HRX HRY HG0 HBRIEF HBA
  cases bb with
  | false =>
    go_wp2_with fail
    refine (awake_calls w1 HG1.out).mono ?_
    rintro e w2 ⟨rfl, hb⟩
    have HB2 := Aside0.mk (HB1.out.trans (hb.mono HB1.out.size))
    clear hb
    go_wp2
    go_ret
    exact ⟨rfl, HB2.out⟩
  | true =>
  by_cases hlen : 4096 < s.size
  · have bl : decide ((4096 : Int) < (s.size : Int)) = true := decide_eq_true (by omega)
    clear hlen
    go_wp2_with fail
    refine (awake_calls w1 HG1.out).mono ?_
    rintro e w2 ⟨rfl, hb⟩
    have HB2 := Aside0.mk (HB1.out.trans (hb.mono HB1.out.size))
    clear hb
    go_wp2
    go_ret
    exact ⟨rfl, HB2.out⟩
  have bl : decide ((4096 : Int) < (s.size : Int)) = false := decide_eq_false (by omega)
  obtain ⟨⟨la, le⟩, hla⟩ : ∃ r, r = lineS x := ⟨_, rfl⟩
  obtain ⟨⟨r, rb⟩, hrr⟩ : ∃ q, q = readS s := ⟨_, rfl⟩
  have HLN := Aside0.mk (line_f x HOX.out 400000001 (by omega))
  have HRLN := Aside0.mk (rline_f x HOX.out 400000001 (by omega))
  have HRD := Aside0.mk (read_f s (by omega) 400000001 (by omega))
  have HRRD := Aside0.mk (rread_f s (by omega) 400000001 (by omega))
  rw [← hla] at HLN HRLN
  rw [← hrr] at HRD HRRD
  have hr9 : r.f9.length ≤ 40000001 := by
    have h1 := congrArg (·.2) hrr
    have h0 := congrArg (·.1) hrr
    simp only at h0 h1
    cases rb with
    | false =>
      have := readS_zero s h1.symm
      rw [← h0] at this
      rw [this]
      show 0 ≤ _
      omega
    | true =>
      have := (readS_fine s h1.symm).2.2
      rw [← h0] at this
      omega
  have HR9 := Aside0.mk hr9
  clear hla hrr hlen hr9
  obtain ⟨x0, x1, x2, x3, x4, x5, x6, x7, x8, x9, _⟩ := step_cells HX1.out
  go_wp2_with fail
  refine (line_calls 400000001 x Ax cx w1 la le HG1.out HRX1.out HLX.out HLN.out).mono ?_
  rintro e w2 ⟨rfl, hb⟩
  have HX2 := Aside0.mk (show StepAt w2 w.heap.size x (.slice Ax x.f9.length cx) from blk_below HX1.out hb)
  have HY2 := Aside0.mk (show StepAt w2 (w.heap.size + 1) y (.slice Ay y.f9.length cy) from blk_below HY1.out hb)
  have HB2 := Aside0.mk (HB1.out.trans (hb.mono HB1.out.size))
  have HRX2 := Aside0.mk (Kd.C_below HRX1.out hb)
  have HRY2 := Aside0.mk (Kd.C_below HRY1.out hb)
  have HG2 := Aside0.mk (HG1.out.below hb)
  clear HX1 HY1 HB1 HRX1 HRY1 HG1
  clear x0 x1 x2 x3 x4 x5 x6 x7 x8 x9
  obtain ⟨x0, x1, x2, x3, x4, x5, x6, x7, x8, x9, _⟩ := step_cells HX2.out
  go_wp2_with fail
  refine (rline_calls 400000001 x Ax cx w2 la le HRX2.out HLX.out HRLN.out).mono ?_
  rintro e w3 ⟨rfl, hb⟩
  have HX3 := Aside0.mk (show StepAt w3 w.heap.size x (.slice Ax x.f9.length cx) from blk_below HX2.out hb)
  have HY3 := Aside0.mk (show StepAt w3 (w.heap.size + 1) y (.slice Ay y.f9.length cy) from blk_below HY2.out hb)
  have HB3 := Aside0.mk (HB2.out.trans (hb.mono HB2.out.size))
  have HRX3 := Aside0.mk (Kd.C_below HRX2.out hb)
  have HRY3 := Aside0.mk (Kd.C_below HRY2.out hb)
  have HG3 := Aside0.mk (HG2.out.below hb)
  clear HX2 HY2 HB2 HRX2 HRY2 HG2
  clear x0 x1 x2 x3 x4 x5 x6 x7 x8 x9
  go_wp2_with fail
  refine (read_calls 400000001 s w3 r rb HG3.out (by have := HSS.out; omega) HRD.out).mono ?_
  rintro e w4 ⟨v1, rfl, hR1, hb⟩
  obtain ⟨A1, c1, rfl, hc1, hF1⟩ := Kd.R_V (base' := 0) hR1
  have HX4 := Aside0.mk (show StepAt w4 w.heap.size x (.slice Ax x.f9.length cx) from blk_below HX3.out hb)
  have HY4 := Aside0.mk (show StepAt w4 (w.heap.size + 1) y (.slice Ay y.f9.length cy) from blk_below HY3.out hb)
  have HB4 := Aside0.mk (HB3.out.trans (hb.mono HB3.out.size))
  have HRX4 := Aside0.mk (Kd.C_below HRX3.out hb)
  have HRY4 := Aside0.mk (Kd.C_below HRY3.out hb)
  have HG4 := Aside0.mk (HG3.out.below hb)
  clear HX3 HY3 HB3 HRX3 HRY3 HG3
  have HC1 := Aside0.mk (And.intro (Kd.F_now hF1) hc1)
  clear hR1 hF1 hc1
  have HZ4 := Aside0.mk (show StepAt (w4.alloc (.cells (SC z42 (.slice none 0 0)) 42)) w4.heap.size z42 (.slice none 0 0) from blk_new w4 _)
  have HA4 := Aside0.mk (below_alloc (Below.refl w4.heap.size w4) (.cells (SC z42 (.slice none 0 0)) 42))
  go_wp2_with (first | ((with_reducible refine gate_store (t := 42) (p := 11) rfl ?_); refine store_event (t := 42) (p := 11) (v := .tmp 39) (w1 := putS (w4.alloc (.cells (SC z42 (.slice none 0 0)) 42)) w4.heap.size r (.slice A1 r.f9.length c1)) rfl rfl rfl (store_step HZ4.out r (.slice A1 r.f9.length c1) rfl _ _ (.tmp 11) (.tmp 39) rfl rfl rfl) ?_; intro w5 hw5; have HC5 := Aside0.mk (show StepAt w5 w4.heap.size r (.slice A1 r.f9.length c1) by rw [hw5]; exact putS_at HZ4.out _ _); have hb : Below w4.heap.size w4 w5 := (by rw [hw5]; exact putS_below HA4.out (Nat.le_refl _) _ _); clear hw5))
  have HX5 := Aside0.mk (show StepAt w5 w.heap.size x (.slice Ax x.f9.length cx) from blk_below HX4.out hb)
  have HY5 := Aside0.mk (show StepAt w5 (w.heap.size + 1) y (.slice Ay y.f9.length cy) from blk_below HY4.out hb)
  have HB5 := Aside0.mk (HB4.out.trans (hb.mono HB4.out.size))
  have HRX5 := Aside0.mk (Kd.C_below HRX4.out hb)
  have HRY5 := Aside0.mk (Kd.C_below HRY4.out hb)
  have HG5 := Aside0.mk (HG4.out.below hb)
  clear HX4 HY4 HB4 HRX4 HRY4 HG4
  have HC15 := Aside0.mk (And.intro (Kd.C_below HC1.out.1 hb) HC1.out.2)
  clear hb HC1 HZ4 HA4
  refine (rread_calls 400000001 s w5 r rb HRRD.out).mono ?_
  rintro e w6 ⟨v2, rfl, hR2, hb⟩
  obtain ⟨A2, c2, rfl, hc2, hF2⟩ := Kd.R_V (base' := 0) hR2
  have HX6 := Aside0.mk (show StepAt w6 w.heap.size x (.slice Ax x.f9.length cx) from blk_below HX5.out hb)
  have HY6 := Aside0.mk (show StepAt w6 (w.heap.size + 1) y (.slice Ay y.f9.length cy) from blk_below HY5.out hb)
  have HB6 := Aside0.mk (HB5.out.trans (hb.mono HB5.out.size))
  have HRX6 := Aside0.mk (Kd.C_below HRX5.out hb)
  have HRY6 := Aside0.mk (Kd.C_below HRY5.out hb)
  have HG6 := Aside0.mk (HG5.out.below hb)
  clear HX5 HY5 HB5 HRX5 HRY5 HG5
  have HD6 := Aside0.mk (And.intro (Kd.F_now hF2) hc2)
  have HC16 := Aside0.mk (And.intro (Kd.C_below HC15.out.1 hb) HC15.out.2)
  have HC6 := Aside0.mk (show StepAt w6 w4.heap.size r (.slice A1 r.f9.length c1) from blk_below HC5.out hb)
  clear hR2 hF2 hc2 hb HC15 HC5
  have HZ6 := Aside0.mk (show StepAt (w6.alloc (.cells (SC z42 (.slice none 0 0)) 42)) w6.heap.size z42 (.slice none 0 0) from blk_new w6 _)
  have HA6 := Aside0.mk (below_alloc (Below.refl w6.heap.size w6) (.cells (SC z42 (.slice none 0 0)) 42))
  go_wp2_with (first | ((with_reducible refine gate_store (t := 42) (p := 13) rfl ?_); refine store_event (t := 42) (p := 13) (v := .tmp 44) (w1 := putS (w6.alloc (.cells (SC z42 (.slice none 0 0)) 42)) w6.heap.size r (.slice A2 r.f9.length c2)) rfl rfl rfl (store_step HZ6.out r (.slice A2 r.f9.length c2) rfl _ _ (.tmp 13) (.tmp 44) rfl rfl rfl) ?_; intro w7 hw7; have HD7 := Aside0.mk (show StepAt w7 w6.heap.size r (.slice A2 r.f9.length c2) by rw [hw7]; exact putS_at HZ6.out _ _); have hb : Below w6.heap.size w6 w7 := (by rw [hw7]; exact putS_below HA6.out (Nat.le_refl _) _ _); clear hw7))
  have HX7 := Aside0.mk (show StepAt w7 w.heap.size x (.slice Ax x.f9.length cx) from blk_below HX6.out hb)
  have HY7 := Aside0.mk (show StepAt w7 (w.heap.size + 1) y (.slice Ay y.f9.length cy) from blk_below HY6.out hb)
  have HB7 := Aside0.mk (HB6.out.trans (hb.mono HB6.out.size))
  have HRX7 := Aside0.mk (Kd.C_below HRX6.out hb)
  have HRY7 := Aside0.mk (Kd.C_below HRY6.out hb)
  have HG7 := Aside0.mk (HG6.out.below hb)
  clear HX6 HY6 HB6 HRX6 HRY6 HG6
  have HC17 := Aside0.mk (And.intro (Kd.C_below HC16.out.1 hb) HC16.out.2)
  have HD17 := Aside0.mk (And.intro (Kd.C_below HD6.out.1 hb) HD6.out.2)
  have HC7 := Aside0.mk (show StepAt w7 w4.heap.size r (.slice A1 r.f9.length c1) from blk_below HC6.out hb)
  clear hb HC16 HD6 HC6 HZ6 HA6 HLN HRLN HRD HRRD
  obtain ⟨sb, hsb⟩ : ∃ b, b = sameB x y := ⟨_, rfl⟩
  have hself : sameB r r = true := (sameB_iff r r).2 rfl
  have hself2 : sameB x x = true := (sameB_iff x x).2 rfl
  have HSD : Aside0 (∀ W : World, Below w7.heap.size w7 W ∧ W.cell? ⟨w.heap.size, 0, none⟩ = some (.int .i64 x.f0) ∧ W.cell? ⟨w.heap.size, 1, none⟩ = some (.int .i64 x.f1) ∧ W.cell? ⟨w.heap.size, 2, none⟩ = some (.int .i64 x.f2) ∧ W.cell? ⟨w.heap.size, 3, none⟩ = some (.int .i64 x.f3) ∧ W.cell? ⟨w.heap.size, 4, none⟩ = some (.int .i64 x.f4) ∧ W.cell? ⟨w.heap.size, 5, none⟩ = some (.int .i64 x.f5) ∧ W.cell? ⟨w.heap.size, 6, none⟩ = some (.string x.f6) ∧ W.cell? ⟨w.heap.size, 7, none⟩ = some (.int .i64 x.f7) ∧ W.cell? ⟨w.heap.size, 8, none⟩ = some (.string x.f8) ∧ W.cell? ⟨w.heap.size, 9, none⟩ = some (.slice Ax x.f9.length cx) ∧ W.cell? ⟨w.heap.size + 1, 0, none⟩ = some (.int .i64 y.f0) ∧ W.cell? ⟨w.heap.size + 1, 1, none⟩ = some (.int .i64 y.f1) ∧ W.cell? ⟨w.heap.size + 1, 2, none⟩ = some (.int .i64 y.f2) ∧ W.cell? ⟨w.heap.size + 1, 3, none⟩ = some (.int .i64 y.f3) ∧ W.cell? ⟨w.heap.size + 1, 4, none⟩ = some (.int .i64 y.f4) ∧ W.cell? ⟨w.heap.size + 1, 5, none⟩ = some (.int .i64 y.f5) ∧ W.cell? ⟨w.heap.size + 1, 6, none⟩ = some (.string y.f6) ∧ W.cell? ⟨w.heap.size + 1, 7, none⟩ = some (.int .i64 y.f7) ∧ W.cell? ⟨w.heap.size + 1, 8, none⟩ = some (.string y.f8) ∧ W.cell? ⟨w.heap.size + 1, 9, none⟩ = some (.slice Ay y.f9.length cy) ∧ W.cell? ⟨w4.heap.size, 0, none⟩ = some (.int .i64 r.f0) ∧ W.cell? ⟨w4.heap.size, 1, none⟩ = some (.int .i64 r.f1) ∧ W.cell? ⟨w4.heap.size, 2, none⟩ = some (.int .i64 r.f2) ∧ W.cell? ⟨w4.heap.size, 3, none⟩ = some (.int .i64 r.f3) ∧ W.cell? ⟨w4.heap.size, 4, none⟩ = some (.int .i64 r.f4) ∧ W.cell? ⟨w4.heap.size, 5, none⟩ = some (.int .i64 r.f5) ∧ W.cell? ⟨w4.heap.size, 6, none⟩ = some (.string r.f6) ∧ W.cell? ⟨w4.heap.size, 7, none⟩ = some (.int .i64 r.f7) ∧ W.cell? ⟨w4.heap.size, 8, none⟩ = some (.string r.f8) ∧ W.cell? ⟨w4.heap.size, 9, none⟩ = some (.slice A1 r.f9.length c1) ∧ W.cell? ⟨w6.heap.size, 0, none⟩ = some (.int .i64 r.f0) ∧ W.cell? ⟨w6.heap.size, 1, none⟩ = some (.int .i64 r.f1) ∧ W.cell? ⟨w6.heap.size, 2, none⟩ = some (.int .i64 r.f2) ∧ W.cell? ⟨w6.heap.size, 3, none⟩ = some (.int .i64 r.f3) ∧ W.cell? ⟨w6.heap.size, 4, none⟩ = some (.int .i64 r.f4) ∧ W.cell? ⟨w6.heap.size, 5, none⟩ = some (.int .i64 r.f5) ∧ W.cell? ⟨w6.heap.size, 6, none⟩ = some (.string r.f6) ∧ W.cell? ⟨w6.heap.size, 7, none⟩ = some (.int .i64 r.f7) ∧ W.cell? ⟨w6.heap.size, 8, none⟩ = some (.string r.f8) ∧ W.cell? ⟨w6.heap.size, 9, none⟩ = some (.slice A2 r.f9.length c2) → Calls Tryd.prog 29 #[.agg #[.int .i64 r.f0, .int .i64 r.f1, .int .i64 r.f2, .int .i64 r.f3, .int .i64 r.f4, .int .i64 r.f5, .string r.f6, .int .i64 r.f7, .string r.f8, .slice A1 r.f9.length c1], .agg #[.int .i64 r.f0, .int .i64 r.f1, .int .i64 r.f2, .int .i64 r.f3, .int .i64 r.f4, .int .i64 r.f5, .string r.f6, .int .i64 r.f7, .string r.f8, .slice A2 r.f9.length c2]] W fun e w' => e = .returned (.bool true) ∧ Below W.heap.size W w') := ⟨fun W hS => scholiaref29_Same.calls 400000001 r.f0 r.f1 r.f2 r.f3 r.f4 r.f5 r.f6 r.f7 r.f8 A1 c1 r.f9 r.f0 r.f1 r.f2 r.f3 r.f4 r.f5 r.f6 r.f7 r.f8 A2 c2 r.f9 true W (Kd.C_below HC17.out.1 hS.1) HC17.out.2 (Kd.C_below HD17.out.1 hS.1) HD17.out.2 (by have h := rsame_f r r HR9.out 400000001 (by omega); rw [hself] at h; exact h)⟩
  have HSR : Aside0 (∀ W : World, Below w7.heap.size w7 W ∧ W.cell? ⟨w.heap.size, 0, none⟩ = some (.int .i64 x.f0) ∧ W.cell? ⟨w.heap.size, 1, none⟩ = some (.int .i64 x.f1) ∧ W.cell? ⟨w.heap.size, 2, none⟩ = some (.int .i64 x.f2) ∧ W.cell? ⟨w.heap.size, 3, none⟩ = some (.int .i64 x.f3) ∧ W.cell? ⟨w.heap.size, 4, none⟩ = some (.int .i64 x.f4) ∧ W.cell? ⟨w.heap.size, 5, none⟩ = some (.int .i64 x.f5) ∧ W.cell? ⟨w.heap.size, 6, none⟩ = some (.string x.f6) ∧ W.cell? ⟨w.heap.size, 7, none⟩ = some (.int .i64 x.f7) ∧ W.cell? ⟨w.heap.size, 8, none⟩ = some (.string x.f8) ∧ W.cell? ⟨w.heap.size, 9, none⟩ = some (.slice Ax x.f9.length cx) ∧ W.cell? ⟨w.heap.size + 1, 0, none⟩ = some (.int .i64 y.f0) ∧ W.cell? ⟨w.heap.size + 1, 1, none⟩ = some (.int .i64 y.f1) ∧ W.cell? ⟨w.heap.size + 1, 2, none⟩ = some (.int .i64 y.f2) ∧ W.cell? ⟨w.heap.size + 1, 3, none⟩ = some (.int .i64 y.f3) ∧ W.cell? ⟨w.heap.size + 1, 4, none⟩ = some (.int .i64 y.f4) ∧ W.cell? ⟨w.heap.size + 1, 5, none⟩ = some (.int .i64 y.f5) ∧ W.cell? ⟨w.heap.size + 1, 6, none⟩ = some (.string y.f6) ∧ W.cell? ⟨w.heap.size + 1, 7, none⟩ = some (.int .i64 y.f7) ∧ W.cell? ⟨w.heap.size + 1, 8, none⟩ = some (.string y.f8) ∧ W.cell? ⟨w.heap.size + 1, 9, none⟩ = some (.slice Ay y.f9.length cy) ∧ W.cell? ⟨w4.heap.size, 0, none⟩ = some (.int .i64 r.f0) ∧ W.cell? ⟨w4.heap.size, 1, none⟩ = some (.int .i64 r.f1) ∧ W.cell? ⟨w4.heap.size, 2, none⟩ = some (.int .i64 r.f2) ∧ W.cell? ⟨w4.heap.size, 3, none⟩ = some (.int .i64 r.f3) ∧ W.cell? ⟨w4.heap.size, 4, none⟩ = some (.int .i64 r.f4) ∧ W.cell? ⟨w4.heap.size, 5, none⟩ = some (.int .i64 r.f5) ∧ W.cell? ⟨w4.heap.size, 6, none⟩ = some (.string r.f6) ∧ W.cell? ⟨w4.heap.size, 7, none⟩ = some (.int .i64 r.f7) ∧ W.cell? ⟨w4.heap.size, 8, none⟩ = some (.string r.f8) ∧ W.cell? ⟨w4.heap.size, 9, none⟩ = some (.slice A1 r.f9.length c1) ∧ W.cell? ⟨w6.heap.size, 0, none⟩ = some (.int .i64 r.f0) ∧ W.cell? ⟨w6.heap.size, 1, none⟩ = some (.int .i64 r.f1) ∧ W.cell? ⟨w6.heap.size, 2, none⟩ = some (.int .i64 r.f2) ∧ W.cell? ⟨w6.heap.size, 3, none⟩ = some (.int .i64 r.f3) ∧ W.cell? ⟨w6.heap.size, 4, none⟩ = some (.int .i64 r.f4) ∧ W.cell? ⟨w6.heap.size, 5, none⟩ = some (.int .i64 r.f5) ∧ W.cell? ⟨w6.heap.size, 6, none⟩ = some (.string r.f6) ∧ W.cell? ⟨w6.heap.size, 7, none⟩ = some (.int .i64 r.f7) ∧ W.cell? ⟨w6.heap.size, 8, none⟩ = some (.string r.f8) ∧ W.cell? ⟨w6.heap.size, 9, none⟩ = some (.slice A2 r.f9.length c2) → Calls Tryd.prog 29 #[.agg #[.int .i64 x.f0, .int .i64 x.f1, .int .i64 x.f2, .int .i64 x.f3, .int .i64 x.f4, .int .i64 x.f5, .string x.f6, .int .i64 x.f7, .string x.f8, .slice Ax x.f9.length cx], .agg #[.int .i64 y.f0, .int .i64 y.f1, .int .i64 y.f2, .int .i64 y.f3, .int .i64 y.f4, .int .i64 y.f5, .string y.f6, .int .i64 y.f7, .string y.f8, .slice Ay y.f9.length cy]] W fun e w' => e = .returned (.bool sb) ∧ Below W.heap.size W w') := ⟨fun W hS => scholiaref29_Same.calls 400000001 x.f0 x.f1 x.f2 x.f3 x.f4 x.f5 x.f6 x.f7 x.f8 Ax cx x.f9 y.f0 y.f1 y.f2 y.f3 y.f4 y.f5 y.f6 y.f7 y.f8 Ay cy y.f9 sb W (Kd.C_below HRX7.out hS.1) HLX.out (Kd.C_below HRY7.out hS.1) HLY.out (by have h := rsame_f x y (by have := HSX.out; omega) 400000001 (by omega); rw [← hsb] at h; exact h)⟩
  have HSS2 : Aside0 (∀ W : World, Below w7.heap.size w7 W ∧ W.cell? ⟨w.heap.size, 0, none⟩ = some (.int .i64 x.f0) ∧ W.cell? ⟨w.heap.size, 1, none⟩ = some (.int .i64 x.f1) ∧ W.cell? ⟨w.heap.size, 2, none⟩ = some (.int .i64 x.f2) ∧ W.cell? ⟨w.heap.size, 3, none⟩ = some (.int .i64 x.f3) ∧ W.cell? ⟨w.heap.size, 4, none⟩ = some (.int .i64 x.f4) ∧ W.cell? ⟨w.heap.size, 5, none⟩ = some (.int .i64 x.f5) ∧ W.cell? ⟨w.heap.size, 6, none⟩ = some (.string x.f6) ∧ W.cell? ⟨w.heap.size, 7, none⟩ = some (.int .i64 x.f7) ∧ W.cell? ⟨w.heap.size, 8, none⟩ = some (.string x.f8) ∧ W.cell? ⟨w.heap.size, 9, none⟩ = some (.slice Ax x.f9.length cx) ∧ W.cell? ⟨w.heap.size + 1, 0, none⟩ = some (.int .i64 y.f0) ∧ W.cell? ⟨w.heap.size + 1, 1, none⟩ = some (.int .i64 y.f1) ∧ W.cell? ⟨w.heap.size + 1, 2, none⟩ = some (.int .i64 y.f2) ∧ W.cell? ⟨w.heap.size + 1, 3, none⟩ = some (.int .i64 y.f3) ∧ W.cell? ⟨w.heap.size + 1, 4, none⟩ = some (.int .i64 y.f4) ∧ W.cell? ⟨w.heap.size + 1, 5, none⟩ = some (.int .i64 y.f5) ∧ W.cell? ⟨w.heap.size + 1, 6, none⟩ = some (.string y.f6) ∧ W.cell? ⟨w.heap.size + 1, 7, none⟩ = some (.int .i64 y.f7) ∧ W.cell? ⟨w.heap.size + 1, 8, none⟩ = some (.string y.f8) ∧ W.cell? ⟨w.heap.size + 1, 9, none⟩ = some (.slice Ay y.f9.length cy) ∧ W.cell? ⟨w4.heap.size, 0, none⟩ = some (.int .i64 r.f0) ∧ W.cell? ⟨w4.heap.size, 1, none⟩ = some (.int .i64 r.f1) ∧ W.cell? ⟨w4.heap.size, 2, none⟩ = some (.int .i64 r.f2) ∧ W.cell? ⟨w4.heap.size, 3, none⟩ = some (.int .i64 r.f3) ∧ W.cell? ⟨w4.heap.size, 4, none⟩ = some (.int .i64 r.f4) ∧ W.cell? ⟨w4.heap.size, 5, none⟩ = some (.int .i64 r.f5) ∧ W.cell? ⟨w4.heap.size, 6, none⟩ = some (.string r.f6) ∧ W.cell? ⟨w4.heap.size, 7, none⟩ = some (.int .i64 r.f7) ∧ W.cell? ⟨w4.heap.size, 8, none⟩ = some (.string r.f8) ∧ W.cell? ⟨w4.heap.size, 9, none⟩ = some (.slice A1 r.f9.length c1) ∧ W.cell? ⟨w6.heap.size, 0, none⟩ = some (.int .i64 r.f0) ∧ W.cell? ⟨w6.heap.size, 1, none⟩ = some (.int .i64 r.f1) ∧ W.cell? ⟨w6.heap.size, 2, none⟩ = some (.int .i64 r.f2) ∧ W.cell? ⟨w6.heap.size, 3, none⟩ = some (.int .i64 r.f3) ∧ W.cell? ⟨w6.heap.size, 4, none⟩ = some (.int .i64 r.f4) ∧ W.cell? ⟨w6.heap.size, 5, none⟩ = some (.int .i64 r.f5) ∧ W.cell? ⟨w6.heap.size, 6, none⟩ = some (.string r.f6) ∧ W.cell? ⟨w6.heap.size, 7, none⟩ = some (.int .i64 r.f7) ∧ W.cell? ⟨w6.heap.size, 8, none⟩ = some (.string r.f8) ∧ W.cell? ⟨w6.heap.size, 9, none⟩ = some (.slice A2 r.f9.length c2) → Calls Tryd.prog 30 #[.agg #[.int .i64 x.f0, .int .i64 x.f1, .int .i64 x.f2, .int .i64 x.f3, .int .i64 x.f4, .int .i64 x.f5, .string x.f6, .int .i64 x.f7, .string x.f8, .slice Ax x.f9.length cx], .agg #[.int .i64 y.f0, .int .i64 y.f1, .int .i64 y.f2, .int .i64 y.f3, .int .i64 y.f4, .int .i64 y.f5, .string y.f6, .int .i64 y.f7, .string y.f8, .slice Ay y.f9.length cy]] W fun e w' => e = .returned (.bool sb) ∧ Below W.heap.size W w') := ⟨fun W hS => script_Same.calls 400000001 x.f0 x.f1 x.f2 x.f3 x.f4 x.f5 x.f6 x.f7 x.f8 Ax cx x.f9 y.f0 y.f1 y.f2 y.f3 y.f4 y.f5 y.f6 y.f7 y.f8 Ay cy y.f9 sb W (Kd.C_below HRX7.out hS.1) HLX.out (Kd.C_below HRY7.out hS.1) HLY.out (by have h := same_f x y (by have := HSX.out; omega) 400000001 (by omega); rw [← hsb] at h; exact h)⟩
  have HXX : Aside0 (∀ W : World, Below w7.heap.size w7 W ∧ W.cell? ⟨w.heap.size, 0, none⟩ = some (.int .i64 x.f0) ∧ W.cell? ⟨w.heap.size, 1, none⟩ = some (.int .i64 x.f1) ∧ W.cell? ⟨w.heap.size, 2, none⟩ = some (.int .i64 x.f2) ∧ W.cell? ⟨w.heap.size, 3, none⟩ = some (.int .i64 x.f3) ∧ W.cell? ⟨w.heap.size, 4, none⟩ = some (.int .i64 x.f4) ∧ W.cell? ⟨w.heap.size, 5, none⟩ = some (.int .i64 x.f5) ∧ W.cell? ⟨w.heap.size, 6, none⟩ = some (.string x.f6) ∧ W.cell? ⟨w.heap.size, 7, none⟩ = some (.int .i64 x.f7) ∧ W.cell? ⟨w.heap.size, 8, none⟩ = some (.string x.f8) ∧ W.cell? ⟨w.heap.size, 9, none⟩ = some (.slice Ax x.f9.length cx) ∧ W.cell? ⟨w.heap.size + 1, 0, none⟩ = some (.int .i64 y.f0) ∧ W.cell? ⟨w.heap.size + 1, 1, none⟩ = some (.int .i64 y.f1) ∧ W.cell? ⟨w.heap.size + 1, 2, none⟩ = some (.int .i64 y.f2) ∧ W.cell? ⟨w.heap.size + 1, 3, none⟩ = some (.int .i64 y.f3) ∧ W.cell? ⟨w.heap.size + 1, 4, none⟩ = some (.int .i64 y.f4) ∧ W.cell? ⟨w.heap.size + 1, 5, none⟩ = some (.int .i64 y.f5) ∧ W.cell? ⟨w.heap.size + 1, 6, none⟩ = some (.string y.f6) ∧ W.cell? ⟨w.heap.size + 1, 7, none⟩ = some (.int .i64 y.f7) ∧ W.cell? ⟨w.heap.size + 1, 8, none⟩ = some (.string y.f8) ∧ W.cell? ⟨w.heap.size + 1, 9, none⟩ = some (.slice Ay y.f9.length cy) ∧ W.cell? ⟨w4.heap.size, 0, none⟩ = some (.int .i64 r.f0) ∧ W.cell? ⟨w4.heap.size, 1, none⟩ = some (.int .i64 r.f1) ∧ W.cell? ⟨w4.heap.size, 2, none⟩ = some (.int .i64 r.f2) ∧ W.cell? ⟨w4.heap.size, 3, none⟩ = some (.int .i64 r.f3) ∧ W.cell? ⟨w4.heap.size, 4, none⟩ = some (.int .i64 r.f4) ∧ W.cell? ⟨w4.heap.size, 5, none⟩ = some (.int .i64 r.f5) ∧ W.cell? ⟨w4.heap.size, 6, none⟩ = some (.string r.f6) ∧ W.cell? ⟨w4.heap.size, 7, none⟩ = some (.int .i64 r.f7) ∧ W.cell? ⟨w4.heap.size, 8, none⟩ = some (.string r.f8) ∧ W.cell? ⟨w4.heap.size, 9, none⟩ = some (.slice A1 r.f9.length c1) ∧ W.cell? ⟨w6.heap.size, 0, none⟩ = some (.int .i64 r.f0) ∧ W.cell? ⟨w6.heap.size, 1, none⟩ = some (.int .i64 r.f1) ∧ W.cell? ⟨w6.heap.size, 2, none⟩ = some (.int .i64 r.f2) ∧ W.cell? ⟨w6.heap.size, 3, none⟩ = some (.int .i64 r.f3) ∧ W.cell? ⟨w6.heap.size, 4, none⟩ = some (.int .i64 r.f4) ∧ W.cell? ⟨w6.heap.size, 5, none⟩ = some (.int .i64 r.f5) ∧ W.cell? ⟨w6.heap.size, 6, none⟩ = some (.string r.f6) ∧ W.cell? ⟨w6.heap.size, 7, none⟩ = some (.int .i64 r.f7) ∧ W.cell? ⟨w6.heap.size, 8, none⟩ = some (.string r.f8) ∧ W.cell? ⟨w6.heap.size, 9, none⟩ = some (.slice A2 r.f9.length c2) → Calls Tryd.prog 30 #[.agg #[.int .i64 x.f0, .int .i64 x.f1, .int .i64 x.f2, .int .i64 x.f3, .int .i64 x.f4, .int .i64 x.f5, .string x.f6, .int .i64 x.f7, .string x.f8, .slice Ax x.f9.length cx], .agg #[.int .i64 x.f0, .int .i64 x.f1, .int .i64 x.f2, .int .i64 x.f3, .int .i64 x.f4, .int .i64 x.f5, .string x.f6, .int .i64 x.f7, .string x.f8, .slice Ax x.f9.length cx]] W fun e w' => e = .returned (.bool true) ∧ Below W.heap.size W w') := ⟨fun W hS => script_Same.calls 400000001 x.f0 x.f1 x.f2 x.f3 x.f4 x.f5 x.f6 x.f7 x.f8 Ax cx x.f9 x.f0 x.f1 x.f2 x.f3 x.f4 x.f5 x.f6 x.f7 x.f8 Ax cx x.f9 true W (Kd.C_below HRX7.out hS.1) HLX.out (Kd.C_below HRX7.out hS.1) HLX.out (by have h := same_f x x (by have := HSX.out; omega) 400000001 (by omega); rw [hself2] at h; exact h)⟩
  have HAW : Aside0 (∀ W : World, Below w7.heap.size w7 W ∧ W.cell? ⟨w.heap.size, 0, none⟩ = some (.int .i64 x.f0) ∧ W.cell? ⟨w.heap.size, 1, none⟩ = some (.int .i64 x.f1) ∧ W.cell? ⟨w.heap.size, 2, none⟩ = some (.int .i64 x.f2) ∧ W.cell? ⟨w.heap.size, 3, none⟩ = some (.int .i64 x.f3) ∧ W.cell? ⟨w.heap.size, 4, none⟩ = some (.int .i64 x.f4) ∧ W.cell? ⟨w.heap.size, 5, none⟩ = some (.int .i64 x.f5) ∧ W.cell? ⟨w.heap.size, 6, none⟩ = some (.string x.f6) ∧ W.cell? ⟨w.heap.size, 7, none⟩ = some (.int .i64 x.f7) ∧ W.cell? ⟨w.heap.size, 8, none⟩ = some (.string x.f8) ∧ W.cell? ⟨w.heap.size, 9, none⟩ = some (.slice Ax x.f9.length cx) ∧ W.cell? ⟨w.heap.size + 1, 0, none⟩ = some (.int .i64 y.f0) ∧ W.cell? ⟨w.heap.size + 1, 1, none⟩ = some (.int .i64 y.f1) ∧ W.cell? ⟨w.heap.size + 1, 2, none⟩ = some (.int .i64 y.f2) ∧ W.cell? ⟨w.heap.size + 1, 3, none⟩ = some (.int .i64 y.f3) ∧ W.cell? ⟨w.heap.size + 1, 4, none⟩ = some (.int .i64 y.f4) ∧ W.cell? ⟨w.heap.size + 1, 5, none⟩ = some (.int .i64 y.f5) ∧ W.cell? ⟨w.heap.size + 1, 6, none⟩ = some (.string y.f6) ∧ W.cell? ⟨w.heap.size + 1, 7, none⟩ = some (.int .i64 y.f7) ∧ W.cell? ⟨w.heap.size + 1, 8, none⟩ = some (.string y.f8) ∧ W.cell? ⟨w.heap.size + 1, 9, none⟩ = some (.slice Ay y.f9.length cy) ∧ W.cell? ⟨w4.heap.size, 0, none⟩ = some (.int .i64 r.f0) ∧ W.cell? ⟨w4.heap.size, 1, none⟩ = some (.int .i64 r.f1) ∧ W.cell? ⟨w4.heap.size, 2, none⟩ = some (.int .i64 r.f2) ∧ W.cell? ⟨w4.heap.size, 3, none⟩ = some (.int .i64 r.f3) ∧ W.cell? ⟨w4.heap.size, 4, none⟩ = some (.int .i64 r.f4) ∧ W.cell? ⟨w4.heap.size, 5, none⟩ = some (.int .i64 r.f5) ∧ W.cell? ⟨w4.heap.size, 6, none⟩ = some (.string r.f6) ∧ W.cell? ⟨w4.heap.size, 7, none⟩ = some (.int .i64 r.f7) ∧ W.cell? ⟨w4.heap.size, 8, none⟩ = some (.string r.f8) ∧ W.cell? ⟨w4.heap.size, 9, none⟩ = some (.slice A1 r.f9.length c1) ∧ W.cell? ⟨w6.heap.size, 0, none⟩ = some (.int .i64 r.f0) ∧ W.cell? ⟨w6.heap.size, 1, none⟩ = some (.int .i64 r.f1) ∧ W.cell? ⟨w6.heap.size, 2, none⟩ = some (.int .i64 r.f2) ∧ W.cell? ⟨w6.heap.size, 3, none⟩ = some (.int .i64 r.f3) ∧ W.cell? ⟨w6.heap.size, 4, none⟩ = some (.int .i64 r.f4) ∧ W.cell? ⟨w6.heap.size, 5, none⟩ = some (.int .i64 r.f5) ∧ W.cell? ⟨w6.heap.size, 6, none⟩ = some (.string r.f6) ∧ W.cell? ⟨w6.heap.size, 7, none⟩ = some (.int .i64 r.f7) ∧ W.cell? ⟨w6.heap.size, 8, none⟩ = some (.string r.f8) ∧ W.cell? ⟨w6.heap.size, 9, none⟩ = some (.slice A2 r.f9.length c2) → Calls Tryd.prog 19 #[] W fun e w' => e = .returned (.bool true) ∧ Below W.heap.size W w') := ⟨fun W hS => awake_calls W (HG7.out.below hS.1)⟩
  have KEEP := Aside0.mk (show ∀ W1 W2 : World, Below W1.heap.size W1 W2 → (Below w7.heap.size w7 W1 ∧ W1.cell? ⟨w.heap.size, 0, none⟩ = some (.int .i64 x.f0) ∧ W1.cell? ⟨w.heap.size, 1, none⟩ = some (.int .i64 x.f1) ∧ W1.cell? ⟨w.heap.size, 2, none⟩ = some (.int .i64 x.f2) ∧ W1.cell? ⟨w.heap.size, 3, none⟩ = some (.int .i64 x.f3) ∧ W1.cell? ⟨w.heap.size, 4, none⟩ = some (.int .i64 x.f4) ∧ W1.cell? ⟨w.heap.size, 5, none⟩ = some (.int .i64 x.f5) ∧ W1.cell? ⟨w.heap.size, 6, none⟩ = some (.string x.f6) ∧ W1.cell? ⟨w.heap.size, 7, none⟩ = some (.int .i64 x.f7) ∧ W1.cell? ⟨w.heap.size, 8, none⟩ = some (.string x.f8) ∧ W1.cell? ⟨w.heap.size, 9, none⟩ = some (.slice Ax x.f9.length cx) ∧ W1.cell? ⟨w.heap.size + 1, 0, none⟩ = some (.int .i64 y.f0) ∧ W1.cell? ⟨w.heap.size + 1, 1, none⟩ = some (.int .i64 y.f1) ∧ W1.cell? ⟨w.heap.size + 1, 2, none⟩ = some (.int .i64 y.f2) ∧ W1.cell? ⟨w.heap.size + 1, 3, none⟩ = some (.int .i64 y.f3) ∧ W1.cell? ⟨w.heap.size + 1, 4, none⟩ = some (.int .i64 y.f4) ∧ W1.cell? ⟨w.heap.size + 1, 5, none⟩ = some (.int .i64 y.f5) ∧ W1.cell? ⟨w.heap.size + 1, 6, none⟩ = some (.string y.f6) ∧ W1.cell? ⟨w.heap.size + 1, 7, none⟩ = some (.int .i64 y.f7) ∧ W1.cell? ⟨w.heap.size + 1, 8, none⟩ = some (.string y.f8) ∧ W1.cell? ⟨w.heap.size + 1, 9, none⟩ = some (.slice Ay y.f9.length cy) ∧ W1.cell? ⟨w4.heap.size, 0, none⟩ = some (.int .i64 r.f0) ∧ W1.cell? ⟨w4.heap.size, 1, none⟩ = some (.int .i64 r.f1) ∧ W1.cell? ⟨w4.heap.size, 2, none⟩ = some (.int .i64 r.f2) ∧ W1.cell? ⟨w4.heap.size, 3, none⟩ = some (.int .i64 r.f3) ∧ W1.cell? ⟨w4.heap.size, 4, none⟩ = some (.int .i64 r.f4) ∧ W1.cell? ⟨w4.heap.size, 5, none⟩ = some (.int .i64 r.f5) ∧ W1.cell? ⟨w4.heap.size, 6, none⟩ = some (.string r.f6) ∧ W1.cell? ⟨w4.heap.size, 7, none⟩ = some (.int .i64 r.f7) ∧ W1.cell? ⟨w4.heap.size, 8, none⟩ = some (.string r.f8) ∧ W1.cell? ⟨w4.heap.size, 9, none⟩ = some (.slice A1 r.f9.length c1) ∧ W1.cell? ⟨w6.heap.size, 0, none⟩ = some (.int .i64 r.f0) ∧ W1.cell? ⟨w6.heap.size, 1, none⟩ = some (.int .i64 r.f1) ∧ W1.cell? ⟨w6.heap.size, 2, none⟩ = some (.int .i64 r.f2) ∧ W1.cell? ⟨w6.heap.size, 3, none⟩ = some (.int .i64 r.f3) ∧ W1.cell? ⟨w6.heap.size, 4, none⟩ = some (.int .i64 r.f4) ∧ W1.cell? ⟨w6.heap.size, 5, none⟩ = some (.int .i64 r.f5) ∧ W1.cell? ⟨w6.heap.size, 6, none⟩ = some (.string r.f6) ∧ W1.cell? ⟨w6.heap.size, 7, none⟩ = some (.int .i64 r.f7) ∧ W1.cell? ⟨w6.heap.size, 8, none⟩ = some (.string r.f8) ∧ W1.cell? ⟨w6.heap.size, 9, none⟩ = some (.slice A2 r.f9.length c2)) → (Below w7.heap.size w7 W2 ∧ W2.cell? ⟨w.heap.size, 0, none⟩ = some (.int .i64 x.f0) ∧ W2.cell? ⟨w.heap.size, 1, none⟩ = some (.int .i64 x.f1) ∧ W2.cell? ⟨w.heap.size, 2, none⟩ = some (.int .i64 x.f2) ∧ W2.cell? ⟨w.heap.size, 3, none⟩ = some (.int .i64 x.f3) ∧ W2.cell? ⟨w.heap.size, 4, none⟩ = some (.int .i64 x.f4) ∧ W2.cell? ⟨w.heap.size, 5, none⟩ = some (.int .i64 x.f5) ∧ W2.cell? ⟨w.heap.size, 6, none⟩ = some (.string x.f6) ∧ W2.cell? ⟨w.heap.size, 7, none⟩ = some (.int .i64 x.f7) ∧ W2.cell? ⟨w.heap.size, 8, none⟩ = some (.string x.f8) ∧ W2.cell? ⟨w.heap.size, 9, none⟩ = some (.slice Ax x.f9.length cx) ∧ W2.cell? ⟨w.heap.size + 1, 0, none⟩ = some (.int .i64 y.f0) ∧ W2.cell? ⟨w.heap.size + 1, 1, none⟩ = some (.int .i64 y.f1) ∧ W2.cell? ⟨w.heap.size + 1, 2, none⟩ = some (.int .i64 y.f2) ∧ W2.cell? ⟨w.heap.size + 1, 3, none⟩ = some (.int .i64 y.f3) ∧ W2.cell? ⟨w.heap.size + 1, 4, none⟩ = some (.int .i64 y.f4) ∧ W2.cell? ⟨w.heap.size + 1, 5, none⟩ = some (.int .i64 y.f5) ∧ W2.cell? ⟨w.heap.size + 1, 6, none⟩ = some (.string y.f6) ∧ W2.cell? ⟨w.heap.size + 1, 7, none⟩ = some (.int .i64 y.f7) ∧ W2.cell? ⟨w.heap.size + 1, 8, none⟩ = some (.string y.f8) ∧ W2.cell? ⟨w.heap.size + 1, 9, none⟩ = some (.slice Ay y.f9.length cy) ∧ W2.cell? ⟨w4.heap.size, 0, none⟩ = some (.int .i64 r.f0) ∧ W2.cell? ⟨w4.heap.size, 1, none⟩ = some (.int .i64 r.f1) ∧ W2.cell? ⟨w4.heap.size, 2, none⟩ = some (.int .i64 r.f2) ∧ W2.cell? ⟨w4.heap.size, 3, none⟩ = some (.int .i64 r.f3) ∧ W2.cell? ⟨w4.heap.size, 4, none⟩ = some (.int .i64 r.f4) ∧ W2.cell? ⟨w4.heap.size, 5, none⟩ = some (.int .i64 r.f5) ∧ W2.cell? ⟨w4.heap.size, 6, none⟩ = some (.string r.f6) ∧ W2.cell? ⟨w4.heap.size, 7, none⟩ = some (.int .i64 r.f7) ∧ W2.cell? ⟨w4.heap.size, 8, none⟩ = some (.string r.f8) ∧ W2.cell? ⟨w4.heap.size, 9, none⟩ = some (.slice A1 r.f9.length c1) ∧ W2.cell? ⟨w6.heap.size, 0, none⟩ = some (.int .i64 r.f0) ∧ W2.cell? ⟨w6.heap.size, 1, none⟩ = some (.int .i64 r.f1) ∧ W2.cell? ⟨w6.heap.size, 2, none⟩ = some (.int .i64 r.f2) ∧ W2.cell? ⟨w6.heap.size, 3, none⟩ = some (.int .i64 r.f3) ∧ W2.cell? ⟨w6.heap.size, 4, none⟩ = some (.int .i64 r.f4) ∧ W2.cell? ⟨w6.heap.size, 5, none⟩ = some (.int .i64 r.f5) ∧ W2.cell? ⟨w6.heap.size, 6, none⟩ = some (.string r.f6) ∧ W2.cell? ⟨w6.heap.size, 7, none⟩ = some (.int .i64 r.f7) ∧ W2.cell? ⟨w6.heap.size, 8, none⟩ = some (.string r.f8) ∧ W2.cell? ⟨w6.heap.size, 9, none⟩ = some (.slice A2 r.f9.length c2)) from fun W1 W2 hb ⟨h0, g0, g1, g2, g3, g4, g5, g6, g7, g8, g9, g10, g11, g12, g13, g14, g15, g16, g17, g18, g19, g20, g21, g22, g23, g24, g25, g26, g27, g28, g29, g30, g31, g32, g33, g34, g35, g36, g37, g38, g39⟩ => ⟨h0.trans (hb.mono h0.size), gl_cell hb g0, gl_cell hb g1, gl_cell hb g2, gl_cell hb g3, gl_cell hb g4, gl_cell hb g5, gl_cell hb g6, gl_cell hb g7, gl_cell hb g8, gl_cell hb g9, gl_cell hb g10, gl_cell hb g11, gl_cell hb g12, gl_cell hb g13, gl_cell hb g14, gl_cell hb g15, gl_cell hb g16, gl_cell hb g17, gl_cell hb g18, gl_cell hb g19, gl_cell hb g20, gl_cell hb g21, gl_cell hb g22, gl_cell hb g23, gl_cell hb g24, gl_cell hb g25, gl_cell hb g26, gl_cell hb g27, gl_cell hb g28, gl_cell hb g29, gl_cell hb g30, gl_cell hb g31, gl_cell hb g32, gl_cell hb g33, gl_cell hb g34, gl_cell hb g35, gl_cell hb g36, gl_cell hb g37, gl_cell hb g38, gl_cell hb g39⟩)
  obtain ⟨x0, x1, x2, x3, x4, x5, x6, x7, x8, x9, _⟩ := step_cells HX7.out
  obtain ⟨y0, y1, y2, y3, y4, y5, y6, y7, y8, y9, _⟩ := step_cells HY7.out
  obtain ⟨p0, p1, p2, p3, p4, p5, p6, p7, p8, p9, _⟩ := step_cells HC7.out
  obtain ⟨q0, q1, q2, q3, q4, q5, q6, q7, q8, q9, _⟩ := step_cells HD7.out
  have HS0 := Aside0.mk (show Below w7.heap.size w7 (w7.drew) ∧ (w7.drew).cell? ⟨w.heap.size, 0, none⟩ = some (.int .i64 x.f0) ∧ (w7.drew).cell? ⟨w.heap.size, 1, none⟩ = some (.int .i64 x.f1) ∧ (w7.drew).cell? ⟨w.heap.size, 2, none⟩ = some (.int .i64 x.f2) ∧ (w7.drew).cell? ⟨w.heap.size, 3, none⟩ = some (.int .i64 x.f3) ∧ (w7.drew).cell? ⟨w.heap.size, 4, none⟩ = some (.int .i64 x.f4) ∧ (w7.drew).cell? ⟨w.heap.size, 5, none⟩ = some (.int .i64 x.f5) ∧ (w7.drew).cell? ⟨w.heap.size, 6, none⟩ = some (.string x.f6) ∧ (w7.drew).cell? ⟨w.heap.size, 7, none⟩ = some (.int .i64 x.f7) ∧ (w7.drew).cell? ⟨w.heap.size, 8, none⟩ = some (.string x.f8) ∧ (w7.drew).cell? ⟨w.heap.size, 9, none⟩ = some (.slice Ax x.f9.length cx) ∧ (w7.drew).cell? ⟨w.heap.size + 1, 0, none⟩ = some (.int .i64 y.f0) ∧ (w7.drew).cell? ⟨w.heap.size + 1, 1, none⟩ = some (.int .i64 y.f1) ∧ (w7.drew).cell? ⟨w.heap.size + 1, 2, none⟩ = some (.int .i64 y.f2) ∧ (w7.drew).cell? ⟨w.heap.size + 1, 3, none⟩ = some (.int .i64 y.f3) ∧ (w7.drew).cell? ⟨w.heap.size + 1, 4, none⟩ = some (.int .i64 y.f4) ∧ (w7.drew).cell? ⟨w.heap.size + 1, 5, none⟩ = some (.int .i64 y.f5) ∧ (w7.drew).cell? ⟨w.heap.size + 1, 6, none⟩ = some (.string y.f6) ∧ (w7.drew).cell? ⟨w.heap.size + 1, 7, none⟩ = some (.int .i64 y.f7) ∧ (w7.drew).cell? ⟨w.heap.size + 1, 8, none⟩ = some (.string y.f8) ∧ (w7.drew).cell? ⟨w.heap.size + 1, 9, none⟩ = some (.slice Ay y.f9.length cy) ∧ (w7.drew).cell? ⟨w4.heap.size, 0, none⟩ = some (.int .i64 r.f0) ∧ (w7.drew).cell? ⟨w4.heap.size, 1, none⟩ = some (.int .i64 r.f1) ∧ (w7.drew).cell? ⟨w4.heap.size, 2, none⟩ = some (.int .i64 r.f2) ∧ (w7.drew).cell? ⟨w4.heap.size, 3, none⟩ = some (.int .i64 r.f3) ∧ (w7.drew).cell? ⟨w4.heap.size, 4, none⟩ = some (.int .i64 r.f4) ∧ (w7.drew).cell? ⟨w4.heap.size, 5, none⟩ = some (.int .i64 r.f5) ∧ (w7.drew).cell? ⟨w4.heap.size, 6, none⟩ = some (.string r.f6) ∧ (w7.drew).cell? ⟨w4.heap.size, 7, none⟩ = some (.int .i64 r.f7) ∧ (w7.drew).cell? ⟨w4.heap.size, 8, none⟩ = some (.string r.f8) ∧ (w7.drew).cell? ⟨w4.heap.size, 9, none⟩ = some (.slice A1 r.f9.length c1) ∧ (w7.drew).cell? ⟨w6.heap.size, 0, none⟩ = some (.int .i64 r.f0) ∧ (w7.drew).cell? ⟨w6.heap.size, 1, none⟩ = some (.int .i64 r.f1) ∧ (w7.drew).cell? ⟨w6.heap.size, 2, none⟩ = some (.int .i64 r.f2) ∧ (w7.drew).cell? ⟨w6.heap.size, 3, none⟩ = some (.int .i64 r.f3) ∧ (w7.drew).cell? ⟨w6.heap.size, 4, none⟩ = some (.int .i64 r.f4) ∧ (w7.drew).cell? ⟨w6.heap.size, 5, none⟩ = some (.int .i64 r.f5) ∧ (w7.drew).cell? ⟨w6.heap.size, 6, none⟩ = some (.string r.f6) ∧ (w7.drew).cell? ⟨w6.heap.size, 7, none⟩ = some (.int .i64 r.f7) ∧ (w7.drew).cell? ⟨w6.heap.size, 8, none⟩ = some (.string r.f8) ∧ (w7.drew).cell? ⟨w6.heap.size, 9, none⟩ = some (.slice A2 r.f9.length c2) from KEEP.out w7 w7.drew (below_drew (Below.refl _ _)) ⟨Below.refl _ _, x0, x1, x2, x3, x4, x5, x6, x7, x8, x9, y0, y1, y2, y3, y4, y5, y6, y7, y8, y9, p0, p1, p2, p3, p4, p5, p6, p7, p8, p9, q0, q1, q2, q3, q4, q5, q6, q7, q8, q9⟩)
  clear x0 x1 x2 x3 x4 x5 x6 x7 x8 x9 y0 y1 y2 y3 y4 y5 y6 y7 y8 y9 p0 p1 p2 p3 p4 p5 p6 p7 p8 p9 q0 q1 q2 q3 q4 q5 q6 q7 q8 q9 hsb hself hself2
  go_wp2_with fail
  go_region_held3 (fun w' => Below w7.heap.size w7 w' ∧ w'.cell? ⟨w.heap.size, 0, none⟩ = some (.int .i64 x.f0) ∧ w'.cell? ⟨w.heap.size, 1, none⟩ = some (.int .i64 x.f1) ∧ w'.cell? ⟨w.heap.size, 2, none⟩ = some (.int .i64 x.f2) ∧ w'.cell? ⟨w.heap.size, 3, none⟩ = some (.int .i64 x.f3) ∧ w'.cell? ⟨w.heap.size, 4, none⟩ = some (.int .i64 x.f4) ∧ w'.cell? ⟨w.heap.size, 5, none⟩ = some (.int .i64 x.f5) ∧ w'.cell? ⟨w.heap.size, 6, none⟩ = some (.string x.f6) ∧ w'.cell? ⟨w.heap.size, 7, none⟩ = some (.int .i64 x.f7) ∧ w'.cell? ⟨w.heap.size, 8, none⟩ = some (.string x.f8) ∧ w'.cell? ⟨w.heap.size, 9, none⟩ = some (.slice Ax x.f9.length cx) ∧ w'.cell? ⟨w.heap.size + 1, 0, none⟩ = some (.int .i64 y.f0) ∧ w'.cell? ⟨w.heap.size + 1, 1, none⟩ = some (.int .i64 y.f1) ∧ w'.cell? ⟨w.heap.size + 1, 2, none⟩ = some (.int .i64 y.f2) ∧ w'.cell? ⟨w.heap.size + 1, 3, none⟩ = some (.int .i64 y.f3) ∧ w'.cell? ⟨w.heap.size + 1, 4, none⟩ = some (.int .i64 y.f4) ∧ w'.cell? ⟨w.heap.size + 1, 5, none⟩ = some (.int .i64 y.f5) ∧ w'.cell? ⟨w.heap.size + 1, 6, none⟩ = some (.string y.f6) ∧ w'.cell? ⟨w.heap.size + 1, 7, none⟩ = some (.int .i64 y.f7) ∧ w'.cell? ⟨w.heap.size + 1, 8, none⟩ = some (.string y.f8) ∧ w'.cell? ⟨w.heap.size + 1, 9, none⟩ = some (.slice Ay y.f9.length cy) ∧ w'.cell? ⟨w4.heap.size, 0, none⟩ = some (.int .i64 r.f0) ∧ w'.cell? ⟨w4.heap.size, 1, none⟩ = some (.int .i64 r.f1) ∧ w'.cell? ⟨w4.heap.size, 2, none⟩ = some (.int .i64 r.f2) ∧ w'.cell? ⟨w4.heap.size, 3, none⟩ = some (.int .i64 r.f3) ∧ w'.cell? ⟨w4.heap.size, 4, none⟩ = some (.int .i64 r.f4) ∧ w'.cell? ⟨w4.heap.size, 5, none⟩ = some (.int .i64 r.f5) ∧ w'.cell? ⟨w4.heap.size, 6, none⟩ = some (.string r.f6) ∧ w'.cell? ⟨w4.heap.size, 7, none⟩ = some (.int .i64 r.f7) ∧ w'.cell? ⟨w4.heap.size, 8, none⟩ = some (.string r.f8) ∧ w'.cell? ⟨w4.heap.size, 9, none⟩ = some (.slice A1 r.f9.length c1) ∧ w'.cell? ⟨w6.heap.size, 0, none⟩ = some (.int .i64 r.f0) ∧ w'.cell? ⟨w6.heap.size, 1, none⟩ = some (.int .i64 r.f1) ∧ w'.cell? ⟨w6.heap.size, 2, none⟩ = some (.int .i64 r.f2) ∧ w'.cell? ⟨w6.heap.size, 3, none⟩ = some (.int .i64 r.f3) ∧ w'.cell? ⟨w6.heap.size, 4, none⟩ = some (.int .i64 r.f4) ∧ w'.cell? ⟨w6.heap.size, 5, none⟩ = some (.int .i64 r.f5) ∧ w'.cell? ⟨w6.heap.size, 6, none⟩ = some (.string r.f6) ∧ w'.cell? ⟨w6.heap.size, 7, none⟩ = some (.int .i64 r.f7) ∧ w'.cell? ⟨w6.heap.size, 8, none⟩ = some (.string r.f8) ∧ w'.cell? ⟨w6.heap.size, 9, none⟩ = some (.slice A2 r.f9.length c2)) (first | exact HS0.out | assumption) (first | (go_at_call 29; first | ((with_reducible refine (HSD.out _ (by assumption)).mono ?_); rintro e w8 ⟨rfl, hb⟩; have hS := KEEP.out _ _ hb (by assumption)) | ((with_reducible refine (HSR.out _ (by assumption)).mono ?_); rintro e w8 ⟨rfl, hb⟩; have hS := KEEP.out _ _ hb (by assumption))) | (go_at_call 30; first | ((with_reducible refine (HSS2.out _ (by assumption)).mono ?_); rintro e w8 ⟨rfl, hb⟩; have hS := KEEP.out _ _ hb (by assumption)) | ((with_reducible refine (HXX.out _ (by assumption)).mono ?_); rintro e w8 ⟨rfl, hb⟩; have hS := KEEP.out _ _ hb (by assumption))) | (go_at_call 19; (with_reducible refine (HAW.out _ (by assumption)).mono ?_); rintro e w9 ⟨rfl, hb⟩; have hS := KEEP.out _ _ hb (by assumption); have hFIN := hS.1) | fail)
  all_goals (go_wp2; go_ret; exact ⟨rfl, HB7.out.trans (hFIN.mono HB7.out.size)⟩)
end Go.Proofs.YtcgkmomhjincgaaDoor.LibQ.Scr
