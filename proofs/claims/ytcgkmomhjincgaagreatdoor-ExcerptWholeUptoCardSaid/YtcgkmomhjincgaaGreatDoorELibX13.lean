import Derived.Test.YtcgkmomhjincgaaGreatDoorELibX0
import Derived.Test.YtcgkmomhjincgaaGreatDoorELibX10
import Derived.Test.YtcgkmomhjincgaaGreatDoorELibX11
import Derived.Test.YtcgkmomhjincgaaGreatDoorELibX12
namespace Go.Proofs.YtcgkmomhjincgaaGreatDoor.LibX
open Go.RowKit Go.Proofs.YtcgkmomhjincgaaGreatDoorW.PrintWords Go.Proofs.YtcgkmomhjincgaaGreatDoorW.PrintLast Go.Proofs.YtcgkmomhjincgaaGreatDoorW.PrintMore
attribute [local go_sem] max2_int min2_int max_two min_two max_three min_three max_four min_four   -- for this text's walks alone
set_option linter.unusedVariables false
set_option linter.unusedSimpArgs false
def excerpt_Marks.l0 : Nat → Int → List (S40) → List Int → List (S25) → Int → Int → Option (List Int)
 | 0, _, _, _, _, _, _ => none
 | k + 1, x2, x7, x8, x14, x15, x16 => if x16 < x15 then (if 0 ≤ x16 then (if x16 < (x14.length : Int) then (if (((rd_T25 x14 x16).f2).length : Int) > 0 then (if ((rd_T25 x14 x16).f1) = 0 then ((excerpt_marks.f k x7 ((rd_T25 x14 x16).f0) ((rd_T25 x14 x16).f1) ((rd_T25 x14 x16).f2) ((rd_T25 x14 x16).f3)).bind fun t312 => (if x8.length + t312.length < 17592186044416 then (excerpt_Marks.l0 k x2 x7 (x8 ++ t312) x14 x15 (wrap64 (x16 + 1))) else (none))) else (if ((rd_T25 x14 x16).f1) = x2 then ((excerpt_marks.f k x7 ((rd_T25 x14 x16).f0) ((rd_T25 x14 x16).f1) ((rd_T25 x14 x16).f2) ((rd_T25 x14 x16).f3)).bind fun t318 => (if x8.length + t318.length < 17592186044416 then (excerpt_Marks.l0 k x2 x7 (x8 ++ t318) x14 x15 (wrap64 (x16 + 1))) else (none))) else (excerpt_Marks.l0 k x2 x7 x8 x14 x15 (wrap64 (x16 + 1))))) else (excerpt_Marks.l0 k x2 x7 x8 x14 x15 (wrap64 (x16 + 1)))) else (none)) else (none)) else ((slices_Sort_int_int.f x8).bind fun _ => ((slices_Compact_int_int.f x8).bind fun t324 => (some t324)))
def excerpt_Marks.f (k : Nat) (a0 : ByteArray) (a1_0 : Int) (a1_1 : Int) (l1_2 : List (S40)) (l1_3 : List (S25)) (a2 : Int) : Option (List Int) := (terms_Text.f k a0).bind fun t304 => ((parse_Leaves.f k a1_0 a1_1 l1_2 l1_3).bind fun t307 => (excerpt_Marks.l0 k a2 t304 ([] : List Int) t307 (t307.length : Int) 0))
theorem excerpt_Marks.mono_l : ∀ k, (∀ y0 y1 y2 y3 y4 y5, LeO (excerpt_Marks.l0 k y0 y1 y2 y3 y4 y5) (excerpt_Marks.l0 (k + 1) y0 y1 y2 y3 y4 y5))
 | 0 => fun _ _ _ _ _ _ r h => by simp [excerpt_Marks.l0] at h
 | k + 1 => by
  have ih0 := excerpt_Marks.mono_l k
  ·intro y0 y1 y2 y3 y4 y5
   unfold excerpt_Marks.l0
   repeat' first
   | (with_reducible exact ih0 _ _ _ _ _ _)
   | (with_reducible exact excerpt_marks.mono _ _ _ _ _ _)
   | (with_reducible exact parse_Leaves.mono _ _ _ _ _)
   | (with_reducible exact terms_Text.mono _ _)
   | (with_reducible exact LeO.refl _)
   | (with_reducible exact LeO.none _)
   | (with_reducible refine LeO.ite ?_ ?_)
   | (with_reducible refine LeO.bind ?_ (fun _ => ?_))
   | exact ih0 _ _ _ _ _ _
   | exact excerpt_marks.mono _ _ _ _ _ _
   | exact parse_Leaves.mono _ _ _ _ _
   | exact terms_Text.mono _ _
   | exact LeO.none _
   | refine LeO.ite ?_ ?_
   | refine LeO.bind ?_ (fun _ => ?_)
theorem excerpt_Marks.mono : ∀ a0 a1 a2 a3 a4 a5 k, LeO (excerpt_Marks.f k a0 a1 a2 a3 a4 a5) (excerpt_Marks.f (k + 1) a0 a1 a2 a3 a4 a5) := by
 intro a0 a1 a2 a3 a4 a5 k
 have ih0 := excerpt_Marks.mono_l k
 unfold excerpt_Marks.f
 repeat' first
   | (with_reducible exact ih0 _ _ _ _ _ _)
   | (with_reducible exact excerpt_marks.mono _ _ _ _ _ _)
   | (with_reducible exact parse_Leaves.mono _ _ _ _ _)
   | (with_reducible exact terms_Text.mono _ _)
   | (with_reducible exact LeO.refl _)
   | (with_reducible exact LeO.none _)
   | (with_reducible refine LeO.ite ?_ ?_)
   | (with_reducible refine LeO.bind ?_ (fun _ => ?_))
   | exact ih0 _ _ _ _ _ _
   | exact excerpt_marks.mono _ _ _ _ _ _
   | exact parse_Leaves.mono _ _ _ _ _
   | exact terms_Text.mono _ _
   | exact LeO.none _
   | refine LeO.ite ?_ ?_
   | refine LeO.bind ?_ (fun _ => ?_)
set_option maxHeartbeats 8000000 in
set_option maxRecDepth 100000 in
theorem excerpt_Marks.calls (k : Nat) (a0 : ByteArray) (a1_0 : Int) (a1_1 : Int) (A1_2 : Option Addr) (c1_2 : Nat) (l1_2 : List (S40)) (A1_3 : Option Addr) (c1_3 : Nat) (l1_3 : List (S25)) (a2 : Int) (r : List Int) (w : World) (hG : GL w) (hr1_2 : Kd.C k40 w A1_2 l1_2.length l1_2) (hc1_2 : l1_2.length ≤ c1_2) (hr1_3 : Kd.C k25 w A1_3 l1_3.length l1_3) (hc1_3 : l1_3.length ≤ c1_3) (h : excerpt_Marks.f k a0 a1_0 a1_1 l1_2 l1_3 a2 = some r) :
  Calls Tryz.prog 17 #[.string a0, .agg #[.int .i64 a1_0, .int .i64 a1_1, .slice A1_2 l1_2.length c1_2, .slice A1_3 l1_3.length c1_3], .int .i64 a2] w fun e w' => ∃ v0_ : Value, e = .returned (v0_) ∧ Kd.R (Kd.int .i64) 3 w' w.heap.size (fun _ => True) v0_ r ∧ Below w.heap.size w w' := by
 have hu25 := Tryz.underlying25
 have HR1_2 := Aside0.mk hr1_2
 have HC1_2 := Aside0.mk hc1_2
 clear hr1_2 hc1_2
 have HR1_3 := Aside0.mk hr1_3
 have HC1_3 := Aside0.mk hc1_3
 clear hr1_3 hc1_3
 have HB := Aside0.mk (Below.refl w.heap.size w)
 have H : ((terms_Text.f k a0).bind fun t304 => ((parse_Leaves.f k a1_0 a1_1 l1_2 l1_3).bind fun t307 => (excerpt_Marks.l0 k a2 t304 ([] : List Int) t307 (t307.length : Int) 0))) = some r := h
 clear h
 replace H := Option.bind_eq_some_iff.mp H
 obtain ⟨t304, A40, H⟩ := H
 replace H : ((parse_Leaves.f k a1_0 a1_1 l1_2 l1_3).bind fun t307 => (excerpt_Marks.l0 k a2 t304 ([] : List Int) t307 (t307.length : Int) 0)) = some r := H
 have A4 := Aside0.mk A40
 clear A40
 replace H := Option.bind_eq_some_iff.mp H
 obtain ⟨t307, A50, H⟩ := H
 replace H : (excerpt_Marks.l0 k a2 t304 ([] : List Int) t307 (t307.length : Int) 0) = some r := H
 have A5 := Aside0.mk A50
 clear A50
 have H' := Aside0.mk H
 clear H
 go_enter Tryz.func17, Tryz.ntmps17
 go_wp2_with (first | ((with_reducible refine gate_dst (N := 4) rfl ?_); refine box_event ?hg (N := 4) ?hd (cs := #[.int .i64 a1_0, .int .i64 a1_1, .slice A1_2 l1_2.length c1_2, .slice A1_3 l1_3.length c1_3]) (t := 25) ?hr ?_; (case hd => rfl); (case hg => rfl); (case hr => first | (go_simp; done) | (go_simp; rfl)); intro gb303 hg w6 hbox hb; have n0_ := Aside0.mk (below_step (bb_ HB.out) hb); have n1_ := Aside0.mk (hbox); have n2_ := Aside0.mk ((by rw [hg]; exact (below_size (bb_ HB.out)) : w.heap.size ≤ gb303)); have n3_ := Aside0.mk ((by rw [hg]; exact (below_size (bb_ HB.out)) : w.heap.size ≤ gb303)); clear HB; have HB := n0_; have BK303 := n1_; have GW303 := n2_; have GE303 := n3_; clear n0_ n1_ n2_ n3_; clear hb hbox hg) | ((with_reducible refine gate_callee (f := 27) rfl ?_); refine goesL_ (some 12) rfl rfl Tryz.func27 (by kernel_rfl) rfl #[.string a0] rfl ar_ ?_; (with_reducible refine (terms_Text.calls k a0 t304 _ (by first | exact hG | exact GL.drewN hG _ | exact GL.below hG (bb1_ HB.out GE303.out)) A4.out).mono ?_); rintro e w7 ⟨v305, rfl, ho0, hb⟩; refine ⟨_, rfl, ?_⟩; have n0_ := Aside0.mk (Kd.R_lower ho0 (below_size (bb1_ HB.out GE303.out))); have n1_ := Aside0.mk (blk_below (g := gb303) (o := .cells #[.int .i64 a1_0, .int .i64 a1_1, .slice A1_2 l1_2.length c1_2, .slice A1_3 l1_3.length c1_3] 25 (0, 0)) (bk_ BK303.out) hb); have n2_ := Aside0.mk (below_step (bb1_ HB.out GE303.out) hb); clear BK303; clear HB; have HO306 := n0_; have BK303 := n1_; have HB := n2_; clear n0_ n1_ n2_; (try clear hb); (try clear hb2); (try clear hk); (try clear hi); (try clear ho0); have hcz8_0 : w7.cell? ⟨gb303, 0, none⟩ = some (.int .i64 a1_0) := (blk_cell BK303.out 0).trans rfl; have hcz8_1 : w7.cell? ⟨gb303, 1, none⟩ = some (.int .i64 a1_1) := (blk_cell BK303.out 1).trans rfl; have hcz8_2 : w7.cell? ⟨gb303, 2, none⟩ = some (.slice A1_2 l1_2.length c1_2) := (blk_cell BK303.out 2).trans rfl; have hcz8_3 : w7.cell? ⟨gb303, 3, none⟩ = some (.slice A1_3 l1_3.length c1_3) := (blk_cell BK303.out 3).trans rfl; have hfz8_0 := blk_frozen BK303.out 0; have hfz8_1 := blk_frozen BK303.out 1; have hfz8_2 := blk_frozen BK303.out 2; have hfz8_3 := blk_frozen BK303.out 3) | ((with_reducible refine gate_callee (f := 28) rfl ?_); refine goesL_ (some 14) rfl rfl Tryz.func28 (by kernel_rfl) rfl #[.agg #[.int .i64 a1_0, .int .i64 a1_1, .slice A1_2 l1_2.length c1_2, .slice A1_3 l1_3.length c1_3]] rfl ar_ ?_; (with_reducible refine (parse_Leaves.calls k a1_0 a1_1 _ _ l1_2 _ _ l1_3 t307 _ ?side1 ?side2 ?side3 ?side4 A5.out).mono ?_); (case side1 => repeat (first | exact (Kd.C_below HR1_2.out HB.out) | (with_reducible refine Kd.C_alloc ?_ _) | (with_reducible refine Kd.C_drewN ?_ _) | (with_reducible refine Kd.C_drew ?_))); (case side2 => exact HC1_2.out); (case side3 => repeat (first | exact (Kd.C_below HR1_3.out HB.out) | (with_reducible refine Kd.C_alloc ?_ _) | (with_reducible refine Kd.C_drewN ?_ _) | (with_reducible refine Kd.C_drew ?_))); (case side4 => exact HC1_3.out); rintro e w9 ⟨v308, rfl, ho0, hb⟩; refine ⟨_, rfl, ?_⟩; have n0_ := Aside0.mk (Kd.R_below (kr_ HO306.out) hb); have n1_ := Aside0.mk (Kd.N_lower (Kd.N_mono (ok' := fun k_ => some k_ ≠ (v305 : Value).ownBlock ∧ k_ ≠ gb303) ho0 (fun k_ hk_ => ⟨(Kd.fresh' (Kd.R_lt (kr_ HO306.out)) k_ hk_), (Kd.freshB (g := gb303) (o := .cells #[.int .i64 a1_0, .int .i64 a1_1, .slice A1_2 l1_2.length c1_2, .slice A1_3 l1_3.length c1_3] 25 (0, 0)) (bk_ BK303.out) k_ hk_)⟩)) (below_size (bb1_ HB.out GE303.out))); have n2_ := Aside0.mk (blk_below (g := gb303) (o := .cells #[.int .i64 a1_0, .int .i64 a1_1, .slice A1_2 l1_2.length c1_2, .slice A1_3 l1_3.length c1_3] 25 (0, 0)) (bk_ BK303.out) hb); have n3_ := Aside0.mk (below_step (bb1_ HB.out GE303.out) hb); clear HO306; clear BK303; clear HB; have HO306 := n0_; have HO309 := n1_; have BK303 := n2_; have HB := n3_; clear n0_ n1_ n2_ n3_; (try clear hb); (try clear hb2); (try clear hk); (try clear hi); (try clear ho0); obtain ⟨Ao10, co10, eo10⟩ := Kd.N_slice HO309.out; subst eo10))
 go_loopg [8, 16] k (fun kq v8 v16 w' => ∃ (x8_1 : List Int) (x16_1 : Int), v16 = .int .i64 x16_1 ∧ Aside0 (excerpt_Marks.l0 kq a2 t304 x8_1 t307 (t307.length : Int) x16_1 = some r) ∧ Aside0 (kq ≤ k) ∧ Aside0 (Kd.R k40 40 w' w.heap.size (fun _ => True) v305 t304) ∧ Aside0 (Kd.R (Kd.int .i64) 3 w' w.heap.size (fun _ => True) v8 x8_1) ∧ Aside0 (Kd.N k25 25 w' w.heap.size (fun k_ => some k_ ≠ (v305 : Value).ownBlock ∧ some k_ ≠ (v8 : Value).ownBlock ∧ k_ ≠ gb303) (.slice Ao10 t307.length co10) t307) ∧ Aside0 (w'.heap[gb303]? = some (.cells #[.int .i64 a1_0, .int .i64 a1_1, (.slice A1_2 l1_2.length c1_2), (.slice A1_3 l1_3.length c1_3)] 25 (0, 0))) ∧ Aside0 (Below w.heap.size w w'))
 case atStart => exact ⟨(([] : List Int)), (0), rs_, H', ⟨Nat.le_refl _⟩, ⟨kr_ HO306.out⟩, ⟨by first | exact Kd.R_nil _ _ _ _ _ | exact Kd.N_nil _ _ _ _ _ | exact Kd.V_nil _ _ _ _ _ | exact Kd.Q_nil _ _ _ _ _ | exact Kd.S_nil _ _ _ _ _⟩, ⟨by (with_reducible repeat (first | apply Kd.N_alloc | apply Kd.N_drewN | apply Kd.N_drew)); exact Kd.N_mono HO309.out (fun _ hk => ⟨hk.1, ⟨(by simp [Value.ownBlock]), hk.2⟩⟩)⟩, ⟨bk_ BK303.out⟩, ⟨bb1_ HB.out GE303.out⟩⟩
 case round =>
  clear H'
  try clear c1
  try clear c2
  try clear p2
  try clear hcz8_0
  try clear hcz8_1
  try clear hcz8_2
  try clear hcz8_3
  try clear hfz8_0
  try clear hfz8_1
  try clear hfz8_2
  try clear hfz8_3
  obtain ⟨x8_1, x16_1, rfl, HA, HK1, HO_7, HO_8, HO_14, BK303, HB⟩ := hrel
  cases gk with
  | zero => exact absurd HA.out (by simp [excerpt_Marks.l0])
  | succ k1 =>
   have H := HA.out
   clear HA
   simp only [excerpt_Marks.l0] at H
   by_cases c11 : x16_1 < (t307.length : Int)
   ·rw [if_pos c11] at H
    have c11b0 : decide (x16_1 < (t307.length : Int)) = true := decide_eq_true c11
    clear c11
    by_cases c12 : 0 ≤ x16_1
    ·rw [if_pos c12] at H
     have c12b0 : decide (0 ≤ x16_1) = true := decide_eq_true c12
     clear c12
     by_cases c13 : x16_1 < (t307.length : Int)
     ·rw [if_pos c13] at H
      have c13b0 : decide (x16_1 < (t307.length : Int)) = true := decide_eq_true c13
      clear c13
      by_cases c14 : (((rd_T25 t307 x16_1).f2).length : Int) > 0
      ·rw [if_pos c14] at H
       have c14b0 : decide (0 < (((rd_T25 t307 x16_1).f2).length : Int)) = true := decide_eq_true c14
       have c14b1 : decide (0 < ((rd_T25 t307 x16_1).f2).length) = true := decide_eq_true (by omega)
       clear c14
       by_cases c15 : ((rd_T25 t307 x16_1).f1) = 0
       ·rw [if_pos c15] at H
        have c15b0 : (((rd_T25 t307 x16_1).f1) == 0) = true := beq_iff_eq.mpr c15
        have c15b1 : (((rd_T25 t307 x16_1).f1) != 0) = false := bne_eq_false_iff_eq.mpr c15
        clear c15
        replace H := Option.bind_eq_some_iff.mp H
        obtain ⟨t312, A160, H⟩ := H
        replace H : (if x8_1.length + t312.length < 17592186044416 then (excerpt_Marks.l0 k1 a2 t304 (x8_1 ++ t312) t307 (t307.length : Int) (wrap64 (x16_1 + 1))) else (none)) = some r := H
        have A16 := Aside0.mk A160
        clear A160
        by_cases c17 : x8_1.length + t312.length < 17592186044416
        ·rw [if_pos c17] at H
         have LMc17 := Aside0.mk c17
         clear c17
         obtain ⟨y315, hy315⟩ : ∃ y_ : List Int, y_ = (x8_1 ++ t312) := ⟨_, rfl⟩
         replace H : (excerpt_Marks.l0 k1 a2 t304 y315 t307 (t307.length : Int) (wrap64 (x16_1 + 1))) = some r := by first | (rw [hy315]; with_reducible exact H) | (have H2_ := (Option.bind_some _ _).symm.trans H; rw [hy315]; with_reducible exact H2_) | (have H2_ := (Option.bind_some _ _).symm.trans H; with_reducible exact H2_) | with_reducible exact H | (rw [hy315]; exact H) | exact H
         have Ny315 := Aside0.mk hy315
         clear hy315
         have H' := Aside0.mk H
         clear H
         have p310 : 0 ≤ (x16_1 : Int) := of_decide_eq_true as_
         have q310 : x16_1 < (t307.length : Int) := of_decide_eq_true as_
         obtain ⟨ad310, A310_2, c310_2, A310_3, c310_3, e310, hx310_0, hx310_1, hx310_2, hx310_3, hl310_2, hi310_2, hl310_3, hi310_3⟩ := at_T25 (Kd.N_reads' HO_14.out).2.2 x16_1 p310 q310
         cases e310
         obtain ⟨ce310, hce310, hMe310, hcc310⟩ := Kd.N_get HO_14.out z25 x16_1 p310 (by first | exact q310 | exact of_decide_eq_true as_ | (have e_ := (Kd.N_reads' HO_14.out).1; omega))
         obtain ⟨ua310_2, uc310_2, ua310_3, uc310_3, rfl, ul310_2, ge310_2, ul310_3, ge310_3⟩ := k25_openF hMe310
         have hv310_2 := hcc310 2 _ rfl
         rw [add_field _ _ 2 (by omega)] at hv310_2
         replace hv310_2 := Option.some.inj (hv310_2.symm.trans hx310_2)
         injection hv310_2 with hva_ hvn_ hvc_
         rw [hva_] at ge310_2
         rw [hvc_] at ul310_2
         have HL310_2 := Aside0.mk (show Kd.V k40 40 _ w.heap.size _ _ ((rd_T25 t307 x16_1).f2) from Kd.V_mk ul310_2 ge310_2)
         clear hva_ hvn_ hvc_ ge310_2 ul310_2
         have hv310_3 := hcc310 3 _ rfl
         rw [add_field _ _ 3 (by omega)] at hv310_3
         replace hv310_3 := Option.some.inj (hv310_3.symm.trans hx310_3)
         injection hv310_3 with hva_ hvn_ hvc_
         rw [hva_] at ge310_3
         rw [hvc_] at ul310_3
         have HL310_3 := Aside0.mk (show Kd.V k25 25 _ w.heap.size _ _ ((rd_T25 t307 x16_1).f3) from Kd.V_mk ul310_3 ge310_3)
         clear hva_ hvn_ hvc_ ge310_3 ul310_3
         clear hcc310 hce310
         have HR310_2 := Aside0.mk hi310_2
         have HC310_2 := Aside0.mk hl310_2
         clear hi310_2 hl310_2
         have HR310_3 := Aside0.mk hi310_3
         have HC310_3 := Aside0.mk hl310_3
         clear hi310_3 hl310_3
         replace p310 := eq_true p310
         replace q310 := eq_true q310
         go_wp2_with (first | ((with_reducible refine gate_dst (N := 10) rfl ?_); refine box_event ?hg (N := 10) ?hd (cs := #[.int .i64 0, .int .i64 0, .slice none 0 0, .slice none 0 0]) (t := 25) ?hr ?_; (case hd => rfl); (case hg => rfl); (case hr => first | (go_simp; done) | (go_simp; rfl)); intro gb311 hg w18 hbox hb; have n0_ := Aside0.mk (Kd.R_below (kr_ HO_7.out) hb); have n1_ := Aside0.mk (Kd.R_below (kr_ HO_8.out) hb); have n2_ := Aside0.mk (Kd.N_below (Kd.N_elderB (by (with_reducible repeat (first | apply Kd.N_alloc | apply Kd.N_drewN | apply Kd.N_drew)); exact HO_14.out) gb311 (Nat.le_of_eq hg.symm)) hb); have n3_ := Aside0.mk (Kd.V_below (Kd.V_elderB (by (with_reducible repeat (first | apply Kd.V_alloc | apply Kd.V_drewN | apply Kd.V_drew)); exact HL310_2.out) gb311 (Nat.le_of_eq hg.symm)) hb); have n4_ := Aside0.mk (Kd.V_below (Kd.V_elderB (by (with_reducible repeat (first | apply Kd.V_alloc | apply Kd.V_drewN | apply Kd.V_drew)); exact HL310_3.out) gb311 (Nat.le_of_eq hg.symm)) hb); have n5_ := Aside0.mk (blk_below (g := gb303) (o := .cells #[.int .i64 a1_0, .int .i64 a1_1, .slice A1_2 l1_2.length c1_2, .slice A1_3 l1_3.length c1_3] 25 (0, 0)) (bk_ BK303.out) hb); have n6_ := Aside0.mk (Kd.C_below (by repeat (first | (with_reducible exact HR310_2.out) | (with_reducible refine Kd.C_alloc ?_ _) | (with_reducible refine Kd.C_drewN ?_ _) | (with_reducible refine Kd.C_drew ?_) | exact HR310_2.out)) hb); have n7_ := Aside0.mk (Kd.C_below (by repeat (first | (with_reducible exact HR310_3.out) | (with_reducible refine Kd.C_alloc ?_ _) | (with_reducible refine Kd.C_drewN ?_ _) | (with_reducible refine Kd.C_drew ?_) | exact HR310_3.out)) hb); have n8_ := Aside0.mk (below_step (bb1_ HB.out GE303.out) hb); have n9_ := Aside0.mk (hbox); have n10_ := Aside0.mk ((by rw [hg]; exact (below_size (bb1_ HB.out GE303.out)) : w.heap.size ≤ gb311)); have n11_ := Aside0.mk ((by rw [hg]; exact (below_size (bb1_ HB.out GE303.out)) : w.heap.size ≤ gb311)); have n12_ := Aside0.mk ((by rw [hg]; exact Nat.ne_of_lt (blk_lt (g := gb303) (o := .cells #[.int .i64 a1_0, .int .i64 a1_1, .slice A1_2 l1_2.length c1_2, .slice A1_3 l1_3.length c1_3] 25 (0, 0)) (bk_ BK303.out)) : gb303 ≠ gb311)); have n13_ := Aside0.mk ((by rw [hg]; exact Nat.ne_of_gt (blk_lt (g := gb303) (o := .cells #[.int .i64 a1_0, .int .i64 a1_1, .slice A1_2 l1_2.length c1_2, .slice A1_3 l1_3.length c1_3] 25 (0, 0)) (bk_ BK303.out)) : gb311 ≠ gb303)); clear HO_7; clear HO_8; clear HO_14; clear HL310_2; clear HL310_3; clear BK303; clear HR310_2; clear HR310_3; clear HB; have HO_7 := n0_; have HO_8 := n1_; have HO_14 := n2_; have HL310_2 := n3_; have HL310_3 := n4_; have BK303 := n5_; have HR310_2 := n6_; have HR310_3 := n7_; have HB := n8_; have BK311 := n9_; have GW311 := n10_; have GE311 := n11_; have NB303_311 := n12_; have NB311_303 := n13_; clear n0_ n1_ n2_ n3_ n4_ n5_ n6_ n7_ n8_ n9_ n10_ n11_ n12_ n13_; clear hb hbox hg; have hnb19 := NB311_303.out; have hnc19 := NB303_311.out; have hcz20_0 : w18.cell? ⟨gb311, 0, none⟩ = some (.int .i64 0) := (blk_cell BK311.out 0).trans rfl; have hcz20_1 : w18.cell? ⟨gb311, 1, none⟩ = some (.int .i64 0) := (blk_cell BK311.out 1).trans rfl; have hcz20_2 : w18.cell? ⟨gb311, 2, none⟩ = some (.slice none 0 0) := (blk_cell BK311.out 2).trans rfl; have hcz20_3 : w18.cell? ⟨gb311, 3, none⟩ = some (.slice none 0 0) := (blk_cell BK311.out 3).trans rfl; have hfz20_0 := blk_frozen BK311.out 0; have hfz20_1 := blk_frozen BK311.out 1; have hfz20_2 := blk_frozen BK311.out 2; have hfz20_3 := blk_frozen BK311.out 3; obtain ⟨Ao21, co21, eo21⟩ := Kd.R_slice HO_7.out; subst eo21) | ((with_reducible refine gate_callee (f := 29) rfl ?_); refine goesL_ (some 38) rfl rfl Tryz.func29 (by kernel_rfl) rfl #[.slice Ao21 t304.length co21, .agg #[.int .i64 ((rd_T25 t307 x16_1).f0), .int .i64 ((rd_T25 t307 x16_1).f1), .slice A310_2 ((rd_T25 t307 x16_1).f2).length c310_2, .slice A310_3 ((rd_T25 t307 x16_1).f3).length c310_3]] rfl ar_ ?_; (with_reducible refine (excerpt_marks.calls k1 _ _ t304 ((rd_T25 t307 x16_1).f0) ((rd_T25 t307 x16_1).f1) _ _ ((rd_T25 t307 x16_1).f2) _ _ ((rd_T25 t307 x16_1).f3) t312 _ ?side1 ?side2 ?side3 ?side4 ?side5 ?side6 A16.out).mono ?_); (case side1 => refine (Kd.R_reads' (e := 40) (base := w.heap.size) (ok := fun k_ => True) (n := t304.length) (c := co21) ?_).2.2; exact (by (with_reducible repeat (first | apply Kd.R_alloc | apply Kd.R_drewN | apply Kd.R_drew)); exact (Kd.R_mono (Kd.R_far (p := ⟨gb311, 3, none⟩) (Kd.R_far (p := ⟨gb311, 2, none⟩) (Kd.R_far (p := ⟨gb311, 1, none⟩) (Kd.R_far (p := ⟨gb311, 0, none⟩) (Kd.R_types HO_7.out BK311.out (by decide)) (fun _ hk => hk.2) (.int .i64 ((rd_T25 t307 x16_1).f0))) (fun _ hk => hk.2) (.int .i64 ((rd_T25 t307 x16_1).f1))) (fun _ hk => hk.2) (.slice A310_2 ((rd_T25 t307 x16_1).f2).length c310_2)) (fun _ hk => hk.2) (.slice A310_3 ((rd_T25 t307 x16_1).f3).length c310_3)) (fun _ h_ => h_.1)))); (case side2 => exact (Kd.R_reads' HO_7.out).2.1); (case side3 => repeat (first | exact ((Kd.V_reads' (by (with_reducible repeat (first | apply Kd.V_alloc | apply Kd.V_drewN | apply Kd.V_drew)); exact (Kd.V_mono (Kd.V_far (p := ⟨gb311, 3, none⟩) (Kd.V_far (p := ⟨gb311, 2, none⟩) (Kd.V_far (p := ⟨gb311, 1, none⟩) (Kd.V_far (p := ⟨gb311, 0, none⟩) (Kd.V_mono HL310_2.out (fun k_ hk => (⟨hk, hk.2⟩ : _ ∧ k_ ≠ gb311))) (fun _ hk => hk.2) (.int .i64 ((rd_T25 t307 x16_1).f0))) (fun _ hk => hk.2) (.int .i64 ((rd_T25 t307 x16_1).f1))) (fun _ hk => hk.2) (.slice A310_2 ((rd_T25 t307 x16_1).f2).length c310_2)) (fun _ hk => hk.2) (.slice A310_3 ((rd_T25 t307 x16_1).f3).length c310_3)) (fun _ h_ => h_.1)))).2.2) | (with_reducible refine Kd.C_alloc ?_ _) | (with_reducible refine Kd.C_drewN ?_ _) | (with_reducible refine Kd.C_drew ?_))); (case side4 => exact HC310_2.out); (case side5 => repeat (first | exact ((Kd.V_reads' (by (with_reducible repeat (first | apply Kd.V_alloc | apply Kd.V_drewN | apply Kd.V_drew)); exact (Kd.V_mono (Kd.V_far (p := ⟨gb311, 3, none⟩) (Kd.V_far (p := ⟨gb311, 2, none⟩) (Kd.V_far (p := ⟨gb311, 1, none⟩) (Kd.V_far (p := ⟨gb311, 0, none⟩) (Kd.V_mono HL310_3.out (fun k_ hk => (⟨hk, hk.2⟩ : _ ∧ k_ ≠ gb311))) (fun _ hk => hk.2) (.int .i64 ((rd_T25 t307 x16_1).f0))) (fun _ hk => hk.2) (.int .i64 ((rd_T25 t307 x16_1).f1))) (fun _ hk => hk.2) (.slice A310_2 ((rd_T25 t307 x16_1).f2).length c310_2)) (fun _ hk => hk.2) (.slice A310_3 ((rd_T25 t307 x16_1).f3).length c310_3)) (fun _ h_ => h_.1)))).2.2) | (with_reducible refine Kd.C_alloc ?_ _) | (with_reducible refine Kd.C_drewN ?_ _) | (with_reducible refine Kd.C_drew ?_))); (case side6 => exact HC310_3.out); rintro e w22 ⟨v313, rfl, ho0, hb⟩; refine ⟨_, rfl, ?_⟩; have n0_ := Aside0.mk (Kd.R_below (by (with_reducible repeat (first | apply Kd.R_alloc | apply Kd.R_drewN | apply Kd.R_drew)); exact (Kd.R_mono (Kd.R_far (p := ⟨gb311, 3, none⟩) (Kd.R_far (p := ⟨gb311, 2, none⟩) (Kd.R_far (p := ⟨gb311, 1, none⟩) (Kd.R_far (p := ⟨gb311, 0, none⟩) (Kd.R_types HO_7.out BK311.out (by decide)) (fun _ hk => hk.2) (.int .i64 ((rd_T25 t307 x16_1).f0))) (fun _ hk => hk.2) (.int .i64 ((rd_T25 t307 x16_1).f1))) (fun _ hk => hk.2) (.slice A310_2 ((rd_T25 t307 x16_1).f2).length c310_2)) (fun _ hk => hk.2) (.slice A310_3 ((rd_T25 t307 x16_1).f3).length c310_3)) (fun _ h_ => h_.1))) hb); have n1_ := Aside0.mk (Kd.R_elder' (by (with_reducible repeat (first | apply Kd.R_alloc | apply Kd.R_drewN | apply Kd.R_drew)); exact (Kd.R_mono (Kd.R_far (p := ⟨gb311, 3, none⟩) (Kd.R_far (p := ⟨gb311, 2, none⟩) (Kd.R_far (p := ⟨gb311, 1, none⟩) (Kd.R_far (p := ⟨gb311, 0, none⟩) (Kd.R_types HO_8.out BK311.out (by decide)) (fun _ hk => hk.2) (.int .i64 ((rd_T25 t307 x16_1).f0))) (fun _ hk => hk.2) (.int .i64 ((rd_T25 t307 x16_1).f1))) (fun _ hk => hk.2) (.slice A310_2 ((rd_T25 t307 x16_1).f2).length c310_2)) (fun _ hk => hk.2) (.slice A310_3 ((rd_T25 t307 x16_1).f3).length c310_3)) (fun _ h_ => h_.1))) (Kd.R_base ho0) hb); have n2_ := Aside0.mk (Kd.N_elder' (by (with_reducible repeat (first | apply Kd.N_alloc | apply Kd.N_drewN | apply Kd.N_drew)); exact (Kd.N_mono (Kd.N_far (p := ⟨gb311, 3, none⟩) (Kd.N_far (p := ⟨gb311, 2, none⟩) (Kd.N_far (p := ⟨gb311, 1, none⟩) (Kd.N_far (p := ⟨gb311, 0, none⟩) (Kd.N_mono HO_14.out (fun k_ hk => (⟨hk, hk.2⟩ : _ ∧ k_ ≠ gb311))) (fun _ hk => hk.2) (.int .i64 ((rd_T25 t307 x16_1).f0))) (fun _ hk => hk.2) (.int .i64 ((rd_T25 t307 x16_1).f1))) (fun _ hk => hk.2) (.slice A310_2 ((rd_T25 t307 x16_1).f2).length c310_2)) (fun _ hk => hk.2) (.slice A310_3 ((rd_T25 t307 x16_1).f3).length c310_3)) (fun _ h_ => h_.1))) (Kd.R_base ho0) hb); have n3_ := Aside0.mk (Kd.V_elder' (by (with_reducible repeat (first | apply Kd.V_alloc | apply Kd.V_drewN | apply Kd.V_drew)); exact (Kd.V_mono (Kd.V_far (p := ⟨gb311, 3, none⟩) (Kd.V_far (p := ⟨gb311, 2, none⟩) (Kd.V_far (p := ⟨gb311, 1, none⟩) (Kd.V_far (p := ⟨gb311, 0, none⟩) (Kd.V_mono HL310_2.out (fun k_ hk => (⟨hk, hk.2⟩ : _ ∧ k_ ≠ gb311))) (fun _ hk => hk.2) (.int .i64 ((rd_T25 t307 x16_1).f0))) (fun _ hk => hk.2) (.int .i64 ((rd_T25 t307 x16_1).f1))) (fun _ hk => hk.2) (.slice A310_2 ((rd_T25 t307 x16_1).f2).length c310_2)) (fun _ hk => hk.2) (.slice A310_3 ((rd_T25 t307 x16_1).f3).length c310_3)) (fun _ h_ => h_.1))) (Kd.R_base ho0) hb); have n4_ := Aside0.mk (Kd.V_elder' (by (with_reducible repeat (first | apply Kd.V_alloc | apply Kd.V_drewN | apply Kd.V_drew)); exact (Kd.V_mono (Kd.V_far (p := ⟨gb311, 3, none⟩) (Kd.V_far (p := ⟨gb311, 2, none⟩) (Kd.V_far (p := ⟨gb311, 1, none⟩) (Kd.V_far (p := ⟨gb311, 0, none⟩) (Kd.V_mono HL310_3.out (fun k_ hk => (⟨hk, hk.2⟩ : _ ∧ k_ ≠ gb311))) (fun _ hk => hk.2) (.int .i64 ((rd_T25 t307 x16_1).f0))) (fun _ hk => hk.2) (.int .i64 ((rd_T25 t307 x16_1).f1))) (fun _ hk => hk.2) (.slice A310_2 ((rd_T25 t307 x16_1).f2).length c310_2)) (fun _ hk => hk.2) (.slice A310_3 ((rd_T25 t307 x16_1).f3).length c310_3)) (fun _ h_ => h_.1))) (Kd.R_base ho0) hb); have n5_ := Aside0.mk (Kd.R_lower (Kd.R_new' ho0 (Kd.R_lt (by (with_reducible repeat (first | apply Kd.R_alloc | apply Kd.R_drewN | apply Kd.R_drew)); exact (Kd.R_mono (Kd.R_far (p := ⟨gb311, 3, none⟩) (Kd.R_far (p := ⟨gb311, 2, none⟩) (Kd.R_far (p := ⟨gb311, 1, none⟩) (Kd.R_far (p := ⟨gb311, 0, none⟩) (Kd.R_types HO_8.out BK311.out (by decide)) (fun _ hk => hk.2) (.int .i64 ((rd_T25 t307 x16_1).f0))) (fun _ hk => hk.2) (.int .i64 ((rd_T25 t307 x16_1).f1))) (fun _ hk => hk.2) (.slice A310_2 ((rd_T25 t307 x16_1).f2).length c310_2)) (fun _ hk => hk.2) (.slice A310_3 ((rd_T25 t307 x16_1).f3).length c310_3)) (fun _ h_ => h_.1))))) (below_size (bb2_ HB.out GE303.out GE311.out))); have n6_ := Aside0.mk (blk_below (g := gb303) (o := .cells #[.int .i64 a1_0, .int .i64 a1_1, .slice A1_2 l1_2.length c1_2, .slice A1_3 l1_3.length c1_3] 25 (0, 0)) (by (with_reducible repeat (first | refine blk_drewN ?_ _ | refine blk_drew ?_ | refine blk_alloc ?_ _)); refine blk_far ?_ NB303_311.out _; (with_reducible repeat (first | refine blk_drewN ?_ _ | refine blk_drew ?_ | refine blk_alloc ?_ _)); refine blk_far ?_ NB303_311.out _; (with_reducible repeat (first | refine blk_drewN ?_ _ | refine blk_drew ?_ | refine blk_alloc ?_ _)); refine blk_far ?_ NB303_311.out _; (with_reducible repeat (first | refine blk_drewN ?_ _ | refine blk_drew ?_ | refine blk_alloc ?_ _)); refine blk_far ?_ NB303_311.out _; (with_reducible repeat (first | refine blk_drewN ?_ _ | refine blk_drew ?_ | refine blk_alloc ?_ _)); exact BK303.out) hb); have n7_ := Aside0.mk (Kd.C_below ((Kd.V_reads' (by (with_reducible repeat (first | apply Kd.V_alloc | apply Kd.V_drewN | apply Kd.V_drew)); exact (Kd.V_mono (Kd.V_far (p := ⟨gb311, 3, none⟩) (Kd.V_far (p := ⟨gb311, 2, none⟩) (Kd.V_far (p := ⟨gb311, 1, none⟩) (Kd.V_far (p := ⟨gb311, 0, none⟩) (Kd.V_mono HL310_2.out (fun k_ hk => (⟨hk, hk.2⟩ : _ ∧ k_ ≠ gb311))) (fun _ hk => hk.2) (.int .i64 ((rd_T25 t307 x16_1).f0))) (fun _ hk => hk.2) (.int .i64 ((rd_T25 t307 x16_1).f1))) (fun _ hk => hk.2) (.slice A310_2 ((rd_T25 t307 x16_1).f2).length c310_2)) (fun _ hk => hk.2) (.slice A310_3 ((rd_T25 t307 x16_1).f3).length c310_3)) (fun _ h_ => h_.1)))).2.2) hb); have n8_ := Aside0.mk (Kd.C_below ((Kd.V_reads' (by (with_reducible repeat (first | apply Kd.V_alloc | apply Kd.V_drewN | apply Kd.V_drew)); exact (Kd.V_mono (Kd.V_far (p := ⟨gb311, 3, none⟩) (Kd.V_far (p := ⟨gb311, 2, none⟩) (Kd.V_far (p := ⟨gb311, 1, none⟩) (Kd.V_far (p := ⟨gb311, 0, none⟩) (Kd.V_mono HL310_3.out (fun k_ hk => (⟨hk, hk.2⟩ : _ ∧ k_ ≠ gb311))) (fun _ hk => hk.2) (.int .i64 ((rd_T25 t307 x16_1).f0))) (fun _ hk => hk.2) (.int .i64 ((rd_T25 t307 x16_1).f1))) (fun _ hk => hk.2) (.slice A310_2 ((rd_T25 t307 x16_1).f2).length c310_2)) (fun _ hk => hk.2) (.slice A310_3 ((rd_T25 t307 x16_1).f3).length c310_3)) (fun _ h_ => h_.1)))).2.2) hb); have n9_ := Aside0.mk (blk_below (g := gb311) (o := .cells #[.int .i64 ((rd_T25 t307 x16_1).f0), .int .i64 ((rd_T25 t307 x16_1).f1), .slice A310_2 ((rd_T25 t307 x16_1).f2).length c310_2, .slice A310_3 ((rd_T25 t307 x16_1).f3).length c310_3] 25 (0, 0)) (by (with_reducible repeat (first | refine blk_drewN ?_ _ | refine blk_drew ?_ | refine blk_alloc ?_ _)); refine blk_put (cs := #[.int .i64 ((rd_T25 t307 x16_1).f0), .int .i64 ((rd_T25 t307 x16_1).f1), .slice A310_2 ((rd_T25 t307 x16_1).f2).length c310_2, .slice none 0 0]) ?_ 3 _ rfl; (with_reducible repeat (first | refine blk_drewN ?_ _ | refine blk_drew ?_ | refine blk_alloc ?_ _)); refine blk_put (cs := #[.int .i64 ((rd_T25 t307 x16_1).f0), .int .i64 ((rd_T25 t307 x16_1).f1), .slice none 0 0, .slice none 0 0]) ?_ 2 _ rfl; (with_reducible repeat (first | refine blk_drewN ?_ _ | refine blk_drew ?_ | refine blk_alloc ?_ _)); refine blk_put (cs := #[.int .i64 ((rd_T25 t307 x16_1).f0), .int .i64 0, .slice none 0 0, .slice none 0 0]) ?_ 1 _ rfl; (with_reducible repeat (first | refine blk_drewN ?_ _ | refine blk_drew ?_ | refine blk_alloc ?_ _)); refine blk_put (cs := #[.int .i64 0, .int .i64 0, .slice none 0 0, .slice none 0 0]) ?_ 0 _ rfl; (with_reducible repeat (first | refine blk_drewN ?_ _ | refine blk_drew ?_ | refine blk_alloc ?_ _)); exact BK311.out) hb); have n10_ := Aside0.mk (below_step (bb2_ HB.out GE303.out GE311.out) hb); clear HO_7; clear HO_8; clear HO_14; clear HL310_2; clear HL310_3; clear BK303; clear HR310_2; clear HR310_3; clear BK311; clear HB; have HO_7 := n0_; have HO_8 := n1_; have HO_14 := n2_; have HL310_2 := n3_; have HL310_3 := n4_; have HO314 := n5_; have BK303 := n6_; have HR310_2 := n7_; have HR310_3 := n8_; have BK311 := n9_; have HB := n10_; clear n0_ n1_ n2_ n3_ n4_ n5_ n6_ n7_ n8_ n9_ n10_; (try clear hb); (try clear hb2); (try clear hk); (try clear hi); (try clear ho0); obtain ⟨Ao24, co24, eo24⟩ := Kd.R_slice HO314.out; subst eo24) | ((with_reducible refine gate_builtin (b := .append) (xs := #[.tmp 35, .tmp 38]) rfl ?_); at_builtin; refine Kd.R_append_rows (Kd.int .i64) (w0 := w) w.heap.size rfl (.tmp 35) (.tmp 38) 41 3 (.int .i64 0) 8 rfl Tryz.underlying41 info3 rfl (by decide) (by omega) u8 x8_1 t312 _ _ _ (fun k_ => some k_ ≠ (.slice Ao24 t312.length co24 : Value).ownBlock) (fun _ => False) rfl rfl ?aO ?aR (fun _ _ h => h) (fun _ h => h.elim) ?aF ?aB ?aS ?aL ?_; (case aR => repeat (first | exact (Kd.R_reads' HO314.out).2.2 | (with_reducible refine Kd.C_alloc ?_ _) | (with_reducible refine Kd.C_drewN ?_ _) | (with_reducible refine Kd.C_drew ?_))); (case aB => exact (bb2_ HB.out GE303.out GE311.out)); (case aF => exact (fun k_ hk => Kd.fresh' (Kd.R_lt (kr_ HO314.out)) k_ hk)); (case aO => exact (by (with_reducible repeat (first | apply Kd.R_alloc | apply Kd.R_drewN | apply Kd.R_drew)); exact Kd.R_mono HO_8.out (fun _ hk => hk.2))); (case aS => exact (below_size (bb2_ HB.out GE303.out GE311.out))); (case aL => have := LMc17.out; omega); intro v316 w23 ho hb hg hat; rw [← Ny315.out] at ho; have n0_ := Aside0.mk (Kd.R_over' (kr_ HO_7.out) (Kd.R_typed (kr_ HO_8.out)) (by decide) hg); have n1_ := Aside0.mk (Kd.N_afterv (ok := (fun k_ => some k_ ≠ (.slice Ao21 t304.length co21 : Value).ownBlock ∧ some k_ ≠ (.slice Ao24 t312.length co24 : Value).ownBlock ∧ k_ ≠ gb303 ∧ k_ ≠ gb311)) (by (with_reducible repeat (first | apply Kd.N_alloc | apply Kd.N_drewN | apply Kd.N_drew)); exact Kd.N_mono HO_14.out (fun _ hk => ⟨⟨hk.1.1.1, ⟨hk.2, ⟨hk.1.1.2.2, hk.1.2⟩⟩⟩, hk.1.1.2.1⟩)) hg hat); have n2_ := Aside0.mk (blk_grown (g := gb303) (o := .cells #[.int .i64 a1_0, .int .i64 a1_1, .slice A1_2 l1_2.length c1_2, .slice A1_3 l1_3.length c1_3] 25 (0, 0)) (bk_ BK303.out) hg (Kd.R_ne HO_8.out BK303.out (by decide))); have n3_ := Aside0.mk (Kd.V_afterv (ok := (fun k_ => some k_ ≠ (.slice Ao21 t304.length co21 : Value).ownBlock ∧ some k_ ≠ (.slice (some ad310) t307.length co10 : Value).ownBlock ∧ some k_ ≠ (.slice Ao24 t312.length co24 : Value).ownBlock ∧ k_ ≠ gb303 ∧ k_ ≠ gb311)) (by (with_reducible repeat (first | apply Kd.V_alloc | apply Kd.V_drewN | apply Kd.V_drew)); exact Kd.V_mono HL310_2.out (fun _ hk => ⟨⟨hk.1.1.1.1, ⟨hk.1.1.2, ⟨hk.2, ⟨hk.1.1.1.2.2, hk.1.2⟩⟩⟩⟩, hk.1.1.1.2.1⟩)) hg hat); have n4_ := Aside0.mk (Kd.V_afterv (ok := (fun k_ => some k_ ≠ (.slice Ao21 t304.length co21 : Value).ownBlock ∧ some k_ ≠ (.slice (some ad310) t307.length co10 : Value).ownBlock ∧ some k_ ≠ (.slice Ao24 t312.length co24 : Value).ownBlock ∧ k_ ≠ gb303 ∧ k_ ≠ gb311)) (by (with_reducible repeat (first | apply Kd.V_alloc | apply Kd.V_drewN | apply Kd.V_drew)); exact Kd.V_mono HL310_3.out (fun _ hk => ⟨⟨hk.1.1.1.1, ⟨hk.1.1.2, ⟨hk.2, ⟨hk.1.1.1.2.2, hk.1.2⟩⟩⟩⟩, hk.1.1.1.2.1⟩)) hg hat); have n5_ := Aside0.mk (blk_grown (g := gb311) (o := .cells #[.int .i64 ((rd_T25 t307 x16_1).f0), .int .i64 ((rd_T25 t307 x16_1).f1), .slice A310_2 ((rd_T25 t307 x16_1).f2).length c310_2, .slice A310_3 ((rd_T25 t307 x16_1).f3).length c310_3] 25 (0, 0)) (bk_ BK311.out) hg (Kd.R_ne HO_8.out BK311.out (by decide))); have n6_ := Aside0.mk (Kd.R_after (ok := (fun _ => True)) (kr_ HO314.out) hg hat); have n7_ := Aside0.mk (hb); have n8_ := Aside0.mk (ho); clear HO_7; clear HO_14; clear BK303; clear HL310_2; clear HL310_3; clear BK311; clear HO314; clear HB; clear HO_8; have HO_7 := n0_; have HO_14 := n1_; have BK303 := n2_; have HL310_2 := n3_; have HL310_3 := n4_; have BK311 := n5_; have HO314 := n6_; have HB := n7_; have HO317 := n8_; clear n0_ n1_ n2_ n3_ n4_ n5_ n6_ n7_ n8_; clear ho hb hg hat))
         go_roundg k1
         case measure => have := HK1.out; omega
         case rel => exact ⟨(y315), (wrap64 (x16_1 + 1)), rs_, H', ⟨by have := HK1.out; omega⟩, ⟨kr_ HO_7.out⟩, ⟨by (with_reducible repeat (first | apply Kd.R_alloc | apply Kd.R_drewN | apply Kd.R_drew)); exact Kd.R_mono HO317.out (fun _ hk => trivial)⟩, ⟨by (with_reducible repeat (first | apply Kd.N_alloc | apply Kd.N_drewN | apply Kd.N_drew)); exact Kd.N_mono HO_14.out (fun _ hk => ⟨hk.1.1, ⟨hk.2, hk.1.2.2.1⟩⟩)⟩, ⟨bk_ BK303.out⟩, ⟨bb2_ HB.out GE303.out GE311.out⟩⟩
        ·rw [if_neg c17] at H
         exact absurd H (by simp)
       ·rw [if_neg c15] at H
        have c15b0 : (((rd_T25 t307 x16_1).f1) == 0) = false := beq_eq_false_iff_ne.mpr c15
        have c15b1 : (((rd_T25 t307 x16_1).f1) != 0) = true := bne_iff_ne.mpr c15
        by_cases c25 : ((rd_T25 t307 x16_1).f1) = a2
        ·rw [if_pos c25] at H
         have c25b0 : (((rd_T25 t307 x16_1).f1) == a2) = true := beq_iff_eq.mpr c25
         have c25b1 : (((rd_T25 t307 x16_1).f1) != a2) = false := bne_eq_false_iff_eq.mpr c25
         clear c25
         replace H := Option.bind_eq_some_iff.mp H
         obtain ⟨t318, A260, H⟩ := H
         replace H : (if x8_1.length + t318.length < 17592186044416 then (excerpt_Marks.l0 k1 a2 t304 (x8_1 ++ t318) t307 (t307.length : Int) (wrap64 (x16_1 + 1))) else (none)) = some r := H
         have A26 := Aside0.mk A260
         clear A260
         by_cases c27 : x8_1.length + t318.length < 17592186044416
         ·rw [if_pos c27] at H
          have LMc27 := Aside0.mk c27
          clear c27
          obtain ⟨y321, hy321⟩ : ∃ y_ : List Int, y_ = (x8_1 ++ t318) := ⟨_, rfl⟩
          replace H : (excerpt_Marks.l0 k1 a2 t304 y321 t307 (t307.length : Int) (wrap64 (x16_1 + 1))) = some r := by first | (rw [hy321]; with_reducible exact H) | (have H2_ := (Option.bind_some _ _).symm.trans H; rw [hy321]; with_reducible exact H2_) | (have H2_ := (Option.bind_some _ _).symm.trans H; with_reducible exact H2_) | with_reducible exact H | (rw [hy321]; exact H) | exact H
          have Ny321 := Aside0.mk hy321
          clear hy321
          have H' := Aside0.mk H
          clear H
          have p310 : 0 ≤ (x16_1 : Int) := of_decide_eq_true as_
          have q310 : x16_1 < (t307.length : Int) := of_decide_eq_true as_
          obtain ⟨ad310, A310_2, c310_2, A310_3, c310_3, e310, hx310_0, hx310_1, hx310_2, hx310_3, hl310_2, hi310_2, hl310_3, hi310_3⟩ := at_T25 (Kd.N_reads' HO_14.out).2.2 x16_1 p310 q310
          cases e310
          obtain ⟨ce310, hce310, hMe310, hcc310⟩ := Kd.N_get HO_14.out z25 x16_1 p310 (by first | exact q310 | exact of_decide_eq_true as_ | (have e_ := (Kd.N_reads' HO_14.out).1; omega))
          obtain ⟨ua310_2, uc310_2, ua310_3, uc310_3, rfl, ul310_2, ge310_2, ul310_3, ge310_3⟩ := k25_openF hMe310
          have hv310_2 := hcc310 2 _ rfl
          rw [add_field _ _ 2 (by omega)] at hv310_2
          replace hv310_2 := Option.some.inj (hv310_2.symm.trans hx310_2)
          injection hv310_2 with hva_ hvn_ hvc_
          rw [hva_] at ge310_2
          rw [hvc_] at ul310_2
          have HL310_2 := Aside0.mk (show Kd.V k40 40 _ w.heap.size _ _ ((rd_T25 t307 x16_1).f2) from Kd.V_mk ul310_2 ge310_2)
          clear hva_ hvn_ hvc_ ge310_2 ul310_2
          have hv310_3 := hcc310 3 _ rfl
          rw [add_field _ _ 3 (by omega)] at hv310_3
          replace hv310_3 := Option.some.inj (hv310_3.symm.trans hx310_3)
          injection hv310_3 with hva_ hvn_ hvc_
          rw [hva_] at ge310_3
          rw [hvc_] at ul310_3
          have HL310_3 := Aside0.mk (show Kd.V k25 25 _ w.heap.size _ _ ((rd_T25 t307 x16_1).f3) from Kd.V_mk ul310_3 ge310_3)
          clear hva_ hvn_ hvc_ ge310_3 ul310_3
          clear hcc310 hce310
          have HR310_2 := Aside0.mk hi310_2
          have HC310_2 := Aside0.mk hl310_2
          clear hi310_2 hl310_2
          have HR310_3 := Aside0.mk hi310_3
          have HC310_3 := Aside0.mk hl310_3
          clear hi310_3 hl310_3
          replace p310 := eq_true p310
          replace q310 := eq_true q310
          go_wp2_with (first | ((with_reducible refine gate_dst (N := 10) rfl ?_); refine box_event ?hg (N := 10) ?hd (cs := #[.int .i64 0, .int .i64 0, .slice none 0 0, .slice none 0 0]) (t := 25) ?hr ?_; (case hd => rfl); (case hg => rfl); (case hr => first | (go_simp; done) | (go_simp; rfl)); intro gb311 hg w28 hbox hb; have n0_ := Aside0.mk (Kd.R_below (kr_ HO_7.out) hb); have n1_ := Aside0.mk (Kd.R_below (kr_ HO_8.out) hb); have n2_ := Aside0.mk (Kd.N_below (Kd.N_elderB (by (with_reducible repeat (first | apply Kd.N_alloc | apply Kd.N_drewN | apply Kd.N_drew)); exact HO_14.out) gb311 (Nat.le_of_eq hg.symm)) hb); have n3_ := Aside0.mk (Kd.V_below (Kd.V_elderB (by (with_reducible repeat (first | apply Kd.V_alloc | apply Kd.V_drewN | apply Kd.V_drew)); exact HL310_2.out) gb311 (Nat.le_of_eq hg.symm)) hb); have n4_ := Aside0.mk (Kd.V_below (Kd.V_elderB (by (with_reducible repeat (first | apply Kd.V_alloc | apply Kd.V_drewN | apply Kd.V_drew)); exact HL310_3.out) gb311 (Nat.le_of_eq hg.symm)) hb); have n5_ := Aside0.mk (blk_below (g := gb303) (o := .cells #[.int .i64 a1_0, .int .i64 a1_1, .slice A1_2 l1_2.length c1_2, .slice A1_3 l1_3.length c1_3] 25 (0, 0)) (bk_ BK303.out) hb); have n6_ := Aside0.mk (Kd.C_below (by repeat (first | (with_reducible exact HR310_2.out) | (with_reducible refine Kd.C_alloc ?_ _) | (with_reducible refine Kd.C_drewN ?_ _) | (with_reducible refine Kd.C_drew ?_) | exact HR310_2.out)) hb); have n7_ := Aside0.mk (Kd.C_below (by repeat (first | (with_reducible exact HR310_3.out) | (with_reducible refine Kd.C_alloc ?_ _) | (with_reducible refine Kd.C_drewN ?_ _) | (with_reducible refine Kd.C_drew ?_) | exact HR310_3.out)) hb); have n8_ := Aside0.mk (below_step (bb1_ HB.out GE303.out) hb); have n9_ := Aside0.mk (hbox); have n10_ := Aside0.mk ((by rw [hg]; exact (below_size (bb1_ HB.out GE303.out)) : w.heap.size ≤ gb311)); have n11_ := Aside0.mk ((by rw [hg]; exact (below_size (bb1_ HB.out GE303.out)) : w.heap.size ≤ gb311)); have n12_ := Aside0.mk ((by rw [hg]; exact Nat.ne_of_lt (blk_lt (g := gb303) (o := .cells #[.int .i64 a1_0, .int .i64 a1_1, .slice A1_2 l1_2.length c1_2, .slice A1_3 l1_3.length c1_3] 25 (0, 0)) (bk_ BK303.out)) : gb303 ≠ gb311)); have n13_ := Aside0.mk ((by rw [hg]; exact Nat.ne_of_gt (blk_lt (g := gb303) (o := .cells #[.int .i64 a1_0, .int .i64 a1_1, .slice A1_2 l1_2.length c1_2, .slice A1_3 l1_3.length c1_3] 25 (0, 0)) (bk_ BK303.out)) : gb311 ≠ gb303)); clear HO_7; clear HO_8; clear HO_14; clear HL310_2; clear HL310_3; clear BK303; clear HR310_2; clear HR310_3; clear HB; have HO_7 := n0_; have HO_8 := n1_; have HO_14 := n2_; have HL310_2 := n3_; have HL310_3 := n4_; have BK303 := n5_; have HR310_2 := n6_; have HR310_3 := n7_; have HB := n8_; have BK311 := n9_; have GW311 := n10_; have GE311 := n11_; have NB303_311 := n12_; have NB311_303 := n13_; clear n0_ n1_ n2_ n3_ n4_ n5_ n6_ n7_ n8_ n9_ n10_ n11_ n12_ n13_; clear hb hbox hg; have hnb29 := NB311_303.out; have hnc29 := NB303_311.out; have hcz30_0 : w28.cell? ⟨gb311, 0, none⟩ = some (.int .i64 0) := (blk_cell BK311.out 0).trans rfl; have hcz30_1 : w28.cell? ⟨gb311, 1, none⟩ = some (.int .i64 0) := (blk_cell BK311.out 1).trans rfl; have hcz30_2 : w28.cell? ⟨gb311, 2, none⟩ = some (.slice none 0 0) := (blk_cell BK311.out 2).trans rfl; have hcz30_3 : w28.cell? ⟨gb311, 3, none⟩ = some (.slice none 0 0) := (blk_cell BK311.out 3).trans rfl; have hfz30_0 := blk_frozen BK311.out 0; have hfz30_1 := blk_frozen BK311.out 1; have hfz30_2 := blk_frozen BK311.out 2; have hfz30_3 := blk_frozen BK311.out 3; obtain ⟨Ao31, co31, eo31⟩ := Kd.R_slice HO_7.out; subst eo31) | ((with_reducible refine gate_callee (f := 29) rfl ?_); refine goesL_ (some 38) rfl rfl Tryz.func29 (by kernel_rfl) rfl #[.slice Ao31 t304.length co31, .agg #[.int .i64 ((rd_T25 t307 x16_1).f0), .int .i64 ((rd_T25 t307 x16_1).f1), .slice A310_2 ((rd_T25 t307 x16_1).f2).length c310_2, .slice A310_3 ((rd_T25 t307 x16_1).f3).length c310_3]] rfl ar_ ?_; (with_reducible refine (excerpt_marks.calls k1 _ _ t304 ((rd_T25 t307 x16_1).f0) ((rd_T25 t307 x16_1).f1) _ _ ((rd_T25 t307 x16_1).f2) _ _ ((rd_T25 t307 x16_1).f3) t318 _ ?side1 ?side2 ?side3 ?side4 ?side5 ?side6 A26.out).mono ?_); (case side1 => refine (Kd.R_reads' (e := 40) (base := w.heap.size) (ok := fun k_ => True) (n := t304.length) (c := co31) ?_).2.2; exact (by (with_reducible repeat (first | apply Kd.R_alloc | apply Kd.R_drewN | apply Kd.R_drew)); exact (Kd.R_mono (Kd.R_far (p := ⟨gb311, 3, none⟩) (Kd.R_far (p := ⟨gb311, 2, none⟩) (Kd.R_far (p := ⟨gb311, 1, none⟩) (Kd.R_far (p := ⟨gb311, 0, none⟩) (Kd.R_types HO_7.out BK311.out (by decide)) (fun _ hk => hk.2) (.int .i64 ((rd_T25 t307 x16_1).f0))) (fun _ hk => hk.2) (.int .i64 ((rd_T25 t307 x16_1).f1))) (fun _ hk => hk.2) (.slice A310_2 ((rd_T25 t307 x16_1).f2).length c310_2)) (fun _ hk => hk.2) (.slice A310_3 ((rd_T25 t307 x16_1).f3).length c310_3)) (fun _ h_ => h_.1)))); (case side2 => exact (Kd.R_reads' HO_7.out).2.1); (case side3 => repeat (first | exact ((Kd.V_reads' (by (with_reducible repeat (first | apply Kd.V_alloc | apply Kd.V_drewN | apply Kd.V_drew)); exact (Kd.V_mono (Kd.V_far (p := ⟨gb311, 3, none⟩) (Kd.V_far (p := ⟨gb311, 2, none⟩) (Kd.V_far (p := ⟨gb311, 1, none⟩) (Kd.V_far (p := ⟨gb311, 0, none⟩) (Kd.V_mono HL310_2.out (fun k_ hk => (⟨hk, hk.2⟩ : _ ∧ k_ ≠ gb311))) (fun _ hk => hk.2) (.int .i64 ((rd_T25 t307 x16_1).f0))) (fun _ hk => hk.2) (.int .i64 ((rd_T25 t307 x16_1).f1))) (fun _ hk => hk.2) (.slice A310_2 ((rd_T25 t307 x16_1).f2).length c310_2)) (fun _ hk => hk.2) (.slice A310_3 ((rd_T25 t307 x16_1).f3).length c310_3)) (fun _ h_ => h_.1)))).2.2) | (with_reducible refine Kd.C_alloc ?_ _) | (with_reducible refine Kd.C_drewN ?_ _) | (with_reducible refine Kd.C_drew ?_))); (case side4 => exact HC310_2.out); (case side5 => repeat (first | exact ((Kd.V_reads' (by (with_reducible repeat (first | apply Kd.V_alloc | apply Kd.V_drewN | apply Kd.V_drew)); exact (Kd.V_mono (Kd.V_far (p := ⟨gb311, 3, none⟩) (Kd.V_far (p := ⟨gb311, 2, none⟩) (Kd.V_far (p := ⟨gb311, 1, none⟩) (Kd.V_far (p := ⟨gb311, 0, none⟩) (Kd.V_mono HL310_3.out (fun k_ hk => (⟨hk, hk.2⟩ : _ ∧ k_ ≠ gb311))) (fun _ hk => hk.2) (.int .i64 ((rd_T25 t307 x16_1).f0))) (fun _ hk => hk.2) (.int .i64 ((rd_T25 t307 x16_1).f1))) (fun _ hk => hk.2) (.slice A310_2 ((rd_T25 t307 x16_1).f2).length c310_2)) (fun _ hk => hk.2) (.slice A310_3 ((rd_T25 t307 x16_1).f3).length c310_3)) (fun _ h_ => h_.1)))).2.2) | (with_reducible refine Kd.C_alloc ?_ _) | (with_reducible refine Kd.C_drewN ?_ _) | (with_reducible refine Kd.C_drew ?_))); (case side6 => exact HC310_3.out); rintro e w32 ⟨v319, rfl, ho0, hb⟩; refine ⟨_, rfl, ?_⟩; have n0_ := Aside0.mk (Kd.R_below (by (with_reducible repeat (first | apply Kd.R_alloc | apply Kd.R_drewN | apply Kd.R_drew)); exact (Kd.R_mono (Kd.R_far (p := ⟨gb311, 3, none⟩) (Kd.R_far (p := ⟨gb311, 2, none⟩) (Kd.R_far (p := ⟨gb311, 1, none⟩) (Kd.R_far (p := ⟨gb311, 0, none⟩) (Kd.R_types HO_7.out BK311.out (by decide)) (fun _ hk => hk.2) (.int .i64 ((rd_T25 t307 x16_1).f0))) (fun _ hk => hk.2) (.int .i64 ((rd_T25 t307 x16_1).f1))) (fun _ hk => hk.2) (.slice A310_2 ((rd_T25 t307 x16_1).f2).length c310_2)) (fun _ hk => hk.2) (.slice A310_3 ((rd_T25 t307 x16_1).f3).length c310_3)) (fun _ h_ => h_.1))) hb); have n1_ := Aside0.mk (Kd.R_elder' (by (with_reducible repeat (first | apply Kd.R_alloc | apply Kd.R_drewN | apply Kd.R_drew)); exact (Kd.R_mono (Kd.R_far (p := ⟨gb311, 3, none⟩) (Kd.R_far (p := ⟨gb311, 2, none⟩) (Kd.R_far (p := ⟨gb311, 1, none⟩) (Kd.R_far (p := ⟨gb311, 0, none⟩) (Kd.R_types HO_8.out BK311.out (by decide)) (fun _ hk => hk.2) (.int .i64 ((rd_T25 t307 x16_1).f0))) (fun _ hk => hk.2) (.int .i64 ((rd_T25 t307 x16_1).f1))) (fun _ hk => hk.2) (.slice A310_2 ((rd_T25 t307 x16_1).f2).length c310_2)) (fun _ hk => hk.2) (.slice A310_3 ((rd_T25 t307 x16_1).f3).length c310_3)) (fun _ h_ => h_.1))) (Kd.R_base ho0) hb); have n2_ := Aside0.mk (Kd.N_elder' (by (with_reducible repeat (first | apply Kd.N_alloc | apply Kd.N_drewN | apply Kd.N_drew)); exact (Kd.N_mono (Kd.N_far (p := ⟨gb311, 3, none⟩) (Kd.N_far (p := ⟨gb311, 2, none⟩) (Kd.N_far (p := ⟨gb311, 1, none⟩) (Kd.N_far (p := ⟨gb311, 0, none⟩) (Kd.N_mono HO_14.out (fun k_ hk => (⟨hk, hk.2⟩ : _ ∧ k_ ≠ gb311))) (fun _ hk => hk.2) (.int .i64 ((rd_T25 t307 x16_1).f0))) (fun _ hk => hk.2) (.int .i64 ((rd_T25 t307 x16_1).f1))) (fun _ hk => hk.2) (.slice A310_2 ((rd_T25 t307 x16_1).f2).length c310_2)) (fun _ hk => hk.2) (.slice A310_3 ((rd_T25 t307 x16_1).f3).length c310_3)) (fun _ h_ => h_.1))) (Kd.R_base ho0) hb); have n3_ := Aside0.mk (Kd.V_elder' (by (with_reducible repeat (first | apply Kd.V_alloc | apply Kd.V_drewN | apply Kd.V_drew)); exact (Kd.V_mono (Kd.V_far (p := ⟨gb311, 3, none⟩) (Kd.V_far (p := ⟨gb311, 2, none⟩) (Kd.V_far (p := ⟨gb311, 1, none⟩) (Kd.V_far (p := ⟨gb311, 0, none⟩) (Kd.V_mono HL310_2.out (fun k_ hk => (⟨hk, hk.2⟩ : _ ∧ k_ ≠ gb311))) (fun _ hk => hk.2) (.int .i64 ((rd_T25 t307 x16_1).f0))) (fun _ hk => hk.2) (.int .i64 ((rd_T25 t307 x16_1).f1))) (fun _ hk => hk.2) (.slice A310_2 ((rd_T25 t307 x16_1).f2).length c310_2)) (fun _ hk => hk.2) (.slice A310_3 ((rd_T25 t307 x16_1).f3).length c310_3)) (fun _ h_ => h_.1))) (Kd.R_base ho0) hb); have n4_ := Aside0.mk (Kd.V_elder' (by (with_reducible repeat (first | apply Kd.V_alloc | apply Kd.V_drewN | apply Kd.V_drew)); exact (Kd.V_mono (Kd.V_far (p := ⟨gb311, 3, none⟩) (Kd.V_far (p := ⟨gb311, 2, none⟩) (Kd.V_far (p := ⟨gb311, 1, none⟩) (Kd.V_far (p := ⟨gb311, 0, none⟩) (Kd.V_mono HL310_3.out (fun k_ hk => (⟨hk, hk.2⟩ : _ ∧ k_ ≠ gb311))) (fun _ hk => hk.2) (.int .i64 ((rd_T25 t307 x16_1).f0))) (fun _ hk => hk.2) (.int .i64 ((rd_T25 t307 x16_1).f1))) (fun _ hk => hk.2) (.slice A310_2 ((rd_T25 t307 x16_1).f2).length c310_2)) (fun _ hk => hk.2) (.slice A310_3 ((rd_T25 t307 x16_1).f3).length c310_3)) (fun _ h_ => h_.1))) (Kd.R_base ho0) hb); have n5_ := Aside0.mk (Kd.R_lower (Kd.R_new' ho0 (Kd.R_lt (by (with_reducible repeat (first | apply Kd.R_alloc | apply Kd.R_drewN | apply Kd.R_drew)); exact (Kd.R_mono (Kd.R_far (p := ⟨gb311, 3, none⟩) (Kd.R_far (p := ⟨gb311, 2, none⟩) (Kd.R_far (p := ⟨gb311, 1, none⟩) (Kd.R_far (p := ⟨gb311, 0, none⟩) (Kd.R_types HO_8.out BK311.out (by decide)) (fun _ hk => hk.2) (.int .i64 ((rd_T25 t307 x16_1).f0))) (fun _ hk => hk.2) (.int .i64 ((rd_T25 t307 x16_1).f1))) (fun _ hk => hk.2) (.slice A310_2 ((rd_T25 t307 x16_1).f2).length c310_2)) (fun _ hk => hk.2) (.slice A310_3 ((rd_T25 t307 x16_1).f3).length c310_3)) (fun _ h_ => h_.1))))) (below_size (bb2_ HB.out GE303.out GE311.out))); have n6_ := Aside0.mk (blk_below (g := gb303) (o := .cells #[.int .i64 a1_0, .int .i64 a1_1, .slice A1_2 l1_2.length c1_2, .slice A1_3 l1_3.length c1_3] 25 (0, 0)) (by (with_reducible repeat (first | refine blk_drewN ?_ _ | refine blk_drew ?_ | refine blk_alloc ?_ _)); refine blk_far ?_ NB303_311.out _; (with_reducible repeat (first | refine blk_drewN ?_ _ | refine blk_drew ?_ | refine blk_alloc ?_ _)); refine blk_far ?_ NB303_311.out _; (with_reducible repeat (first | refine blk_drewN ?_ _ | refine blk_drew ?_ | refine blk_alloc ?_ _)); refine blk_far ?_ NB303_311.out _; (with_reducible repeat (first | refine blk_drewN ?_ _ | refine blk_drew ?_ | refine blk_alloc ?_ _)); refine blk_far ?_ NB303_311.out _; (with_reducible repeat (first | refine blk_drewN ?_ _ | refine blk_drew ?_ | refine blk_alloc ?_ _)); exact BK303.out) hb); have n7_ := Aside0.mk (Kd.C_below ((Kd.V_reads' (by (with_reducible repeat (first | apply Kd.V_alloc | apply Kd.V_drewN | apply Kd.V_drew)); exact (Kd.V_mono (Kd.V_far (p := ⟨gb311, 3, none⟩) (Kd.V_far (p := ⟨gb311, 2, none⟩) (Kd.V_far (p := ⟨gb311, 1, none⟩) (Kd.V_far (p := ⟨gb311, 0, none⟩) (Kd.V_mono HL310_2.out (fun k_ hk => (⟨hk, hk.2⟩ : _ ∧ k_ ≠ gb311))) (fun _ hk => hk.2) (.int .i64 ((rd_T25 t307 x16_1).f0))) (fun _ hk => hk.2) (.int .i64 ((rd_T25 t307 x16_1).f1))) (fun _ hk => hk.2) (.slice A310_2 ((rd_T25 t307 x16_1).f2).length c310_2)) (fun _ hk => hk.2) (.slice A310_3 ((rd_T25 t307 x16_1).f3).length c310_3)) (fun _ h_ => h_.1)))).2.2) hb); have n8_ := Aside0.mk (Kd.C_below ((Kd.V_reads' (by (with_reducible repeat (first | apply Kd.V_alloc | apply Kd.V_drewN | apply Kd.V_drew)); exact (Kd.V_mono (Kd.V_far (p := ⟨gb311, 3, none⟩) (Kd.V_far (p := ⟨gb311, 2, none⟩) (Kd.V_far (p := ⟨gb311, 1, none⟩) (Kd.V_far (p := ⟨gb311, 0, none⟩) (Kd.V_mono HL310_3.out (fun k_ hk => (⟨hk, hk.2⟩ : _ ∧ k_ ≠ gb311))) (fun _ hk => hk.2) (.int .i64 ((rd_T25 t307 x16_1).f0))) (fun _ hk => hk.2) (.int .i64 ((rd_T25 t307 x16_1).f1))) (fun _ hk => hk.2) (.slice A310_2 ((rd_T25 t307 x16_1).f2).length c310_2)) (fun _ hk => hk.2) (.slice A310_3 ((rd_T25 t307 x16_1).f3).length c310_3)) (fun _ h_ => h_.1)))).2.2) hb); have n9_ := Aside0.mk (blk_below (g := gb311) (o := .cells #[.int .i64 ((rd_T25 t307 x16_1).f0), .int .i64 ((rd_T25 t307 x16_1).f1), .slice A310_2 ((rd_T25 t307 x16_1).f2).length c310_2, .slice A310_3 ((rd_T25 t307 x16_1).f3).length c310_3] 25 (0, 0)) (by (with_reducible repeat (first | refine blk_drewN ?_ _ | refine blk_drew ?_ | refine blk_alloc ?_ _)); refine blk_put (cs := #[.int .i64 ((rd_T25 t307 x16_1).f0), .int .i64 ((rd_T25 t307 x16_1).f1), .slice A310_2 ((rd_T25 t307 x16_1).f2).length c310_2, .slice none 0 0]) ?_ 3 _ rfl; (with_reducible repeat (first | refine blk_drewN ?_ _ | refine blk_drew ?_ | refine blk_alloc ?_ _)); refine blk_put (cs := #[.int .i64 ((rd_T25 t307 x16_1).f0), .int .i64 ((rd_T25 t307 x16_1).f1), .slice none 0 0, .slice none 0 0]) ?_ 2 _ rfl; (with_reducible repeat (first | refine blk_drewN ?_ _ | refine blk_drew ?_ | refine blk_alloc ?_ _)); refine blk_put (cs := #[.int .i64 ((rd_T25 t307 x16_1).f0), .int .i64 0, .slice none 0 0, .slice none 0 0]) ?_ 1 _ rfl; (with_reducible repeat (first | refine blk_drewN ?_ _ | refine blk_drew ?_ | refine blk_alloc ?_ _)); refine blk_put (cs := #[.int .i64 0, .int .i64 0, .slice none 0 0, .slice none 0 0]) ?_ 0 _ rfl; (with_reducible repeat (first | refine blk_drewN ?_ _ | refine blk_drew ?_ | refine blk_alloc ?_ _)); exact BK311.out) hb); have n10_ := Aside0.mk (below_step (bb2_ HB.out GE303.out GE311.out) hb); clear HO_7; clear HO_8; clear HO_14; clear HL310_2; clear HL310_3; clear BK303; clear HR310_2; clear HR310_3; clear BK311; clear HB; have HO_7 := n0_; have HO_8 := n1_; have HO_14 := n2_; have HL310_2 := n3_; have HL310_3 := n4_; have HO320 := n5_; have BK303 := n6_; have HR310_2 := n7_; have HR310_3 := n8_; have BK311 := n9_; have HB := n10_; clear n0_ n1_ n2_ n3_ n4_ n5_ n6_ n7_ n8_ n9_ n10_; (try clear hb); (try clear hb2); (try clear hk); (try clear hi); (try clear ho0); obtain ⟨Ao34, co34, eo34⟩ := Kd.R_slice HO320.out; subst eo34) | ((with_reducible refine gate_builtin (b := .append) (xs := #[.tmp 35, .tmp 38]) rfl ?_); at_builtin; refine Kd.R_append_rows (Kd.int .i64) (w0 := w) w.heap.size rfl (.tmp 35) (.tmp 38) 41 3 (.int .i64 0) 8 rfl Tryz.underlying41 info3 rfl (by decide) (by omega) u8 x8_1 t318 _ _ _ (fun k_ => some k_ ≠ (.slice Ao34 t318.length co34 : Value).ownBlock) (fun _ => False) rfl rfl ?aO ?aR (fun _ _ h => h) (fun _ h => h.elim) ?aF ?aB ?aS ?aL ?_; (case aR => repeat (first | exact (Kd.R_reads' HO320.out).2.2 | (with_reducible refine Kd.C_alloc ?_ _) | (with_reducible refine Kd.C_drewN ?_ _) | (with_reducible refine Kd.C_drew ?_))); (case aB => exact (bb2_ HB.out GE303.out GE311.out)); (case aF => exact (fun k_ hk => Kd.fresh' (Kd.R_lt (kr_ HO320.out)) k_ hk)); (case aO => exact (by (with_reducible repeat (first | apply Kd.R_alloc | apply Kd.R_drewN | apply Kd.R_drew)); exact Kd.R_mono HO_8.out (fun _ hk => hk.2))); (case aS => exact (below_size (bb2_ HB.out GE303.out GE311.out))); (case aL => have := LMc27.out; omega); intro v322 w33 ho hb hg hat; rw [← Ny321.out] at ho; have n0_ := Aside0.mk (Kd.R_over' (kr_ HO_7.out) (Kd.R_typed (kr_ HO_8.out)) (by decide) hg); have n1_ := Aside0.mk (Kd.N_afterv (ok := (fun k_ => some k_ ≠ (.slice Ao31 t304.length co31 : Value).ownBlock ∧ some k_ ≠ (.slice Ao34 t318.length co34 : Value).ownBlock ∧ k_ ≠ gb303 ∧ k_ ≠ gb311)) (by (with_reducible repeat (first | apply Kd.N_alloc | apply Kd.N_drewN | apply Kd.N_drew)); exact Kd.N_mono HO_14.out (fun _ hk => ⟨⟨hk.1.1.1, ⟨hk.2, ⟨hk.1.1.2.2, hk.1.2⟩⟩⟩, hk.1.1.2.1⟩)) hg hat); have n2_ := Aside0.mk (blk_grown (g := gb303) (o := .cells #[.int .i64 a1_0, .int .i64 a1_1, .slice A1_2 l1_2.length c1_2, .slice A1_3 l1_3.length c1_3] 25 (0, 0)) (bk_ BK303.out) hg (Kd.R_ne HO_8.out BK303.out (by decide))); have n3_ := Aside0.mk (Kd.V_afterv (ok := (fun k_ => some k_ ≠ (.slice Ao31 t304.length co31 : Value).ownBlock ∧ some k_ ≠ (.slice (some ad310) t307.length co10 : Value).ownBlock ∧ some k_ ≠ (.slice Ao34 t318.length co34 : Value).ownBlock ∧ k_ ≠ gb303 ∧ k_ ≠ gb311)) (by (with_reducible repeat (first | apply Kd.V_alloc | apply Kd.V_drewN | apply Kd.V_drew)); exact Kd.V_mono HL310_2.out (fun _ hk => ⟨⟨hk.1.1.1.1, ⟨hk.1.1.2, ⟨hk.2, ⟨hk.1.1.1.2.2, hk.1.2⟩⟩⟩⟩, hk.1.1.1.2.1⟩)) hg hat); have n4_ := Aside0.mk (Kd.V_afterv (ok := (fun k_ => some k_ ≠ (.slice Ao31 t304.length co31 : Value).ownBlock ∧ some k_ ≠ (.slice (some ad310) t307.length co10 : Value).ownBlock ∧ some k_ ≠ (.slice Ao34 t318.length co34 : Value).ownBlock ∧ k_ ≠ gb303 ∧ k_ ≠ gb311)) (by (with_reducible repeat (first | apply Kd.V_alloc | apply Kd.V_drewN | apply Kd.V_drew)); exact Kd.V_mono HL310_3.out (fun _ hk => ⟨⟨hk.1.1.1.1, ⟨hk.1.1.2, ⟨hk.2, ⟨hk.1.1.1.2.2, hk.1.2⟩⟩⟩⟩, hk.1.1.1.2.1⟩)) hg hat); have n5_ := Aside0.mk (blk_grown (g := gb311) (o := .cells #[.int .i64 ((rd_T25 t307 x16_1).f0), .int .i64 ((rd_T25 t307 x16_1).f1), .slice A310_2 ((rd_T25 t307 x16_1).f2).length c310_2, .slice A310_3 ((rd_T25 t307 x16_1).f3).length c310_3] 25 (0, 0)) (bk_ BK311.out) hg (Kd.R_ne HO_8.out BK311.out (by decide))); have n6_ := Aside0.mk (Kd.R_after (ok := (fun _ => True)) (kr_ HO320.out) hg hat); have n7_ := Aside0.mk (hb); have n8_ := Aside0.mk (ho); clear HO_7; clear HO_14; clear BK303; clear HL310_2; clear HL310_3; clear BK311; clear HO320; clear HB; clear HO_8; have HO_7 := n0_; have HO_14 := n1_; have BK303 := n2_; have HL310_2 := n3_; have HL310_3 := n4_; have BK311 := n5_; have HO320 := n6_; have HB := n7_; have HO323 := n8_; clear n0_ n1_ n2_ n3_ n4_ n5_ n6_ n7_ n8_; clear ho hb hg hat))
          go_roundg k1
          case measure => have := HK1.out; omega
          case rel => exact ⟨(y321), (wrap64 (x16_1 + 1)), rs_, H', ⟨by have := HK1.out; omega⟩, ⟨kr_ HO_7.out⟩, ⟨by (with_reducible repeat (first | apply Kd.R_alloc | apply Kd.R_drewN | apply Kd.R_drew)); exact Kd.R_mono HO323.out (fun _ hk => trivial)⟩, ⟨by (with_reducible repeat (first | apply Kd.N_alloc | apply Kd.N_drewN | apply Kd.N_drew)); exact Kd.N_mono HO_14.out (fun _ hk => ⟨hk.1.1, ⟨hk.2, hk.1.2.2.1⟩⟩)⟩, ⟨bk_ BK303.out⟩, ⟨bb2_ HB.out GE303.out GE311.out⟩⟩
         ·rw [if_neg c27] at H
          exact absurd H (by simp)
        ·rw [if_neg c25] at H
         have c25b0 : (((rd_T25 t307 x16_1).f1) == a2) = false := beq_eq_false_iff_ne.mpr c25
         have c25b1 : (((rd_T25 t307 x16_1).f1) != a2) = true := bne_iff_ne.mpr c25
         have H' := Aside0.mk H
         clear H
         have p310 : 0 ≤ (x16_1 : Int) := of_decide_eq_true as_
         have q310 : x16_1 < (t307.length : Int) := of_decide_eq_true as_
         obtain ⟨ad310, A310_2, c310_2, A310_3, c310_3, e310, hx310_0, hx310_1, hx310_2, hx310_3, hl310_2, hi310_2, hl310_3, hi310_3⟩ := at_T25 (Kd.N_reads' HO_14.out).2.2 x16_1 p310 q310
         cases e310
         obtain ⟨ce310, hce310, hMe310, hcc310⟩ := Kd.N_get HO_14.out z25 x16_1 p310 (by first | exact q310 | exact of_decide_eq_true as_ | (have e_ := (Kd.N_reads' HO_14.out).1; omega))
         obtain ⟨ua310_2, uc310_2, ua310_3, uc310_3, rfl, ul310_2, ge310_2, ul310_3, ge310_3⟩ := k25_openF hMe310
         have hv310_2 := hcc310 2 _ rfl
         rw [add_field _ _ 2 (by omega)] at hv310_2
         replace hv310_2 := Option.some.inj (hv310_2.symm.trans hx310_2)
         injection hv310_2 with hva_ hvn_ hvc_
         rw [hva_] at ge310_2
         rw [hvc_] at ul310_2
         have HL310_2 := Aside0.mk (show Kd.V k40 40 _ w.heap.size _ _ ((rd_T25 t307 x16_1).f2) from Kd.V_mk ul310_2 ge310_2)
         clear hva_ hvn_ hvc_ ge310_2 ul310_2
         have hv310_3 := hcc310 3 _ rfl
         rw [add_field _ _ 3 (by omega)] at hv310_3
         replace hv310_3 := Option.some.inj (hv310_3.symm.trans hx310_3)
         injection hv310_3 with hva_ hvn_ hvc_
         rw [hva_] at ge310_3
         rw [hvc_] at ul310_3
         have HL310_3 := Aside0.mk (show Kd.V k25 25 _ w.heap.size _ _ ((rd_T25 t307 x16_1).f3) from Kd.V_mk ul310_3 ge310_3)
         clear hva_ hvn_ hvc_ ge310_3 ul310_3
         clear hcc310 hce310
         have HR310_2 := Aside0.mk hi310_2
         have HC310_2 := Aside0.mk hl310_2
         clear hi310_2 hl310_2
         have HR310_3 := Aside0.mk hi310_3
         have HC310_3 := Aside0.mk hl310_3
         clear hi310_3 hl310_3
         replace p310 := eq_true p310
         replace q310 := eq_true q310
         go_wp2_with (first | ((with_reducible refine gate_dst (N := 10) rfl ?_); refine box_event ?hg (N := 10) ?hd (cs := #[.int .i64 0, .int .i64 0, .slice none 0 0, .slice none 0 0]) (t := 25) ?hr ?_; (case hd => rfl); (case hg => rfl); (case hr => first | (go_simp; done) | (go_simp; rfl)); intro gb311 hg w35 hbox hb; have n0_ := Aside0.mk (Kd.R_below (kr_ HO_7.out) hb); have n1_ := Aside0.mk (Kd.R_below (kr_ HO_8.out) hb); have n2_ := Aside0.mk (Kd.N_below (Kd.N_elderB (by (with_reducible repeat (first | apply Kd.N_alloc | apply Kd.N_drewN | apply Kd.N_drew)); exact HO_14.out) gb311 (Nat.le_of_eq hg.symm)) hb); have n3_ := Aside0.mk (Kd.V_below (Kd.V_elderB (by (with_reducible repeat (first | apply Kd.V_alloc | apply Kd.V_drewN | apply Kd.V_drew)); exact HL310_2.out) gb311 (Nat.le_of_eq hg.symm)) hb); have n4_ := Aside0.mk (Kd.V_below (Kd.V_elderB (by (with_reducible repeat (first | apply Kd.V_alloc | apply Kd.V_drewN | apply Kd.V_drew)); exact HL310_3.out) gb311 (Nat.le_of_eq hg.symm)) hb); have n5_ := Aside0.mk (blk_below (g := gb303) (o := .cells #[.int .i64 a1_0, .int .i64 a1_1, .slice A1_2 l1_2.length c1_2, .slice A1_3 l1_3.length c1_3] 25 (0, 0)) (bk_ BK303.out) hb); have n6_ := Aside0.mk (Kd.C_below (by repeat (first | (with_reducible exact HR310_2.out) | (with_reducible refine Kd.C_alloc ?_ _) | (with_reducible refine Kd.C_drewN ?_ _) | (with_reducible refine Kd.C_drew ?_) | exact HR310_2.out)) hb); have n7_ := Aside0.mk (Kd.C_below (by repeat (first | (with_reducible exact HR310_3.out) | (with_reducible refine Kd.C_alloc ?_ _) | (with_reducible refine Kd.C_drewN ?_ _) | (with_reducible refine Kd.C_drew ?_) | exact HR310_3.out)) hb); have n8_ := Aside0.mk (below_step (bb1_ HB.out GE303.out) hb); have n9_ := Aside0.mk (hbox); have n10_ := Aside0.mk ((by rw [hg]; exact (below_size (bb1_ HB.out GE303.out)) : w.heap.size ≤ gb311)); have n11_ := Aside0.mk ((by rw [hg]; exact (below_size (bb1_ HB.out GE303.out)) : w.heap.size ≤ gb311)); have n12_ := Aside0.mk ((by rw [hg]; exact Nat.ne_of_lt (blk_lt (g := gb303) (o := .cells #[.int .i64 a1_0, .int .i64 a1_1, .slice A1_2 l1_2.length c1_2, .slice A1_3 l1_3.length c1_3] 25 (0, 0)) (bk_ BK303.out)) : gb303 ≠ gb311)); have n13_ := Aside0.mk ((by rw [hg]; exact Nat.ne_of_gt (blk_lt (g := gb303) (o := .cells #[.int .i64 a1_0, .int .i64 a1_1, .slice A1_2 l1_2.length c1_2, .slice A1_3 l1_3.length c1_3] 25 (0, 0)) (bk_ BK303.out)) : gb311 ≠ gb303)); clear HO_7; clear HO_8; clear HO_14; clear HL310_2; clear HL310_3; clear BK303; clear HR310_2; clear HR310_3; clear HB; have HO_7 := n0_; have HO_8 := n1_; have HO_14 := n2_; have HL310_2 := n3_; have HL310_3 := n4_; have BK303 := n5_; have HR310_2 := n6_; have HR310_3 := n7_; have HB := n8_; have BK311 := n9_; have GW311 := n10_; have GE311 := n11_; have NB303_311 := n12_; have NB311_303 := n13_; clear n0_ n1_ n2_ n3_ n4_ n5_ n6_ n7_ n8_ n9_ n10_ n11_ n12_ n13_; clear hb hbox hg; have hnb36 := NB311_303.out; have hnc36 := NB303_311.out; have hcz37_0 : w35.cell? ⟨gb311, 0, none⟩ = some (.int .i64 0) := (blk_cell BK311.out 0).trans rfl; have hcz37_1 : w35.cell? ⟨gb311, 1, none⟩ = some (.int .i64 0) := (blk_cell BK311.out 1).trans rfl; have hcz37_2 : w35.cell? ⟨gb311, 2, none⟩ = some (.slice none 0 0) := (blk_cell BK311.out 2).trans rfl; have hcz37_3 : w35.cell? ⟨gb311, 3, none⟩ = some (.slice none 0 0) := (blk_cell BK311.out 3).trans rfl; have hfz37_0 := blk_frozen BK311.out 0; have hfz37_1 := blk_frozen BK311.out 1; have hfz37_2 := blk_frozen BK311.out 2; have hfz37_3 := blk_frozen BK311.out 3))
         go_roundg k1
         case measure => have := HK1.out; omega
         case rel => exact ⟨(x8_1), (wrap64 (x16_1 + 1)), rs_, H', ⟨by have := HK1.out; omega⟩, ⟨by (with_reducible repeat (first | apply Kd.R_alloc | apply Kd.R_drewN | apply Kd.R_drew)); exact Kd.R_mono (Kd.R_far (p := ⟨gb311, 3, none⟩) (Kd.R_far (p := ⟨gb311, 2, none⟩) (Kd.R_far (p := ⟨gb311, 1, none⟩) (Kd.R_far (p := ⟨gb311, 0, none⟩) (Kd.R_types HO_7.out BK311.out (by decide)) (fun _ hk => hk.2) (.int .i64 ((rd_T25 t307 x16_1).f0))) (fun _ hk => hk.2) (.int .i64 ((rd_T25 t307 x16_1).f1))) (fun _ hk => hk.2) (.slice A310_2 ((rd_T25 t307 x16_1).f2).length c310_2)) (fun _ hk => hk.2) (.slice A310_3 ((rd_T25 t307 x16_1).f3).length c310_3)) (fun _ hk => trivial)⟩, ⟨by (with_reducible repeat (first | apply Kd.R_alloc | apply Kd.R_drewN | apply Kd.R_drew)); exact Kd.R_mono (Kd.R_far (p := ⟨gb311, 3, none⟩) (Kd.R_far (p := ⟨gb311, 2, none⟩) (Kd.R_far (p := ⟨gb311, 1, none⟩) (Kd.R_far (p := ⟨gb311, 0, none⟩) (Kd.R_types HO_8.out BK311.out (by decide)) (fun _ hk => hk.2) (.int .i64 ((rd_T25 t307 x16_1).f0))) (fun _ hk => hk.2) (.int .i64 ((rd_T25 t307 x16_1).f1))) (fun _ hk => hk.2) (.slice A310_2 ((rd_T25 t307 x16_1).f2).length c310_2)) (fun _ hk => hk.2) (.slice A310_3 ((rd_T25 t307 x16_1).f3).length c310_3)) (fun _ hk => trivial)⟩, ⟨by (with_reducible repeat (first | apply Kd.N_alloc | apply Kd.N_drewN | apply Kd.N_drew)); exact Kd.N_mono (Kd.N_far (p := ⟨gb311, 3, none⟩) (Kd.N_far (p := ⟨gb311, 2, none⟩) (Kd.N_far (p := ⟨gb311, 1, none⟩) (Kd.N_far (p := ⟨gb311, 0, none⟩) (Kd.N_mono HO_14.out (fun k_ hk => (⟨hk, hk.2⟩ : _ ∧ k_ ≠ gb311))) (fun _ hk => hk.2) (.int .i64 ((rd_T25 t307 x16_1).f0))) (fun _ hk => hk.2) (.int .i64 ((rd_T25 t307 x16_1).f1))) (fun _ hk => hk.2) (.slice A310_2 ((rd_T25 t307 x16_1).f2).length c310_2)) (fun _ hk => hk.2) (.slice A310_3 ((rd_T25 t307 x16_1).f3).length c310_3)) (fun _ hk => ⟨hk.1.1.1, ⟨hk.1.1.2.1, hk.1.1.2.2⟩⟩)⟩, ⟨by (with_reducible repeat (first | refine blk_drewN ?_ _ | refine blk_drew ?_ | refine blk_alloc ?_ _)); refine blk_far ?_ NB303_311.out _; (with_reducible repeat (first | refine blk_drewN ?_ _ | refine blk_drew ?_ | refine blk_alloc ?_ _)); refine blk_far ?_ NB303_311.out _; (with_reducible repeat (first | refine blk_drewN ?_ _ | refine blk_drew ?_ | refine blk_alloc ?_ _)); refine blk_far ?_ NB303_311.out _; (with_reducible repeat (first | refine blk_drewN ?_ _ | refine blk_drew ?_ | refine blk_alloc ?_ _)); refine blk_far ?_ NB303_311.out _; (with_reducible repeat (first | refine blk_drewN ?_ _ | refine blk_drew ?_ | refine blk_alloc ?_ _)); exact BK303.out⟩, ⟨bb2_ HB.out GE303.out GE311.out⟩⟩
      ·rw [if_neg c14] at H
       have c14b0 : decide (0 < (((rd_T25 t307 x16_1).f2).length : Int)) = false := decide_eq_false c14
       have c14b1 : decide (0 < ((rd_T25 t307 x16_1).f2).length) = false := decide_eq_false (by omega)
       clear c14
       have H' := Aside0.mk H
       clear H
       have p310 : 0 ≤ (x16_1 : Int) := of_decide_eq_true as_
       have q310 : x16_1 < (t307.length : Int) := of_decide_eq_true as_
       obtain ⟨ad310, A310_2, c310_2, A310_3, c310_3, e310, hx310_0, hx310_1, hx310_2, hx310_3, hl310_2, hi310_2, hl310_3, hi310_3⟩ := at_T25 (Kd.N_reads' HO_14.out).2.2 x16_1 p310 q310
       cases e310
       obtain ⟨ce310, hce310, hMe310, hcc310⟩ := Kd.N_get HO_14.out z25 x16_1 p310 (by first | exact q310 | exact of_decide_eq_true as_ | (have e_ := (Kd.N_reads' HO_14.out).1; omega))
       obtain ⟨ua310_2, uc310_2, ua310_3, uc310_3, rfl, ul310_2, ge310_2, ul310_3, ge310_3⟩ := k25_openF hMe310
       have hv310_2 := hcc310 2 _ rfl
       rw [add_field _ _ 2 (by omega)] at hv310_2
       replace hv310_2 := Option.some.inj (hv310_2.symm.trans hx310_2)
       injection hv310_2 with hva_ hvn_ hvc_
       rw [hva_] at ge310_2
       rw [hvc_] at ul310_2
       have HL310_2 := Aside0.mk (show Kd.V k40 40 _ w.heap.size _ _ ((rd_T25 t307 x16_1).f2) from Kd.V_mk ul310_2 ge310_2)
       clear hva_ hvn_ hvc_ ge310_2 ul310_2
       have hv310_3 := hcc310 3 _ rfl
       rw [add_field _ _ 3 (by omega)] at hv310_3
       replace hv310_3 := Option.some.inj (hv310_3.symm.trans hx310_3)
       injection hv310_3 with hva_ hvn_ hvc_
       rw [hva_] at ge310_3
       rw [hvc_] at ul310_3
       have HL310_3 := Aside0.mk (show Kd.V k25 25 _ w.heap.size _ _ ((rd_T25 t307 x16_1).f3) from Kd.V_mk ul310_3 ge310_3)
       clear hva_ hvn_ hvc_ ge310_3 ul310_3
       clear hcc310 hce310
       have HR310_2 := Aside0.mk hi310_2
       have HC310_2 := Aside0.mk hl310_2
       clear hi310_2 hl310_2
       have HR310_3 := Aside0.mk hi310_3
       have HC310_3 := Aside0.mk hl310_3
       clear hi310_3 hl310_3
       replace p310 := eq_true p310
       replace q310 := eq_true q310
       go_wp2_with (first | ((with_reducible refine gate_dst (N := 10) rfl ?_); refine box_event ?hg (N := 10) ?hd (cs := #[.int .i64 0, .int .i64 0, .slice none 0 0, .slice none 0 0]) (t := 25) ?hr ?_; (case hd => rfl); (case hg => rfl); (case hr => first | (go_simp; done) | (go_simp; rfl)); intro gb311 hg w38 hbox hb; have n0_ := Aside0.mk (Kd.R_below (kr_ HO_7.out) hb); have n1_ := Aside0.mk (Kd.R_below (kr_ HO_8.out) hb); have n2_ := Aside0.mk (Kd.N_below (Kd.N_elderB (by (with_reducible repeat (first | apply Kd.N_alloc | apply Kd.N_drewN | apply Kd.N_drew)); exact HO_14.out) gb311 (Nat.le_of_eq hg.symm)) hb); have n3_ := Aside0.mk (Kd.V_below (Kd.V_elderB (by (with_reducible repeat (first | apply Kd.V_alloc | apply Kd.V_drewN | apply Kd.V_drew)); exact HL310_2.out) gb311 (Nat.le_of_eq hg.symm)) hb); have n4_ := Aside0.mk (Kd.V_below (Kd.V_elderB (by (with_reducible repeat (first | apply Kd.V_alloc | apply Kd.V_drewN | apply Kd.V_drew)); exact HL310_3.out) gb311 (Nat.le_of_eq hg.symm)) hb); have n5_ := Aside0.mk (blk_below (g := gb303) (o := .cells #[.int .i64 a1_0, .int .i64 a1_1, .slice A1_2 l1_2.length c1_2, .slice A1_3 l1_3.length c1_3] 25 (0, 0)) (bk_ BK303.out) hb); have n6_ := Aside0.mk (Kd.C_below (by repeat (first | (with_reducible exact HR310_2.out) | (with_reducible refine Kd.C_alloc ?_ _) | (with_reducible refine Kd.C_drewN ?_ _) | (with_reducible refine Kd.C_drew ?_) | exact HR310_2.out)) hb); have n7_ := Aside0.mk (Kd.C_below (by repeat (first | (with_reducible exact HR310_3.out) | (with_reducible refine Kd.C_alloc ?_ _) | (with_reducible refine Kd.C_drewN ?_ _) | (with_reducible refine Kd.C_drew ?_) | exact HR310_3.out)) hb); have n8_ := Aside0.mk (below_step (bb1_ HB.out GE303.out) hb); have n9_ := Aside0.mk (hbox); have n10_ := Aside0.mk ((by rw [hg]; exact (below_size (bb1_ HB.out GE303.out)) : w.heap.size ≤ gb311)); have n11_ := Aside0.mk ((by rw [hg]; exact (below_size (bb1_ HB.out GE303.out)) : w.heap.size ≤ gb311)); have n12_ := Aside0.mk ((by rw [hg]; exact Nat.ne_of_lt (blk_lt (g := gb303) (o := .cells #[.int .i64 a1_0, .int .i64 a1_1, .slice A1_2 l1_2.length c1_2, .slice A1_3 l1_3.length c1_3] 25 (0, 0)) (bk_ BK303.out)) : gb303 ≠ gb311)); have n13_ := Aside0.mk ((by rw [hg]; exact Nat.ne_of_gt (blk_lt (g := gb303) (o := .cells #[.int .i64 a1_0, .int .i64 a1_1, .slice A1_2 l1_2.length c1_2, .slice A1_3 l1_3.length c1_3] 25 (0, 0)) (bk_ BK303.out)) : gb311 ≠ gb303)); clear HO_7; clear HO_8; clear HO_14; clear HL310_2; clear HL310_3; clear BK303; clear HR310_2; clear HR310_3; clear HB; have HO_7 := n0_; have HO_8 := n1_; have HO_14 := n2_; have HL310_2 := n3_; have HL310_3 := n4_; have BK303 := n5_; have HR310_2 := n6_; have HR310_3 := n7_; have HB := n8_; have BK311 := n9_; have GW311 := n10_; have GE311 := n11_; have NB303_311 := n12_; have NB311_303 := n13_; clear n0_ n1_ n2_ n3_ n4_ n5_ n6_ n7_ n8_ n9_ n10_ n11_ n12_ n13_; clear hb hbox hg; have hnb39 := NB311_303.out; have hnc39 := NB303_311.out; have hcz40_0 : w38.cell? ⟨gb311, 0, none⟩ = some (.int .i64 0) := (blk_cell BK311.out 0).trans rfl; have hcz40_1 : w38.cell? ⟨gb311, 1, none⟩ = some (.int .i64 0) := (blk_cell BK311.out 1).trans rfl; have hcz40_2 : w38.cell? ⟨gb311, 2, none⟩ = some (.slice none 0 0) := (blk_cell BK311.out 2).trans rfl; have hcz40_3 : w38.cell? ⟨gb311, 3, none⟩ = some (.slice none 0 0) := (blk_cell BK311.out 3).trans rfl; have hfz40_0 := blk_frozen BK311.out 0; have hfz40_1 := blk_frozen BK311.out 1; have hfz40_2 := blk_frozen BK311.out 2; have hfz40_3 := blk_frozen BK311.out 3))
       go_roundg k1
       case measure => have := HK1.out; omega
       case rel => exact ⟨(x8_1), (wrap64 (x16_1 + 1)), rs_, H', ⟨by have := HK1.out; omega⟩, ⟨by (with_reducible repeat (first | apply Kd.R_alloc | apply Kd.R_drewN | apply Kd.R_drew)); exact Kd.R_mono (Kd.R_far (p := ⟨gb311, 3, none⟩) (Kd.R_far (p := ⟨gb311, 2, none⟩) (Kd.R_far (p := ⟨gb311, 1, none⟩) (Kd.R_far (p := ⟨gb311, 0, none⟩) (Kd.R_types HO_7.out BK311.out (by decide)) (fun _ hk => hk.2) (.int .i64 ((rd_T25 t307 x16_1).f0))) (fun _ hk => hk.2) (.int .i64 ((rd_T25 t307 x16_1).f1))) (fun _ hk => hk.2) (.slice A310_2 ((rd_T25 t307 x16_1).f2).length c310_2)) (fun _ hk => hk.2) (.slice A310_3 ((rd_T25 t307 x16_1).f3).length c310_3)) (fun _ hk => trivial)⟩, ⟨by (with_reducible repeat (first | apply Kd.R_alloc | apply Kd.R_drewN | apply Kd.R_drew)); exact Kd.R_mono (Kd.R_far (p := ⟨gb311, 3, none⟩) (Kd.R_far (p := ⟨gb311, 2, none⟩) (Kd.R_far (p := ⟨gb311, 1, none⟩) (Kd.R_far (p := ⟨gb311, 0, none⟩) (Kd.R_types HO_8.out BK311.out (by decide)) (fun _ hk => hk.2) (.int .i64 ((rd_T25 t307 x16_1).f0))) (fun _ hk => hk.2) (.int .i64 ((rd_T25 t307 x16_1).f1))) (fun _ hk => hk.2) (.slice A310_2 ((rd_T25 t307 x16_1).f2).length c310_2)) (fun _ hk => hk.2) (.slice A310_3 ((rd_T25 t307 x16_1).f3).length c310_3)) (fun _ hk => trivial)⟩, ⟨by (with_reducible repeat (first | apply Kd.N_alloc | apply Kd.N_drewN | apply Kd.N_drew)); exact Kd.N_mono (Kd.N_far (p := ⟨gb311, 3, none⟩) (Kd.N_far (p := ⟨gb311, 2, none⟩) (Kd.N_far (p := ⟨gb311, 1, none⟩) (Kd.N_far (p := ⟨gb311, 0, none⟩) (Kd.N_mono HO_14.out (fun k_ hk => (⟨hk, hk.2⟩ : _ ∧ k_ ≠ gb311))) (fun _ hk => hk.2) (.int .i64 ((rd_T25 t307 x16_1).f0))) (fun _ hk => hk.2) (.int .i64 ((rd_T25 t307 x16_1).f1))) (fun _ hk => hk.2) (.slice A310_2 ((rd_T25 t307 x16_1).f2).length c310_2)) (fun _ hk => hk.2) (.slice A310_3 ((rd_T25 t307 x16_1).f3).length c310_3)) (fun _ hk => ⟨hk.1.1.1, ⟨hk.1.1.2.1, hk.1.1.2.2⟩⟩)⟩, ⟨by (with_reducible repeat (first | refine blk_drewN ?_ _ | refine blk_drew ?_ | refine blk_alloc ?_ _)); refine blk_far ?_ NB303_311.out _; (with_reducible repeat (first | refine blk_drewN ?_ _ | refine blk_drew ?_ | refine blk_alloc ?_ _)); refine blk_far ?_ NB303_311.out _; (with_reducible repeat (first | refine blk_drewN ?_ _ | refine blk_drew ?_ | refine blk_alloc ?_ _)); refine blk_far ?_ NB303_311.out _; (with_reducible repeat (first | refine blk_drewN ?_ _ | refine blk_drew ?_ | refine blk_alloc ?_ _)); refine blk_far ?_ NB303_311.out _; (with_reducible repeat (first | refine blk_drewN ?_ _ | refine blk_drew ?_ | refine blk_alloc ?_ _)); exact BK303.out⟩, ⟨bb2_ HB.out GE303.out GE311.out⟩⟩
     ·rw [if_neg c13] at H
      exact absurd H (by simp)
    ·rw [if_neg c12] at H
     exact absurd H (by simp)
   ·rw [if_neg c11] at H
    have c11b0 : decide (x16_1 < (t307.length : Int)) = false := decide_eq_false c11
    clear c11
    replace H := Option.bind_eq_some_iff.mp H
    obtain ⟨_, A410, H⟩ := H
    replace H : ((slices_Compact_int_int.f x8_1).bind fun t324 => (some t324)) = some r := H
    have A41 := Aside0.mk A410
    clear A410
    replace H := Option.bind_eq_some_iff.mp H
    obtain ⟨t324, A420, H⟩ := H
    replace H : (some t324) = some r := H
    have A42 := Aside0.mk A420
    clear A420
    obtain rfl := Option.some.inj H
    obtain ⟨Ao43, co43, eo43⟩ := Kd.R_slice HO_8.out
    subst eo43
    have hsz : x8_1.length < 4611686018427387904 := by have q := A41.out; unfold slices_Sort_int_int.f at q; split at q; (rename_i q2; exact q2); cases q
    obtain rfl := Option.some.inj A42.out
    have HSZ := Aside0.mk hsz
    clear hsz
    go_wp2_with fail
    refine (slices_Sort_int_int.own (l := x8_1) (B := w.heap.size) (ok := fun _ => True) (W0 := w) (by repeat (first | exact Kd.R_mono HO_8.out (fun _ _ => trivial) | apply Kd.R_alloc | apply Kd.R_drewN | apply Kd.R_drew)) (by repeat (first | exact HB.out | apply below_alloc | apply pw_below_drewN | apply below_drew1)) (below_size (by repeat (first | exact HB.out | apply below_alloc | apply pw_below_drewN | apply below_drew1))) HSZ.out).mono ?_
    rintro e w91 ⟨rfl, hs1, hs2, hs0⟩
    have HS1 := Aside0.mk hs1
    have HS2 := Aside0.mk hs2
    clear hs1 hs2 hs0
    go_wp2_with fail
    refine (slices_Compact_int_int.own (n := x8_1.length) (l := x8_1.mergeSort fun x y => decide (x ≤ y)) (B := w.heap.size) (ok := fun _ => True) (W0 := w) (List.length_mergeSort _).symm (by repeat (first | exact HS1.out | apply Kd.R_alloc | apply Kd.R_drewN | apply Kd.R_drew)) (by repeat (first | exact HS2.out | apply below_alloc | apply pw_below_drewN | apply below_drew1)) (below_size (by repeat (first | exact HS2.out | apply below_alloc | apply pw_below_drewN | apply below_drew1))) (by rw [List.length_mergeSort]; exact HSZ.out)).mono ?_
    rintro e w92 ⟨v92, rfl, hs3, hs4⟩
    have HS3 := Aside0.mk hs3
    have HS4 := Aside0.mk hs4
    clear hs3 hs4
    go_wp2
    go_ret
    exact ⟨_, rfl, by (with_reducible repeat (first | apply Kd.R_alloc | apply Kd.R_drewN | apply Kd.R_drew)); exact HS3.out, by repeat (first | exact HS4.out | apply below_alloc | apply pw_below_drewN | apply below_drew1)⟩
mutual
def excerpt_Window.l0 : Nat → List Int → Int → Int → Int → Int → Int → Option (Int)
 | 0, _, _, _, _, _, _ => none
 | k + 1, x0, x2, x7, x8, x19, x20 => if x20 < x19 then (excerpt_Window.l1 k x0 x2 x7 x8 x20 0 x19 x20 x0 (x0.length : Int) 0) else (some x8)
def excerpt_Window.l1 : Nat → List Int → Int → Int → Int → Int → Int → Int → Int → List Int → Int → Int → Option (Int)
 | 0, _, _, _, _, _, _, _, _, _, _, _ => none
 | k + 1, x0, x2, x7, x8, x9, x10, x19, x20, x23, x24, x25 => if x25 < x24 then (if 0 ≤ x25 then (if x25 < (x23.length : Int) then (if (rd x23 x25) ≥ x9 then (if (wrap64 ((rd x23 x25) - x9)) < x2 then (excerpt_Window.l1 k x0 x2 x7 x8 x9 (wrap64 (x10 + 1)) x19 x20 x23 x24 (wrap64 (x25 + 1))) else (excerpt_Window.l1 k x0 x2 x7 x8 x9 x10 x19 x20 x23 x24 (wrap64 (x25 + 1)))) else (excerpt_Window.l1 k x0 x2 x7 x8 x9 x10 x19 x20 x23 x24 (wrap64 (x25 + 1)))) else (none)) else (none)) else (if x10 > x7 then (excerpt_Window.l0 k x0 x2 x10 x9 x19 (wrap64 (x20 + 1))) else (excerpt_Window.l0 k x0 x2 x7 x8 x19 (wrap64 (x20 + 1))))
end
def excerpt_Window.f (k : Nat) (l0 : List Int) (a1 : Int) (a2 : Int) : Option (Int) := excerpt_Window.l0 k l0 a2 (-1) 0 (wrap64 ((mx (wrap64 ((mx a1 0) - (mx a2 0))) 0) + 1)) 0
theorem excerpt_Window.mono_l : ∀ k, (∀ y0 y1 y2 y3 y4 y5, LeO (excerpt_Window.l0 k y0 y1 y2 y3 y4 y5) (excerpt_Window.l0 (k + 1) y0 y1 y2 y3 y4 y5)) ∧ (∀ y0 y1 y2 y3 y4 y5 y6 y7 y8 y9 y10, LeO (excerpt_Window.l1 k y0 y1 y2 y3 y4 y5 y6 y7 y8 y9 y10) (excerpt_Window.l1 (k + 1) y0 y1 y2 y3 y4 y5 y6 y7 y8 y9 y10))
 | 0 => ⟨fun _ _ _ _ _ _ r h => by simp [excerpt_Window.l0] at h, fun _ _ _ _ _ _ _ _ _ _ _ r h => by simp [excerpt_Window.l1] at h⟩
 | k + 1 => by
  obtain ⟨ih0, ih1⟩ := excerpt_Window.mono_l k
  refine ⟨?_, ?_⟩
  ·intro y0 y1 y2 y3 y4 y5
   unfold excerpt_Window.l0
   repeat' first
   | (with_reducible exact ih0 _ _ _ _ _ _)
   | (with_reducible exact ih1 _ _ _ _ _ _ _ _ _ _ _)
   | (with_reducible exact LeO.refl _)
   | (with_reducible exact LeO.none _)
   | (with_reducible refine LeO.ite ?_ ?_)
   | (with_reducible refine LeO.bind ?_ (fun _ => ?_))
   | exact ih0 _ _ _ _ _ _
   | exact ih1 _ _ _ _ _ _ _ _ _ _ _
   | exact LeO.none _
   | refine LeO.ite ?_ ?_
   | refine LeO.bind ?_ (fun _ => ?_)
  ·intro y0 y1 y2 y3 y4 y5 y6 y7 y8 y9 y10
   unfold excerpt_Window.l1
   repeat' first
   | (with_reducible exact ih0 _ _ _ _ _ _)
   | (with_reducible exact ih1 _ _ _ _ _ _ _ _ _ _ _)
   | (with_reducible exact LeO.refl _)
   | (with_reducible exact LeO.none _)
   | (with_reducible refine LeO.ite ?_ ?_)
   | (with_reducible refine LeO.bind ?_ (fun _ => ?_))
   | exact ih0 _ _ _ _ _ _
   | exact ih1 _ _ _ _ _ _ _ _ _ _ _
   | exact LeO.none _
   | refine LeO.ite ?_ ?_
   | refine LeO.bind ?_ (fun _ => ?_)
theorem excerpt_Window.mono : ∀ a0 a1 a2 k, LeO (excerpt_Window.f k a0 a1 a2) (excerpt_Window.f (k + 1) a0 a1 a2) := by
 intro a0 a1 a2 k
 obtain ⟨ih0, ih1⟩ := excerpt_Window.mono_l k
 unfold excerpt_Window.f
 repeat' first
   | (with_reducible exact ih0 _ _ _ _ _ _)
   | (with_reducible exact ih1 _ _ _ _ _ _ _ _ _ _ _)
   | (with_reducible exact LeO.refl _)
   | (with_reducible exact LeO.none _)
   | (with_reducible refine LeO.ite ?_ ?_)
   | (with_reducible refine LeO.bind ?_ (fun _ => ?_))
   | exact ih0 _ _ _ _ _ _
   | exact ih1 _ _ _ _ _ _ _ _ _ _ _
   | exact LeO.none _
   | refine LeO.ite ?_ ?_
   | refine LeO.bind ?_ (fun _ => ?_)
set_option maxHeartbeats 8000000 in
set_option maxRecDepth 100000 in
theorem excerpt_Window.calls (k : Nat) (A0 : Option Addr) (c0 : Nat) (l0 : List Int) (a1 : Int) (a2 : Int) (r : Int) (w : World) (hr0 : Kd.C (Kd.int .i64) w A0 l0.length l0) (hc0 : l0.length ≤ c0) (h : excerpt_Window.f k l0 a1 a2 = some r) :
  Calls Tryz.prog 18 #[.slice A0 l0.length c0, .int .i64 a1, .int .i64 a2] w fun e w' => e = .returned (.int .i64 r) ∧ Below w.heap.size w w' := by
 have HR0 := Aside0.mk hr0
 have HC0 := Aside0.mk hc0
 clear hr0 hc0
 have HB := Aside0.mk (Below.refl w.heap.size w)
 have H : (excerpt_Window.l0 k l0 a2 (-1) 0 (wrap64 ((mx (wrap64 ((mx a1 0) - (mx a2 0))) 0) + 1)) 0) = some r := h
 clear h
 obtain ⟨ji4, hji4⟩ : ∃ j_ : Int, (mx a1 0) = j_ := ⟨_, rfl⟩
 replace H : (excerpt_Window.l0 k l0 a2 (-1) 0 (wrap64 ((mx (wrap64 ((ji4) - (mx a2 0))) 0) + 1)) 0) = some r := by first | (rw [hji4] at H; exact H) | (simp only [hji4] at H ⊢; exact H)
 (try (have hji4l : 0 ≤ ji4 := by (rw [← hji4]; unfold mx; (repeat' split) <;> omega)))
 (try (have hji4m : 0 ≤ ji4 := by omega))
 have hji4_ : (if a1 < 0 then 0 else a1) = ji4 := hji4
 obtain ⟨ji5, hji5⟩ : ∃ j_ : Int, (mx a2 0) = j_ := ⟨_, rfl⟩
 replace H : (excerpt_Window.l0 k l0 a2 (-1) 0 (wrap64 ((mx (wrap64 ((ji4) - (ji5))) 0) + 1)) 0) = some r := by first | (rw [hji5] at H; exact H) | (simp only [hji5] at H ⊢; exact H)
 (try (have hji5l : 0 ≤ ji5 := by (rw [← hji5]; unfold mx; (repeat' split) <;> omega)))
 (try (have hji5m : 0 ≤ ji5 := by omega))
 have hji5_ : (if a2 < 0 then 0 else a2) = ji5 := hji5
 obtain ⟨ji6, hji6⟩ : ∃ j_ : Int, (mx (wrap64 ((ji4) - (ji5))) 0) = j_ := ⟨_, rfl⟩
 replace H : (excerpt_Window.l0 k l0 a2 (-1) 0 (wrap64 ((ji6) + 1)) 0) = some r := by first | (rw [hji6] at H; exact H) | (simp only [hji6] at H ⊢; exact H)
 have hji6_ : (if (wrap64 ((ji4) - (ji5))) < 0 then 0 else (wrap64 ((ji4) - (ji5)))) = ji6 := hji6
 have H' := Aside0.mk H
 clear H
 go_enter Tryz.func18, Tryz.ntmps18
 go_wp2
 go_loopg [7, 8, 20] k (fun kq v7 v8 v20 w' => ∃ (x7_1 : Int) (x8_1 : Int) (x20_1 : Int), v7 = .int .i64 x7_1 ∧ v8 = .int .i64 x8_1 ∧ v20 = .int .i64 x20_1 ∧ Aside0 (excerpt_Window.l0 kq l0 a2 x7_1 x8_1 (wrap64 ((ji6) + 1)) x20_1 = some r) ∧ Aside0 (kq ≤ k) ∧ Aside0 (Below w.heap.size w w'))
 case atStart => exact ⟨((-1)), (0), (0), rs_, rs_, rs_, H', ⟨Nat.le_refl _⟩, ⟨bb_ HB.out⟩⟩
 case round =>
  clear H'
  try clear c1
  try clear p2
  try clear p6
  obtain ⟨x7_1, x8_1, x20_1, rfl, rfl, rfl, HA, HK1, HB⟩ := hrel
  cases gk with
  | zero => exact absurd HA.out (by simp [excerpt_Window.l0])
  | succ k1 =>
   have H := HA.out
   clear HA
   simp only [excerpt_Window.l0] at H
   by_cases c7 : x20_1 < (wrap64 ((ji6) + 1))
   ·rw [if_pos c7] at H
    have c7b0 : decide (x20_1 < (wrap64 ((ji6) + 1))) = true := decide_eq_true c7
    clear c7
    have H' := Aside0.mk H
    clear H
    go_wp2
    go_loopg [10, 25] k1 (fun kq v10 v25 w' => ∃ (x10_2 : Int) (x25_2 : Int), v10 = .int .i64 x10_2 ∧ v25 = .int .i64 x25_2 ∧ Aside0 (excerpt_Window.l1 kq l0 a2 x7_1 x8_1 x20_1 x10_2 (wrap64 ((ji6) + 1)) x20_1 l0 (l0.length : Int) x25_2 = some r) ∧ Aside0 (kq ≤ k1) ∧ Aside0 (Below w.heap.size w w'))
    case atStart => exact ⟨(0), (0), rs_, rs_, H', ⟨Nat.le_refl _⟩, ⟨bb_ HB.out⟩⟩
    case round =>
     clear H'
     try clear c1
     try clear p2
     try clear p6
     try clear c7
     try clear c7b0
     try clear p2
     try clear p6
     obtain ⟨x10_2, x25_2, rfl, rfl, HA, HK2, HB⟩ := hrel
     cases gk with
     | zero => exact absurd HA.out (by simp [excerpt_Window.l1])
     | succ k2 =>
      have H := HA.out
      clear HA
      simp only [excerpt_Window.l1] at H
      by_cases c8 : x25_2 < (l0.length : Int)
      ·rw [if_pos c8] at H
       have c8b0 : decide (x25_2 < (l0.length : Int)) = true := decide_eq_true c8
       clear c8
       by_cases c9 : 0 ≤ x25_2
       ·rw [if_pos c9] at H
        have c9b0 : decide (0 ≤ x25_2) = true := decide_eq_true c9
        clear c9
        by_cases c10 : x25_2 < (l0.length : Int)
        ·rw [if_pos c10] at H
         have c10b0 : decide (x25_2 < (l0.length : Int)) = true := decide_eq_true c10
         clear c10
         by_cases c11 : (rd l0 x25_2) ≥ x20_1
         ·rw [if_pos c11] at H
          have c11b0 : decide (x20_1 ≤ (rd l0 x25_2)) = true := decide_eq_true c11
          clear c11
          by_cases c12 : (wrap64 ((rd l0 x25_2) - x20_1)) < a2
          ·rw [if_pos c12] at H
           have c12b0 : decide ((wrap64 ((rd l0 x25_2) - x20_1)) < a2) = true := decide_eq_true c12
           clear c12
           have H' := Aside0.mk H
           clear H
           have p327 : 0 ≤ (x25_2 : Int) := of_decide_eq_true as_
           have q327 : x25_2 < (l0.length : Int) := of_decide_eq_true as_
           obtain ⟨ad327, e327, hx327_0⟩ := Kd.at_int HR0.out x25_2 p327 q327
           cases e327
           replace hx327_0 := (HB.out.cell (World.block_lt_of_cell? w _ hx327_0)).trans hx327_0
           replace p327 := eq_true p327
           replace q327 := eq_true q327
           go_wp2
           go_roundg k2
           case measure => have := HK1.out; have := HK2.out; omega
           case rel => exact ⟨(wrap64 (x10_2 + 1)), (wrap64 (x25_2 + 1)), rs_, rs_, H', ⟨by have := HK1.out; have := HK2.out; omega⟩, ⟨bb_ HB.out⟩⟩
          ·rw [if_neg c12] at H
           have c12b0 : decide ((wrap64 ((rd l0 x25_2) - x20_1)) < a2) = false := decide_eq_false c12
           clear c12
           have H' := Aside0.mk H
           clear H
           have p327 : 0 ≤ (x25_2 : Int) := of_decide_eq_true as_
           have q327 : x25_2 < (l0.length : Int) := of_decide_eq_true as_
           obtain ⟨ad327, e327, hx327_0⟩ := Kd.at_int HR0.out x25_2 p327 q327
           cases e327
           replace hx327_0 := (HB.out.cell (World.block_lt_of_cell? w _ hx327_0)).trans hx327_0
           replace p327 := eq_true p327
           replace q327 := eq_true q327
           go_wp2
           go_roundg k2
           case measure => have := HK1.out; have := HK2.out; omega
           case rel => exact ⟨(x10_2), (wrap64 (x25_2 + 1)), rs_, rs_, H', ⟨by have := HK1.out; have := HK2.out; omega⟩, ⟨bb_ HB.out⟩⟩
         ·rw [if_neg c11] at H
          have c11b0 : decide (x20_1 ≤ (rd l0 x25_2)) = false := decide_eq_false c11
          clear c11
          have H' := Aside0.mk H
          clear H
          have p327 : 0 ≤ (x25_2 : Int) := of_decide_eq_true as_
          have q327 : x25_2 < (l0.length : Int) := of_decide_eq_true as_
          obtain ⟨ad327, e327, hx327_0⟩ := Kd.at_int HR0.out x25_2 p327 q327
          cases e327
          replace hx327_0 := (HB.out.cell (World.block_lt_of_cell? w _ hx327_0)).trans hx327_0
          replace p327 := eq_true p327
          replace q327 := eq_true q327
          go_wp2
          go_roundg k2
          case measure => have := HK1.out; have := HK2.out; omega
          case rel => exact ⟨(x10_2), (wrap64 (x25_2 + 1)), rs_, rs_, H', ⟨by have := HK1.out; have := HK2.out; omega⟩, ⟨bb_ HB.out⟩⟩
        ·rw [if_neg c10] at H
         exact absurd H (by simp)
       ·rw [if_neg c9] at H
        exact absurd H (by simp)
      ·rw [if_neg c8] at H
       have c8b0 : decide (x25_2 < (l0.length : Int)) = false := decide_eq_false c8
       clear c8
       by_cases c13 : x10_2 > x7_1
       ·rw [if_pos c13] at H
        have c13b0 : decide (x7_1 < x10_2) = true := decide_eq_true c13
        clear c13
        have H' := Aside0.mk H
        clear H
        go_wp2
        go_roundg k2
        case measure => have := HK1.out; have := HK2.out; omega
        case rel => exact ⟨(x10_2), (x20_1), (wrap64 (x20_1 + 1)), rs_, rs_, rs_, H', ⟨by have := HK1.out; have := HK2.out; omega⟩, ⟨bb_ HB.out⟩⟩
       ·rw [if_neg c13] at H
        have c13b0 : decide (x7_1 < x10_2) = false := decide_eq_false c13
        clear c13
        have H' := Aside0.mk H
        clear H
        go_wp2
        go_roundg k2
        case measure => have := HK1.out; have := HK2.out; omega
        case rel => exact ⟨(x7_1), (x8_1), (wrap64 (x20_1 + 1)), rs_, rs_, rs_, H', ⟨by have := HK1.out; have := HK2.out; omega⟩, ⟨bb_ HB.out⟩⟩
   ·rw [if_neg c7] at H
    have c7b0 : decide (x20_1 < (wrap64 ((ji6) + 1))) = false := decide_eq_false c7
    clear c7
    obtain rfl := Option.some.inj H
    go_wp2
    go_ret
    exact ⟨by first | rfl | (simp [errW_none, errW_some] <;> rfl) | (simp only [← hji4, ← hji5, ← hji6]; first | rfl | (simp [errW_none, errW_some] <;> rfl)) | (simp [*, errW_none, errW_some] <;> rfl), bb_ HB.out⟩
def slices_Index_int_int.l0 : Nat → List Int → Int → Int → Int → Option (Int)
 | 0, _, _, _, _ => none
 | k + 1, x0, x1, x7, x8 => if x8 < x7 then (if 0 ≤ x8 then (if x8 < (x0.length : Int) then (if x1 = (rd x0 x8) then (some x8) else (slices_Index_int_int.l0 k x0 x1 x7 (wrap64 (x8 + 1)))) else (none)) else (none)) else (some (-1))
def slices_Index_int_int.f (k : Nat) (l0 : List Int) (a1 : Int) : Option (Int) := slices_Index_int_int.l0 k l0 a1 (l0.length : Int) 0
set_option maxHeartbeats 8000000 in
set_option maxRecDepth 100000 in
theorem slices_Index_int_int.calls (k : Nat) (A0 : Option Addr) (c0 : Nat) (l0 : List Int) (a1 : Int) (r : Int) (w : World) (hr0 : Kd.C (Kd.int .i64) w A0 l0.length l0) (hc0 : l0.length ≤ c0) (h : slices_Index_int_int.f k l0 a1 = some r) :
  Calls Tryz.prog 55 #[.slice A0 l0.length c0, .int .i64 a1] w fun e w' => e = .returned (.int .i64 r) ∧ Drawn0 w w' := by
 have HR0 := Aside0.mk hr0
 have HC0 := Aside0.mk hc0
 clear hr0 hc0
 have H : (slices_Index_int_int.l0 k l0 a1 (l0.length : Int) 0) = some r := h
 clear h
 have H' := Aside0.mk H
 clear H
 go_enter Tryz.func55, Tryz.ntmps55
 go_wp2
 go_loopg [8] k (fun kq v8 w' => ∃ (x8_1 : Int), v8 = .int .i64 x8_1 ∧ Aside0 (slices_Index_int_int.l0 kq l0 a1 (l0.length : Int) x8_1 = some r) ∧ Aside0 (kq ≤ k) ∧ Drawn0 w w')
 case atStart => exact ⟨(0), rs_, H', ⟨Nat.le_refl _⟩, by repeat (first | exact Drawn0.refl _ | apply Drawn0.step)⟩
 case round =>
  clear H'
  try clear p2
  obtain ⟨x8_1, rfl, HA, HK1, ⟨m1, rfl⟩⟩ := hrel
  cases gk with
  | zero => exact absurd HA.out (by simp [slices_Index_int_int.l0])
  | succ k1 =>
   have H := HA.out
   clear HA
   simp only [slices_Index_int_int.l0] at H
   by_cases c3 : x8_1 < (l0.length : Int)
   ·rw [if_pos c3] at H
    have c3b0 : decide (x8_1 < (l0.length : Int)) = true := decide_eq_true c3
    clear c3
    by_cases c4 : 0 ≤ x8_1
    ·rw [if_pos c4] at H
     have c4b0 : decide (0 ≤ x8_1) = true := decide_eq_true c4
     clear c4
     by_cases c5 : x8_1 < (l0.length : Int)
     ·rw [if_pos c5] at H
      have c5b0 : decide (x8_1 < (l0.length : Int)) = true := decide_eq_true c5
      clear c5
      by_cases c6 : a1 = (rd l0 x8_1)
      ·rw [if_pos c6] at H
       have c6b0 : (a1 == (rd l0 x8_1)) = true := beq_iff_eq.mpr c6
       have c6b1 : (a1 != (rd l0 x8_1)) = false := bne_eq_false_iff_eq.mpr c6
       clear c6
       obtain rfl := Option.some.inj H
       have p328 : 0 ≤ (x8_1 : Int) := of_decide_eq_true as_
       have q328 : x8_1 < (l0.length : Int) := of_decide_eq_true as_
       obtain ⟨ad328, e328, hx328_0⟩ := Kd.at_int HR0.out x8_1 p328 q328
       cases e328
       replace p328 := eq_true p328
       replace q328 := eq_true q328
       go_wp2
       go_ret
       exact ⟨by first | rfl | (simp; done) | (simp [*]; done), by repeat (first | exact Drawn0.refl _ | apply Drawn0.step)⟩
      ·rw [if_neg c6] at H
       have c6b0 : (a1 == (rd l0 x8_1)) = false := beq_eq_false_iff_ne.mpr c6
       have c6b1 : (a1 != (rd l0 x8_1)) = true := bne_iff_ne.mpr c6
       have H' := Aside0.mk H
       clear H
       have p328 : 0 ≤ (x8_1 : Int) := of_decide_eq_true as_
       have q328 : x8_1 < (l0.length : Int) := of_decide_eq_true as_
       obtain ⟨ad328, e328, hx328_0⟩ := Kd.at_int HR0.out x8_1 p328 q328
       cases e328
       replace p328 := eq_true p328
       replace q328 := eq_true q328
       go_wp2
       go_roundg k1
       case measure => have := HK1.out; omega
       case rel => exact ⟨(wrap64 (x8_1 + 1)), rs_, H', ⟨by have := HK1.out; omega⟩, by repeat (first | exact Drawn0.refl _ | apply Drawn0.step)⟩
     ·rw [if_neg c5] at H
      exact absurd H (by simp)
    ·rw [if_neg c4] at H
     exact absurd H (by simp)
   ·rw [if_neg c3] at H
    have c3b0 : decide (x8_1 < (l0.length : Int)) = false := decide_eq_false c3
    clear c3
    obtain rfl := Option.some.inj H
    go_wp2
    go_ret
    exact ⟨by first | rfl | (simp; done) | (simp [*]; done), by repeat (first | exact Drawn0.refl _ | apply Drawn0.step)⟩
def slices_Contains_int_int.f (k : Nat) (l0 : List Int) (a1 : Int) : Option (Bool) := (slices_Index_int_int.f k l0 a1).bind fun t329 => (some (decide (t329 ≥ 0)))
set_option maxHeartbeats 8000000 in
set_option maxRecDepth 100000 in
theorem slices_Contains_int_int.calls (k : Nat) (A0 : Option Addr) (c0 : Nat) (l0 : List Int) (a1 : Int) (r : Bool) (w : World) (hr0 : Kd.C (Kd.int .i64) w A0 l0.length l0) (hc0 : l0.length ≤ c0) (h : slices_Contains_int_int.f k l0 a1 = some r) :
  Calls Tryz.prog 33 #[.slice A0 l0.length c0, .int .i64 a1] w fun e w' => e = .returned (.bool r) ∧ Drawn0 w w' := by
 have HR0 := Aside0.mk hr0
 have HC0 := Aside0.mk hc0
 clear hr0 hc0
 have H : ((slices_Index_int_int.f k l0 a1).bind fun t329 => (some (decide (t329 ≥ 0)))) = some r := h
 clear h
 replace H := Option.bind_eq_some_iff.mp H
 obtain ⟨t329, A30, H⟩ := H
 replace H : (some (decide (t329 ≥ 0))) = some r := H
 have A3 := Aside0.mk A30
 clear A30
 obtain rfl := Option.some.inj H
 go_enter Tryz.func33, Tryz.ntmps33
 go_wp2_with (first | ((with_reducible refine gate_callee (f := 55) rfl ?_); refine goesL_ (some 7) rfl rfl Tryz.func55 (by kernel_rfl) rfl #[.slice A0 l0.length c0, .int .i64 a1] rfl ar_ ?_; (with_reducible refine (slices_Index_int_int.calls k _ _ l0 a1 t329 _ ?side1 ?side2 A3.out).mono ?_); (case side1 => repeat (first | exact HR0.out | (with_reducible refine Kd.C_alloc ?_ _) | (with_reducible refine Kd.C_drewN ?_ _) | (with_reducible refine Kd.C_drew ?_))); (case side2 => exact HC0.out); rintro e w' ⟨rfl, ⟨nd, rfl⟩⟩; refine ⟨_, rfl, ?_⟩))
 go_ret
 exact ⟨by first | rfl | (simp; done) | (simp [*]; done), by repeat (first | exact Drawn0.refl _ | apply Drawn0.step)⟩
end Go.Proofs.YtcgkmomhjincgaaGreatDoor.LibX
