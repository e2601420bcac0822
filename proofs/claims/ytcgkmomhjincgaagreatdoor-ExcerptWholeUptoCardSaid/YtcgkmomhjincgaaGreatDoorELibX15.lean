import Derived.Test.YtcgkmomhjincgaaGreatDoorELibX0
import Derived.Test.YtcgkmomhjincgaaGreatDoorELibX5
import Derived.Test.YtcgkmomhjincgaaGreatDoorELibX6
import Derived.Test.YtcgkmomhjincgaaGreatDoorELibX14
namespace Go.Proofs.YtcgkmomhjincgaaGreatDoor.LibX
open Go.RowKit Go.Proofs.YtcgkmomhjincgaaGreatDoorW.PrintWords Go.Proofs.YtcgkmomhjincgaaGreatDoorW.PrintLast Go.Proofs.YtcgkmomhjincgaaGreatDoorW.PrintMore
attribute [local go_sem] max2_int min2_int max_two min_two max_three min_three max_four min_four   -- for this text's walks alone
set_option linter.unusedVariables false
set_option linter.unusedSimpArgs false
mutual
def scholialaw31_ExcerptWhole.j0 : Nat → ByteArray → Int → Bool → Int → Int → List (S40) → List (S25) → Option (Bool)
 | 0, _, _, _, _, _, _, _ => none
 | k + 1, x0, x2, x39, x345000, x345001, x345002, x345003 => if x39 = true then ((scholialaw31_awake.f k).bind fun t349 => (some t349)) else ((scholiaref15_Pieces.f k x0).bind fun t350 => (scholialaw31_ExcerptWhole.l0 k x0 x2 (-1) 0 0 t350 (t350.length : Int) 0 x345000 x345001 x345002 x345003))
def scholialaw31_ExcerptWhole.l0 : Nat → ByteArray → Int → Int → Int → Int → List (S33) → Int → Int → Int → Int → List (S40) → List (S25) → Option (Bool)
 | 0, _, _, _, _, _, _, _, _, _, _, _, _ => none
 | k + 1, x0, x2, x8, x9, x10, x42, x43, x44, x345000, x345001, x345002, x345003 => if x44 < x43 then (if 0 ≤ x44 then (if x44 < (x42.length : Int) then (if (rd_T33 x42 x44).f1 = true then (scholialaw31_ExcerptWhole.j2 k x0 x2 x8 x9 x10 x42 x43 x44 (decide (x8 < 0)) x345000 x345001 x345002 x345003 ((rd_T33 x42 x44).f0) ((rd_T33 x42 x44).f1)) else (scholialaw31_ExcerptWhole.j2 k x0 x2 x8 x9 x10 x42 x43 x44 false x345000 x345001 x345002 x345003 ((rd_T33 x42 x44).f0) ((rd_T33 x42 x44).f1))) else (none)) else (none)) else ((excerpt_Excerpt.f k x0 x345000 x345001 x345002 x345003 x2 20).bind fun t355 => ((strings_ReplaceAll.f t355 (⟨#[91]⟩ : ByteArray) (⟨#[]⟩ : ByteArray)).bind fun t356 => ((strings_ReplaceAll.f t356 (⟨#[93]⟩ : ByteArray) (⟨#[]⟩ : ByteArray)).bind fun t357 => (if 0 ≤ x8 then (if x8 ≤ x9 then (if x9 ≤ (x0.size : Int) then (if t357.toList = (x0.extract (x8 : Int).toNat (x9 : Int).toNat).toList then ((scholialaw31_awake.f k).bind fun t358 => (some t358)) else (some false)) else (none)) else (none)) else (none)))))
def scholialaw31_ExcerptWhole.j2 : Nat → ByteArray → Int → Int → Int → Int → List (S33) → Int → Int → Bool → Int → Int → List (S40) → List (S25) → ByteArray → Bool → Option (Bool)
 | 0, _, _, _, _, _, _, _, _, _, _, _, _, _, _, _ => none
 | k + 1, x0, x2, x8, x9, x10, x42, x43, x44, x53, x345000, x345001, x345002, x345003, x355000, x355001 => if x53 = true then (if x355001 = true then (scholialaw31_ExcerptWhole.l0 k x0 x2 x10 (wrap64 (x10 + (x355000.size : Int))) (wrap64 (x10 + (x355000.size : Int))) x42 x43 (wrap64 (x44 + 1)) x345000 x345001 x345002 x345003) else (scholialaw31_ExcerptWhole.l0 k x0 x2 x10 x9 (wrap64 (x10 + (x355000.size : Int))) x42 x43 (wrap64 (x44 + 1)) x345000 x345001 x345002 x345003)) else (if x355001 = true then (scholialaw31_ExcerptWhole.l0 k x0 x2 x8 (wrap64 (x10 + (x355000.size : Int))) (wrap64 (x10 + (x355000.size : Int))) x42 x43 (wrap64 (x44 + 1)) x345000 x345001 x345002 x345003) else (scholialaw31_ExcerptWhole.l0 k x0 x2 x8 x9 (wrap64 (x10 + (x355000.size : Int))) x42 x43 (wrap64 (x44 + 1)) x345000 x345001 x345002 x345003))
end
def scholialaw31_ExcerptWhole.f (k : Nat) (a0 : ByteArray) (a1_0 : Int) (a1_1 : Int) (l1_2 : List (S40)) (l1_3 : List (S25)) (a2 : Int) : Option (Bool) := (scholiaref15_Count.f k a0).bind fun t345 => (if (a0.size : Int) > 1000 then (scholialaw31_ExcerptWhole.j0 k a0 a2 true a1_0 a1_1 l1_2 l1_3) else ((scholiaplain_Node.f k a1_0 a1_1 l1_2 l1_3).bind fun t346 => (if t346 = true then (if t345 = 0 then (scholialaw31_ExcerptWhole.j0 k a0 a2 true a1_0 a1_1 l1_2 l1_3) else (if t345 > 20 then (scholialaw31_ExcerptWhole.j0 k a0 a2 true a1_0 a1_1 l1_2 l1_3) else ((strings_Contains.f a0 (⟨#[91]⟩ : ByteArray)).bind fun t347 => (if t347 = true then (scholialaw31_ExcerptWhole.j0 k a0 a2 true a1_0 a1_1 l1_2 l1_3) else ((strings_Contains.f a0 (⟨#[93]⟩ : ByteArray)).bind fun t348 => (scholialaw31_ExcerptWhole.j0 k a0 a2 t348 a1_0 a1_1 l1_2 l1_3)))))) else (scholialaw31_ExcerptWhole.j0 k a0 a2 true a1_0 a1_1 l1_2 l1_3))))
set_option maxHeartbeats 8000000 in
set_option maxRecDepth 100000 in
theorem scholialaw31_ExcerptWhole.calls (k : Nat) (a0 : ByteArray) (a1_0 : Int) (a1_1 : Int) (A1_2 : Option Addr) (c1_2 : Nat) (l1_2 : List (S40)) (A1_3 : Option Addr) (c1_3 : Nat) (l1_3 : List (S25)) (a2 : Int) (r : Bool) (w : World) (hG : GL w) (hr1_2 : Kd.C k40 w A1_2 l1_2.length l1_2) (hc1_2 : l1_2.length ≤ c1_2) (hr1_3 : Kd.C k25 w A1_3 l1_3.length l1_3) (hc1_3 : l1_3.length ≤ c1_3) (h : scholialaw31_ExcerptWhole.f k a0 a1_0 a1_1 l1_2 l1_3 a2 = some r) :
  Calls Tryz.prog 3 #[.string a0, .agg #[.int .i64 a1_0, .int .i64 a1_1, .slice A1_2 l1_2.length c1_2, .slice A1_3 l1_3.length c1_3], .int .i64 a2] w fun e w' => e = .returned (.bool r) ∧ Below w.heap.size w w' := by
 have hu25 := Tryz.underlying25
 have hu33 := Tryz.underlying33
 have HR1_2 := Aside0.mk hr1_2
 have HC1_2 := Aside0.mk hc1_2
 clear hr1_2 hc1_2
 have HR1_3 := Aside0.mk hr1_3
 have HC1_3 := Aside0.mk hc1_3
 clear hr1_3 hc1_3
 have HB := Aside0.mk (Below.refl w.heap.size w)
 have H : ((scholiaref15_Count.f k a0).bind fun t345 => (if (a0.size : Int) > 1000 then (scholialaw31_ExcerptWhole.j0 k a0 a2 true a1_0 a1_1 l1_2 l1_3) else ((scholiaplain_Node.f k a1_0 a1_1 l1_2 l1_3).bind fun t346 => (if t346 = true then (if t345 = 0 then (scholialaw31_ExcerptWhole.j0 k a0 a2 true a1_0 a1_1 l1_2 l1_3) else (if t345 > 20 then (scholialaw31_ExcerptWhole.j0 k a0 a2 true a1_0 a1_1 l1_2 l1_3) else ((strings_Contains.f a0 (⟨#[91]⟩ : ByteArray)).bind fun t347 => (if t347 = true then (scholialaw31_ExcerptWhole.j0 k a0 a2 true a1_0 a1_1 l1_2 l1_3) else ((strings_Contains.f a0 (⟨#[93]⟩ : ByteArray)).bind fun t348 => (scholialaw31_ExcerptWhole.j0 k a0 a2 t348 a1_0 a1_1 l1_2 l1_3)))))) else (scholialaw31_ExcerptWhole.j0 k a0 a2 true a1_0 a1_1 l1_2 l1_3))))) = some r := h
 clear h
 replace H := Option.bind_eq_some_iff.mp H
 obtain ⟨t345, A40, H⟩ := H
 replace H : (if (a0.size : Int) > 1000 then (scholialaw31_ExcerptWhole.j0 k a0 a2 true a1_0 a1_1 l1_2 l1_3) else ((scholiaplain_Node.f k a1_0 a1_1 l1_2 l1_3).bind fun t346 => (if t346 = true then (if t345 = 0 then (scholialaw31_ExcerptWhole.j0 k a0 a2 true a1_0 a1_1 l1_2 l1_3) else (if t345 > 20 then (scholialaw31_ExcerptWhole.j0 k a0 a2 true a1_0 a1_1 l1_2 l1_3) else ((strings_Contains.f a0 (⟨#[91]⟩ : ByteArray)).bind fun t347 => (if t347 = true then (scholialaw31_ExcerptWhole.j0 k a0 a2 true a1_0 a1_1 l1_2 l1_3) else ((strings_Contains.f a0 (⟨#[93]⟩ : ByteArray)).bind fun t348 => (scholialaw31_ExcerptWhole.j0 k a0 a2 t348 a1_0 a1_1 l1_2 l1_3)))))) else (scholialaw31_ExcerptWhole.j0 k a0 a2 true a1_0 a1_1 l1_2 l1_3)))) = some r := H
 have A4 := Aside0.mk A40
 clear A40
 have HC5 := Aside0.mk H
 clear H
 go_enter Tryz.func3, Tryz.ntmps3
 go_upto_region 2 with (first | ((with_reducible refine gate_dst (N := 4) rfl ?_); refine box_event ?hg (N := 4) ?hd (cs := #[.int .i64 a1_0, .int .i64 a1_1, .slice A1_2 l1_2.length c1_2, .slice A1_3 l1_3.length c1_3]) (t := 25) ?hr ?_; (case hd => rfl); (case hg => rfl); (case hr => first | (go_simp; done) | (go_simp; rfl)); intro gb344 hg w6 hbox hb; have n0_ := Aside0.mk (below_step (bb_ HB.out) hb); have n1_ := Aside0.mk (hbox); have n2_ := Aside0.mk ((by rw [hg]; exact (below_size (bb_ HB.out)) : w.heap.size ≤ gb344)); have n3_ := Aside0.mk ((by rw [hg]; exact (below_size (bb_ HB.out)) : w.heap.size ≤ gb344)); clear HB; have HB := n0_; have BK344 := n1_; have GW344 := n2_; have GE344 := n3_; clear n0_ n1_ n2_ n3_; clear hb hbox hg) | ((with_reducible refine gate_callee (f := 4) rfl ?_); refine goesL_ (some 15) rfl rfl Tryz.func4 (by kernel_rfl) rfl #[.string a0] rfl ar_ ?_; (with_reducible refine (scholiaref15_Count.calls k a0 t345 _ A4.out).mono ?_); rintro e w7 ⟨rfl, hb⟩; refine ⟨_, rfl, ?_⟩; have n0_ := Aside0.mk (blk_below (g := gb344) (o := .cells #[.int .i64 a1_0, .int .i64 a1_1, .slice A1_2 l1_2.length c1_2, .slice A1_3 l1_3.length c1_3] 25 (0, 0)) (bk_ BK344.out) hb); have n1_ := Aside0.mk (below_step (bb1_ HB.out GE344.out) hb); clear BK344; clear HB; have BK344 := n0_; have HB := n1_; clear n0_ n1_; (try clear hb); (try clear hb2); (try clear hk); (try clear hi)))
 (try simp only [Act.put, List.setIfInBounds_toArray, List.set_cons_zero, List.set_cons_succ])
 go_cut [39] (fun v39 wc => ∃ (kq : Nat) (x39_4 : Bool), v39 = .bool x39_4 ∧ Aside0 (scholialaw31_ExcerptWhole.j0 kq a0 a2 x39_4 a1_0 a1_1 l1_2 l1_3 = some r) ∧ Aside0 (kq ≤ k) ∧ Aside0 (wc.heap[gb344]? = some (.cells #[.int .i64 a1_0, .int .i64 a1_1, (.slice A1_2 l1_2.length c1_2), (.slice A1_3 l1_3.length c1_3)] 25 (0, 0))) ∧ Aside0 (Below w.heap.size w wc))
 case first =>
  have H := HC5.out
  clear HC5
  by_cases c8 : (a0.size : Int) > 1000
  ·rw [if_pos c8] at H
   have c8b0 : decide (1000 < (a0.size : Int)) = true := decide_eq_true c8
   have c8b1 : decide (1000 < a0.size) = true := decide_eq_true (by omega)
   clear c8
   (first | rw [c8b0] | (simp only [i64_w, i32_w]; rw [c8b0]) | skip)
   have H' := Aside0.mk H
   clear H
   go_wp2
   go_meet
   case rel => exact ⟨_, (true), rs_, H', ⟨by first | omega | exact Nat.le_refl _⟩, ⟨bk_ BK344.out⟩, ⟨bb1_ HB.out GE344.out⟩⟩
  ·rw [if_neg c8] at H
   have c8b0 : decide (1000 < (a0.size : Int)) = false := decide_eq_false c8
   have c8b1 : decide (1000 < a0.size) = false := decide_eq_false (by omega)
   clear c8
   (first | rw [c8b0] | (simp only [i64_w, i32_w]; rw [c8b0]) | skip)
   replace H := Option.bind_eq_some_iff.mp H
   obtain ⟨t346, A90, H⟩ := H
   replace H : (if t346 = true then (if t345 = 0 then (scholialaw31_ExcerptWhole.j0 k a0 a2 true a1_0 a1_1 l1_2 l1_3) else (if t345 > 20 then (scholialaw31_ExcerptWhole.j0 k a0 a2 true a1_0 a1_1 l1_2 l1_3) else ((strings_Contains.f a0 (⟨#[91]⟩ : ByteArray)).bind fun t347 => (if t347 = true then (scholialaw31_ExcerptWhole.j0 k a0 a2 true a1_0 a1_1 l1_2 l1_3) else ((strings_Contains.f a0 (⟨#[93]⟩ : ByteArray)).bind fun t348 => (scholialaw31_ExcerptWhole.j0 k a0 a2 t348 a1_0 a1_1 l1_2 l1_3)))))) else (scholialaw31_ExcerptWhole.j0 k a0 a2 true a1_0 a1_1 l1_2 l1_3)) = some r := H
   have A9 := Aside0.mk A90
   clear A90
   by_cases c10 : t346 = true
   ·subst c10
    have H1 : (if t345 = 0 then (scholialaw31_ExcerptWhole.j0 k a0 a2 true a1_0 a1_1 l1_2 l1_3) else (if t345 > 20 then (scholialaw31_ExcerptWhole.j0 k a0 a2 true a1_0 a1_1 l1_2 l1_3) else ((strings_Contains.f a0 (⟨#[91]⟩ : ByteArray)).bind fun t347 => (if t347 = true then (scholialaw31_ExcerptWhole.j0 k a0 a2 true a1_0 a1_1 l1_2 l1_3) else ((strings_Contains.f a0 (⟨#[93]⟩ : ByteArray)).bind fun t348 => (scholialaw31_ExcerptWhole.j0 k a0 a2 t348 a1_0 a1_1 l1_2 l1_3)))))) = some r := by rw [if_pos rfl] at H; exact H
    clear H
    have H := H1
    clear H1
    by_cases c11 : t345 = 0
    ·rw [if_pos c11] at H
     have c11b0 : (t345 == 0) = true := beq_iff_eq.mpr c11
     have c11b1 : (t345 != 0) = false := bne_eq_false_iff_eq.mpr c11
     clear c11
     have H' := Aside0.mk H
     clear H
     have hcz12_0 : w7.cell? ⟨gb344, 0, none⟩ = some (.int .i64 a1_0) := (blk_cell BK344.out 0).trans rfl
     have hcz12_1 : w7.cell? ⟨gb344, 1, none⟩ = some (.int .i64 a1_1) := (blk_cell BK344.out 1).trans rfl
     have hcz12_2 : w7.cell? ⟨gb344, 2, none⟩ = some (.slice A1_2 l1_2.length c1_2) := (blk_cell BK344.out 2).trans rfl
     have hcz12_3 : w7.cell? ⟨gb344, 3, none⟩ = some (.slice A1_3 l1_3.length c1_3) := (blk_cell BK344.out 3).trans rfl
     have hfz12_0 := blk_frozen BK344.out 0
     have hfz12_1 := blk_frozen BK344.out 1
     have hfz12_2 := blk_frozen BK344.out 2
     have hfz12_3 := blk_frozen BK344.out 3
     go_wp2_with (first | (go_at_call 5; (with_reducible refine (scholiaplain_Node.calls k a1_0 a1_1 _ _ l1_2 _ _ l1_3 true _ ?side1 ?side2 ?side3 ?side4 A9.out).mono ?_); (case side1 => repeat (first | exact (Kd.C_below HR1_2.out HB.out) | (with_reducible refine Kd.C_alloc ?_ _) | (with_reducible refine Kd.C_drewN ?_ _) | (with_reducible refine Kd.C_drew ?_))); (case side2 => exact HC1_2.out); (case side3 => repeat (first | exact (Kd.C_below HR1_3.out HB.out) | (with_reducible refine Kd.C_alloc ?_ _) | (with_reducible refine Kd.C_drewN ?_ _) | (with_reducible refine Kd.C_drew ?_))); (case side4 => exact HC1_3.out); rintro e w13 ⟨rfl, hb⟩; have n0_ := Aside0.mk (blk_below (g := gb344) (o := .cells #[.int .i64 a1_0, .int .i64 a1_1, .slice A1_2 l1_2.length c1_2, .slice A1_3 l1_3.length c1_3] 25 (0, 0)) (bk_ BK344.out) hb); have n1_ := Aside0.mk (below_step (bb1_ HB.out GE344.out) hb); clear BK344; clear HB; have BK344 := n0_; have HB := n1_; clear n0_ n1_; (try clear hb); (try clear hb2); (try clear hk); (try clear hi)))
     go_meet
     case rel => exact ⟨_, (true), rs_, H', ⟨by first | omega | exact Nat.le_refl _⟩, ⟨bk_ BK344.out⟩, ⟨bb1_ HB.out GE344.out⟩⟩
    ·rw [if_neg c11] at H
     have c11b0 : (t345 == 0) = false := beq_eq_false_iff_ne.mpr c11
     have c11b1 : (t345 != 0) = true := bne_iff_ne.mpr c11
     by_cases c14 : t345 > 20
     ·rw [if_pos c14] at H
      have c14b0 : decide (20 < t345) = true := decide_eq_true c14
      clear c14
      have H' := Aside0.mk H
      clear H
      have hcz15_0 : w7.cell? ⟨gb344, 0, none⟩ = some (.int .i64 a1_0) := (blk_cell BK344.out 0).trans rfl
      have hcz15_1 : w7.cell? ⟨gb344, 1, none⟩ = some (.int .i64 a1_1) := (blk_cell BK344.out 1).trans rfl
      have hcz15_2 : w7.cell? ⟨gb344, 2, none⟩ = some (.slice A1_2 l1_2.length c1_2) := (blk_cell BK344.out 2).trans rfl
      have hcz15_3 : w7.cell? ⟨gb344, 3, none⟩ = some (.slice A1_3 l1_3.length c1_3) := (blk_cell BK344.out 3).trans rfl
      have hfz15_0 := blk_frozen BK344.out 0
      have hfz15_1 := blk_frozen BK344.out 1
      have hfz15_2 := blk_frozen BK344.out 2
      have hfz15_3 := blk_frozen BK344.out 3
      go_wp2_with (first | (go_at_call 5; (with_reducible refine (scholiaplain_Node.calls k a1_0 a1_1 _ _ l1_2 _ _ l1_3 true _ ?side1 ?side2 ?side3 ?side4 A9.out).mono ?_); (case side1 => repeat (first | exact (Kd.C_below HR1_2.out HB.out) | (with_reducible refine Kd.C_alloc ?_ _) | (with_reducible refine Kd.C_drewN ?_ _) | (with_reducible refine Kd.C_drew ?_))); (case side2 => exact HC1_2.out); (case side3 => repeat (first | exact (Kd.C_below HR1_3.out HB.out) | (with_reducible refine Kd.C_alloc ?_ _) | (with_reducible refine Kd.C_drewN ?_ _) | (with_reducible refine Kd.C_drew ?_))); (case side4 => exact HC1_3.out); rintro e w16 ⟨rfl, hb⟩; have n0_ := Aside0.mk (blk_below (g := gb344) (o := .cells #[.int .i64 a1_0, .int .i64 a1_1, .slice A1_2 l1_2.length c1_2, .slice A1_3 l1_3.length c1_3] 25 (0, 0)) (bk_ BK344.out) hb); have n1_ := Aside0.mk (below_step (bb1_ HB.out GE344.out) hb); clear BK344; clear HB; have BK344 := n0_; have HB := n1_; clear n0_ n1_; (try clear hb); (try clear hb2); (try clear hk); (try clear hi)))
      go_meet
      case rel => exact ⟨_, (true), rs_, H', ⟨by first | omega | exact Nat.le_refl _⟩, ⟨bk_ BK344.out⟩, ⟨bb1_ HB.out GE344.out⟩⟩
     ·rw [if_neg c14] at H
      have c14b0 : decide (20 < t345) = false := decide_eq_false c14
      clear c14
      replace H := Option.bind_eq_some_iff.mp H
      obtain ⟨t347, A170, H⟩ := H
      replace H : (if t347 = true then (scholialaw31_ExcerptWhole.j0 k a0 a2 true a1_0 a1_1 l1_2 l1_3) else ((strings_Contains.f a0 (⟨#[93]⟩ : ByteArray)).bind fun t348 => (scholialaw31_ExcerptWhole.j0 k a0 a2 t348 a1_0 a1_1 l1_2 l1_3))) = some r := H
      have A17 := Aside0.mk A170
      clear A170
      by_cases c18 : t347 = true
      ·subst c18
       have H1 : (scholialaw31_ExcerptWhole.j0 k a0 a2 true a1_0 a1_1 l1_2 l1_3) = some r := by rw [if_pos rfl] at H; exact H
       clear H
       have H := H1
       clear H1
       have H' := Aside0.mk H
       clear H
       have hcz19_0 : w7.cell? ⟨gb344, 0, none⟩ = some (.int .i64 a1_0) := (blk_cell BK344.out 0).trans rfl
       have hcz19_1 : w7.cell? ⟨gb344, 1, none⟩ = some (.int .i64 a1_1) := (blk_cell BK344.out 1).trans rfl
       have hcz19_2 : w7.cell? ⟨gb344, 2, none⟩ = some (.slice A1_2 l1_2.length c1_2) := (blk_cell BK344.out 2).trans rfl
       have hcz19_3 : w7.cell? ⟨gb344, 3, none⟩ = some (.slice A1_3 l1_3.length c1_3) := (blk_cell BK344.out 3).trans rfl
       have hfz19_0 := blk_frozen BK344.out 0
       have hfz19_1 := blk_frozen BK344.out 1
       have hfz19_2 := blk_frozen BK344.out 2
       have hfz19_3 := blk_frozen BK344.out 3
       go_wp2_with (first | (go_at_call 5; (with_reducible refine (scholiaplain_Node.calls k a1_0 a1_1 _ _ l1_2 _ _ l1_3 true _ ?side1 ?side2 ?side3 ?side4 A9.out).mono ?_); (case side1 => repeat (first | exact (Kd.C_below HR1_2.out HB.out) | (with_reducible refine Kd.C_alloc ?_ _) | (with_reducible refine Kd.C_drewN ?_ _) | (with_reducible refine Kd.C_drew ?_))); (case side2 => exact HC1_2.out); (case side3 => repeat (first | exact (Kd.C_below HR1_3.out HB.out) | (with_reducible refine Kd.C_alloc ?_ _) | (with_reducible refine Kd.C_drewN ?_ _) | (with_reducible refine Kd.C_drew ?_))); (case side4 => exact HC1_3.out); rintro e w20 ⟨rfl, hb⟩; have n0_ := Aside0.mk (blk_below (g := gb344) (o := .cells #[.int .i64 a1_0, .int .i64 a1_1, .slice A1_2 l1_2.length c1_2, .slice A1_3 l1_3.length c1_3] 25 (0, 0)) (bk_ BK344.out) hb); have n1_ := Aside0.mk (below_step (bb1_ HB.out GE344.out) hb); clear BK344; clear HB; have BK344 := n0_; have HB := n1_; clear n0_ n1_; (try clear hb); (try clear hb2); (try clear hk); (try clear hi)) | (go_at_call 6; (with_reducible refine (strings_Contains.calls a0 (⟨#[91]⟩ : ByteArray) true _ A17.out).mono ?_); rintro e w' ⟨rfl, ⟨nd, rfl⟩⟩))
       go_meet
       case rel => exact ⟨_, (true), rs_, H', ⟨by first | omega | exact Nat.le_refl _⟩, ⟨bk_ BK344.out⟩, ⟨bb1_ HB.out GE344.out⟩⟩
      ·replace c18 := Bool.eq_false_iff.mpr c18
       subst c18
       have H1 : ((strings_Contains.f a0 (⟨#[93]⟩ : ByteArray)).bind fun t348 => (scholialaw31_ExcerptWhole.j0 k a0 a2 t348 a1_0 a1_1 l1_2 l1_3)) = some r := by rw [if_neg (show ¬ (false = true) by decide)] at H; exact H
       clear H
       have H := H1
       clear H1
       replace H := Option.bind_eq_some_iff.mp H
       obtain ⟨t348, A210, H⟩ := H
       replace H : (scholialaw31_ExcerptWhole.j0 k a0 a2 t348 a1_0 a1_1 l1_2 l1_3) = some r := H
       have A21 := Aside0.mk A210
       clear A210
       have H' := Aside0.mk H
       clear H
       have hcz22_0 : w7.cell? ⟨gb344, 0, none⟩ = some (.int .i64 a1_0) := (blk_cell BK344.out 0).trans rfl
       have hcz22_1 : w7.cell? ⟨gb344, 1, none⟩ = some (.int .i64 a1_1) := (blk_cell BK344.out 1).trans rfl
       have hcz22_2 : w7.cell? ⟨gb344, 2, none⟩ = some (.slice A1_2 l1_2.length c1_2) := (blk_cell BK344.out 2).trans rfl
       have hcz22_3 : w7.cell? ⟨gb344, 3, none⟩ = some (.slice A1_3 l1_3.length c1_3) := (blk_cell BK344.out 3).trans rfl
       have hfz22_0 := blk_frozen BK344.out 0
       have hfz22_1 := blk_frozen BK344.out 1
       have hfz22_2 := blk_frozen BK344.out 2
       have hfz22_3 := blk_frozen BK344.out 3
       go_wp2_with (first | (go_at_call 5; (with_reducible refine (scholiaplain_Node.calls k a1_0 a1_1 _ _ l1_2 _ _ l1_3 true _ ?side1 ?side2 ?side3 ?side4 A9.out).mono ?_); (case side1 => repeat (first | exact (Kd.C_below HR1_2.out HB.out) | (with_reducible refine Kd.C_alloc ?_ _) | (with_reducible refine Kd.C_drewN ?_ _) | (with_reducible refine Kd.C_drew ?_))); (case side2 => exact HC1_2.out); (case side3 => repeat (first | exact (Kd.C_below HR1_3.out HB.out) | (with_reducible refine Kd.C_alloc ?_ _) | (with_reducible refine Kd.C_drewN ?_ _) | (with_reducible refine Kd.C_drew ?_))); (case side4 => exact HC1_3.out); rintro e w23 ⟨rfl, hb⟩; have n0_ := Aside0.mk (blk_below (g := gb344) (o := .cells #[.int .i64 a1_0, .int .i64 a1_1, .slice A1_2 l1_2.length c1_2, .slice A1_3 l1_3.length c1_3] 25 (0, 0)) (bk_ BK344.out) hb); have n1_ := Aside0.mk (below_step (bb1_ HB.out GE344.out) hb); clear BK344; clear HB; have BK344 := n0_; have HB := n1_; clear n0_ n1_; (try clear hb); (try clear hb2); (try clear hk); (try clear hi)) | (go_at_call 6; (with_reducible refine (strings_Contains.calls a0 (⟨#[91]⟩ : ByteArray) false _ A17.out).mono ?_); rintro e w' ⟨rfl, ⟨nd, rfl⟩⟩) | (go_at_call 6; (with_reducible refine (strings_Contains.calls a0 (⟨#[93]⟩ : ByteArray) t348 _ A21.out).mono ?_); rintro e w' ⟨rfl, ⟨nd, rfl⟩⟩))
       go_meet
       case rel => exact ⟨_, (t348), rs_, H', ⟨by first | omega | exact Nat.le_refl _⟩, ⟨bk_ BK344.out⟩, ⟨bb1_ HB.out GE344.out⟩⟩
   ·replace c10 := Bool.eq_false_iff.mpr c10
    subst c10
    have H1 : (scholialaw31_ExcerptWhole.j0 k a0 a2 true a1_0 a1_1 l1_2 l1_3) = some r := by rw [if_neg (show ¬ (false = true) by decide)] at H; exact H
    clear H
    have H := H1
    clear H1
    have H' := Aside0.mk H
    clear H
    have hcz24_0 : w7.cell? ⟨gb344, 0, none⟩ = some (.int .i64 a1_0) := (blk_cell BK344.out 0).trans rfl
    have hcz24_1 : w7.cell? ⟨gb344, 1, none⟩ = some (.int .i64 a1_1) := (blk_cell BK344.out 1).trans rfl
    have hcz24_2 : w7.cell? ⟨gb344, 2, none⟩ = some (.slice A1_2 l1_2.length c1_2) := (blk_cell BK344.out 2).trans rfl
    have hcz24_3 : w7.cell? ⟨gb344, 3, none⟩ = some (.slice A1_3 l1_3.length c1_3) := (blk_cell BK344.out 3).trans rfl
    have hfz24_0 := blk_frozen BK344.out 0
    have hfz24_1 := blk_frozen BK344.out 1
    have hfz24_2 := blk_frozen BK344.out 2
    have hfz24_3 := blk_frozen BK344.out 3
    go_wp2_with (first | (go_at_call 5; (with_reducible refine (scholiaplain_Node.calls k a1_0 a1_1 _ _ l1_2 _ _ l1_3 false _ ?side1 ?side2 ?side3 ?side4 A9.out).mono ?_); (case side1 => repeat (first | exact (Kd.C_below HR1_2.out HB.out) | (with_reducible refine Kd.C_alloc ?_ _) | (with_reducible refine Kd.C_drewN ?_ _) | (with_reducible refine Kd.C_drew ?_))); (case side2 => exact HC1_2.out); (case side3 => repeat (first | exact (Kd.C_below HR1_3.out HB.out) | (with_reducible refine Kd.C_alloc ?_ _) | (with_reducible refine Kd.C_drewN ?_ _) | (with_reducible refine Kd.C_drew ?_))); (case side4 => exact HC1_3.out); rintro e w25 ⟨rfl, hb⟩; have n0_ := Aside0.mk (blk_below (g := gb344) (o := .cells #[.int .i64 a1_0, .int .i64 a1_1, .slice A1_2 l1_2.length c1_2, .slice A1_3 l1_3.length c1_3] 25 (0, 0)) (bk_ BK344.out) hb); have n1_ := Aside0.mk (below_step (bb1_ HB.out GE344.out) hb); clear BK344; clear HB; have BK344 := n0_; have HB := n1_; clear n0_ n1_; (try clear hb); (try clear hb2); (try clear hk); (try clear hi)))
    go_meet
    case rel => exact ⟨_, (true), rs_, H', ⟨by first | omega | exact Nat.le_refl _⟩, ⟨bk_ BK344.out⟩, ⟨bb1_ HB.out GE344.out⟩⟩
 case rest =>
  clear HC5
  try clear c1
  try clear p2
  try clear c3
  try clear c4
  try clear c8
  try clear c8b0
  try clear c8b1
  try clear c10
  try clear c11
  try clear c11b0
  try clear c11b1
  try clear c14
  try clear c14b0
  try clear c18
  try clear hcz12_0
  try clear hcz12_1
  try clear hcz12_2
  try clear hcz12_3
  try clear hcz15_0
  try clear hcz15_1
  try clear hcz15_2
  try clear hcz15_3
  try clear hcz19_0
  try clear hcz19_1
  try clear hcz19_2
  try clear hcz19_3
  try clear hcz22_0
  try clear hcz22_1
  try clear hcz22_2
  try clear hcz22_3
  try clear hcz24_0
  try clear hcz24_1
  try clear hcz24_2
  try clear hcz24_3
  try clear hfz12_0
  try clear hfz12_1
  try clear hfz12_2
  try clear hfz12_3
  try clear hfz15_0
  try clear hfz15_1
  try clear hfz15_2
  try clear hfz15_3
  try clear hfz19_0
  try clear hfz19_1
  try clear hfz19_2
  try clear hfz19_3
  try clear hfz22_0
  try clear hfz22_1
  try clear hfz22_2
  try clear hfz22_3
  try clear hfz24_0
  try clear hfz24_1
  try clear hfz24_2
  try clear hfz24_3
  obtain ⟨kq, x39_4, rfl, HA, HJ4, BK344, HB⟩ := hcut
  cases kq with
  | zero => exact absurd HA.out (by simp [scholialaw31_ExcerptWhole.j0])
  | succ kj4 =>
   have H := HA.out
   clear HA
   simp only [scholialaw31_ExcerptWhole.j0] at H
   by_cases c26 : x39_4 = true
   ·subst c26
    have H1 : ((scholialaw31_awake.f kj4).bind fun t349 => (some t349)) = some r := by rw [if_pos rfl] at H; exact H
    clear H
    have H := H1
    clear H1
    replace H := Option.bind_eq_some_iff.mp H
    obtain ⟨t349, A270, H⟩ := H
    replace H : (some t349) = some r := H
    have A27 := Aside0.mk A270
    clear A270
    obtain rfl := Option.some.inj H
    go_wp2_with (first | ((with_reducible refine gate_callee (f := 7) rfl ?_); refine goesL_ (some 40) rfl rfl Tryz.func7 (by kernel_rfl) rfl #[] rfl ar_ ?_; (with_reducible refine (scholialaw31_awake.calls kj4  t349 _ (by first | exact hG | exact GL.drewN hG _ | exact GL.below hG (bb1_ HB.out GE344.out)) A27.out).mono ?_); rintro e w28 ⟨rfl, hb⟩; refine ⟨_, rfl, ?_⟩; have n0_ := Aside0.mk (blk_below (g := gb344) (o := .cells #[.int .i64 a1_0, .int .i64 a1_1, .slice A1_2 l1_2.length c1_2, .slice A1_3 l1_3.length c1_3] 25 (0, 0)) (bk_ BK344.out) hb); have n1_ := Aside0.mk (below_step (bb1_ HB.out GE344.out) hb); clear BK344; clear HB; have BK344 := n0_; have HB := n1_; clear n0_ n1_; (try clear hb); (try clear hb2); (try clear hk); (try clear hi)))
    go_ret
    exact ⟨by first | rfl | (simp [errW_none, errW_some] <;> rfl) | (simp [*, errW_none, errW_some] <;> rfl), by repeat (first | (with_reducible first | exact HB.out | apply below_alloc | apply pw_below_drewN | apply below_drew1 | refine below_set ?_ GE344.out) | exact HB.out)⟩
   ·replace c26 := Bool.eq_false_iff.mpr c26
    subst c26
    have H1 : ((scholiaref15_Pieces.f kj4 a0).bind fun t350 => (scholialaw31_ExcerptWhole.l0 kj4 a0 a2 (-1) 0 0 t350 (t350.length : Int) 0 a1_0 a1_1 l1_2 l1_3)) = some r := by rw [if_neg (show ¬ (false = true) by decide)] at H; exact H
    clear H
    have H := H1
    clear H1
    replace H := Option.bind_eq_some_iff.mp H
    obtain ⟨t350, A290, H⟩ := H
    replace H : (scholialaw31_ExcerptWhole.l0 kj4 a0 a2 (-1) 0 0 t350 (t350.length : Int) 0 a1_0 a1_1 l1_2 l1_3) = some r := H
    have A29 := Aside0.mk A290
    clear A290
    have H' := Aside0.mk H
    clear H
    go_wp2_with (first | ((with_reducible refine gate_callee (f := 8) rfl ?_); refine goesL_ (some 42) rfl rfl Tryz.func8 (by kernel_rfl) rfl #[.string a0] rfl ar_ ?_; (with_reducible refine (scholiaref15_Pieces.calls kj4 a0 t350 _ A29.out).mono ?_); rintro e w30 ⟨v351, rfl, ho0, hb⟩; refine ⟨_, rfl, ?_⟩; have n0_ := Aside0.mk (Kd.R_lower ho0 (below_size (bb1_ HB.out GE344.out))); have n1_ := Aside0.mk (blk_below (g := gb344) (o := .cells #[.int .i64 a1_0, .int .i64 a1_1, .slice A1_2 l1_2.length c1_2, .slice A1_3 l1_3.length c1_3] 25 (0, 0)) (bk_ BK344.out) hb); have n2_ := Aside0.mk (below_step (bb1_ HB.out GE344.out) hb); clear BK344; clear HB; have HO352 := n0_; have BK344 := n1_; have HB := n2_; clear n0_ n1_ n2_; (try clear hb); (try clear hb2); (try clear hk); (try clear hi); (try clear ho0); obtain ⟨Ao31, co31, eo31⟩ := Kd.R_slice HO352.out; subst eo31))
    go_loopg [8, 9, 10, 44] kj4 (fun kq v8 v9 v10 v44 w' => ∃ (x8_2 : Int) (x9_2 : Int) (x10_2 : Int) (x44_2 : Int), v8 = .int .i64 x8_2 ∧ v9 = .int .i64 x9_2 ∧ v10 = .int .i64 x10_2 ∧ v44 = .int .i64 x44_2 ∧ Aside0 (scholialaw31_ExcerptWhole.l0 kq a0 a2 x8_2 x9_2 x10_2 t350 (t350.length : Int) x44_2 a1_0 a1_1 l1_2 l1_3 = some r) ∧ Aside0 (kq ≤ kj4) ∧ Aside0 (Kd.R k33 33 w' w.heap.size (fun _ => True) (.slice Ao31 t350.length co31) t350) ∧ Aside0 (w'.heap[gb344]? = some (.cells #[.int .i64 a1_0, .int .i64 a1_1, (.slice A1_2 l1_2.length c1_2), (.slice A1_3 l1_3.length c1_3)] 25 (0, 0))) ∧ Aside0 (Below w.heap.size w w'))
    case atStart => exact ⟨((-1)), (0), (0), (0), rs_, rs_, rs_, rs_, H', ⟨Nat.le_refl _⟩, ⟨kr_ HO352.out⟩, ⟨bk_ BK344.out⟩, ⟨bb1_ HB.out GE344.out⟩⟩
    case round =>
     clear H'
     try clear c1
     try clear c2
     try clear p2
     try clear c3
     try clear c4
     try clear c7
     try clear c8
     try clear c8b0
     try clear c8b1
     try clear c10
     try clear c11
     try clear c11b0
     try clear c11b1
     try clear c14
     try clear c14b0
     try clear c18
     try clear c26
     try clear hcz12_0
     try clear hcz12_1
     try clear hcz12_2
     try clear hcz12_3
     try clear hcz15_0
     try clear hcz15_1
     try clear hcz15_2
     try clear hcz15_3
     try clear hcz19_0
     try clear hcz19_1
     try clear hcz19_2
     try clear hcz19_3
     try clear hcz22_0
     try clear hcz22_1
     try clear hcz22_2
     try clear hcz22_3
     try clear hcz24_0
     try clear hcz24_1
     try clear hcz24_2
     try clear hcz24_3
     try clear hfz12_0
     try clear hfz12_1
     try clear hfz12_2
     try clear hfz12_3
     try clear hfz15_0
     try clear hfz15_1
     try clear hfz15_2
     try clear hfz15_3
     try clear hfz19_0
     try clear hfz19_1
     try clear hfz19_2
     try clear hfz19_3
     try clear hfz22_0
     try clear hfz22_1
     try clear hfz22_2
     try clear hfz22_3
     try clear hfz24_0
     try clear hfz24_1
     try clear hfz24_2
     try clear hfz24_3
     try clear p2
     obtain ⟨x8_2, x9_2, x10_2, x44_2, rfl, rfl, rfl, rfl, HA, HK2, HO_42, BK344, HB⟩ := hrel
     cases gk with
     | zero => exact absurd HA.out (by simp [scholialaw31_ExcerptWhole.l0])
     | succ k2 =>
      have H := HA.out
      clear HA
      simp only [scholialaw31_ExcerptWhole.l0] at H
      by_cases c32 : x44_2 < (t350.length : Int)
      ·rw [if_pos c32] at H
       have c32b0 : decide (x44_2 < (t350.length : Int)) = true := decide_eq_true c32
       clear c32
       by_cases c33 : 0 ≤ x44_2
       ·rw [if_pos c33] at H
        have c33b0 : decide (0 ≤ x44_2) = true := decide_eq_true c33
        clear c33
        by_cases c34 : x44_2 < (t350.length : Int)
        ·rw [if_pos c34] at H
         have c34b0 : decide (x44_2 < (t350.length : Int)) = true := decide_eq_true c34
         clear c34
         have HC35 := Aside0.mk H
         clear H
         have p353 : 0 ≤ (x44_2 : Int) := of_decide_eq_true as_
         have q353 : x44_2 < (t350.length : Int) := of_decide_eq_true as_
         obtain ⟨ad353, e353, hx353_0, hx353_1⟩ := at_T33 (Kd.R_reads' HO_42.out).2.2 x44_2 p353 q353
         cases e353
         replace p353 := eq_true p353
         replace q353 := eq_true q353
         go_upto_region 9 with (first | ((with_reducible refine gate_dst (N := 12) rfl ?_); refine box_event ?hg (N := 12) ?hd (cs := #[.string (⟨#[]⟩ : ByteArray), .bool false]) (t := 33) ?hr ?_; (case hd => rfl); (case hg => rfl); (case hr => first | (go_simp; done) | (go_simp; rfl)); intro gb354 hg w36 hbox hb; have n0_ := Aside0.mk (Kd.R_below (Kd.R_elderB (kr_ HO_42.out) gb354 (Nat.le_of_eq hg.symm)) hb); have n1_ := Aside0.mk (blk_below (g := gb344) (o := .cells #[.int .i64 a1_0, .int .i64 a1_1, .slice A1_2 l1_2.length c1_2, .slice A1_3 l1_3.length c1_3] 25 (0, 0)) (bk_ BK344.out) hb); have n2_ := Aside0.mk (below_step (bb1_ HB.out GE344.out) hb); have n3_ := Aside0.mk (hbox); have n4_ := Aside0.mk ((by rw [hg]; exact (below_size (bb1_ HB.out GE344.out)) : w.heap.size ≤ gb354)); have n5_ := Aside0.mk ((by rw [hg]; exact (below_size (bb1_ HB.out GE344.out)) : w.heap.size ≤ gb354)); have n6_ := Aside0.mk ((by rw [hg]; exact Nat.ne_of_lt (blk_lt (g := gb344) (o := .cells #[.int .i64 a1_0, .int .i64 a1_1, .slice A1_2 l1_2.length c1_2, .slice A1_3 l1_3.length c1_3] 25 (0, 0)) (bk_ BK344.out)) : gb344 ≠ gb354)); have n7_ := Aside0.mk ((by rw [hg]; exact Nat.ne_of_gt (blk_lt (g := gb344) (o := .cells #[.int .i64 a1_0, .int .i64 a1_1, .slice A1_2 l1_2.length c1_2, .slice A1_3 l1_3.length c1_3] 25 (0, 0)) (bk_ BK344.out)) : gb354 ≠ gb344)); clear HO_42; clear BK344; clear HB; have HO_42 := n0_; have BK344 := n1_; have HB := n2_; have BK354 := n3_; have GW354 := n4_; have GE354 := n5_; have NB344_354 := n6_; have NB354_344 := n7_; clear n0_ n1_ n2_ n3_ n4_ n5_ n6_ n7_; clear hb hbox hg; have hnb37 := NB354_344.out; have hnc37 := NB344_354.out; have hcz38_0 : w36.cell? ⟨gb354, 0, none⟩ = some (.string (⟨#[]⟩ : ByteArray)) := (blk_cell BK354.out 0).trans rfl; have hcz38_1 : w36.cell? ⟨gb354, 1, none⟩ = some (.bool false) := (blk_cell BK354.out 1).trans rfl; have hfz38_0 := blk_frozen BK354.out 0; have hfz38_1 := blk_frozen BK354.out 1))
         (try simp only [Act.put, List.setIfInBounds_toArray, List.set_cons_zero, List.set_cons_succ])
         go_cut [53] (fun v53 wc => ∃ (kq : Nat) (x53_34 : Bool), v53 = .bool x53_34 ∧ Aside0 (scholialaw31_ExcerptWhole.j2 kq a0 a2 x8_2 x9_2 x10_2 t350 (t350.length : Int) x44_2 x53_34 a1_0 a1_1 l1_2 l1_3 ((rd_T33 t350 x44_2).f0) ((rd_T33 t350 x44_2).f1) = some r) ∧ Aside0 (kq ≤ k2) ∧ Aside0 (Kd.R k33 33 wc w.heap.size (fun k_ => k_ ≠ gb354) (.slice (some ad353) t350.length co31) t350) ∧ Aside0 (wc.heap[gb344]? = some (.cells #[.int .i64 a1_0, .int .i64 a1_1, (.slice A1_2 l1_2.length c1_2), (.slice A1_3 l1_3.length c1_3)] 25 (0, 0))) ∧ Aside0 (wc.heap[gb354]? = some (.cells #[.string ((rd_T33 t350 x44_2).f0), .bool ((rd_T33 t350 x44_2).f1)] 33 (0, 0))) ∧ Aside0 (Below w.heap.size w wc))
         case first =>
          have H := HC35.out
          clear HC35
          obtain ⟨bq39, hbq39⟩ : ∃ b_ : Bool, b_ = ((rd_T33 t350 x44_2).f1) := ⟨_, rfl⟩
          replace H : (if bq39 = true then (scholialaw31_ExcerptWhole.j2 k2 a0 a2 x8_2 x9_2 x10_2 t350 (t350.length : Int) x44_2 (decide (x8_2 < 0)) a1_0 a1_1 l1_2 l1_3 ((rd_T33 t350 x44_2).f0) bq39) else (scholialaw31_ExcerptWhole.j2 k2 a0 a2 x8_2 x9_2 x10_2 t350 (t350.length : Int) x44_2 false a1_0 a1_1 l1_2 l1_3 ((rd_T33 t350 x44_2).f0) bq39)) = some r := by rw [← hbq39] at H; exact H
          have Nbq39 := Aside0.mk hbq39
          clear hbq39
          (try rw [← Nbq39.out])
          by_cases c40 : bq39 = true
          ·subst c40
           have H1 : (scholialaw31_ExcerptWhole.j2 k2 a0 a2 x8_2 x9_2 x10_2 t350 (t350.length : Int) x44_2 (decide (x8_2 < 0)) a1_0 a1_1 l1_2 l1_3 ((rd_T33 t350 x44_2).f0) true) = some r := by rw [if_pos rfl] at H; exact H
           clear H
           have H := H1
           clear H1
           have H' := Aside0.mk H
           clear H
           have hnb41 := NB354_344.out
           have hnc41 := NB344_354.out
           have hcz42_0 : w36.cell? ⟨gb354, 0, none⟩ = some (.string (⟨#[]⟩ : ByteArray)) := (blk_cell BK354.out 0).trans rfl
           have hcz42_1 : w36.cell? ⟨gb354, 1, none⟩ = some (.bool false) := (blk_cell BK354.out 1).trans rfl
           have hfz42_0 := blk_frozen BK354.out 0
           have hfz42_1 := blk_frozen BK354.out 1
           go_wp2
           go_meet
           case rel => (try rw [← Nbq39.out]); exact ⟨_, (decide (x8_2 < 0)), rs_, H', ⟨by have := HJ4.out; have := HK2.out; first | omega | exact Nat.le_refl _⟩, ⟨by (with_reducible repeat (first | apply Kd.R_alloc | apply Kd.R_drewN | apply Kd.R_drew)); exact Kd.R_mono (Kd.R_far (p := ⟨gb354, 1, none⟩) (Kd.R_far (p := ⟨gb354, 0, none⟩) (Kd.R_mono HO_42.out (fun k_ hk => (⟨hk, hk.2⟩ : _ ∧ k_ ≠ gb354))) (fun _ hk => hk.2) (.string ((rd_T33 t350 x44_2).f0))) (fun _ hk => hk.2) (.bool (true))) (fun _ hk => hk.1.2)⟩, ⟨by (with_reducible repeat (first | refine blk_drewN ?_ _ | refine blk_drew ?_ | refine blk_alloc ?_ _)); refine blk_far ?_ NB344_354.out _; (with_reducible repeat (first | refine blk_drewN ?_ _ | refine blk_drew ?_ | refine blk_alloc ?_ _)); refine blk_far ?_ NB344_354.out _; (with_reducible repeat (first | refine blk_drewN ?_ _ | refine blk_drew ?_ | refine blk_alloc ?_ _)); exact BK344.out⟩, ⟨by (with_reducible repeat (first | refine blk_drewN ?_ _ | refine blk_drew ?_ | refine blk_alloc ?_ _)); refine blk_put (cs := #[.string ((rd_T33 t350 x44_2).f0), .bool false]) ?_ 1 _ rfl; (with_reducible repeat (first | refine blk_drewN ?_ _ | refine blk_drew ?_ | refine blk_alloc ?_ _)); refine blk_put (cs := #[.string (⟨#[]⟩ : ByteArray), .bool false]) ?_ 0 _ rfl; (with_reducible repeat (first | refine blk_drewN ?_ _ | refine blk_drew ?_ | refine blk_alloc ?_ _)); exact BK354.out⟩, ⟨bb2_ HB.out GE344.out GE354.out⟩⟩
          ·replace c40 := Bool.eq_false_iff.mpr c40
           subst c40
           have H1 : (scholialaw31_ExcerptWhole.j2 k2 a0 a2 x8_2 x9_2 x10_2 t350 (t350.length : Int) x44_2 false a1_0 a1_1 l1_2 l1_3 ((rd_T33 t350 x44_2).f0) false) = some r := by rw [if_neg (show ¬ (false = true) by decide)] at H; exact H
           clear H
           have H := H1
           clear H1
           have H' := Aside0.mk H
           clear H
           have hnb43 := NB354_344.out
           have hnc43 := NB344_354.out
           have hcz44_0 : w36.cell? ⟨gb354, 0, none⟩ = some (.string (⟨#[]⟩ : ByteArray)) := (blk_cell BK354.out 0).trans rfl
           have hcz44_1 : w36.cell? ⟨gb354, 1, none⟩ = some (.bool false) := (blk_cell BK354.out 1).trans rfl
           have hfz44_0 := blk_frozen BK354.out 0
           have hfz44_1 := blk_frozen BK354.out 1
           go_wp2
           go_meet
           case rel => (try rw [← Nbq39.out]); exact ⟨_, (false), rs_, H', ⟨by have := HJ4.out; have := HK2.out; first | omega | exact Nat.le_refl _⟩, ⟨by (with_reducible repeat (first | apply Kd.R_alloc | apply Kd.R_drewN | apply Kd.R_drew)); exact Kd.R_mono (Kd.R_far (p := ⟨gb354, 1, none⟩) (Kd.R_far (p := ⟨gb354, 0, none⟩) (Kd.R_mono HO_42.out (fun k_ hk => (⟨hk, hk.2⟩ : _ ∧ k_ ≠ gb354))) (fun _ hk => hk.2) (.string ((rd_T33 t350 x44_2).f0))) (fun _ hk => hk.2) (.bool (false))) (fun _ hk => hk.1.2)⟩, ⟨by (with_reducible repeat (first | refine blk_drewN ?_ _ | refine blk_drew ?_ | refine blk_alloc ?_ _)); refine blk_far ?_ NB344_354.out _; (with_reducible repeat (first | refine blk_drewN ?_ _ | refine blk_drew ?_ | refine blk_alloc ?_ _)); refine blk_far ?_ NB344_354.out _; (with_reducible repeat (first | refine blk_drewN ?_ _ | refine blk_drew ?_ | refine blk_alloc ?_ _)); exact BK344.out⟩, ⟨by (with_reducible repeat (first | refine blk_drewN ?_ _ | refine blk_drew ?_ | refine blk_alloc ?_ _)); refine blk_put (cs := #[.string ((rd_T33 t350 x44_2).f0), .bool false]) ?_ 1 _ rfl; (with_reducible repeat (first | refine blk_drewN ?_ _ | refine blk_drew ?_ | refine blk_alloc ?_ _)); refine blk_put (cs := #[.string (⟨#[]⟩ : ByteArray), .bool false]) ?_ 0 _ rfl; (with_reducible repeat (first | refine blk_drewN ?_ _ | refine blk_drew ?_ | refine blk_alloc ?_ _)); exact BK354.out⟩, ⟨bb2_ HB.out GE344.out GE354.out⟩⟩
         case rest =>
          clear HC35
          try clear c1
          try clear c2
          try clear p2
          try clear c3
          try clear p3
          try clear q3
          try clear hx3
          try clear c4
          try clear c7
          try clear c8
          try clear c8b0
          try clear c8b1
          try clear c10
          try clear c11
          try clear c11b0
          try clear c11b1
          try clear c14
          try clear c14b0
          try clear c18
          try clear c26
          try clear c32
          try clear c32b0
          try clear c33
          try clear c33b0
          try clear c34
          try clear c34b0
          try clear p35
          try clear q35
          try clear hx35
          try clear c37
          try clear q39
          try clear c40
          try clear c41
          try clear c43
          try clear hcz12_0
          try clear hcz12_1
          try clear hcz12_2
          try clear hcz12_3
          try clear hcz15_0
          try clear hcz15_1
          try clear hcz15_2
          try clear hcz15_3
          try clear hcz19_0
          try clear hcz19_1
          try clear hcz19_2
          try clear hcz19_3
          try clear hcz22_0
          try clear hcz22_1
          try clear hcz22_2
          try clear hcz22_3
          try clear hcz24_0
          try clear hcz24_1
          try clear hcz24_2
          try clear hcz24_3
          try clear hcz38_0
          try clear hcz38_1
          try clear hcz42_0
          try clear hcz42_1
          try clear hcz44_0
          try clear hcz44_1
          try clear hfz12_0
          try clear hfz12_1
          try clear hfz12_2
          try clear hfz12_3
          try clear hfz15_0
          try clear hfz15_1
          try clear hfz15_2
          try clear hfz15_3
          try clear hfz19_0
          try clear hfz19_1
          try clear hfz19_2
          try clear hfz19_3
          try clear hfz22_0
          try clear hfz22_1
          try clear hfz22_2
          try clear hfz22_3
          try clear hfz24_0
          try clear hfz24_1
          try clear hfz24_2
          try clear hfz24_3
          try clear hfz38_0
          try clear hfz38_1
          try clear hfz42_0
          try clear hfz42_1
          try clear hfz44_0
          try clear hfz44_1
          try clear hx353_0
          try clear hx353_1
          try clear p2
          try clear p353
          try clear q353
          obtain ⟨kq, x53_34, rfl, HA, HJ34, HO_42, BK344, BK354, HB⟩ := hcut
          cases kq with
          | zero => exact absurd HA.out (by simp [scholialaw31_ExcerptWhole.j2])
          | succ kj34 =>
           have H := HA.out
           clear HA
           simp only [scholialaw31_ExcerptWhole.j2] at H
           by_cases c45 : x53_34 = true
           ·subst c45
            have H1 : (if ((rd_T33 t350 x44_2).f1) = true then (scholialaw31_ExcerptWhole.l0 kj34 a0 a2 x10_2 (wrap64 (x10_2 + (((rd_T33 t350 x44_2).f0).size : Int))) (wrap64 (x10_2 + (((rd_T33 t350 x44_2).f0).size : Int))) t350 (t350.length : Int) (wrap64 (x44_2 + 1)) a1_0 a1_1 l1_2 l1_3) else (scholialaw31_ExcerptWhole.l0 kj34 a0 a2 x10_2 x9_2 (wrap64 (x10_2 + (((rd_T33 t350 x44_2).f0).size : Int))) t350 (t350.length : Int) (wrap64 (x44_2 + 1)) a1_0 a1_1 l1_2 l1_3)) = some r := by rw [if_pos rfl] at H; exact H
            clear H
            have H := H1
            clear H1
            by_cases c46 : ((rd_T33 t350 x44_2).f1) = true
            ·rw [if_pos c46] at H
             have c46b0 : ((rd_T33 t350 x44_2).f1) = true := c46
             clear c46
             have H' := Aside0.mk H
             clear H
             have hnb47 := NB354_344.out
             have hnc47 := NB344_354.out
             have hcz48_0 : wc.cell? ⟨gb354, 0, none⟩ = some (.string ((rd_T33 t350 x44_2).f0)) := (blk_cell BK354.out 0).trans rfl
             have hcz48_1 : wc.cell? ⟨gb354, 1, none⟩ = some (.bool ((rd_T33 t350 x44_2).f1)) := (blk_cell BK354.out 1).trans rfl
             have hfz48_0 := blk_frozen BK354.out 0
             have hfz48_1 := blk_frozen BK354.out 1
             go_wp2
             go_roundg kj34
             case measure => have := HJ4.out; have := HK2.out; have := HJ34.out; omega
             case rel => exact ⟨(x10_2), (wrap64 (x10_2 + (((rd_T33 t350 x44_2).f0).size : Int))), (wrap64 (x10_2 + (((rd_T33 t350 x44_2).f0).size : Int))), (wrap64 (x44_2 + 1)), rs_, rs_, rs_, rs_, H', ⟨by have := HJ4.out; have := HK2.out; have := HJ34.out; omega⟩, ⟨by (with_reducible repeat (first | apply Kd.R_alloc | apply Kd.R_drewN | apply Kd.R_drew)); exact Kd.R_mono HO_42.out (fun _ hk => trivial)⟩, ⟨bk_ BK344.out⟩, ⟨bb2_ HB.out GE344.out GE354.out⟩⟩
            ·rw [if_neg c46] at H
             have c46b0 : ((rd_T33 t350 x44_2).f1) = false := by simpa using c46
             clear c46
             have H' := Aside0.mk H
             clear H
             have hnb49 := NB354_344.out
             have hnc49 := NB344_354.out
             have hcz50_0 : wc.cell? ⟨gb354, 0, none⟩ = some (.string ((rd_T33 t350 x44_2).f0)) := (blk_cell BK354.out 0).trans rfl
             have hcz50_1 : wc.cell? ⟨gb354, 1, none⟩ = some (.bool ((rd_T33 t350 x44_2).f1)) := (blk_cell BK354.out 1).trans rfl
             have hfz50_0 := blk_frozen BK354.out 0
             have hfz50_1 := blk_frozen BK354.out 1
             go_wp2
             go_roundg kj34
             case measure => have := HJ4.out; have := HK2.out; have := HJ34.out; omega
             case rel => exact ⟨(x10_2), (x9_2), (wrap64 (x10_2 + (((rd_T33 t350 x44_2).f0).size : Int))), (wrap64 (x44_2 + 1)), rs_, rs_, rs_, rs_, H', ⟨by have := HJ4.out; have := HK2.out; have := HJ34.out; omega⟩, ⟨by (with_reducible repeat (first | apply Kd.R_alloc | apply Kd.R_drewN | apply Kd.R_drew)); exact Kd.R_mono HO_42.out (fun _ hk => trivial)⟩, ⟨bk_ BK344.out⟩, ⟨bb2_ HB.out GE344.out GE354.out⟩⟩
           ·replace c45 := Bool.eq_false_iff.mpr c45
            subst c45
            have H1 : (if ((rd_T33 t350 x44_2).f1) = true then (scholialaw31_ExcerptWhole.l0 kj34 a0 a2 x8_2 (wrap64 (x10_2 + (((rd_T33 t350 x44_2).f0).size : Int))) (wrap64 (x10_2 + (((rd_T33 t350 x44_2).f0).size : Int))) t350 (t350.length : Int) (wrap64 (x44_2 + 1)) a1_0 a1_1 l1_2 l1_3) else (scholialaw31_ExcerptWhole.l0 kj34 a0 a2 x8_2 x9_2 (wrap64 (x10_2 + (((rd_T33 t350 x44_2).f0).size : Int))) t350 (t350.length : Int) (wrap64 (x44_2 + 1)) a1_0 a1_1 l1_2 l1_3)) = some r := by rw [if_neg (show ¬ (false = true) by decide)] at H; exact H
            clear H
            have H := H1
            clear H1
            by_cases c51 : ((rd_T33 t350 x44_2).f1) = true
            ·rw [if_pos c51] at H
             have c51b0 : ((rd_T33 t350 x44_2).f1) = true := c51
             clear c51
             have H' := Aside0.mk H
             clear H
             have hnb52 := NB354_344.out
             have hnc52 := NB344_354.out
             have hcz53_0 : wc.cell? ⟨gb354, 0, none⟩ = some (.string ((rd_T33 t350 x44_2).f0)) := (blk_cell BK354.out 0).trans rfl
             have hcz53_1 : wc.cell? ⟨gb354, 1, none⟩ = some (.bool ((rd_T33 t350 x44_2).f1)) := (blk_cell BK354.out 1).trans rfl
             have hfz53_0 := blk_frozen BK354.out 0
             have hfz53_1 := blk_frozen BK354.out 1
             go_wp2
             go_roundg kj34
             case measure => have := HJ4.out; have := HK2.out; have := HJ34.out; omega
             case rel => exact ⟨(x8_2), (wrap64 (x10_2 + (((rd_T33 t350 x44_2).f0).size : Int))), (wrap64 (x10_2 + (((rd_T33 t350 x44_2).f0).size : Int))), (wrap64 (x44_2 + 1)), rs_, rs_, rs_, rs_, H', ⟨by have := HJ4.out; have := HK2.out; have := HJ34.out; omega⟩, ⟨by (with_reducible repeat (first | apply Kd.R_alloc | apply Kd.R_drewN | apply Kd.R_drew)); exact Kd.R_mono HO_42.out (fun _ hk => trivial)⟩, ⟨bk_ BK344.out⟩, ⟨bb2_ HB.out GE344.out GE354.out⟩⟩
            ·rw [if_neg c51] at H
             have c51b0 : ((rd_T33 t350 x44_2).f1) = false := by simpa using c51
             clear c51
             have H' := Aside0.mk H
             clear H
             have hnb54 := NB354_344.out
             have hnc54 := NB344_354.out
             have hcz55_0 : wc.cell? ⟨gb354, 0, none⟩ = some (.string ((rd_T33 t350 x44_2).f0)) := (blk_cell BK354.out 0).trans rfl
             have hcz55_1 : wc.cell? ⟨gb354, 1, none⟩ = some (.bool ((rd_T33 t350 x44_2).f1)) := (blk_cell BK354.out 1).trans rfl
             have hfz55_0 := blk_frozen BK354.out 0
             have hfz55_1 := blk_frozen BK354.out 1
             go_wp2
             go_roundg kj34
             case measure => have := HJ4.out; have := HK2.out; have := HJ34.out; omega
             case rel => exact ⟨(x8_2), (x9_2), (wrap64 (x10_2 + (((rd_T33 t350 x44_2).f0).size : Int))), (wrap64 (x44_2 + 1)), rs_, rs_, rs_, rs_, H', ⟨by have := HJ4.out; have := HK2.out; have := HJ34.out; omega⟩, ⟨by (with_reducible repeat (first | apply Kd.R_alloc | apply Kd.R_drewN | apply Kd.R_drew)); exact Kd.R_mono HO_42.out (fun _ hk => trivial)⟩, ⟨bk_ BK344.out⟩, ⟨bb2_ HB.out GE344.out GE354.out⟩⟩
        ·rw [if_neg c34] at H
         exact absurd H (by simp)
       ·rw [if_neg c33] at H
        exact absurd H (by simp)
      ·rw [if_neg c32] at H
       have c32b0 : decide (x44_2 < (t350.length : Int)) = false := decide_eq_false c32
       clear c32
       replace H := Option.bind_eq_some_iff.mp H
       obtain ⟨t355, A560, H⟩ := H
       replace H : ((strings_ReplaceAll.f t355 (⟨#[91]⟩ : ByteArray) (⟨#[]⟩ : ByteArray)).bind fun t356 => ((strings_ReplaceAll.f t356 (⟨#[93]⟩ : ByteArray) (⟨#[]⟩ : ByteArray)).bind fun t357 => (if 0 ≤ x8_2 then (if x8_2 ≤ x9_2 then (if x9_2 ≤ (a0.size : Int) then (if t357.toList = (a0.extract (x8_2 : Int).toNat (x9_2 : Int).toNat).toList then ((scholialaw31_awake.f k2).bind fun t358 => (some t358)) else (some false)) else (none)) else (none)) else (none)))) = some r := H
       have A56 := Aside0.mk A560
       clear A560
       replace H := Option.bind_eq_some_iff.mp H
       obtain ⟨t356, A570, H⟩ := H
       replace H : ((strings_ReplaceAll.f t356 (⟨#[93]⟩ : ByteArray) (⟨#[]⟩ : ByteArray)).bind fun t357 => (if 0 ≤ x8_2 then (if x8_2 ≤ x9_2 then (if x9_2 ≤ (a0.size : Int) then (if t357.toList = (a0.extract (x8_2 : Int).toNat (x9_2 : Int).toNat).toList then ((scholialaw31_awake.f k2).bind fun t358 => (some t358)) else (some false)) else (none)) else (none)) else (none))) = some r := H
       have A57 := Aside0.mk A570
       clear A570
       replace H := Option.bind_eq_some_iff.mp H
       obtain ⟨t357, A580, H⟩ := H
       replace H : (if 0 ≤ x8_2 then (if x8_2 ≤ x9_2 then (if x9_2 ≤ (a0.size : Int) then (if t357.toList = (a0.extract (x8_2 : Int).toNat (x9_2 : Int).toNat).toList then ((scholialaw31_awake.f k2).bind fun t358 => (some t358)) else (some false)) else (none)) else (none)) else (none)) = some r := H
       have A58 := Aside0.mk A580
       clear A580
       by_cases c59 : 0 ≤ x8_2
       ·rw [if_pos c59] at H
        have c59b0 := eq_true c59
        have c59b1 : decide (0 ≤ x8_2) = true := decide_eq_true c59
        clear c59
        by_cases c60 : x8_2 ≤ x9_2
        ·rw [if_pos c60] at H
         have c60b0 := eq_true c60
         have c60b1 : decide (x8_2 ≤ x9_2) = true := decide_eq_true c60
         clear c60
         by_cases c61 : x9_2 ≤ (a0.size : Int)
         ·rw [if_pos c61] at H
          have c61b0 := eq_true c61
          have c61b1 : decide (x9_2 ≤ (a0.size : Int)) = true := decide_eq_true c61
          clear c61
          by_cases c62 : t357.toList = (a0.extract (x8_2 : Int).toNat (x9_2 : Int).toNat).toList
          ·rw [if_pos c62] at H
           have c62b0 : (t357.toList == (a0.extract (x8_2 : Int).toNat (x9_2 : Int).toNat).toList) = true := beq_iff_eq.mpr c62
           have c62b1 : (t357.toList != (a0.extract (x8_2 : Int).toNat (x9_2 : Int).toNat).toList) = false := bne_eq_false_iff_eq.mpr c62
           clear c62
           replace H := Option.bind_eq_some_iff.mp H
           obtain ⟨t358, A630, H⟩ := H
           replace H : (some t358) = some r := H
           have A63 := Aside0.mk A630
           clear A630
           obtain rfl := Option.some.inj H
           have hcz64_0 : wr.cell? ⟨gb344, 0, none⟩ = some (.int .i64 a1_0) := (blk_cell BK344.out 0).trans rfl
           have hcz64_1 : wr.cell? ⟨gb344, 1, none⟩ = some (.int .i64 a1_1) := (blk_cell BK344.out 1).trans rfl
           have hcz64_2 : wr.cell? ⟨gb344, 2, none⟩ = some (.slice A1_2 l1_2.length c1_2) := (blk_cell BK344.out 2).trans rfl
           have hcz64_3 : wr.cell? ⟨gb344, 3, none⟩ = some (.slice A1_3 l1_3.length c1_3) := (blk_cell BK344.out 3).trans rfl
           have hfz64_0 := blk_frozen BK344.out 0
           have hfz64_1 := blk_frozen BK344.out 1
           have hfz64_2 := blk_frozen BK344.out 2
           have hfz64_3 := blk_frozen BK344.out 3
           go_wp2_with (first | ((with_reducible refine gate_callee (f := 9) rfl ?_); refine goesL_ (some 67) rfl rfl Tryz.func9 (by kernel_rfl) rfl #[.string a0, .agg #[.int .i64 a1_0, .int .i64 a1_1, .slice A1_2 l1_2.length c1_2, .slice A1_3 l1_3.length c1_3], .int .i64 a2, .int .i64 20] rfl ar_ ?_; (with_reducible refine (excerpt_Excerpt.calls k2 a0 a1_0 a1_1 _ _ l1_2 _ _ l1_3 a2 20 t355 _ (by first | exact hG | exact GL.drewN hG _ | exact GL.below hG (bb1_ HB.out GE344.out)) ?side1 ?side2 ?side3 ?side4 A56.out).mono ?_); (case side1 => repeat (first | exact (Kd.C_below HR1_2.out HB.out) | (with_reducible refine Kd.C_alloc ?_ _) | (with_reducible refine Kd.C_drewN ?_ _) | (with_reducible refine Kd.C_drew ?_))); (case side2 => exact HC1_2.out); (case side3 => repeat (first | exact (Kd.C_below HR1_3.out HB.out) | (with_reducible refine Kd.C_alloc ?_ _) | (with_reducible refine Kd.C_drewN ?_ _) | (with_reducible refine Kd.C_drew ?_))); (case side4 => exact HC1_3.out); rintro e w65 ⟨rfl, hb⟩; refine ⟨_, rfl, ?_⟩; have n0_ := Aside0.mk (Kd.R_below (kr_ HO_42.out) hb); have n1_ := Aside0.mk (blk_below (g := gb344) (o := .cells #[.int .i64 a1_0, .int .i64 a1_1, .slice A1_2 l1_2.length c1_2, .slice A1_3 l1_3.length c1_3] 25 (0, 0)) (bk_ BK344.out) hb); have n2_ := Aside0.mk (below_step (bb1_ HB.out GE344.out) hb); clear HO_42; clear BK344; clear HB; have HO_42 := n0_; have BK344 := n1_; have HB := n2_; clear n0_ n1_ n2_; (try clear hb); (try clear hb2); (try clear hk); (try clear hi)) | ((with_reducible refine gate_callee (f := 10) rfl ?_); refine goesL_ (some 69) rfl rfl Tryz.func10 (by kernel_rfl) rfl #[.string t355, .string (⟨#[91]⟩ : ByteArray), .string (⟨#[]⟩ : ByteArray)] rfl ar_ ?_; (with_reducible refine (strings_ReplaceAll.calls t355 (⟨#[91]⟩ : ByteArray) (⟨#[]⟩ : ByteArray) t356 _ (by first | exact hG | exact GL.drewN hG _ | exact GL.below hG (bb1_ HB.out GE344.out)) A57.out).mono ?_); rintro e w66 ⟨rfl, hb⟩; refine ⟨_, rfl, ?_⟩; have n0_ := Aside0.mk (Kd.R_below (kr_ HO_42.out) hb); have n1_ := Aside0.mk (blk_below (g := gb344) (o := .cells #[.int .i64 a1_0, .int .i64 a1_1, .slice A1_2 l1_2.length c1_2, .slice A1_3 l1_3.length c1_3] 25 (0, 0)) (bk_ BK344.out) hb); have n2_ := Aside0.mk (below_step (bb1_ HB.out GE344.out) hb); clear HO_42; clear BK344; clear HB; have HO_42 := n0_; have BK344 := n1_; have HB := n2_; clear n0_ n1_ n2_; (try clear hb); (try clear hb2); (try clear hk); (try clear hi)) | ((with_reducible refine gate_callee (f := 10) rfl ?_); refine goesL_ (some 70) rfl rfl Tryz.func10 (by kernel_rfl) rfl #[.string t356, .string (⟨#[93]⟩ : ByteArray), .string (⟨#[]⟩ : ByteArray)] rfl ar_ ?_; (with_reducible refine (strings_ReplaceAll.calls t356 (⟨#[93]⟩ : ByteArray) (⟨#[]⟩ : ByteArray) t357 _ (by first | exact hG | exact GL.drewN hG _ | exact GL.below hG (bb1_ HB.out GE344.out)) A58.out).mono ?_); rintro e w67 ⟨rfl, hb⟩; refine ⟨_, rfl, ?_⟩; have n0_ := Aside0.mk (Kd.R_below (kr_ HO_42.out) hb); have n1_ := Aside0.mk (blk_below (g := gb344) (o := .cells #[.int .i64 a1_0, .int .i64 a1_1, .slice A1_2 l1_2.length c1_2, .slice A1_3 l1_3.length c1_3] 25 (0, 0)) (bk_ BK344.out) hb); have n2_ := Aside0.mk (below_step (bb1_ HB.out GE344.out) hb); clear HO_42; clear BK344; clear HB; have HO_42 := n0_; have BK344 := n1_; have HB := n2_; clear n0_ n1_ n2_; (try clear hb); (try clear hb2); (try clear hk); (try clear hi)) | (go_at_call 7; (with_reducible refine (scholialaw31_awake.calls k2  t358 _ (by first | exact hG | exact GL.drewN hG _ | exact GL.below hG (bb1_ HB.out GE344.out)) A63.out).mono ?_); rintro e w68 ⟨rfl, hb⟩; have n0_ := Aside0.mk (Kd.R_below (kr_ HO_42.out) hb); have n1_ := Aside0.mk (blk_below (g := gb344) (o := .cells #[.int .i64 a1_0, .int .i64 a1_1, .slice A1_2 l1_2.length c1_2, .slice A1_3 l1_3.length c1_3] 25 (0, 0)) (bk_ BK344.out) hb); have n2_ := Aside0.mk (below_step (bb1_ HB.out GE344.out) hb); clear HO_42; clear BK344; clear HB; have HO_42 := n0_; have BK344 := n1_; have HB := n2_; clear n0_ n1_ n2_; (try clear hb); (try clear hb2); (try clear hk); (try clear hi)))
           go_ret
           exact ⟨by first | rfl | (simp [errW_none, errW_some] <;> rfl) | (simp [*, errW_none, errW_some] <;> rfl), by repeat (first | (with_reducible first | exact HB.out | apply below_alloc | apply pw_below_drewN | apply below_drew1 | refine below_set ?_ GE344.out) | exact HB.out)⟩
          ·rw [if_neg c62] at H
           have c62b0 : (t357.toList == (a0.extract (x8_2 : Int).toNat (x9_2 : Int).toNat).toList) = false := beq_eq_false_iff_ne.mpr c62
           have c62b1 : (t357.toList != (a0.extract (x8_2 : Int).toNat (x9_2 : Int).toNat).toList) = true := bne_iff_ne.mpr c62
           obtain rfl := Option.some.inj H
           have hcz69_0 : wr.cell? ⟨gb344, 0, none⟩ = some (.int .i64 a1_0) := (blk_cell BK344.out 0).trans rfl
           have hcz69_1 : wr.cell? ⟨gb344, 1, none⟩ = some (.int .i64 a1_1) := (blk_cell BK344.out 1).trans rfl
           have hcz69_2 : wr.cell? ⟨gb344, 2, none⟩ = some (.slice A1_2 l1_2.length c1_2) := (blk_cell BK344.out 2).trans rfl
           have hcz69_3 : wr.cell? ⟨gb344, 3, none⟩ = some (.slice A1_3 l1_3.length c1_3) := (blk_cell BK344.out 3).trans rfl
           have hfz69_0 := blk_frozen BK344.out 0
           have hfz69_1 := blk_frozen BK344.out 1
           have hfz69_2 := blk_frozen BK344.out 2
           have hfz69_3 := blk_frozen BK344.out 3
           go_wp2_with (first | ((with_reducible refine gate_callee (f := 9) rfl ?_); refine goesL_ (some 67) rfl rfl Tryz.func9 (by kernel_rfl) rfl #[.string a0, .agg #[.int .i64 a1_0, .int .i64 a1_1, .slice A1_2 l1_2.length c1_2, .slice A1_3 l1_3.length c1_3], .int .i64 a2, .int .i64 20] rfl ar_ ?_; (with_reducible refine (excerpt_Excerpt.calls k2 a0 a1_0 a1_1 _ _ l1_2 _ _ l1_3 a2 20 t355 _ (by first | exact hG | exact GL.drewN hG _ | exact GL.below hG (bb1_ HB.out GE344.out)) ?side1 ?side2 ?side3 ?side4 A56.out).mono ?_); (case side1 => repeat (first | exact (Kd.C_below HR1_2.out HB.out) | (with_reducible refine Kd.C_alloc ?_ _) | (with_reducible refine Kd.C_drewN ?_ _) | (with_reducible refine Kd.C_drew ?_))); (case side2 => exact HC1_2.out); (case side3 => repeat (first | exact (Kd.C_below HR1_3.out HB.out) | (with_reducible refine Kd.C_alloc ?_ _) | (with_reducible refine Kd.C_drewN ?_ _) | (with_reducible refine Kd.C_drew ?_))); (case side4 => exact HC1_3.out); rintro e w70 ⟨rfl, hb⟩; refine ⟨_, rfl, ?_⟩; have n0_ := Aside0.mk (Kd.R_below (kr_ HO_42.out) hb); have n1_ := Aside0.mk (blk_below (g := gb344) (o := .cells #[.int .i64 a1_0, .int .i64 a1_1, .slice A1_2 l1_2.length c1_2, .slice A1_3 l1_3.length c1_3] 25 (0, 0)) (bk_ BK344.out) hb); have n2_ := Aside0.mk (below_step (bb1_ HB.out GE344.out) hb); clear HO_42; clear BK344; clear HB; have HO_42 := n0_; have BK344 := n1_; have HB := n2_; clear n0_ n1_ n2_; (try clear hb); (try clear hb2); (try clear hk); (try clear hi)) | ((with_reducible refine gate_callee (f := 10) rfl ?_); refine goesL_ (some 69) rfl rfl Tryz.func10 (by kernel_rfl) rfl #[.string t355, .string (⟨#[91]⟩ : ByteArray), .string (⟨#[]⟩ : ByteArray)] rfl ar_ ?_; (with_reducible refine (strings_ReplaceAll.calls t355 (⟨#[91]⟩ : ByteArray) (⟨#[]⟩ : ByteArray) t356 _ (by first | exact hG | exact GL.drewN hG _ | exact GL.below hG (bb1_ HB.out GE344.out)) A57.out).mono ?_); rintro e w71 ⟨rfl, hb⟩; refine ⟨_, rfl, ?_⟩; have n0_ := Aside0.mk (Kd.R_below (kr_ HO_42.out) hb); have n1_ := Aside0.mk (blk_below (g := gb344) (o := .cells #[.int .i64 a1_0, .int .i64 a1_1, .slice A1_2 l1_2.length c1_2, .slice A1_3 l1_3.length c1_3] 25 (0, 0)) (bk_ BK344.out) hb); have n2_ := Aside0.mk (below_step (bb1_ HB.out GE344.out) hb); clear HO_42; clear BK344; clear HB; have HO_42 := n0_; have BK344 := n1_; have HB := n2_; clear n0_ n1_ n2_; (try clear hb); (try clear hb2); (try clear hk); (try clear hi)) | ((with_reducible refine gate_callee (f := 10) rfl ?_); refine goesL_ (some 70) rfl rfl Tryz.func10 (by kernel_rfl) rfl #[.string t356, .string (⟨#[93]⟩ : ByteArray), .string (⟨#[]⟩ : ByteArray)] rfl ar_ ?_; (with_reducible refine (strings_ReplaceAll.calls t356 (⟨#[93]⟩ : ByteArray) (⟨#[]⟩ : ByteArray) t357 _ (by first | exact hG | exact GL.drewN hG _ | exact GL.below hG (bb1_ HB.out GE344.out)) A58.out).mono ?_); rintro e w72 ⟨rfl, hb⟩; refine ⟨_, rfl, ?_⟩; have n0_ := Aside0.mk (Kd.R_below (kr_ HO_42.out) hb); have n1_ := Aside0.mk (blk_below (g := gb344) (o := .cells #[.int .i64 a1_0, .int .i64 a1_1, .slice A1_2 l1_2.length c1_2, .slice A1_3 l1_3.length c1_3] 25 (0, 0)) (bk_ BK344.out) hb); have n2_ := Aside0.mk (below_step (bb1_ HB.out GE344.out) hb); clear HO_42; clear BK344; clear HB; have HO_42 := n0_; have BK344 := n1_; have HB := n2_; clear n0_ n1_ n2_; (try clear hb); (try clear hb2); (try clear hk); (try clear hi)))
           go_ret
           exact ⟨by first | rfl | (simp [errW_none, errW_some] <;> rfl) | (simp [*, errW_none, errW_some] <;> rfl), by repeat (first | (with_reducible first | exact HB.out | apply below_alloc | apply pw_below_drewN | apply below_drew1 | refine below_set ?_ GE344.out) | exact HB.out)⟩
         ·rw [if_neg c61] at H
          exact absurd H (by simp)
        ·rw [if_neg c60] at H
         exact absurd H (by simp)
       ·rw [if_neg c59] at H
        exact absurd H (by simp)
end Go.Proofs.YtcgkmomhjincgaaGreatDoor.LibX
