import Derived.Test.YtcgkmomhjincgaaDoorTLibQ0
namespace Go.Proofs.YtcgkmomhjincgaaDoor.LibQ
open Go.RowKit Go.Proofs.YtcgkmomhjincgaaDoorW.PrintWords Go.Proofs.YtcgkmomhjincgaaDoorW.PrintLast Go.Proofs.YtcgkmomhjincgaaDoorW.PrintMore
attribute [local go_sem] max2_int min2_int max_two min_two max_three min_three max_four min_four   -- for this text's walks alone
set_option linter.unusedVariables false
set_option linter.unusedSimpArgs false
mutual
def scholiaref29_Same.j0 : Nat → Bool → Int → Int → Int → Int → Int → Int → ByteArray → Int → ByteArray → List Int → Int → Int → Int → Int → Int → Int → ByteArray → Int → ByteArray → List Int → Option (Bool)
 | 0, _, _, _, _, _, _, _, _, _, _, _, _, _, _, _, _, _, _, _, _, _ => none
 | k + 1, x76, x308000, x308001, x308002, x308003, x308004, x308005, x308006, x308007, x308008, x308009, x309000, x309001, x309002, x309003, x309004, x309005, x309006, x309007, x309008, x309009 => if x76 = true then (some false) else (scholiaref29_Same.l0 k x308009 (x308009.length : Int) 0 x309000 x309001 x309002 x309003 x309004 x309005 x309006 x309007 x309008 x309009)
def scholiaref29_Same.l0 : Nat → List Int → Int → Int → Int → Int → Int → Int → Int → Int → ByteArray → Int → ByteArray → List Int → Option (Bool)
 | 0, _, _, _, _, _, _, _, _, _, _, _, _, _ => none
 | k + 1, x78, x79, x80, x309000, x309001, x309002, x309003, x309004, x309005, x309006, x309007, x309008, x309009 => if x80 < x79 then (if 0 ≤ x80 then (if x80 < (x78.length : Int) then (if x80 < (x309009.length : Int) then (if (rd x309009 x80) = (rd x78 x80) then (scholiaref29_Same.l0 k x78 x79 (wrap64 (x80 + 1)) x309000 x309001 x309002 x309003 x309004 x309005 x309006 x309007 x309008 x309009) else (some false)) else (none)) else (none)) else (none)) else (some true)
end
def scholiaref29_Same.f (k : Nat) (a0_0 : Int) (a0_1 : Int) (a0_2 : Int) (a0_3 : Int) (a0_4 : Int) (a0_5 : Int) (a0_6 : ByteArray) (a0_7 : Int) (a0_8 : ByteArray) (l0_9 : List Int) (a1_0 : Int) (a1_1 : Int) (a1_2 : Int) (a1_3 : Int) (a1_4 : Int) (a1_5 : Int) (a1_6 : ByteArray) (a1_7 : Int) (a1_8 : ByteArray) (l1_9 : List Int) : Option (Bool) := if a0_0 = a1_0 then (if a0_1 = a1_1 then (if a0_2 = a1_2 then (if a0_3 = a1_3 then (if a0_4 = a1_4 then (if a0_5 = a1_5 then (if a0_6.toList = a1_6.toList then (if a0_7 = a1_7 then (if a0_8.toList = a1_8.toList then (scholiaref29_Same.j0 k ((l0_9.length : Int) != (l1_9.length : Int)) a0_0 a0_1 a0_2 a0_3 a0_4 a0_5 a0_6 a0_7 a0_8 l0_9 a1_0 a1_1 a1_2 a1_3 a1_4 a1_5 a1_6 a1_7 a1_8 l1_9) else (scholiaref29_Same.j0 k true a0_0 a0_1 a0_2 a0_3 a0_4 a0_5 a0_6 a0_7 a0_8 l0_9 a1_0 a1_1 a1_2 a1_3 a1_4 a1_5 a1_6 a1_7 a1_8 l1_9)) else (scholiaref29_Same.j0 k true a0_0 a0_1 a0_2 a0_3 a0_4 a0_5 a0_6 a0_7 a0_8 l0_9 a1_0 a1_1 a1_2 a1_3 a1_4 a1_5 a1_6 a1_7 a1_8 l1_9)) else (scholiaref29_Same.j0 k true a0_0 a0_1 a0_2 a0_3 a0_4 a0_5 a0_6 a0_7 a0_8 l0_9 a1_0 a1_1 a1_2 a1_3 a1_4 a1_5 a1_6 a1_7 a1_8 l1_9)) else (scholiaref29_Same.j0 k true a0_0 a0_1 a0_2 a0_3 a0_4 a0_5 a0_6 a0_7 a0_8 l0_9 a1_0 a1_1 a1_2 a1_3 a1_4 a1_5 a1_6 a1_7 a1_8 l1_9)) else (scholiaref29_Same.j0 k true a0_0 a0_1 a0_2 a0_3 a0_4 a0_5 a0_6 a0_7 a0_8 l0_9 a1_0 a1_1 a1_2 a1_3 a1_4 a1_5 a1_6 a1_7 a1_8 l1_9)) else (scholiaref29_Same.j0 k true a0_0 a0_1 a0_2 a0_3 a0_4 a0_5 a0_6 a0_7 a0_8 l0_9 a1_0 a1_1 a1_2 a1_3 a1_4 a1_5 a1_6 a1_7 a1_8 l1_9)) else (scholiaref29_Same.j0 k true a0_0 a0_1 a0_2 a0_3 a0_4 a0_5 a0_6 a0_7 a0_8 l0_9 a1_0 a1_1 a1_2 a1_3 a1_4 a1_5 a1_6 a1_7 a1_8 l1_9)) else (scholiaref29_Same.j0 k true a0_0 a0_1 a0_2 a0_3 a0_4 a0_5 a0_6 a0_7 a0_8 l0_9 a1_0 a1_1 a1_2 a1_3 a1_4 a1_5 a1_6 a1_7 a1_8 l1_9)) else (scholiaref29_Same.j0 k true a0_0 a0_1 a0_2 a0_3 a0_4 a0_5 a0_6 a0_7 a0_8 l0_9 a1_0 a1_1 a1_2 a1_3 a1_4 a1_5 a1_6 a1_7 a1_8 l1_9)
set_option maxHeartbeats 8000000 in
set_option maxRecDepth 100000 in
theorem scholiaref29_Same.calls (k : Nat) (a0_0 : Int) (a0_1 : Int) (a0_2 : Int) (a0_3 : Int) (a0_4 : Int) (a0_5 : Int) (a0_6 : ByteArray) (a0_7 : Int) (a0_8 : ByteArray) (A0_9 : Option Addr) (c0_9 : Nat) (l0_9 : List Int) (a1_0 : Int) (a1_1 : Int) (a1_2 : Int) (a1_3 : Int) (a1_4 : Int) (a1_5 : Int) (a1_6 : ByteArray) (a1_7 : Int) (a1_8 : ByteArray) (A1_9 : Option Addr) (c1_9 : Nat) (l1_9 : List Int) (r : Bool) (w : World) (hr0_9 : Kd.C (Kd.int .i64) w A0_9 l0_9.length l0_9) (hc0_9 : l0_9.length ≤ c0_9) (hr1_9 : Kd.C (Kd.int .i64) w A1_9 l1_9.length l1_9) (hc1_9 : l1_9.length ≤ c1_9) (h : scholiaref29_Same.f k a0_0 a0_1 a0_2 a0_3 a0_4 a0_5 a0_6 a0_7 a0_8 l0_9 a1_0 a1_1 a1_2 a1_3 a1_4 a1_5 a1_6 a1_7 a1_8 l1_9 = some r) :
  Calls Tryd.prog 29 #[.agg #[.int .i64 a0_0, .int .i64 a0_1, .int .i64 a0_2, .int .i64 a0_3, .int .i64 a0_4, .int .i64 a0_5, .string a0_6, .int .i64 a0_7, .string a0_8, .slice A0_9 l0_9.length c0_9], .agg #[.int .i64 a1_0, .int .i64 a1_1, .int .i64 a1_2, .int .i64 a1_3, .int .i64 a1_4, .int .i64 a1_5, .string a1_6, .int .i64 a1_7, .string a1_8, .slice A1_9 l1_9.length c1_9]] w fun e w' => e = .returned (.bool r) ∧ Below w.heap.size w w' := by
 have hu42 := Tryd.underlying42
 have HR0_9 := Aside0.mk hr0_9
 have HC0_9 := Aside0.mk hc0_9
 clear hr0_9 hc0_9
 have HR1_9 := Aside0.mk hr1_9
 have HC1_9 := Aside0.mk hc1_9
 clear hr1_9 hc1_9
 have HB := Aside0.mk (Below.refl w.heap.size w)
 have H : (if a0_0 = a1_0 then (if a0_1 = a1_1 then (if a0_2 = a1_2 then (if a0_3 = a1_3 then (if a0_4 = a1_4 then (if a0_5 = a1_5 then (if a0_6.toList = a1_6.toList then (if a0_7 = a1_7 then (if a0_8.toList = a1_8.toList then (scholiaref29_Same.j0 k ((l0_9.length : Int) != (l1_9.length : Int)) a0_0 a0_1 a0_2 a0_3 a0_4 a0_5 a0_6 a0_7 a0_8 l0_9 a1_0 a1_1 a1_2 a1_3 a1_4 a1_5 a1_6 a1_7 a1_8 l1_9) else (scholiaref29_Same.j0 k true a0_0 a0_1 a0_2 a0_3 a0_4 a0_5 a0_6 a0_7 a0_8 l0_9 a1_0 a1_1 a1_2 a1_3 a1_4 a1_5 a1_6 a1_7 a1_8 l1_9)) else (scholiaref29_Same.j0 k true a0_0 a0_1 a0_2 a0_3 a0_4 a0_5 a0_6 a0_7 a0_8 l0_9 a1_0 a1_1 a1_2 a1_3 a1_4 a1_5 a1_6 a1_7 a1_8 l1_9)) else (scholiaref29_Same.j0 k true a0_0 a0_1 a0_2 a0_3 a0_4 a0_5 a0_6 a0_7 a0_8 l0_9 a1_0 a1_1 a1_2 a1_3 a1_4 a1_5 a1_6 a1_7 a1_8 l1_9)) else (scholiaref29_Same.j0 k true a0_0 a0_1 a0_2 a0_3 a0_4 a0_5 a0_6 a0_7 a0_8 l0_9 a1_0 a1_1 a1_2 a1_3 a1_4 a1_5 a1_6 a1_7 a1_8 l1_9)) else (scholiaref29_Same.j0 k true a0_0 a0_1 a0_2 a0_3 a0_4 a0_5 a0_6 a0_7 a0_8 l0_9 a1_0 a1_1 a1_2 a1_3 a1_4 a1_5 a1_6 a1_7 a1_8 l1_9)) else (scholiaref29_Same.j0 k true a0_0 a0_1 a0_2 a0_3 a0_4 a0_5 a0_6 a0_7 a0_8 l0_9 a1_0 a1_1 a1_2 a1_3 a1_4 a1_5 a1_6 a1_7 a1_8 l1_9)) else (scholiaref29_Same.j0 k true a0_0 a0_1 a0_2 a0_3 a0_4 a0_5 a0_6 a0_7 a0_8 l0_9 a1_0 a1_1 a1_2 a1_3 a1_4 a1_5 a1_6 a1_7 a1_8 l1_9)) else (scholiaref29_Same.j0 k true a0_0 a0_1 a0_2 a0_3 a0_4 a0_5 a0_6 a0_7 a0_8 l0_9 a1_0 a1_1 a1_2 a1_3 a1_4 a1_5 a1_6 a1_7 a1_8 l1_9)) else (scholiaref29_Same.j0 k true a0_0 a0_1 a0_2 a0_3 a0_4 a0_5 a0_6 a0_7 a0_8 l0_9 a1_0 a1_1 a1_2 a1_3 a1_4 a1_5 a1_6 a1_7 a1_8 l1_9)) = some r := h
 clear h
 have HC3 := Aside0.mk H
 clear H
 go_enter Tryd.func29, Tryd.ntmps29
 go_upto_region 1 with (first | ((with_reducible refine gate_dst (N := 2) rfl ?_); (try (refine gate_guard (by rfl) ?_; dsimp only)); refine box_event ?hg (N := 2) ?hd (cs := #[.int .i64 a0_0, .int .i64 a0_1, .int .i64 a0_2, .int .i64 a0_3, .int .i64 a0_4, .int .i64 a0_5, .string a0_6, .int .i64 a0_7, .string a0_8, .slice A0_9 l0_9.length c0_9]) (t := 42) ?hr ?_; (case hd => rfl); (case hg => rfl); (case hr => first | (go_simp; done) | (go_simp; rfl)); intro gb307 hg w4 hbox hb; have n0_ := Aside0.mk (below_step (bb_ HB.out) hb); have n1_ := Aside0.mk (hbox); have n2_ := Aside0.mk ((by rw [hg]; exact (below_size (bb_ HB.out)) : w.heap.size ≤ gb307)); have n3_ := Aside0.mk ((by rw [hg]; exact (below_size (bb_ HB.out)) : w.heap.size ≤ gb307)); clear HB; have HB := n0_; have BK307 := n1_; have GW307 := n2_; have GE307 := n3_; clear n0_ n1_ n2_ n3_; clear hb hbox hg) | ((with_reducible refine gate_dst (N := 3) rfl ?_); (try (refine gate_guard (by rfl) ?_; dsimp only)); refine box_event ?hg (N := 3) ?hd (cs := #[.int .i64 a1_0, .int .i64 a1_1, .int .i64 a1_2, .int .i64 a1_3, .int .i64 a1_4, .int .i64 a1_5, .string a1_6, .int .i64 a1_7, .string a1_8, .slice A1_9 l1_9.length c1_9]) (t := 42) ?hr ?_; (case hd => rfl); (case hg => rfl); (case hr => first | (go_simp; done) | (go_simp; rfl)); intro gb308 hg w5 hbox hb; have n0_ := Aside0.mk (blk_below (g := gb307) (o := .cells #[.int .i64 a0_0, .int .i64 a0_1, .int .i64 a0_2, .int .i64 a0_3, .int .i64 a0_4, .int .i64 a0_5, .string a0_6, .int .i64 a0_7, .string a0_8, .slice A0_9 l0_9.length c0_9] 42 (0, 0)) (bk_ BK307.out) hb); have n1_ := Aside0.mk (below_step (bb1_ HB.out GE307.out) hb); have n2_ := Aside0.mk (hbox); have n3_ := Aside0.mk ((by rw [hg]; exact (below_size (bb1_ HB.out GE307.out)) : w.heap.size ≤ gb308)); have n4_ := Aside0.mk ((by rw [hg]; exact (below_size (bb1_ HB.out GE307.out)) : w.heap.size ≤ gb308)); have n5_ := Aside0.mk ((by rw [hg]; exact Nat.ne_of_lt (blk_lt (g := gb307) (o := .cells #[.int .i64 a0_0, .int .i64 a0_1, .int .i64 a0_2, .int .i64 a0_3, .int .i64 a0_4, .int .i64 a0_5, .string a0_6, .int .i64 a0_7, .string a0_8, .slice A0_9 l0_9.length c0_9] 42 (0, 0)) (bk_ BK307.out)) : gb307 ≠ gb308)); have n6_ := Aside0.mk ((by rw [hg]; exact Nat.ne_of_gt (blk_lt (g := gb307) (o := .cells #[.int .i64 a0_0, .int .i64 a0_1, .int .i64 a0_2, .int .i64 a0_3, .int .i64 a0_4, .int .i64 a0_5, .string a0_6, .int .i64 a0_7, .string a0_8, .slice A0_9 l0_9.length c0_9] 42 (0, 0)) (bk_ BK307.out)) : gb308 ≠ gb307)); clear BK307; clear HB; have BK307 := n0_; have HB := n1_; have BK308 := n2_; have GW308 := n3_; have GE308 := n4_; have NB307_308 := n5_; have NB308_307 := n6_; clear n0_ n1_ n2_ n3_ n4_ n5_ n6_; clear hb hbox hg))
 (try simp only [Act.put, List.setIfInBounds_toArray, List.set_cons_zero, List.set_cons_succ])
 go_cut [76] (fun v76 wc => ∃ (kq : Nat) (x76_2 : Bool), v76 = .bool x76_2 ∧ Aside0 (scholiaref29_Same.j0 kq x76_2 a0_0 a0_1 a0_2 a0_3 a0_4 a0_5 a0_6 a0_7 a0_8 l0_9 a1_0 a1_1 a1_2 a1_3 a1_4 a1_5 a1_6 a1_7 a1_8 l1_9 = some r) ∧ Aside0 (kq ≤ k) ∧ Aside0 (wc.heap[gb307]? = some (.cells #[.int .i64 a0_0, .int .i64 a0_1, .int .i64 a0_2, .int .i64 a0_3, .int .i64 a0_4, .int .i64 a0_5, .string a0_6, .int .i64 a0_7, .string a0_8, (.slice A0_9 l0_9.length c0_9)] 42 (0, 0))) ∧ Aside0 (wc.heap[gb308]? = some (.cells #[.int .i64 a1_0, .int .i64 a1_1, .int .i64 a1_2, .int .i64 a1_3, .int .i64 a1_4, .int .i64 a1_5, .string a1_6, .int .i64 a1_7, .string a1_8, (.slice A1_9 l1_9.length c1_9)] 42 (0, 0))) ∧ Aside0 (Below w.heap.size w wc))
 case first =>
  have H := HC3.out
  clear HC3
  by_cases c6 : a0_0 = a1_0
  ·rw [if_pos c6] at H
   have c6b0 : (a0_0 == a1_0) = true := beq_iff_eq.mpr c6
   have c6b1 : (a0_0 != a1_0) = false := bne_eq_false_iff_eq.mpr c6
   clear c6
   (first | rw [c6b0] | (simp only [i64_w, i32_w]; rw [c6b0]) | skip)
   by_cases c7 : a0_1 = a1_1
   ·rw [if_pos c7] at H
    have c7b0 : (a0_1 == a1_1) = true := beq_iff_eq.mpr c7
    have c7b1 : (a0_1 != a1_1) = false := bne_eq_false_iff_eq.mpr c7
    clear c7
    by_cases c8 : a0_2 = a1_2
    ·rw [if_pos c8] at H
     have c8b0 : (a0_2 == a1_2) = true := beq_iff_eq.mpr c8
     have c8b1 : (a0_2 != a1_2) = false := bne_eq_false_iff_eq.mpr c8
     clear c8
     by_cases c9 : a0_3 = a1_3
     ·rw [if_pos c9] at H
      have c9b0 : (a0_3 == a1_3) = true := beq_iff_eq.mpr c9
      have c9b1 : (a0_3 != a1_3) = false := bne_eq_false_iff_eq.mpr c9
      clear c9
      by_cases c10 : a0_4 = a1_4
      ·rw [if_pos c10] at H
       have c10b0 : (a0_4 == a1_4) = true := beq_iff_eq.mpr c10
       have c10b1 : (a0_4 != a1_4) = false := bne_eq_false_iff_eq.mpr c10
       clear c10
       by_cases c11 : a0_5 = a1_5
       ·rw [if_pos c11] at H
        have c11b0 : (a0_5 == a1_5) = true := beq_iff_eq.mpr c11
        have c11b1 : (a0_5 != a1_5) = false := bne_eq_false_iff_eq.mpr c11
        clear c11
        by_cases c12 : a0_6.toList = a1_6.toList
        ·rw [if_pos c12] at H
         have c12b0 : (a0_6.toList == a1_6.toList) = true := beq_iff_eq.mpr c12
         have c12b1 : (a0_6.toList != a1_6.toList) = false := bne_eq_false_iff_eq.mpr c12
         clear c12
         by_cases c13 : a0_7 = a1_7
         ·rw [if_pos c13] at H
          have c13b0 : (a0_7 == a1_7) = true := beq_iff_eq.mpr c13
          have c13b1 : (a0_7 != a1_7) = false := bne_eq_false_iff_eq.mpr c13
          clear c13
          by_cases c14 : a0_8.toList = a1_8.toList
          ·rw [if_pos c14] at H
           have c14b0 : (a0_8.toList == a1_8.toList) = true := beq_iff_eq.mpr c14
           have c14b1 : (a0_8.toList != a1_8.toList) = false := bne_eq_false_iff_eq.mpr c14
           clear c14
           have H' := Aside0.mk H
           clear H
           have hnb15 := NB307_308.out
           have hnc15 := NB308_307.out
           have hcz16_0 : w5.cell? ⟨gb307, 0, none⟩ = some (.int .i64 a0_0) := (blk_cell BK307.out 0).trans rfl
           have hcz16_1 : w5.cell? ⟨gb307, 1, none⟩ = some (.int .i64 a0_1) := (blk_cell BK307.out 1).trans rfl
           have hcz16_2 : w5.cell? ⟨gb307, 2, none⟩ = some (.int .i64 a0_2) := (blk_cell BK307.out 2).trans rfl
           have hcz16_3 : w5.cell? ⟨gb307, 3, none⟩ = some (.int .i64 a0_3) := (blk_cell BK307.out 3).trans rfl
           have hcz16_4 : w5.cell? ⟨gb307, 4, none⟩ = some (.int .i64 a0_4) := (blk_cell BK307.out 4).trans rfl
           have hcz16_5 : w5.cell? ⟨gb307, 5, none⟩ = some (.int .i64 a0_5) := (blk_cell BK307.out 5).trans rfl
           have hcz16_6 : w5.cell? ⟨gb307, 6, none⟩ = some (.string a0_6) := (blk_cell BK307.out 6).trans rfl
           have hcz16_7 : w5.cell? ⟨gb307, 7, none⟩ = some (.int .i64 a0_7) := (blk_cell BK307.out 7).trans rfl
           have hcz16_8 : w5.cell? ⟨gb307, 8, none⟩ = some (.string a0_8) := (blk_cell BK307.out 8).trans rfl
           have hcz16_9 : w5.cell? ⟨gb307, 9, none⟩ = some (.slice A0_9 l0_9.length c0_9) := (blk_cell BK307.out 9).trans rfl
           have hfz16_0 := blk_frozen BK307.out 0
           have hfz16_1 := blk_frozen BK307.out 1
           have hfz16_2 := blk_frozen BK307.out 2
           have hfz16_3 := blk_frozen BK307.out 3
           have hfz16_4 := blk_frozen BK307.out 4
           have hfz16_5 := blk_frozen BK307.out 5
           have hfz16_6 := blk_frozen BK307.out 6
           have hfz16_7 := blk_frozen BK307.out 7
           have hfz16_8 := blk_frozen BK307.out 8
           have hfz16_9 := blk_frozen BK307.out 9
           have hcz17_0 : w5.cell? ⟨gb308, 0, none⟩ = some (.int .i64 a1_0) := (blk_cell BK308.out 0).trans rfl
           have hcz17_1 : w5.cell? ⟨gb308, 1, none⟩ = some (.int .i64 a1_1) := (blk_cell BK308.out 1).trans rfl
           have hcz17_2 : w5.cell? ⟨gb308, 2, none⟩ = some (.int .i64 a1_2) := (blk_cell BK308.out 2).trans rfl
           have hcz17_3 : w5.cell? ⟨gb308, 3, none⟩ = some (.int .i64 a1_3) := (blk_cell BK308.out 3).trans rfl
           have hcz17_4 : w5.cell? ⟨gb308, 4, none⟩ = some (.int .i64 a1_4) := (blk_cell BK308.out 4).trans rfl
           have hcz17_5 : w5.cell? ⟨gb308, 5, none⟩ = some (.int .i64 a1_5) := (blk_cell BK308.out 5).trans rfl
           have hcz17_6 : w5.cell? ⟨gb308, 6, none⟩ = some (.string a1_6) := (blk_cell BK308.out 6).trans rfl
           have hcz17_7 : w5.cell? ⟨gb308, 7, none⟩ = some (.int .i64 a1_7) := (blk_cell BK308.out 7).trans rfl
           have hcz17_8 : w5.cell? ⟨gb308, 8, none⟩ = some (.string a1_8) := (blk_cell BK308.out 8).trans rfl
           have hcz17_9 : w5.cell? ⟨gb308, 9, none⟩ = some (.slice A1_9 l1_9.length c1_9) := (blk_cell BK308.out 9).trans rfl
           have hfz17_0 := blk_frozen BK308.out 0
           have hfz17_1 := blk_frozen BK308.out 1
           have hfz17_2 := blk_frozen BK308.out 2
           have hfz17_3 := blk_frozen BK308.out 3
           have hfz17_4 := blk_frozen BK308.out 4
           have hfz17_5 := blk_frozen BK308.out 5
           have hfz17_6 := blk_frozen BK308.out 6
           have hfz17_7 := blk_frozen BK308.out 7
           have hfz17_8 := blk_frozen BK308.out 8
           have hfz17_9 := blk_frozen BK308.out 9
           go_wp2
           go_meet
           case rel => exact ⟨_, (((l0_9.length : Int) != (l1_9.length : Int))), rs_, H', ⟨by first | omega | exact Nat.le_refl _⟩, ⟨bk_ BK307.out⟩, ⟨bk_ BK308.out⟩, ⟨bb2_ HB.out GE307.out GE308.out⟩⟩
          ·rw [if_neg c14] at H
           have c14b0 : (a0_8.toList == a1_8.toList) = false := beq_eq_false_iff_ne.mpr c14
           have c14b1 : (a0_8.toList != a1_8.toList) = true := bne_iff_ne.mpr c14
           have H' := Aside0.mk H
           clear H
           have hnb18 := NB307_308.out
           have hnc18 := NB308_307.out
           have hcz19_0 : w5.cell? ⟨gb307, 0, none⟩ = some (.int .i64 a0_0) := (blk_cell BK307.out 0).trans rfl
           have hcz19_1 : w5.cell? ⟨gb307, 1, none⟩ = some (.int .i64 a0_1) := (blk_cell BK307.out 1).trans rfl
           have hcz19_2 : w5.cell? ⟨gb307, 2, none⟩ = some (.int .i64 a0_2) := (blk_cell BK307.out 2).trans rfl
           have hcz19_3 : w5.cell? ⟨gb307, 3, none⟩ = some (.int .i64 a0_3) := (blk_cell BK307.out 3).trans rfl
           have hcz19_4 : w5.cell? ⟨gb307, 4, none⟩ = some (.int .i64 a0_4) := (blk_cell BK307.out 4).trans rfl
           have hcz19_5 : w5.cell? ⟨gb307, 5, none⟩ = some (.int .i64 a0_5) := (blk_cell BK307.out 5).trans rfl
           have hcz19_6 : w5.cell? ⟨gb307, 6, none⟩ = some (.string a0_6) := (blk_cell BK307.out 6).trans rfl
           have hcz19_7 : w5.cell? ⟨gb307, 7, none⟩ = some (.int .i64 a0_7) := (blk_cell BK307.out 7).trans rfl
           have hcz19_8 : w5.cell? ⟨gb307, 8, none⟩ = some (.string a0_8) := (blk_cell BK307.out 8).trans rfl
           have hcz19_9 : w5.cell? ⟨gb307, 9, none⟩ = some (.slice A0_9 l0_9.length c0_9) := (blk_cell BK307.out 9).trans rfl
           have hfz19_0 := blk_frozen BK307.out 0
           have hfz19_1 := blk_frozen BK307.out 1
           have hfz19_2 := blk_frozen BK307.out 2
           have hfz19_3 := blk_frozen BK307.out 3
           have hfz19_4 := blk_frozen BK307.out 4
           have hfz19_5 := blk_frozen BK307.out 5
           have hfz19_6 := blk_frozen BK307.out 6
           have hfz19_7 := blk_frozen BK307.out 7
           have hfz19_8 := blk_frozen BK307.out 8
           have hfz19_9 := blk_frozen BK307.out 9
           have hcz20_0 : w5.cell? ⟨gb308, 0, none⟩ = some (.int .i64 a1_0) := (blk_cell BK308.out 0).trans rfl
           have hcz20_1 : w5.cell? ⟨gb308, 1, none⟩ = some (.int .i64 a1_1) := (blk_cell BK308.out 1).trans rfl
           have hcz20_2 : w5.cell? ⟨gb308, 2, none⟩ = some (.int .i64 a1_2) := (blk_cell BK308.out 2).trans rfl
           have hcz20_3 : w5.cell? ⟨gb308, 3, none⟩ = some (.int .i64 a1_3) := (blk_cell BK308.out 3).trans rfl
           have hcz20_4 : w5.cell? ⟨gb308, 4, none⟩ = some (.int .i64 a1_4) := (blk_cell BK308.out 4).trans rfl
           have hcz20_5 : w5.cell? ⟨gb308, 5, none⟩ = some (.int .i64 a1_5) := (blk_cell BK308.out 5).trans rfl
           have hcz20_6 : w5.cell? ⟨gb308, 6, none⟩ = some (.string a1_6) := (blk_cell BK308.out 6).trans rfl
           have hcz20_7 : w5.cell? ⟨gb308, 7, none⟩ = some (.int .i64 a1_7) := (blk_cell BK308.out 7).trans rfl
           have hcz20_8 : w5.cell? ⟨gb308, 8, none⟩ = some (.string a1_8) := (blk_cell BK308.out 8).trans rfl
           have hcz20_9 : w5.cell? ⟨gb308, 9, none⟩ = some (.slice A1_9 l1_9.length c1_9) := (blk_cell BK308.out 9).trans rfl
           have hfz20_0 := blk_frozen BK308.out 0
           have hfz20_1 := blk_frozen BK308.out 1
           have hfz20_2 := blk_frozen BK308.out 2
           have hfz20_3 := blk_frozen BK308.out 3
           have hfz20_4 := blk_frozen BK308.out 4
           have hfz20_5 := blk_frozen BK308.out 5
           have hfz20_6 := blk_frozen BK308.out 6
           have hfz20_7 := blk_frozen BK308.out 7
           have hfz20_8 := blk_frozen BK308.out 8
           have hfz20_9 := blk_frozen BK308.out 9
           go_wp2
           go_meet
           case rel => exact ⟨_, (true), rs_, H', ⟨by first | omega | exact Nat.le_refl _⟩, ⟨bk_ BK307.out⟩, ⟨bk_ BK308.out⟩, ⟨bb2_ HB.out GE307.out GE308.out⟩⟩
         ·rw [if_neg c13] at H
          have c13b0 : (a0_7 == a1_7) = false := beq_eq_false_iff_ne.mpr c13
          have c13b1 : (a0_7 != a1_7) = true := bne_iff_ne.mpr c13
          have H' := Aside0.mk H
          clear H
          have hnb21 := NB307_308.out
          have hnc21 := NB308_307.out
          have hcz22_0 : w5.cell? ⟨gb307, 0, none⟩ = some (.int .i64 a0_0) := (blk_cell BK307.out 0).trans rfl
          have hcz22_1 : w5.cell? ⟨gb307, 1, none⟩ = some (.int .i64 a0_1) := (blk_cell BK307.out 1).trans rfl
          have hcz22_2 : w5.cell? ⟨gb307, 2, none⟩ = some (.int .i64 a0_2) := (blk_cell BK307.out 2).trans rfl
          have hcz22_3 : w5.cell? ⟨gb307, 3, none⟩ = some (.int .i64 a0_3) := (blk_cell BK307.out 3).trans rfl
          have hcz22_4 : w5.cell? ⟨gb307, 4, none⟩ = some (.int .i64 a0_4) := (blk_cell BK307.out 4).trans rfl
          have hcz22_5 : w5.cell? ⟨gb307, 5, none⟩ = some (.int .i64 a0_5) := (blk_cell BK307.out 5).trans rfl
          have hcz22_6 : w5.cell? ⟨gb307, 6, none⟩ = some (.string a0_6) := (blk_cell BK307.out 6).trans rfl
          have hcz22_7 : w5.cell? ⟨gb307, 7, none⟩ = some (.int .i64 a0_7) := (blk_cell BK307.out 7).trans rfl
          have hcz22_8 : w5.cell? ⟨gb307, 8, none⟩ = some (.string a0_8) := (blk_cell BK307.out 8).trans rfl
          have hcz22_9 : w5.cell? ⟨gb307, 9, none⟩ = some (.slice A0_9 l0_9.length c0_9) := (blk_cell BK307.out 9).trans rfl
          have hfz22_0 := blk_frozen BK307.out 0
          have hfz22_1 := blk_frozen BK307.out 1
          have hfz22_2 := blk_frozen BK307.out 2
          have hfz22_3 := blk_frozen BK307.out 3
          have hfz22_4 := blk_frozen BK307.out 4
          have hfz22_5 := blk_frozen BK307.out 5
          have hfz22_6 := blk_frozen BK307.out 6
          have hfz22_7 := blk_frozen BK307.out 7
          have hfz22_8 := blk_frozen BK307.out 8
          have hfz22_9 := blk_frozen BK307.out 9
          have hcz23_0 : w5.cell? ⟨gb308, 0, none⟩ = some (.int .i64 a1_0) := (blk_cell BK308.out 0).trans rfl
          have hcz23_1 : w5.cell? ⟨gb308, 1, none⟩ = some (.int .i64 a1_1) := (blk_cell BK308.out 1).trans rfl
          have hcz23_2 : w5.cell? ⟨gb308, 2, none⟩ = some (.int .i64 a1_2) := (blk_cell BK308.out 2).trans rfl
          have hcz23_3 : w5.cell? ⟨gb308, 3, none⟩ = some (.int .i64 a1_3) := (blk_cell BK308.out 3).trans rfl
          have hcz23_4 : w5.cell? ⟨gb308, 4, none⟩ = some (.int .i64 a1_4) := (blk_cell BK308.out 4).trans rfl
          have hcz23_5 : w5.cell? ⟨gb308, 5, none⟩ = some (.int .i64 a1_5) := (blk_cell BK308.out 5).trans rfl
          have hcz23_6 : w5.cell? ⟨gb308, 6, none⟩ = some (.string a1_6) := (blk_cell BK308.out 6).trans rfl
          have hcz23_7 : w5.cell? ⟨gb308, 7, none⟩ = some (.int .i64 a1_7) := (blk_cell BK308.out 7).trans rfl
          have hcz23_8 : w5.cell? ⟨gb308, 8, none⟩ = some (.string a1_8) := (blk_cell BK308.out 8).trans rfl
          have hcz23_9 : w5.cell? ⟨gb308, 9, none⟩ = some (.slice A1_9 l1_9.length c1_9) := (blk_cell BK308.out 9).trans rfl
          have hfz23_0 := blk_frozen BK308.out 0
          have hfz23_1 := blk_frozen BK308.out 1
          have hfz23_2 := blk_frozen BK308.out 2
          have hfz23_3 := blk_frozen BK308.out 3
          have hfz23_4 := blk_frozen BK308.out 4
          have hfz23_5 := blk_frozen BK308.out 5
          have hfz23_6 := blk_frozen BK308.out 6
          have hfz23_7 := blk_frozen BK308.out 7
          have hfz23_8 := blk_frozen BK308.out 8
          have hfz23_9 := blk_frozen BK308.out 9
          go_wp2
          go_meet
          case rel => exact ⟨_, (true), rs_, H', ⟨by first | omega | exact Nat.le_refl _⟩, ⟨bk_ BK307.out⟩, ⟨bk_ BK308.out⟩, ⟨bb2_ HB.out GE307.out GE308.out⟩⟩
        ·rw [if_neg c12] at H
         have c12b0 : (a0_6.toList == a1_6.toList) = false := beq_eq_false_iff_ne.mpr c12
         have c12b1 : (a0_6.toList != a1_6.toList) = true := bne_iff_ne.mpr c12
         have H' := Aside0.mk H
         clear H
         have hnb24 := NB307_308.out
         have hnc24 := NB308_307.out
         have hcz25_0 : w5.cell? ⟨gb307, 0, none⟩ = some (.int .i64 a0_0) := (blk_cell BK307.out 0).trans rfl
         have hcz25_1 : w5.cell? ⟨gb307, 1, none⟩ = some (.int .i64 a0_1) := (blk_cell BK307.out 1).trans rfl
         have hcz25_2 : w5.cell? ⟨gb307, 2, none⟩ = some (.int .i64 a0_2) := (blk_cell BK307.out 2).trans rfl
         have hcz25_3 : w5.cell? ⟨gb307, 3, none⟩ = some (.int .i64 a0_3) := (blk_cell BK307.out 3).trans rfl
         have hcz25_4 : w5.cell? ⟨gb307, 4, none⟩ = some (.int .i64 a0_4) := (blk_cell BK307.out 4).trans rfl
         have hcz25_5 : w5.cell? ⟨gb307, 5, none⟩ = some (.int .i64 a0_5) := (blk_cell BK307.out 5).trans rfl
         have hcz25_6 : w5.cell? ⟨gb307, 6, none⟩ = some (.string a0_6) := (blk_cell BK307.out 6).trans rfl
         have hcz25_7 : w5.cell? ⟨gb307, 7, none⟩ = some (.int .i64 a0_7) := (blk_cell BK307.out 7).trans rfl
         have hcz25_8 : w5.cell? ⟨gb307, 8, none⟩ = some (.string a0_8) := (blk_cell BK307.out 8).trans rfl
         have hcz25_9 : w5.cell? ⟨gb307, 9, none⟩ = some (.slice A0_9 l0_9.length c0_9) := (blk_cell BK307.out 9).trans rfl
         have hfz25_0 := blk_frozen BK307.out 0
         have hfz25_1 := blk_frozen BK307.out 1
         have hfz25_2 := blk_frozen BK307.out 2
         have hfz25_3 := blk_frozen BK307.out 3
         have hfz25_4 := blk_frozen BK307.out 4
         have hfz25_5 := blk_frozen BK307.out 5
         have hfz25_6 := blk_frozen BK307.out 6
         have hfz25_7 := blk_frozen BK307.out 7
         have hfz25_8 := blk_frozen BK307.out 8
         have hfz25_9 := blk_frozen BK307.out 9
         have hcz26_0 : w5.cell? ⟨gb308, 0, none⟩ = some (.int .i64 a1_0) := (blk_cell BK308.out 0).trans rfl
         have hcz26_1 : w5.cell? ⟨gb308, 1, none⟩ = some (.int .i64 a1_1) := (blk_cell BK308.out 1).trans rfl
         have hcz26_2 : w5.cell? ⟨gb308, 2, none⟩ = some (.int .i64 a1_2) := (blk_cell BK308.out 2).trans rfl
         have hcz26_3 : w5.cell? ⟨gb308, 3, none⟩ = some (.int .i64 a1_3) := (blk_cell BK308.out 3).trans rfl
         have hcz26_4 : w5.cell? ⟨gb308, 4, none⟩ = some (.int .i64 a1_4) := (blk_cell BK308.out 4).trans rfl
         have hcz26_5 : w5.cell? ⟨gb308, 5, none⟩ = some (.int .i64 a1_5) := (blk_cell BK308.out 5).trans rfl
         have hcz26_6 : w5.cell? ⟨gb308, 6, none⟩ = some (.string a1_6) := (blk_cell BK308.out 6).trans rfl
         have hcz26_7 : w5.cell? ⟨gb308, 7, none⟩ = some (.int .i64 a1_7) := (blk_cell BK308.out 7).trans rfl
         have hcz26_8 : w5.cell? ⟨gb308, 8, none⟩ = some (.string a1_8) := (blk_cell BK308.out 8).trans rfl
         have hcz26_9 : w5.cell? ⟨gb308, 9, none⟩ = some (.slice A1_9 l1_9.length c1_9) := (blk_cell BK308.out 9).trans rfl
         have hfz26_0 := blk_frozen BK308.out 0
         have hfz26_1 := blk_frozen BK308.out 1
         have hfz26_2 := blk_frozen BK308.out 2
         have hfz26_3 := blk_frozen BK308.out 3
         have hfz26_4 := blk_frozen BK308.out 4
         have hfz26_5 := blk_frozen BK308.out 5
         have hfz26_6 := blk_frozen BK308.out 6
         have hfz26_7 := blk_frozen BK308.out 7
         have hfz26_8 := blk_frozen BK308.out 8
         have hfz26_9 := blk_frozen BK308.out 9
         go_wp2
         go_meet
         case rel => exact ⟨_, (true), rs_, H', ⟨by first | omega | exact Nat.le_refl _⟩, ⟨bk_ BK307.out⟩, ⟨bk_ BK308.out⟩, ⟨bb2_ HB.out GE307.out GE308.out⟩⟩
       ·rw [if_neg c11] at H
        have c11b0 : (a0_5 == a1_5) = false := beq_eq_false_iff_ne.mpr c11
        have c11b1 : (a0_5 != a1_5) = true := bne_iff_ne.mpr c11
        have H' := Aside0.mk H
        clear H
        have hnb27 := NB307_308.out
        have hnc27 := NB308_307.out
        have hcz28_0 : w5.cell? ⟨gb307, 0, none⟩ = some (.int .i64 a0_0) := (blk_cell BK307.out 0).trans rfl
        have hcz28_1 : w5.cell? ⟨gb307, 1, none⟩ = some (.int .i64 a0_1) := (blk_cell BK307.out 1).trans rfl
        have hcz28_2 : w5.cell? ⟨gb307, 2, none⟩ = some (.int .i64 a0_2) := (blk_cell BK307.out 2).trans rfl
        have hcz28_3 : w5.cell? ⟨gb307, 3, none⟩ = some (.int .i64 a0_3) := (blk_cell BK307.out 3).trans rfl
        have hcz28_4 : w5.cell? ⟨gb307, 4, none⟩ = some (.int .i64 a0_4) := (blk_cell BK307.out 4).trans rfl
        have hcz28_5 : w5.cell? ⟨gb307, 5, none⟩ = some (.int .i64 a0_5) := (blk_cell BK307.out 5).trans rfl
        have hcz28_6 : w5.cell? ⟨gb307, 6, none⟩ = some (.string a0_6) := (blk_cell BK307.out 6).trans rfl
        have hcz28_7 : w5.cell? ⟨gb307, 7, none⟩ = some (.int .i64 a0_7) := (blk_cell BK307.out 7).trans rfl
        have hcz28_8 : w5.cell? ⟨gb307, 8, none⟩ = some (.string a0_8) := (blk_cell BK307.out 8).trans rfl
        have hcz28_9 : w5.cell? ⟨gb307, 9, none⟩ = some (.slice A0_9 l0_9.length c0_9) := (blk_cell BK307.out 9).trans rfl
        have hfz28_0 := blk_frozen BK307.out 0
        have hfz28_1 := blk_frozen BK307.out 1
        have hfz28_2 := blk_frozen BK307.out 2
        have hfz28_3 := blk_frozen BK307.out 3
        have hfz28_4 := blk_frozen BK307.out 4
        have hfz28_5 := blk_frozen BK307.out 5
        have hfz28_6 := blk_frozen BK307.out 6
        have hfz28_7 := blk_frozen BK307.out 7
        have hfz28_8 := blk_frozen BK307.out 8
        have hfz28_9 := blk_frozen BK307.out 9
        have hcz29_0 : w5.cell? ⟨gb308, 0, none⟩ = some (.int .i64 a1_0) := (blk_cell BK308.out 0).trans rfl
        have hcz29_1 : w5.cell? ⟨gb308, 1, none⟩ = some (.int .i64 a1_1) := (blk_cell BK308.out 1).trans rfl
        have hcz29_2 : w5.cell? ⟨gb308, 2, none⟩ = some (.int .i64 a1_2) := (blk_cell BK308.out 2).trans rfl
        have hcz29_3 : w5.cell? ⟨gb308, 3, none⟩ = some (.int .i64 a1_3) := (blk_cell BK308.out 3).trans rfl
        have hcz29_4 : w5.cell? ⟨gb308, 4, none⟩ = some (.int .i64 a1_4) := (blk_cell BK308.out 4).trans rfl
        have hcz29_5 : w5.cell? ⟨gb308, 5, none⟩ = some (.int .i64 a1_5) := (blk_cell BK308.out 5).trans rfl
        have hcz29_6 : w5.cell? ⟨gb308, 6, none⟩ = some (.string a1_6) := (blk_cell BK308.out 6).trans rfl
        have hcz29_7 : w5.cell? ⟨gb308, 7, none⟩ = some (.int .i64 a1_7) := (blk_cell BK308.out 7).trans rfl
        have hcz29_8 : w5.cell? ⟨gb308, 8, none⟩ = some (.string a1_8) := (blk_cell BK308.out 8).trans rfl
        have hcz29_9 : w5.cell? ⟨gb308, 9, none⟩ = some (.slice A1_9 l1_9.length c1_9) := (blk_cell BK308.out 9).trans rfl
        have hfz29_0 := blk_frozen BK308.out 0
        have hfz29_1 := blk_frozen BK308.out 1
        have hfz29_2 := blk_frozen BK308.out 2
        have hfz29_3 := blk_frozen BK308.out 3
        have hfz29_4 := blk_frozen BK308.out 4
        have hfz29_5 := blk_frozen BK308.out 5
        have hfz29_6 := blk_frozen BK308.out 6
        have hfz29_7 := blk_frozen BK308.out 7
        have hfz29_8 := blk_frozen BK308.out 8
        have hfz29_9 := blk_frozen BK308.out 9
        go_wp2
        go_meet
        case rel => exact ⟨_, (true), rs_, H', ⟨by first | omega | exact Nat.le_refl _⟩, ⟨bk_ BK307.out⟩, ⟨bk_ BK308.out⟩, ⟨bb2_ HB.out GE307.out GE308.out⟩⟩
      ·rw [if_neg c10] at H
       have c10b0 : (a0_4 == a1_4) = false := beq_eq_false_iff_ne.mpr c10
       have c10b1 : (a0_4 != a1_4) = true := bne_iff_ne.mpr c10
       have H' := Aside0.mk H
       clear H
       have hnb30 := NB307_308.out
       have hnc30 := NB308_307.out
       have hcz31_0 : w5.cell? ⟨gb307, 0, none⟩ = some (.int .i64 a0_0) := (blk_cell BK307.out 0).trans rfl
       have hcz31_1 : w5.cell? ⟨gb307, 1, none⟩ = some (.int .i64 a0_1) := (blk_cell BK307.out 1).trans rfl
       have hcz31_2 : w5.cell? ⟨gb307, 2, none⟩ = some (.int .i64 a0_2) := (blk_cell BK307.out 2).trans rfl
       have hcz31_3 : w5.cell? ⟨gb307, 3, none⟩ = some (.int .i64 a0_3) := (blk_cell BK307.out 3).trans rfl
       have hcz31_4 : w5.cell? ⟨gb307, 4, none⟩ = some (.int .i64 a0_4) := (blk_cell BK307.out 4).trans rfl
       have hcz31_5 : w5.cell? ⟨gb307, 5, none⟩ = some (.int .i64 a0_5) := (blk_cell BK307.out 5).trans rfl
       have hcz31_6 : w5.cell? ⟨gb307, 6, none⟩ = some (.string a0_6) := (blk_cell BK307.out 6).trans rfl
       have hcz31_7 : w5.cell? ⟨gb307, 7, none⟩ = some (.int .i64 a0_7) := (blk_cell BK307.out 7).trans rfl
       have hcz31_8 : w5.cell? ⟨gb307, 8, none⟩ = some (.string a0_8) := (blk_cell BK307.out 8).trans rfl
       have hcz31_9 : w5.cell? ⟨gb307, 9, none⟩ = some (.slice A0_9 l0_9.length c0_9) := (blk_cell BK307.out 9).trans rfl
       have hfz31_0 := blk_frozen BK307.out 0
       have hfz31_1 := blk_frozen BK307.out 1
       have hfz31_2 := blk_frozen BK307.out 2
       have hfz31_3 := blk_frozen BK307.out 3
       have hfz31_4 := blk_frozen BK307.out 4
       have hfz31_5 := blk_frozen BK307.out 5
       have hfz31_6 := blk_frozen BK307.out 6
       have hfz31_7 := blk_frozen BK307.out 7
       have hfz31_8 := blk_frozen BK307.out 8
       have hfz31_9 := blk_frozen BK307.out 9
       have hcz32_0 : w5.cell? ⟨gb308, 0, none⟩ = some (.int .i64 a1_0) := (blk_cell BK308.out 0).trans rfl
       have hcz32_1 : w5.cell? ⟨gb308, 1, none⟩ = some (.int .i64 a1_1) := (blk_cell BK308.out 1).trans rfl
       have hcz32_2 : w5.cell? ⟨gb308, 2, none⟩ = some (.int .i64 a1_2) := (blk_cell BK308.out 2).trans rfl
       have hcz32_3 : w5.cell? ⟨gb308, 3, none⟩ = some (.int .i64 a1_3) := (blk_cell BK308.out 3).trans rfl
       have hcz32_4 : w5.cell? ⟨gb308, 4, none⟩ = some (.int .i64 a1_4) := (blk_cell BK308.out 4).trans rfl
       have hcz32_5 : w5.cell? ⟨gb308, 5, none⟩ = some (.int .i64 a1_5) := (blk_cell BK308.out 5).trans rfl
       have hcz32_6 : w5.cell? ⟨gb308, 6, none⟩ = some (.string a1_6) := (blk_cell BK308.out 6).trans rfl
       have hcz32_7 : w5.cell? ⟨gb308, 7, none⟩ = some (.int .i64 a1_7) := (blk_cell BK308.out 7).trans rfl
       have hcz32_8 : w5.cell? ⟨gb308, 8, none⟩ = some (.string a1_8) := (blk_cell BK308.out 8).trans rfl
       have hcz32_9 : w5.cell? ⟨gb308, 9, none⟩ = some (.slice A1_9 l1_9.length c1_9) := (blk_cell BK308.out 9).trans rfl
       have hfz32_0 := blk_frozen BK308.out 0
       have hfz32_1 := blk_frozen BK308.out 1
       have hfz32_2 := blk_frozen BK308.out 2
       have hfz32_3 := blk_frozen BK308.out 3
       have hfz32_4 := blk_frozen BK308.out 4
       have hfz32_5 := blk_frozen BK308.out 5
       have hfz32_6 := blk_frozen BK308.out 6
       have hfz32_7 := blk_frozen BK308.out 7
       have hfz32_8 := blk_frozen BK308.out 8
       have hfz32_9 := blk_frozen BK308.out 9
       go_wp2
       go_meet
       case rel => exact ⟨_, (true), rs_, H', ⟨by first | omega | exact Nat.le_refl _⟩, ⟨bk_ BK307.out⟩, ⟨bk_ BK308.out⟩, ⟨bb2_ HB.out GE307.out GE308.out⟩⟩
     ·rw [if_neg c9] at H
      have c9b0 : (a0_3 == a1_3) = false := beq_eq_false_iff_ne.mpr c9
      have c9b1 : (a0_3 != a1_3) = true := bne_iff_ne.mpr c9
      have H' := Aside0.mk H
      clear H
      have hnb33 := NB307_308.out
      have hnc33 := NB308_307.out
      have hcz34_0 : w5.cell? ⟨gb307, 0, none⟩ = some (.int .i64 a0_0) := (blk_cell BK307.out 0).trans rfl
      have hcz34_1 : w5.cell? ⟨gb307, 1, none⟩ = some (.int .i64 a0_1) := (blk_cell BK307.out 1).trans rfl
      have hcz34_2 : w5.cell? ⟨gb307, 2, none⟩ = some (.int .i64 a0_2) := (blk_cell BK307.out 2).trans rfl
      have hcz34_3 : w5.cell? ⟨gb307, 3, none⟩ = some (.int .i64 a0_3) := (blk_cell BK307.out 3).trans rfl
      have hcz34_4 : w5.cell? ⟨gb307, 4, none⟩ = some (.int .i64 a0_4) := (blk_cell BK307.out 4).trans rfl
      have hcz34_5 : w5.cell? ⟨gb307, 5, none⟩ = some (.int .i64 a0_5) := (blk_cell BK307.out 5).trans rfl
      have hcz34_6 : w5.cell? ⟨gb307, 6, none⟩ = some (.string a0_6) := (blk_cell BK307.out 6).trans rfl
      have hcz34_7 : w5.cell? ⟨gb307, 7, none⟩ = some (.int .i64 a0_7) := (blk_cell BK307.out 7).trans rfl
      have hcz34_8 : w5.cell? ⟨gb307, 8, none⟩ = some (.string a0_8) := (blk_cell BK307.out 8).trans rfl
      have hcz34_9 : w5.cell? ⟨gb307, 9, none⟩ = some (.slice A0_9 l0_9.length c0_9) := (blk_cell BK307.out 9).trans rfl
      have hfz34_0 := blk_frozen BK307.out 0
      have hfz34_1 := blk_frozen BK307.out 1
      have hfz34_2 := blk_frozen BK307.out 2
      have hfz34_3 := blk_frozen BK307.out 3
      have hfz34_4 := blk_frozen BK307.out 4
      have hfz34_5 := blk_frozen BK307.out 5
      have hfz34_6 := blk_frozen BK307.out 6
      have hfz34_7 := blk_frozen BK307.out 7
      have hfz34_8 := blk_frozen BK307.out 8
      have hfz34_9 := blk_frozen BK307.out 9
      have hcz35_0 : w5.cell? ⟨gb308, 0, none⟩ = some (.int .i64 a1_0) := (blk_cell BK308.out 0).trans rfl
      have hcz35_1 : w5.cell? ⟨gb308, 1, none⟩ = some (.int .i64 a1_1) := (blk_cell BK308.out 1).trans rfl
      have hcz35_2 : w5.cell? ⟨gb308, 2, none⟩ = some (.int .i64 a1_2) := (blk_cell BK308.out 2).trans rfl
      have hcz35_3 : w5.cell? ⟨gb308, 3, none⟩ = some (.int .i64 a1_3) := (blk_cell BK308.out 3).trans rfl
      have hcz35_4 : w5.cell? ⟨gb308, 4, none⟩ = some (.int .i64 a1_4) := (blk_cell BK308.out 4).trans rfl
      have hcz35_5 : w5.cell? ⟨gb308, 5, none⟩ = some (.int .i64 a1_5) := (blk_cell BK308.out 5).trans rfl
      have hcz35_6 : w5.cell? ⟨gb308, 6, none⟩ = some (.string a1_6) := (blk_cell BK308.out 6).trans rfl
      have hcz35_7 : w5.cell? ⟨gb308, 7, none⟩ = some (.int .i64 a1_7) := (blk_cell BK308.out 7).trans rfl
      have hcz35_8 : w5.cell? ⟨gb308, 8, none⟩ = some (.string a1_8) := (blk_cell BK308.out 8).trans rfl
      have hcz35_9 : w5.cell? ⟨gb308, 9, none⟩ = some (.slice A1_9 l1_9.length c1_9) := (blk_cell BK308.out 9).trans rfl
      have hfz35_0 := blk_frozen BK308.out 0
      have hfz35_1 := blk_frozen BK308.out 1
      have hfz35_2 := blk_frozen BK308.out 2
      have hfz35_3 := blk_frozen BK308.out 3
      have hfz35_4 := blk_frozen BK308.out 4
      have hfz35_5 := blk_frozen BK308.out 5
      have hfz35_6 := blk_frozen BK308.out 6
      have hfz35_7 := blk_frozen BK308.out 7
      have hfz35_8 := blk_frozen BK308.out 8
      have hfz35_9 := blk_frozen BK308.out 9
      go_wp2
      go_meet
      case rel => exact ⟨_, (true), rs_, H', ⟨by first | omega | exact Nat.le_refl _⟩, ⟨bk_ BK307.out⟩, ⟨bk_ BK308.out⟩, ⟨bb2_ HB.out GE307.out GE308.out⟩⟩
    ·rw [if_neg c8] at H
     have c8b0 : (a0_2 == a1_2) = false := beq_eq_false_iff_ne.mpr c8
     have c8b1 : (a0_2 != a1_2) = true := bne_iff_ne.mpr c8
     have H' := Aside0.mk H
     clear H
     have hnb36 := NB307_308.out
     have hnc36 := NB308_307.out
     have hcz37_0 : w5.cell? ⟨gb307, 0, none⟩ = some (.int .i64 a0_0) := (blk_cell BK307.out 0).trans rfl
     have hcz37_1 : w5.cell? ⟨gb307, 1, none⟩ = some (.int .i64 a0_1) := (blk_cell BK307.out 1).trans rfl
     have hcz37_2 : w5.cell? ⟨gb307, 2, none⟩ = some (.int .i64 a0_2) := (blk_cell BK307.out 2).trans rfl
     have hcz37_3 : w5.cell? ⟨gb307, 3, none⟩ = some (.int .i64 a0_3) := (blk_cell BK307.out 3).trans rfl
     have hcz37_4 : w5.cell? ⟨gb307, 4, none⟩ = some (.int .i64 a0_4) := (blk_cell BK307.out 4).trans rfl
     have hcz37_5 : w5.cell? ⟨gb307, 5, none⟩ = some (.int .i64 a0_5) := (blk_cell BK307.out 5).trans rfl
     have hcz37_6 : w5.cell? ⟨gb307, 6, none⟩ = some (.string a0_6) := (blk_cell BK307.out 6).trans rfl
     have hcz37_7 : w5.cell? ⟨gb307, 7, none⟩ = some (.int .i64 a0_7) := (blk_cell BK307.out 7).trans rfl
     have hcz37_8 : w5.cell? ⟨gb307, 8, none⟩ = some (.string a0_8) := (blk_cell BK307.out 8).trans rfl
     have hcz37_9 : w5.cell? ⟨gb307, 9, none⟩ = some (.slice A0_9 l0_9.length c0_9) := (blk_cell BK307.out 9).trans rfl
     have hfz37_0 := blk_frozen BK307.out 0
     have hfz37_1 := blk_frozen BK307.out 1
     have hfz37_2 := blk_frozen BK307.out 2
     have hfz37_3 := blk_frozen BK307.out 3
     have hfz37_4 := blk_frozen BK307.out 4
     have hfz37_5 := blk_frozen BK307.out 5
     have hfz37_6 := blk_frozen BK307.out 6
     have hfz37_7 := blk_frozen BK307.out 7
     have hfz37_8 := blk_frozen BK307.out 8
     have hfz37_9 := blk_frozen BK307.out 9
     have hcz38_0 : w5.cell? ⟨gb308, 0, none⟩ = some (.int .i64 a1_0) := (blk_cell BK308.out 0).trans rfl
     have hcz38_1 : w5.cell? ⟨gb308, 1, none⟩ = some (.int .i64 a1_1) := (blk_cell BK308.out 1).trans rfl
     have hcz38_2 : w5.cell? ⟨gb308, 2, none⟩ = some (.int .i64 a1_2) := (blk_cell BK308.out 2).trans rfl
     have hcz38_3 : w5.cell? ⟨gb308, 3, none⟩ = some (.int .i64 a1_3) := (blk_cell BK308.out 3).trans rfl
     have hcz38_4 : w5.cell? ⟨gb308, 4, none⟩ = some (.int .i64 a1_4) := (blk_cell BK308.out 4).trans rfl
     have hcz38_5 : w5.cell? ⟨gb308, 5, none⟩ = some (.int .i64 a1_5) := (blk_cell BK308.out 5).trans rfl
     have hcz38_6 : w5.cell? ⟨gb308, 6, none⟩ = some (.string a1_6) := (blk_cell BK308.out 6).trans rfl
     have hcz38_7 : w5.cell? ⟨gb308, 7, none⟩ = some (.int .i64 a1_7) := (blk_cell BK308.out 7).trans rfl
     have hcz38_8 : w5.cell? ⟨gb308, 8, none⟩ = some (.string a1_8) := (blk_cell BK308.out 8).trans rfl
     have hcz38_9 : w5.cell? ⟨gb308, 9, none⟩ = some (.slice A1_9 l1_9.length c1_9) := (blk_cell BK308.out 9).trans rfl
     have hfz38_0 := blk_frozen BK308.out 0
     have hfz38_1 := blk_frozen BK308.out 1
     have hfz38_2 := blk_frozen BK308.out 2
     have hfz38_3 := blk_frozen BK308.out 3
     have hfz38_4 := blk_frozen BK308.out 4
     have hfz38_5 := blk_frozen BK308.out 5
     have hfz38_6 := blk_frozen BK308.out 6
     have hfz38_7 := blk_frozen BK308.out 7
     have hfz38_8 := blk_frozen BK308.out 8
     have hfz38_9 := blk_frozen BK308.out 9
     go_wp2
     go_meet
     case rel => exact ⟨_, (true), rs_, H', ⟨by first | omega | exact Nat.le_refl _⟩, ⟨bk_ BK307.out⟩, ⟨bk_ BK308.out⟩, ⟨bb2_ HB.out GE307.out GE308.out⟩⟩
   ·rw [if_neg c7] at H
    have c7b0 : (a0_1 == a1_1) = false := beq_eq_false_iff_ne.mpr c7
    have c7b1 : (a0_1 != a1_1) = true := bne_iff_ne.mpr c7
    have H' := Aside0.mk H
    clear H
    have hnb39 := NB307_308.out
    have hnc39 := NB308_307.out
    have hcz40_0 : w5.cell? ⟨gb307, 0, none⟩ = some (.int .i64 a0_0) := (blk_cell BK307.out 0).trans rfl
    have hcz40_1 : w5.cell? ⟨gb307, 1, none⟩ = some (.int .i64 a0_1) := (blk_cell BK307.out 1).trans rfl
    have hcz40_2 : w5.cell? ⟨gb307, 2, none⟩ = some (.int .i64 a0_2) := (blk_cell BK307.out 2).trans rfl
    have hcz40_3 : w5.cell? ⟨gb307, 3, none⟩ = some (.int .i64 a0_3) := (blk_cell BK307.out 3).trans rfl
    have hcz40_4 : w5.cell? ⟨gb307, 4, none⟩ = some (.int .i64 a0_4) := (blk_cell BK307.out 4).trans rfl
    have hcz40_5 : w5.cell? ⟨gb307, 5, none⟩ = some (.int .i64 a0_5) := (blk_cell BK307.out 5).trans rfl
    have hcz40_6 : w5.cell? ⟨gb307, 6, none⟩ = some (.string a0_6) := (blk_cell BK307.out 6).trans rfl
    have hcz40_7 : w5.cell? ⟨gb307, 7, none⟩ = some (.int .i64 a0_7) := (blk_cell BK307.out 7).trans rfl
    have hcz40_8 : w5.cell? ⟨gb307, 8, none⟩ = some (.string a0_8) := (blk_cell BK307.out 8).trans rfl
    have hcz40_9 : w5.cell? ⟨gb307, 9, none⟩ = some (.slice A0_9 l0_9.length c0_9) := (blk_cell BK307.out 9).trans rfl
    have hfz40_0 := blk_frozen BK307.out 0
    have hfz40_1 := blk_frozen BK307.out 1
    have hfz40_2 := blk_frozen BK307.out 2
    have hfz40_3 := blk_frozen BK307.out 3
    have hfz40_4 := blk_frozen BK307.out 4
    have hfz40_5 := blk_frozen BK307.out 5
    have hfz40_6 := blk_frozen BK307.out 6
    have hfz40_7 := blk_frozen BK307.out 7
    have hfz40_8 := blk_frozen BK307.out 8
    have hfz40_9 := blk_frozen BK307.out 9
    have hcz41_0 : w5.cell? ⟨gb308, 0, none⟩ = some (.int .i64 a1_0) := (blk_cell BK308.out 0).trans rfl
    have hcz41_1 : w5.cell? ⟨gb308, 1, none⟩ = some (.int .i64 a1_1) := (blk_cell BK308.out 1).trans rfl
    have hcz41_2 : w5.cell? ⟨gb308, 2, none⟩ = some (.int .i64 a1_2) := (blk_cell BK308.out 2).trans rfl
    have hcz41_3 : w5.cell? ⟨gb308, 3, none⟩ = some (.int .i64 a1_3) := (blk_cell BK308.out 3).trans rfl
    have hcz41_4 : w5.cell? ⟨gb308, 4, none⟩ = some (.int .i64 a1_4) := (blk_cell BK308.out 4).trans rfl
    have hcz41_5 : w5.cell? ⟨gb308, 5, none⟩ = some (.int .i64 a1_5) := (blk_cell BK308.out 5).trans rfl
    have hcz41_6 : w5.cell? ⟨gb308, 6, none⟩ = some (.string a1_6) := (blk_cell BK308.out 6).trans rfl
    have hcz41_7 : w5.cell? ⟨gb308, 7, none⟩ = some (.int .i64 a1_7) := (blk_cell BK308.out 7).trans rfl
    have hcz41_8 : w5.cell? ⟨gb308, 8, none⟩ = some (.string a1_8) := (blk_cell BK308.out 8).trans rfl
    have hcz41_9 : w5.cell? ⟨gb308, 9, none⟩ = some (.slice A1_9 l1_9.length c1_9) := (blk_cell BK308.out 9).trans rfl
    have hfz41_0 := blk_frozen BK308.out 0
    have hfz41_1 := blk_frozen BK308.out 1
    have hfz41_2 := blk_frozen BK308.out 2
    have hfz41_3 := blk_frozen BK308.out 3
    have hfz41_4 := blk_frozen BK308.out 4
    have hfz41_5 := blk_frozen BK308.out 5
    have hfz41_6 := blk_frozen BK308.out 6
    have hfz41_7 := blk_frozen BK308.out 7
    have hfz41_8 := blk_frozen BK308.out 8
    have hfz41_9 := blk_frozen BK308.out 9
    go_wp2
    go_meet
    case rel => exact ⟨_, (true), rs_, H', ⟨by first | omega | exact Nat.le_refl _⟩, ⟨bk_ BK307.out⟩, ⟨bk_ BK308.out⟩, ⟨bb2_ HB.out GE307.out GE308.out⟩⟩
  ·rw [if_neg c6] at H
   have c6b0 : (a0_0 == a1_0) = false := beq_eq_false_iff_ne.mpr c6
   have c6b1 : (a0_0 != a1_0) = true := bne_iff_ne.mpr c6
   (first | rw [c6b0] | (simp only [i64_w, i32_w]; rw [c6b0]) | skip)
   have H' := Aside0.mk H
   clear H
   have hnb42 := NB307_308.out
   have hnc42 := NB308_307.out
   have hcz43_0 : w5.cell? ⟨gb307, 0, none⟩ = some (.int .i64 a0_0) := (blk_cell BK307.out 0).trans rfl
   have hcz43_1 : w5.cell? ⟨gb307, 1, none⟩ = some (.int .i64 a0_1) := (blk_cell BK307.out 1).trans rfl
   have hcz43_2 : w5.cell? ⟨gb307, 2, none⟩ = some (.int .i64 a0_2) := (blk_cell BK307.out 2).trans rfl
   have hcz43_3 : w5.cell? ⟨gb307, 3, none⟩ = some (.int .i64 a0_3) := (blk_cell BK307.out 3).trans rfl
   have hcz43_4 : w5.cell? ⟨gb307, 4, none⟩ = some (.int .i64 a0_4) := (blk_cell BK307.out 4).trans rfl
   have hcz43_5 : w5.cell? ⟨gb307, 5, none⟩ = some (.int .i64 a0_5) := (blk_cell BK307.out 5).trans rfl
   have hcz43_6 : w5.cell? ⟨gb307, 6, none⟩ = some (.string a0_6) := (blk_cell BK307.out 6).trans rfl
   have hcz43_7 : w5.cell? ⟨gb307, 7, none⟩ = some (.int .i64 a0_7) := (blk_cell BK307.out 7).trans rfl
   have hcz43_8 : w5.cell? ⟨gb307, 8, none⟩ = some (.string a0_8) := (blk_cell BK307.out 8).trans rfl
   have hcz43_9 : w5.cell? ⟨gb307, 9, none⟩ = some (.slice A0_9 l0_9.length c0_9) := (blk_cell BK307.out 9).trans rfl
   have hfz43_0 := blk_frozen BK307.out 0
   have hfz43_1 := blk_frozen BK307.out 1
   have hfz43_2 := blk_frozen BK307.out 2
   have hfz43_3 := blk_frozen BK307.out 3
   have hfz43_4 := blk_frozen BK307.out 4
   have hfz43_5 := blk_frozen BK307.out 5
   have hfz43_6 := blk_frozen BK307.out 6
   have hfz43_7 := blk_frozen BK307.out 7
   have hfz43_8 := blk_frozen BK307.out 8
   have hfz43_9 := blk_frozen BK307.out 9
   have hcz44_0 : w5.cell? ⟨gb308, 0, none⟩ = some (.int .i64 a1_0) := (blk_cell BK308.out 0).trans rfl
   have hcz44_1 : w5.cell? ⟨gb308, 1, none⟩ = some (.int .i64 a1_1) := (blk_cell BK308.out 1).trans rfl
   have hcz44_2 : w5.cell? ⟨gb308, 2, none⟩ = some (.int .i64 a1_2) := (blk_cell BK308.out 2).trans rfl
   have hcz44_3 : w5.cell? ⟨gb308, 3, none⟩ = some (.int .i64 a1_3) := (blk_cell BK308.out 3).trans rfl
   have hcz44_4 : w5.cell? ⟨gb308, 4, none⟩ = some (.int .i64 a1_4) := (blk_cell BK308.out 4).trans rfl
   have hcz44_5 : w5.cell? ⟨gb308, 5, none⟩ = some (.int .i64 a1_5) := (blk_cell BK308.out 5).trans rfl
   have hcz44_6 : w5.cell? ⟨gb308, 6, none⟩ = some (.string a1_6) := (blk_cell BK308.out 6).trans rfl
   have hcz44_7 : w5.cell? ⟨gb308, 7, none⟩ = some (.int .i64 a1_7) := (blk_cell BK308.out 7).trans rfl
   have hcz44_8 : w5.cell? ⟨gb308, 8, none⟩ = some (.string a1_8) := (blk_cell BK308.out 8).trans rfl
   have hcz44_9 : w5.cell? ⟨gb308, 9, none⟩ = some (.slice A1_9 l1_9.length c1_9) := (blk_cell BK308.out 9).trans rfl
   have hfz44_0 := blk_frozen BK308.out 0
   have hfz44_1 := blk_frozen BK308.out 1
   have hfz44_2 := blk_frozen BK308.out 2
   have hfz44_3 := blk_frozen BK308.out 3
   have hfz44_4 := blk_frozen BK308.out 4
   have hfz44_5 := blk_frozen BK308.out 5
   have hfz44_6 := blk_frozen BK308.out 6
   have hfz44_7 := blk_frozen BK308.out 7
   have hfz44_8 := blk_frozen BK308.out 8
   have hfz44_9 := blk_frozen BK308.out 9
   go_wp2
   go_meet
   case rel => exact ⟨_, (true), rs_, H', ⟨by first | omega | exact Nat.le_refl _⟩, ⟨bk_ BK307.out⟩, ⟨bk_ BK308.out⟩, ⟨bb2_ HB.out GE307.out GE308.out⟩⟩
 case rest =>
  clear HC3
  try clear c1
  try clear c2
  try clear p2
  try clear c3
  try clear c4
  try clear c6
  try clear c6b0
  try clear c6b1
  try clear c7
  try clear c7b0
  try clear c7b1
  try clear c8
  try clear c8b0
  try clear c8b1
  try clear c9
  try clear c9b0
  try clear c9b1
  try clear c10
  try clear c10b0
  try clear c10b1
  try clear c11
  try clear c11b0
  try clear c11b1
  try clear c12
  try clear c12b0
  try clear c12b1
  try clear c13
  try clear c13b0
  try clear c13b1
  try clear c14
  try clear c14b0
  try clear c14b1
  try clear c15
  try clear c18
  try clear c21
  try clear c24
  try clear c27
  try clear c29
  try clear c30
  try clear c33
  try clear c36
  try clear c39
  try clear c42
  try clear hcz16_0
  try clear hcz16_1
  try clear hcz16_2
  try clear hcz16_3
  try clear hcz16_4
  try clear hcz16_5
  try clear hcz16_6
  try clear hcz16_7
  try clear hcz16_8
  try clear hcz16_9
  try clear hcz17_0
  try clear hcz17_1
  try clear hcz17_2
  try clear hcz17_3
  try clear hcz17_4
  try clear hcz17_5
  try clear hcz17_6
  try clear hcz17_7
  try clear hcz17_8
  try clear hcz17_9
  try clear hcz19_0
  try clear hcz19_1
  try clear hcz19_2
  try clear hcz19_3
  try clear hcz19_4
  try clear hcz19_5
  try clear hcz19_6
  try clear hcz19_7
  try clear hcz19_8
  try clear hcz19_9
  try clear hcz20_0
  try clear hcz20_1
  try clear hcz20_2
  try clear hcz20_3
  try clear hcz20_4
  try clear hcz20_5
  try clear hcz20_6
  try clear hcz20_7
  try clear hcz20_8
  try clear hcz20_9
  try clear hcz22_0
  try clear hcz22_1
  try clear hcz22_2
  try clear hcz22_3
  try clear hcz22_4
  try clear hcz22_5
  try clear hcz22_6
  try clear hcz22_7
  try clear hcz22_8
  try clear hcz22_9
  try clear hcz23_0
  try clear hcz23_1
  try clear hcz23_2
  try clear hcz23_3
  try clear hcz23_4
  try clear hcz23_5
  try clear hcz23_6
  try clear hcz23_7
  try clear hcz23_8
  try clear hcz23_9
  try clear hcz25_0
  try clear hcz25_1
  try clear hcz25_2
  try clear hcz25_3
  try clear hcz25_4
  try clear hcz25_5
  try clear hcz25_6
  try clear hcz25_7
  try clear hcz25_8
  try clear hcz25_9
  try clear hcz26_0
  try clear hcz26_1
  try clear hcz26_2
  try clear hcz26_3
  try clear hcz26_4
  try clear hcz26_5
  try clear hcz26_6
  try clear hcz26_7
  try clear hcz26_8
  try clear hcz26_9
  try clear hcz28_0
  try clear hcz28_1
  try clear hcz28_2
  try clear hcz28_3
  try clear hcz28_4
  try clear hcz28_5
  try clear hcz28_6
  try clear hcz28_7
  try clear hcz28_8
  try clear hcz28_9
  try clear hcz29_0
  try clear hcz29_1
  try clear hcz29_2
  try clear hcz29_3
  try clear hcz29_4
  try clear hcz29_5
  try clear hcz29_6
  try clear hcz29_7
  try clear hcz29_8
  try clear hcz29_9
  try clear hcz31_0
  try clear hcz31_1
  try clear hcz31_2
  try clear hcz31_3
  try clear hcz31_4
  try clear hcz31_5
  try clear hcz31_6
  try clear hcz31_7
  try clear hcz31_8
  try clear hcz31_9
  try clear hcz32_0
  try clear hcz32_1
  try clear hcz32_2
  try clear hcz32_3
  try clear hcz32_4
  try clear hcz32_5
  try clear hcz32_6
  try clear hcz32_7
  try clear hcz32_8
  try clear hcz32_9
  try clear hcz34_0
  try clear hcz34_1
  try clear hcz34_2
  try clear hcz34_3
  try clear hcz34_4
  try clear hcz34_5
  try clear hcz34_6
  try clear hcz34_7
  try clear hcz34_8
  try clear hcz34_9
  try clear hcz35_0
  try clear hcz35_1
  try clear hcz35_2
  try clear hcz35_3
  try clear hcz35_4
  try clear hcz35_5
  try clear hcz35_6
  try clear hcz35_7
  try clear hcz35_8
  try clear hcz35_9
  try clear hcz37_0
  try clear hcz37_1
  try clear hcz37_2
  try clear hcz37_3
  try clear hcz37_4
  try clear hcz37_5
  try clear hcz37_6
  try clear hcz37_7
  try clear hcz37_8
  try clear hcz37_9
  try clear hcz38_0
  try clear hcz38_1
  try clear hcz38_2
  try clear hcz38_3
  try clear hcz38_4
  try clear hcz38_5
  try clear hcz38_6
  try clear hcz38_7
  try clear hcz38_8
  try clear hcz38_9
  try clear hcz40_0
  try clear hcz40_1
  try clear hcz40_2
  try clear hcz40_3
  try clear hcz40_4
  try clear hcz40_5
  try clear hcz40_6
  try clear hcz40_7
  try clear hcz40_8
  try clear hcz40_9
  try clear hcz41_0
  try clear hcz41_1
  try clear hcz41_2
  try clear hcz41_3
  try clear hcz41_4
  try clear hcz41_5
  try clear hcz41_6
  try clear hcz41_7
  try clear hcz41_8
  try clear hcz41_9
  try clear hcz43_0
  try clear hcz43_1
  try clear hcz43_2
  try clear hcz43_3
  try clear hcz43_4
  try clear hcz43_5
  try clear hcz43_6
  try clear hcz43_7
  try clear hcz43_8
  try clear hcz43_9
  try clear hcz44_0
  try clear hcz44_1
  try clear hcz44_2
  try clear hcz44_3
  try clear hcz44_4
  try clear hcz44_5
  try clear hcz44_6
  try clear hcz44_7
  try clear hcz44_8
  try clear hcz44_9
  try clear hfz16_0
  try clear hfz16_1
  try clear hfz16_2
  try clear hfz16_3
  try clear hfz16_4
  try clear hfz16_5
  try clear hfz16_6
  try clear hfz16_7
  try clear hfz16_8
  try clear hfz16_9
  try clear hfz17_0
  try clear hfz17_1
  try clear hfz17_2
  try clear hfz17_3
  try clear hfz17_4
  try clear hfz17_5
  try clear hfz17_6
  try clear hfz17_7
  try clear hfz17_8
  try clear hfz17_9
  try clear hfz19_0
  try clear hfz19_1
  try clear hfz19_2
  try clear hfz19_3
  try clear hfz19_4
  try clear hfz19_5
  try clear hfz19_6
  try clear hfz19_7
  try clear hfz19_8
  try clear hfz19_9
  try clear hfz20_0
  try clear hfz20_1
  try clear hfz20_2
  try clear hfz20_3
  try clear hfz20_4
  try clear hfz20_5
  try clear hfz20_6
  try clear hfz20_7
  try clear hfz20_8
  try clear hfz20_9
  try clear hfz22_0
  try clear hfz22_1
  try clear hfz22_2
  try clear hfz22_3
  try clear hfz22_4
  try clear hfz22_5
  try clear hfz22_6
  try clear hfz22_7
  try clear hfz22_8
  try clear hfz22_9
  try clear hfz23_0
  try clear hfz23_1
  try clear hfz23_2
  try clear hfz23_3
  try clear hfz23_4
  try clear hfz23_5
  try clear hfz23_6
  try clear hfz23_7
  try clear hfz23_8
  try clear hfz23_9
  try clear hfz25_0
  try clear hfz25_1
  try clear hfz25_2
  try clear hfz25_3
  try clear hfz25_4
  try clear hfz25_5
  try clear hfz25_6
  try clear hfz25_7
  try clear hfz25_8
  try clear hfz25_9
  try clear hfz26_0
  try clear hfz26_1
  try clear hfz26_2
  try clear hfz26_3
  try clear hfz26_4
  try clear hfz26_5
  try clear hfz26_6
  try clear hfz26_7
  try clear hfz26_8
  try clear hfz26_9
  try clear hfz28_0
  try clear hfz28_1
  try clear hfz28_2
  try clear hfz28_3
  try clear hfz28_4
  try clear hfz28_5
  try clear hfz28_6
  try clear hfz28_7
  try clear hfz28_8
  try clear hfz28_9
  try clear hfz29_0
  try clear hfz29_1
  try clear hfz29_2
  try clear hfz29_3
  try clear hfz29_4
  try clear hfz29_5
  try clear hfz29_6
  try clear hfz29_7
  try clear hfz29_8
  try clear hfz29_9
  try clear hfz31_0
  try clear hfz31_1
  try clear hfz31_2
  try clear hfz31_3
  try clear hfz31_4
  try clear hfz31_5
  try clear hfz31_6
  try clear hfz31_7
  try clear hfz31_8
  try clear hfz31_9
  try clear hfz32_0
  try clear hfz32_1
  try clear hfz32_2
  try clear hfz32_3
  try clear hfz32_4
  try clear hfz32_5
  try clear hfz32_6
  try clear hfz32_7
  try clear hfz32_8
  try clear hfz32_9
  try clear hfz34_0
  try clear hfz34_1
  try clear hfz34_2
  try clear hfz34_3
  try clear hfz34_4
  try clear hfz34_5
  try clear hfz34_6
  try clear hfz34_7
  try clear hfz34_8
  try clear hfz34_9
  try clear hfz35_0
  try clear hfz35_1
  try clear hfz35_2
  try clear hfz35_3
  try clear hfz35_4
  try clear hfz35_5
  try clear hfz35_6
  try clear hfz35_7
  try clear hfz35_8
  try clear hfz35_9
  try clear hfz37_0
  try clear hfz37_1
  try clear hfz37_2
  try clear hfz37_3
  try clear hfz37_4
  try clear hfz37_5
  try clear hfz37_6
  try clear hfz37_7
  try clear hfz37_8
  try clear hfz37_9
  try clear hfz38_0
  try clear hfz38_1
  try clear hfz38_2
  try clear hfz38_3
  try clear hfz38_4
  try clear hfz38_5
  try clear hfz38_6
  try clear hfz38_7
  try clear hfz38_8
  try clear hfz38_9
  try clear hfz40_0
  try clear hfz40_1
  try clear hfz40_2
  try clear hfz40_3
  try clear hfz40_4
  try clear hfz40_5
  try clear hfz40_6
  try clear hfz40_7
  try clear hfz40_8
  try clear hfz40_9
  try clear hfz41_0
  try clear hfz41_1
  try clear hfz41_2
  try clear hfz41_3
  try clear hfz41_4
  try clear hfz41_5
  try clear hfz41_6
  try clear hfz41_7
  try clear hfz41_8
  try clear hfz41_9
  try clear hfz43_0
  try clear hfz43_1
  try clear hfz43_2
  try clear hfz43_3
  try clear hfz43_4
  try clear hfz43_5
  try clear hfz43_6
  try clear hfz43_7
  try clear hfz43_8
  try clear hfz43_9
  try clear hfz44_0
  try clear hfz44_1
  try clear hfz44_2
  try clear hfz44_3
  try clear hfz44_4
  try clear hfz44_5
  try clear hfz44_6
  try clear hfz44_7
  try clear hfz44_8
  try clear hfz44_9
  obtain ⟨kq, x76_2, rfl, HA, HJ2, BK307, BK308, HB⟩ := hcut
  cases kq with
  | zero => exact absurd HA.out (by simp [scholiaref29_Same.j0])
  | succ kj2 =>
   have H := HA.out
   clear HA
   simp only [scholiaref29_Same.j0] at H
   by_cases c45 : x76_2 = true
   ·subst c45
    have H1 : (some false) = some r := by rw [if_pos rfl] at H; exact H
    clear H
    have H := H1
    clear H1
    obtain rfl := Option.some.inj H
    go_wp2
    go_ret
    exact ⟨by first | rfl | (simp [errW_none, errW_some] <;> rfl) | (simp [*, errW_none, errW_some] <;> rfl), by repeat (first | (with_reducible first | exact HB.out | apply below_alloc | apply pw_below_drewN | apply below_drew1 | refine below_set ?_ GE307.out | refine below_set ?_ GE308.out) | exact HB.out)⟩
   ·replace c45 := Bool.eq_false_iff.mpr c45
    subst c45
    have H1 : (scholiaref29_Same.l0 kj2 l0_9 (l0_9.length : Int) 0 a1_0 a1_1 a1_2 a1_3 a1_4 a1_5 a1_6 a1_7 a1_8 l1_9) = some r := by rw [if_neg (show ¬ (false = true) by decide)] at H; exact H
    clear H
    have H := H1
    clear H1
    have H' := Aside0.mk H
    clear H
    have hnb46 := NB307_308.out
    have hnc46 := NB308_307.out
    have hcz47_0 : wc.cell? ⟨gb307, 0, none⟩ = some (.int .i64 a0_0) := (blk_cell BK307.out 0).trans rfl
    have hcz47_1 : wc.cell? ⟨gb307, 1, none⟩ = some (.int .i64 a0_1) := (blk_cell BK307.out 1).trans rfl
    have hcz47_2 : wc.cell? ⟨gb307, 2, none⟩ = some (.int .i64 a0_2) := (blk_cell BK307.out 2).trans rfl
    have hcz47_3 : wc.cell? ⟨gb307, 3, none⟩ = some (.int .i64 a0_3) := (blk_cell BK307.out 3).trans rfl
    have hcz47_4 : wc.cell? ⟨gb307, 4, none⟩ = some (.int .i64 a0_4) := (blk_cell BK307.out 4).trans rfl
    have hcz47_5 : wc.cell? ⟨gb307, 5, none⟩ = some (.int .i64 a0_5) := (blk_cell BK307.out 5).trans rfl
    have hcz47_6 : wc.cell? ⟨gb307, 6, none⟩ = some (.string a0_6) := (blk_cell BK307.out 6).trans rfl
    have hcz47_7 : wc.cell? ⟨gb307, 7, none⟩ = some (.int .i64 a0_7) := (blk_cell BK307.out 7).trans rfl
    have hcz47_8 : wc.cell? ⟨gb307, 8, none⟩ = some (.string a0_8) := (blk_cell BK307.out 8).trans rfl
    have hcz47_9 : wc.cell? ⟨gb307, 9, none⟩ = some (.slice A0_9 l0_9.length c0_9) := (blk_cell BK307.out 9).trans rfl
    have hfz47_0 := blk_frozen BK307.out 0
    have hfz47_1 := blk_frozen BK307.out 1
    have hfz47_2 := blk_frozen BK307.out 2
    have hfz47_3 := blk_frozen BK307.out 3
    have hfz47_4 := blk_frozen BK307.out 4
    have hfz47_5 := blk_frozen BK307.out 5
    have hfz47_6 := blk_frozen BK307.out 6
    have hfz47_7 := blk_frozen BK307.out 7
    have hfz47_8 := blk_frozen BK307.out 8
    have hfz47_9 := blk_frozen BK307.out 9
    go_wp2
    go_loopg [80] kj2 (fun kq v80 w' => ∃ (x80_2 : Int), v80 = .int .i64 x80_2 ∧ Aside0 (scholiaref29_Same.l0 kq l0_9 (l0_9.length : Int) x80_2 a1_0 a1_1 a1_2 a1_3 a1_4 a1_5 a1_6 a1_7 a1_8 l1_9 = some r) ∧ Aside0 (kq ≤ kj2) ∧ Aside0 (w'.heap[gb307]? = some (.cells #[.int .i64 a0_0, .int .i64 a0_1, .int .i64 a0_2, .int .i64 a0_3, .int .i64 a0_4, .int .i64 a0_5, .string a0_6, .int .i64 a0_7, .string a0_8, (.slice A0_9 l0_9.length c0_9)] 42 (0, 0))) ∧ Aside0 (w'.heap[gb308]? = some (.cells #[.int .i64 a1_0, .int .i64 a1_1, .int .i64 a1_2, .int .i64 a1_3, .int .i64 a1_4, .int .i64 a1_5, .string a1_6, .int .i64 a1_7, .string a1_8, (.slice A1_9 l1_9.length c1_9)] 42 (0, 0))) ∧ Aside0 (Below w.heap.size w w'))
    case atStart => exact ⟨(0), rs_, H', ⟨Nat.le_refl _⟩, ⟨bk_ BK307.out⟩, ⟨bk_ BK308.out⟩, ⟨bb2_ HB.out GE307.out GE308.out⟩⟩
    case round =>
     clear H'
     try clear c1
     try clear c2
     try clear p2
     try clear c3
     try clear c4
     try clear c6
     try clear c6b0
     try clear c6b1
     try clear c7
     try clear c7b0
     try clear c7b1
     try clear c8
     try clear c8b0
     try clear c8b1
     try clear c9
     try clear c9b0
     try clear c9b1
     try clear c10
     try clear c10b0
     try clear c10b1
     try clear c11
     try clear c11b0
     try clear c11b1
     try clear c12
     try clear c12b0
     try clear c12b1
     try clear c13
     try clear c13b0
     try clear c13b1
     try clear c14
     try clear c14b0
     try clear c14b1
     try clear c15
     try clear c18
     try clear c21
     try clear c24
     try clear c27
     try clear c29
     try clear c30
     try clear c33
     try clear c36
     try clear c39
     try clear c42
     try clear c45
     try clear c46
     try clear hcz16_0
     try clear hcz16_1
     try clear hcz16_2
     try clear hcz16_3
     try clear hcz16_4
     try clear hcz16_5
     try clear hcz16_6
     try clear hcz16_7
     try clear hcz16_8
     try clear hcz16_9
     try clear hcz17_0
     try clear hcz17_1
     try clear hcz17_2
     try clear hcz17_3
     try clear hcz17_4
     try clear hcz17_5
     try clear hcz17_6
     try clear hcz17_7
     try clear hcz17_8
     try clear hcz17_9
     try clear hcz19_0
     try clear hcz19_1
     try clear hcz19_2
     try clear hcz19_3
     try clear hcz19_4
     try clear hcz19_5
     try clear hcz19_6
     try clear hcz19_7
     try clear hcz19_8
     try clear hcz19_9
     try clear hcz20_0
     try clear hcz20_1
     try clear hcz20_2
     try clear hcz20_3
     try clear hcz20_4
     try clear hcz20_5
     try clear hcz20_6
     try clear hcz20_7
     try clear hcz20_8
     try clear hcz20_9
     try clear hcz22_0
     try clear hcz22_1
     try clear hcz22_2
     try clear hcz22_3
     try clear hcz22_4
     try clear hcz22_5
     try clear hcz22_6
     try clear hcz22_7
     try clear hcz22_8
     try clear hcz22_9
     try clear hcz23_0
     try clear hcz23_1
     try clear hcz23_2
     try clear hcz23_3
     try clear hcz23_4
     try clear hcz23_5
     try clear hcz23_6
     try clear hcz23_7
     try clear hcz23_8
     try clear hcz23_9
     try clear hcz25_0
     try clear hcz25_1
     try clear hcz25_2
     try clear hcz25_3
     try clear hcz25_4
     try clear hcz25_5
     try clear hcz25_6
     try clear hcz25_7
     try clear hcz25_8
     try clear hcz25_9
     try clear hcz26_0
     try clear hcz26_1
     try clear hcz26_2
     try clear hcz26_3
     try clear hcz26_4
     try clear hcz26_5
     try clear hcz26_6
     try clear hcz26_7
     try clear hcz26_8
     try clear hcz26_9
     try clear hcz28_0
     try clear hcz28_1
     try clear hcz28_2
     try clear hcz28_3
     try clear hcz28_4
     try clear hcz28_5
     try clear hcz28_6
     try clear hcz28_7
     try clear hcz28_8
     try clear hcz28_9
     try clear hcz29_0
     try clear hcz29_1
     try clear hcz29_2
     try clear hcz29_3
     try clear hcz29_4
     try clear hcz29_5
     try clear hcz29_6
     try clear hcz29_7
     try clear hcz29_8
     try clear hcz29_9
     try clear hcz31_0
     try clear hcz31_1
     try clear hcz31_2
     try clear hcz31_3
     try clear hcz31_4
     try clear hcz31_5
     try clear hcz31_6
     try clear hcz31_7
     try clear hcz31_8
     try clear hcz31_9
     try clear hcz32_0
     try clear hcz32_1
     try clear hcz32_2
     try clear hcz32_3
     try clear hcz32_4
     try clear hcz32_5
     try clear hcz32_6
     try clear hcz32_7
     try clear hcz32_8
     try clear hcz32_9
     try clear hcz34_0
     try clear hcz34_1
     try clear hcz34_2
     try clear hcz34_3
     try clear hcz34_4
     try clear hcz34_5
     try clear hcz34_6
     try clear hcz34_7
     try clear hcz34_8
     try clear hcz34_9
     try clear hcz35_0
     try clear hcz35_1
     try clear hcz35_2
     try clear hcz35_3
     try clear hcz35_4
     try clear hcz35_5
     try clear hcz35_6
     try clear hcz35_7
     try clear hcz35_8
     try clear hcz35_9
     try clear hcz37_0
     try clear hcz37_1
     try clear hcz37_2
     try clear hcz37_3
     try clear hcz37_4
     try clear hcz37_5
     try clear hcz37_6
     try clear hcz37_7
     try clear hcz37_8
     try clear hcz37_9
     try clear hcz38_0
     try clear hcz38_1
     try clear hcz38_2
     try clear hcz38_3
     try clear hcz38_4
     try clear hcz38_5
     try clear hcz38_6
     try clear hcz38_7
     try clear hcz38_8
     try clear hcz38_9
     try clear hcz40_0
     try clear hcz40_1
     try clear hcz40_2
     try clear hcz40_3
     try clear hcz40_4
     try clear hcz40_5
     try clear hcz40_6
     try clear hcz40_7
     try clear hcz40_8
     try clear hcz40_9
     try clear hcz41_0
     try clear hcz41_1
     try clear hcz41_2
     try clear hcz41_3
     try clear hcz41_4
     try clear hcz41_5
     try clear hcz41_6
     try clear hcz41_7
     try clear hcz41_8
     try clear hcz41_9
     try clear hcz43_0
     try clear hcz43_1
     try clear hcz43_2
     try clear hcz43_3
     try clear hcz43_4
     try clear hcz43_5
     try clear hcz43_6
     try clear hcz43_7
     try clear hcz43_8
     try clear hcz43_9
     try clear hcz44_0
     try clear hcz44_1
     try clear hcz44_2
     try clear hcz44_3
     try clear hcz44_4
     try clear hcz44_5
     try clear hcz44_6
     try clear hcz44_7
     try clear hcz44_8
     try clear hcz44_9
     try clear hcz47_0
     try clear hcz47_1
     try clear hcz47_2
     try clear hcz47_3
     try clear hcz47_4
     try clear hcz47_5
     try clear hcz47_6
     try clear hcz47_7
     try clear hcz47_8
     try clear hcz47_9
     try clear hfz16_0
     try clear hfz16_1
     try clear hfz16_2
     try clear hfz16_3
     try clear hfz16_4
     try clear hfz16_5
     try clear hfz16_6
     try clear hfz16_7
     try clear hfz16_8
     try clear hfz16_9
     try clear hfz17_0
     try clear hfz17_1
     try clear hfz17_2
     try clear hfz17_3
     try clear hfz17_4
     try clear hfz17_5
     try clear hfz17_6
     try clear hfz17_7
     try clear hfz17_8
     try clear hfz17_9
     try clear hfz19_0
     try clear hfz19_1
     try clear hfz19_2
     try clear hfz19_3
     try clear hfz19_4
     try clear hfz19_5
     try clear hfz19_6
     try clear hfz19_7
     try clear hfz19_8
     try clear hfz19_9
     try clear hfz20_0
     try clear hfz20_1
     try clear hfz20_2
     try clear hfz20_3
     try clear hfz20_4
     try clear hfz20_5
     try clear hfz20_6
     try clear hfz20_7
     try clear hfz20_8
     try clear hfz20_9
     try clear hfz22_0
     try clear hfz22_1
     try clear hfz22_2
     try clear hfz22_3
     try clear hfz22_4
     try clear hfz22_5
     try clear hfz22_6
     try clear hfz22_7
     try clear hfz22_8
     try clear hfz22_9
     try clear hfz23_0
     try clear hfz23_1
     try clear hfz23_2
     try clear hfz23_3
     try clear hfz23_4
     try clear hfz23_5
     try clear hfz23_6
     try clear hfz23_7
     try clear hfz23_8
     try clear hfz23_9
     try clear hfz25_0
     try clear hfz25_1
     try clear hfz25_2
     try clear hfz25_3
     try clear hfz25_4
     try clear hfz25_5
     try clear hfz25_6
     try clear hfz25_7
     try clear hfz25_8
     try clear hfz25_9
     try clear hfz26_0
     try clear hfz26_1
     try clear hfz26_2
     try clear hfz26_3
     try clear hfz26_4
     try clear hfz26_5
     try clear hfz26_6
     try clear hfz26_7
     try clear hfz26_8
     try clear hfz26_9
     try clear hfz28_0
     try clear hfz28_1
     try clear hfz28_2
     try clear hfz28_3
     try clear hfz28_4
     try clear hfz28_5
     try clear hfz28_6
     try clear hfz28_7
     try clear hfz28_8
     try clear hfz28_9
     try clear hfz29_0
     try clear hfz29_1
     try clear hfz29_2
     try clear hfz29_3
     try clear hfz29_4
     try clear hfz29_5
     try clear hfz29_6
     try clear hfz29_7
     try clear hfz29_8
     try clear hfz29_9
     try clear hfz31_0
     try clear hfz31_1
     try clear hfz31_2
     try clear hfz31_3
     try clear hfz31_4
     try clear hfz31_5
     try clear hfz31_6
     try clear hfz31_7
     try clear hfz31_8
     try clear hfz31_9
     try clear hfz32_0
     try clear hfz32_1
     try clear hfz32_2
     try clear hfz32_3
     try clear hfz32_4
     try clear hfz32_5
     try clear hfz32_6
     try clear hfz32_7
     try clear hfz32_8
     try clear hfz32_9
     try clear hfz34_0
     try clear hfz34_1
     try clear hfz34_2
     try clear hfz34_3
     try clear hfz34_4
     try clear hfz34_5
     try clear hfz34_6
     try clear hfz34_7
     try clear hfz34_8
     try clear hfz34_9
     try clear hfz35_0
     try clear hfz35_1
     try clear hfz35_2
     try clear hfz35_3
     try clear hfz35_4
     try clear hfz35_5
     try clear hfz35_6
     try clear hfz35_7
     try clear hfz35_8
     try clear hfz35_9
     try clear hfz37_0
     try clear hfz37_1
     try clear hfz37_2
     try clear hfz37_3
     try clear hfz37_4
     try clear hfz37_5
     try clear hfz37_6
     try clear hfz37_7
     try clear hfz37_8
     try clear hfz37_9
     try clear hfz38_0
     try clear hfz38_1
     try clear hfz38_2
     try clear hfz38_3
     try clear hfz38_4
     try clear hfz38_5
     try clear hfz38_6
     try clear hfz38_7
     try clear hfz38_8
     try clear hfz38_9
     try clear hfz40_0
     try clear hfz40_1
     try clear hfz40_2
     try clear hfz40_3
     try clear hfz40_4
     try clear hfz40_5
     try clear hfz40_6
     try clear hfz40_7
     try clear hfz40_8
     try clear hfz40_9
     try clear hfz41_0
     try clear hfz41_1
     try clear hfz41_2
     try clear hfz41_3
     try clear hfz41_4
     try clear hfz41_5
     try clear hfz41_6
     try clear hfz41_7
     try clear hfz41_8
     try clear hfz41_9
     try clear hfz43_0
     try clear hfz43_1
     try clear hfz43_2
     try clear hfz43_3
     try clear hfz43_4
     try clear hfz43_5
     try clear hfz43_6
     try clear hfz43_7
     try clear hfz43_8
     try clear hfz43_9
     try clear hfz44_0
     try clear hfz44_1
     try clear hfz44_2
     try clear hfz44_3
     try clear hfz44_4
     try clear hfz44_5
     try clear hfz44_6
     try clear hfz44_7
     try clear hfz44_8
     try clear hfz44_9
     try clear hfz47_0
     try clear hfz47_1
     try clear hfz47_2
     try clear hfz47_3
     try clear hfz47_4
     try clear hfz47_5
     try clear hfz47_6
     try clear hfz47_7
     try clear hfz47_8
     try clear hfz47_9
     try clear p2
     obtain ⟨x80_2, rfl, HA, HK2, BK307, BK308, HB⟩ := hrel
     cases gk with
     | zero => exact absurd HA.out (by simp [scholiaref29_Same.l0])
     | succ k2 =>
      have H := HA.out
      clear HA
      simp only [scholiaref29_Same.l0] at H
      by_cases c48 : x80_2 < (l0_9.length : Int)
      ·rw [if_pos c48] at H
       have c48b0 : decide (x80_2 < (l0_9.length : Int)) = true := decide_eq_true c48
       clear c48
       by_cases c49 : 0 ≤ x80_2
       ·rw [if_pos c49] at H
        have c49b0 : decide (0 ≤ x80_2) = true := decide_eq_true c49
        clear c49
        by_cases c50 : x80_2 < (l0_9.length : Int)
        ·rw [if_pos c50] at H
         have c50b0 : decide (x80_2 < (l0_9.length : Int)) = true := decide_eq_true c50
         clear c50
         by_cases c51 : x80_2 < (l1_9.length : Int)
         ·rw [if_pos c51] at H
          have c51b0 : decide (x80_2 < (l1_9.length : Int)) = true := decide_eq_true c51
          clear c51
          by_cases c52 : (rd l1_9 x80_2) = (rd l0_9 x80_2)
          ·rw [if_pos c52] at H
           have c52b0 : ((rd l1_9 x80_2) == (rd l0_9 x80_2)) = true := beq_iff_eq.mpr c52
           have c52b1 : ((rd l1_9 x80_2) != (rd l0_9 x80_2)) = false := bne_eq_false_iff_eq.mpr c52
           clear c52
           have H' := Aside0.mk H
           clear H
           have p309 : 0 ≤ (x80_2 : Int) := of_decide_eq_true as_
           have q309 : x80_2 < (l0_9.length : Int) := of_decide_eq_true as_
           obtain ⟨ad309, e309, hx309_0⟩ := Kd.at_int HR0_9.out x80_2 p309 q309
           cases e309
           replace hx309_0 := (HB.out.cell (World.block_lt_of_cell? w _ hx309_0)).trans hx309_0
           replace p309 := eq_true p309
           replace q309 := eq_true q309
           have hnb53 := NB308_307.out
           have hnc53 := NB307_308.out
           have hcz54_0 : wr.cell? ⟨gb308, 0, none⟩ = some (.int .i64 a1_0) := (blk_cell BK308.out 0).trans rfl
           have hcz54_1 : wr.cell? ⟨gb308, 1, none⟩ = some (.int .i64 a1_1) := (blk_cell BK308.out 1).trans rfl
           have hcz54_2 : wr.cell? ⟨gb308, 2, none⟩ = some (.int .i64 a1_2) := (blk_cell BK308.out 2).trans rfl
           have hcz54_3 : wr.cell? ⟨gb308, 3, none⟩ = some (.int .i64 a1_3) := (blk_cell BK308.out 3).trans rfl
           have hcz54_4 : wr.cell? ⟨gb308, 4, none⟩ = some (.int .i64 a1_4) := (blk_cell BK308.out 4).trans rfl
           have hcz54_5 : wr.cell? ⟨gb308, 5, none⟩ = some (.int .i64 a1_5) := (blk_cell BK308.out 5).trans rfl
           have hcz54_6 : wr.cell? ⟨gb308, 6, none⟩ = some (.string a1_6) := (blk_cell BK308.out 6).trans rfl
           have hcz54_7 : wr.cell? ⟨gb308, 7, none⟩ = some (.int .i64 a1_7) := (blk_cell BK308.out 7).trans rfl
           have hcz54_8 : wr.cell? ⟨gb308, 8, none⟩ = some (.string a1_8) := (blk_cell BK308.out 8).trans rfl
           have hcz54_9 : wr.cell? ⟨gb308, 9, none⟩ = some (.slice A1_9 l1_9.length c1_9) := (blk_cell BK308.out 9).trans rfl
           have hfz54_0 := blk_frozen BK308.out 0
           have hfz54_1 := blk_frozen BK308.out 1
           have hfz54_2 := blk_frozen BK308.out 2
           have hfz54_3 := blk_frozen BK308.out 3
           have hfz54_4 := blk_frozen BK308.out 4
           have hfz54_5 := blk_frozen BK308.out 5
           have hfz54_6 := blk_frozen BK308.out 6
           have hfz54_7 := blk_frozen BK308.out 7
           have hfz54_8 := blk_frozen BK308.out 8
           have hfz54_9 := blk_frozen BK308.out 9
           have p310 : 0 ≤ (x80_2 : Int) := of_decide_eq_true as_
           have q310 : x80_2 < (l1_9.length : Int) := of_decide_eq_true as_
           obtain ⟨ad310, e310, hx310_0⟩ := Kd.at_int HR1_9.out x80_2 p310 q310
           cases e310
           replace hx310_0 := (HB.out.cell (World.block_lt_of_cell? w _ hx310_0)).trans hx310_0
           replace p310 := eq_true p310
           replace q310 := eq_true q310
           go_wp2
           go_roundg k2
           case measure => have := HJ2.out; have := HK2.out; omega
           case rel => exact ⟨(wrap64 (x80_2 + 1)), rs_, H', ⟨by have := HJ2.out; have := HK2.out; omega⟩, ⟨bk_ BK307.out⟩, ⟨bk_ BK308.out⟩, ⟨bb2_ HB.out GE307.out GE308.out⟩⟩
          ·rw [if_neg c52] at H
           have c52b0 : ((rd l1_9 x80_2) == (rd l0_9 x80_2)) = false := beq_eq_false_iff_ne.mpr c52
           have c52b1 : ((rd l1_9 x80_2) != (rd l0_9 x80_2)) = true := bne_iff_ne.mpr c52
           obtain rfl := Option.some.inj H
           have p309 : 0 ≤ (x80_2 : Int) := of_decide_eq_true as_
           have q309 : x80_2 < (l0_9.length : Int) := of_decide_eq_true as_
           obtain ⟨ad309, e309, hx309_0⟩ := Kd.at_int HR0_9.out x80_2 p309 q309
           cases e309
           replace hx309_0 := (HB.out.cell (World.block_lt_of_cell? w _ hx309_0)).trans hx309_0
           replace p309 := eq_true p309
           replace q309 := eq_true q309
           have hnb55 := NB308_307.out
           have hnc55 := NB307_308.out
           have hcz56_0 : wr.cell? ⟨gb308, 0, none⟩ = some (.int .i64 a1_0) := (blk_cell BK308.out 0).trans rfl
           have hcz56_1 : wr.cell? ⟨gb308, 1, none⟩ = some (.int .i64 a1_1) := (blk_cell BK308.out 1).trans rfl
           have hcz56_2 : wr.cell? ⟨gb308, 2, none⟩ = some (.int .i64 a1_2) := (blk_cell BK308.out 2).trans rfl
           have hcz56_3 : wr.cell? ⟨gb308, 3, none⟩ = some (.int .i64 a1_3) := (blk_cell BK308.out 3).trans rfl
           have hcz56_4 : wr.cell? ⟨gb308, 4, none⟩ = some (.int .i64 a1_4) := (blk_cell BK308.out 4).trans rfl
           have hcz56_5 : wr.cell? ⟨gb308, 5, none⟩ = some (.int .i64 a1_5) := (blk_cell BK308.out 5).trans rfl
           have hcz56_6 : wr.cell? ⟨gb308, 6, none⟩ = some (.string a1_6) := (blk_cell BK308.out 6).trans rfl
           have hcz56_7 : wr.cell? ⟨gb308, 7, none⟩ = some (.int .i64 a1_7) := (blk_cell BK308.out 7).trans rfl
           have hcz56_8 : wr.cell? ⟨gb308, 8, none⟩ = some (.string a1_8) := (blk_cell BK308.out 8).trans rfl
           have hcz56_9 : wr.cell? ⟨gb308, 9, none⟩ = some (.slice A1_9 l1_9.length c1_9) := (blk_cell BK308.out 9).trans rfl
           have hfz56_0 := blk_frozen BK308.out 0
           have hfz56_1 := blk_frozen BK308.out 1
           have hfz56_2 := blk_frozen BK308.out 2
           have hfz56_3 := blk_frozen BK308.out 3
           have hfz56_4 := blk_frozen BK308.out 4
           have hfz56_5 := blk_frozen BK308.out 5
           have hfz56_6 := blk_frozen BK308.out 6
           have hfz56_7 := blk_frozen BK308.out 7
           have hfz56_8 := blk_frozen BK308.out 8
           have hfz56_9 := blk_frozen BK308.out 9
           have p310 : 0 ≤ (x80_2 : Int) := of_decide_eq_true as_
           have q310 : x80_2 < (l1_9.length : Int) := of_decide_eq_true as_
           obtain ⟨ad310, e310, hx310_0⟩ := Kd.at_int HR1_9.out x80_2 p310 q310
           cases e310
           replace hx310_0 := (HB.out.cell (World.block_lt_of_cell? w _ hx310_0)).trans hx310_0
           replace p310 := eq_true p310
           replace q310 := eq_true q310
           go_wp2
           go_ret
           exact ⟨by first | rfl | (simp [errW_none, errW_some] <;> rfl) | (simp [*, errW_none, errW_some] <;> rfl), by repeat (first | (with_reducible first | exact HB.out | apply below_alloc | apply pw_below_drewN | apply below_drew1 | refine below_set ?_ GE307.out | refine below_set ?_ GE308.out) | exact HB.out)⟩
         ·rw [if_neg c51] at H
          exact absurd H (by simp)
        ·rw [if_neg c50] at H
         exact absurd H (by simp)
       ·rw [if_neg c49] at H
        exact absurd H (by simp)
      ·rw [if_neg c48] at H
       have c48b0 : decide (x80_2 < (l0_9.length : Int)) = false := decide_eq_false c48
       clear c48
       obtain rfl := Option.some.inj H
       go_wp2
       go_ret
       exact ⟨by first | rfl | (simp [errW_none, errW_some] <;> rfl) | (simp [*, errW_none, errW_some] <;> rfl), by repeat (first | (with_reducible first | exact HB.out | apply below_alloc | apply pw_below_drewN | apply below_drew1 | refine below_set ?_ GE307.out | refine below_set ?_ GE308.out) | exact HB.out)⟩
end Go.Proofs.YtcgkmomhjincgaaDoor.LibQ
