import Derived.Test.YtcgkmomhjincgaaGreatDoorELibX0
import Derived.Test.YtcgkmomhjincgaaGreatDoorELibX8
import Derived.Test.YtcgkmomhjincgaaGreatDoorELibX9
namespace Go.Proofs.YtcgkmomhjincgaaGreatDoor.LibX
open Go.RowKit Go.Proofs.YtcgkmomhjincgaaGreatDoorW.PrintWords Go.Proofs.YtcgkmomhjincgaaGreatDoorW.PrintLast Go.Proofs.YtcgkmomhjincgaaGreatDoorW.PrintMore
attribute [local go_sem] max2_int min2_int max_two min_two max_three min_three max_four min_four   -- for this text's walks alone
set_option linter.unusedVariables false
set_option linter.unusedSimpArgs false
def stem_Stem.l0 : Nat → ByteArray → List Int → Int → Int → Option (ByteArray)
 | 0, _, _, _, _ => none
 | k + 1, x0, x5, x6, x7 => if x7 < x6 then (if 0 ≤ x7 then (if x7 < (x5.length : Int) then ((stem_plain.f x0).bind fun t233 => (if t233 = true then (if (rd x5 x7) = 1 then ((stem_plural.f x0).bind fun t234 => (stem_Stem.l0 k t234 x5 x6 (wrap64 (x7 + 1)))) else (if (rd x5 x7) = 2 then ((stem_past.f k x0).bind fun t235 => (stem_Stem.l0 k t235 x5 x6 (wrap64 (x7 + 1)))) else ((stem_other.f x0).bind fun t236 => (stem_Stem.l0 k t236 x5 x6 (wrap64 (x7 + 1)))))) else (some x0))) else (none)) else (none)) else (some x0)
def stem_Stem.f (k : Nat) (a0 : ByteArray) : Option (ByteArray) := (some (([1, 2, 3] : List Int) : List Int)).bind fun y229 => (stem_Stem.l0 k a0 y229 (y229.length : Int) 0)
theorem stem_Stem.mono_l : ∀ k, (∀ y0 y1 y2 y3, LeO (stem_Stem.l0 k y0 y1 y2 y3) (stem_Stem.l0 (k + 1) y0 y1 y2 y3))
 | 0 => fun _ _ _ _ r h => by simp [stem_Stem.l0] at h
 | k + 1 => by
  have ih0 := stem_Stem.mono_l k
  ·intro y0 y1 y2 y3
   unfold stem_Stem.l0
   repeat' first
   | (with_reducible exact ih0 _ _ _ _)
   | (with_reducible exact stem_past.mono _ _)
   | (with_reducible exact LeO.refl _)
   | (with_reducible exact LeO.none _)
   | (with_reducible refine LeO.ite ?_ ?_)
   | (with_reducible refine LeO.bind ?_ (fun _ => ?_))
   | exact ih0 _ _ _ _
   | exact stem_past.mono _ _
   | exact LeO.none _
   | refine LeO.ite ?_ ?_
   | refine LeO.bind ?_ (fun _ => ?_)
theorem stem_Stem.mono : ∀ a0 k, LeO (stem_Stem.f k a0) (stem_Stem.f (k + 1) a0) := by
 intro a0 k
 have ih0 := stem_Stem.mono_l k
 unfold stem_Stem.f
 repeat' first
   | (with_reducible exact ih0 _ _ _ _)
   | (with_reducible exact stem_past.mono _ _)
   | (with_reducible exact LeO.refl _)
   | (with_reducible exact LeO.none _)
   | (with_reducible refine LeO.ite ?_ ?_)
   | (with_reducible refine LeO.bind ?_ (fun _ => ?_))
   | exact ih0 _ _ _ _
   | exact stem_past.mono _ _
   | exact LeO.none _
   | refine LeO.ite ?_ ?_
   | refine LeO.bind ?_ (fun _ => ?_)
set_option maxHeartbeats 8000000 in
set_option maxRecDepth 100000 in
theorem stem_Stem.calls (k : Nat) (a0 : ByteArray) (r : ByteArray) (w : World) (hG : GL w) (h : stem_Stem.f k a0 = some r) :
  Calls Tryz.prog 48 #[.string a0] w fun e w' => e = .returned (.string r) ∧ Below w.heap.size w w' := by
 have HB := Aside0.mk (Below.refl w.heap.size w)
 have H : ((some (([1, 2, 3] : List Int) : List Int)).bind fun y229 => (stem_Stem.l0 k a0 y229 (y229.length : Int) 0)) = some r := h
 clear h
 obtain ⟨y229, hy229⟩ : ∃ y_ : List Int, y_ = (([1, 2, 3] : List Int)) := ⟨_, rfl⟩
 replace H : (stem_Stem.l0 k a0 y229 (y229.length : Int) 0) = some r := by first | (rw [hy229]; with_reducible exact H) | (have H2_ := (Option.bind_some _ _).symm.trans H; rw [hy229]; with_reducible exact H2_) | (have H2_ := (Option.bind_some _ _).symm.trans H; with_reducible exact H2_) | with_reducible exact H | (rw [hy229]; exact H) | exact H
 have Ny229 := Aside0.mk hy229
 clear hy229
 have H' := Aside0.mk H
 clear H
 go_enter Tryz.func48, Tryz.ntmps48
 go_wp2_with (first | ((with_reducible refine gate_dst (N := 5) rfl ?_); refine Kd.R_lit (Kd.int .i64) _ 3 ?hg (N := 5) ?hd (xs := ([1, 2, 3] : List Int)) (inner := [.int .i64 1, .int .i64 2, .int .i64 3]) (ok := fun _ => True) (okp := fun _ => True) ?hr ?hp (fun _ hk => hk) trivial (Below.refl _ _) (Nat.le_refl _) (by simp) ?_; (case hd => rfl); (case hg => rfl); (case hr => first | (go_simp; done) | (go_simp; rfl)); (case hp => exact (Reps.one (show Kd.M (Kd.int .i64) _ _ _ 1 [.int .i64 1] from rfl) (Reps.one (show Kd.M (Kd.int .i64) _ _ _ 2 [.int .i64 2] from rfl) (Reps.one (show Kd.M (Kd.int .i64) _ _ _ 3 [.int .i64 3] from rfl) (Reps.none _ _))))); intro v230 w2 ho3 hb hg_ hnew_; clear hg_ hnew_; (first | rw [← Ny229.out] at ho3 | (simp only [Int.reduceToNat] at ho3; rw [← Ny229.out] at ho3)); have n0_ := Aside0.mk (Kd.R_lower ho3 (below_size (bb_ HB.out))); have n1_ := Aside0.mk (below_step (bb_ HB.out) hb); clear HB; have HO231 := n0_; have HB := n1_; clear n0_ n1_; clear hb ho3; obtain ⟨Ao4, co4, eo4⟩ := Kd.R_slice HO231.out; subst eo4))
 go_loopg [0, 7] k (fun kq v0 v7 w' => ∃ (x0_1 : ByteArray) (x7_1 : Int), v0 = .string x0_1 ∧ v7 = .int .i64 x7_1 ∧ Aside0 (stem_Stem.l0 kq x0_1 y229 (y229.length : Int) x7_1 = some r) ∧ Aside0 (kq ≤ k) ∧ Aside0 (Kd.R (Kd.int .i64) 3 w' w.heap.size (fun _ => True) (.slice Ao4 y229.length co4) y229) ∧ Aside0 (Below w.heap.size w w'))
 case atStart => exact ⟨(a0), (0), rs_, rs_, H', ⟨Nat.le_refl _⟩, ⟨kr_ HO231.out⟩, ⟨bb_ HB.out⟩⟩
 case round =>
  clear H'
  try clear p2
  try clear c4
  obtain ⟨x0_1, x7_1, rfl, rfl, HA, HK1, HO_5, HB⟩ := hrel
  cases gk with
  | zero => exact absurd HA.out (by simp [stem_Stem.l0])
  | succ k1 =>
   have H := HA.out
   clear HA
   simp only [stem_Stem.l0] at H
   by_cases c5 : x7_1 < (y229.length : Int)
   ·rw [if_pos c5] at H
    have c5b0 : decide (x7_1 < (y229.length : Int)) = true := decide_eq_true c5
    clear c5
    by_cases c6 : 0 ≤ x7_1
    ·rw [if_pos c6] at H
     have c6b0 : decide (0 ≤ x7_1) = true := decide_eq_true c6
     clear c6
     by_cases c7 : x7_1 < (y229.length : Int)
     ·rw [if_pos c7] at H
      have c7b0 : decide (x7_1 < (y229.length : Int)) = true := decide_eq_true c7
      clear c7
      replace H := Option.bind_eq_some_iff.mp H
      obtain ⟨t233, A80, H⟩ := H
      replace H : (if t233 = true then (if (rd y229 x7_1) = 1 then ((stem_plural.f x0_1).bind fun t234 => (stem_Stem.l0 k1 t234 y229 (y229.length : Int) (wrap64 (x7_1 + 1)))) else (if (rd y229 x7_1) = 2 then ((stem_past.f k1 x0_1).bind fun t235 => (stem_Stem.l0 k1 t235 y229 (y229.length : Int) (wrap64 (x7_1 + 1)))) else ((stem_other.f x0_1).bind fun t236 => (stem_Stem.l0 k1 t236 y229 (y229.length : Int) (wrap64 (x7_1 + 1)))))) else (some x0_1)) = some r := H
      have A8 := Aside0.mk A80
      clear A80
      by_cases c9 : t233 = true
      ·subst c9
       have H1 : (if (rd y229 x7_1) = 1 then ((stem_plural.f x0_1).bind fun t234 => (stem_Stem.l0 k1 t234 y229 (y229.length : Int) (wrap64 (x7_1 + 1)))) else (if (rd y229 x7_1) = 2 then ((stem_past.f k1 x0_1).bind fun t235 => (stem_Stem.l0 k1 t235 y229 (y229.length : Int) (wrap64 (x7_1 + 1)))) else ((stem_other.f x0_1).bind fun t236 => (stem_Stem.l0 k1 t236 y229 (y229.length : Int) (wrap64 (x7_1 + 1)))))) = some r := by rw [if_pos rfl] at H; exact H
       clear H
       have H := H1
       clear H1
       by_cases c10 : (rd y229 x7_1) = 1
       ·rw [if_pos c10] at H
        have c10b0 : ((rd y229 x7_1) == 1) = true := beq_iff_eq.mpr c10
        have c10b1 : ((rd y229 x7_1) != 1) = false := bne_eq_false_iff_eq.mpr c10
        clear c10
        replace H := Option.bind_eq_some_iff.mp H
        obtain ⟨t234, A110, H⟩ := H
        replace H : (stem_Stem.l0 k1 t234 y229 (y229.length : Int) (wrap64 (x7_1 + 1))) = some r := H
        have A11 := Aside0.mk A110
        clear A110
        have H' := Aside0.mk H
        clear H
        have p232 : 0 ≤ (x7_1 : Int) := of_decide_eq_true as_
        have q232 : x7_1 < (y229.length : Int) := of_decide_eq_true as_
        obtain ⟨ad232, e232, hx232_0⟩ := Kd.at_int (Kd.R_reads' HO_5.out).2.2 x7_1 p232 q232
        cases e232
        replace p232 := eq_true p232
        replace q232 := eq_true q232
        go_wp2_with (first | ((with_reducible refine gate_callee (f := 67) rfl ?_); refine goesL_ (some 12) rfl rfl Tryz.func67 (by kernel_rfl) rfl #[.string x0_1] rfl ar_ ?_; (with_reducible refine (stem_plain.calls x0_1 true _ A8.out).mono ?_); rintro e w12 ⟨rfl, hb⟩; refine ⟨_, rfl, ?_⟩; have n0_ := Aside0.mk (Kd.R_below (kr_ HO_5.out) hb); have n1_ := Aside0.mk (below_step (bb_ HB.out) hb); clear HO_5; clear HB; have HO_5 := n0_; have HB := n1_; clear n0_ n1_; (try clear hb); (try clear hb2); (try clear hk); (try clear hi)) | ((with_reducible refine gate_callee (f := 68) rfl ?_); refine goesL_ (some 21) rfl rfl Tryz.func68 (by kernel_rfl) rfl #[.string x0_1] rfl ar_ ?_; (with_reducible refine (stem_plural.calls x0_1 t234 _ A11.out).mono ?_); rintro e w' ⟨rfl, ⟨nd, rfl⟩⟩; refine ⟨_, rfl, ?_⟩))
        go_roundg k1
        case measure => have := HK1.out; omega
        case rel => exact ⟨(t234), (wrap64 (x7_1 + 1)), rs_, rs_, H', ⟨by have := HK1.out; omega⟩, ⟨kr_ HO_5.out⟩, ⟨bb_ HB.out⟩⟩
       ·rw [if_neg c10] at H
        have c10b0 : ((rd y229 x7_1) == 1) = false := beq_eq_false_iff_ne.mpr c10
        have c10b1 : ((rd y229 x7_1) != 1) = true := bne_iff_ne.mpr c10
        by_cases c13 : (rd y229 x7_1) = 2
        ·rw [if_pos c13] at H
         have c13b0 : ((rd y229 x7_1) == 2) = true := beq_iff_eq.mpr c13
         have c13b1 : ((rd y229 x7_1) != 2) = false := bne_eq_false_iff_eq.mpr c13
         clear c13
         replace H := Option.bind_eq_some_iff.mp H
         obtain ⟨t235, A140, H⟩ := H
         replace H : (stem_Stem.l0 k1 t235 y229 (y229.length : Int) (wrap64 (x7_1 + 1))) = some r := H
         have A14 := Aside0.mk A140
         clear A140
         have H' := Aside0.mk H
         clear H
         have p232 : 0 ≤ (x7_1 : Int) := of_decide_eq_true as_
         have q232 : x7_1 < (y229.length : Int) := of_decide_eq_true as_
         obtain ⟨ad232, e232, hx232_0⟩ := Kd.at_int (Kd.R_reads' HO_5.out).2.2 x7_1 p232 q232
         cases e232
         replace p232 := eq_true p232
         replace q232 := eq_true q232
         go_wp2_with (first | ((with_reducible refine gate_callee (f := 67) rfl ?_); refine goesL_ (some 12) rfl rfl Tryz.func67 (by kernel_rfl) rfl #[.string x0_1] rfl ar_ ?_; (with_reducible refine (stem_plain.calls x0_1 true _ A8.out).mono ?_); rintro e w15 ⟨rfl, hb⟩; refine ⟨_, rfl, ?_⟩; have n0_ := Aside0.mk (Kd.R_below (kr_ HO_5.out) hb); have n1_ := Aside0.mk (below_step (bb_ HB.out) hb); clear HO_5; clear HB; have HO_5 := n0_; have HB := n1_; clear n0_ n1_; (try clear hb); (try clear hb2); (try clear hk); (try clear hi)) | ((with_reducible refine gate_callee (f := 69) rfl ?_); refine goesL_ (some 25) rfl rfl Tryz.func69 (by kernel_rfl) rfl #[.string x0_1] rfl ar_ ?_; (with_reducible refine (stem_past.calls k1 x0_1 t235 _ A14.out).mono ?_); rintro e w16 ⟨rfl, hb⟩; refine ⟨_, rfl, ?_⟩; have n0_ := Aside0.mk (Kd.R_below (kr_ HO_5.out) hb); have n1_ := Aside0.mk (below_step (bb_ HB.out) hb); clear HO_5; clear HB; have HO_5 := n0_; have HB := n1_; clear n0_ n1_; (try clear hb); (try clear hb2); (try clear hk); (try clear hi)))
         go_roundg k1
         case measure => have := HK1.out; omega
         case rel => exact ⟨(t235), (wrap64 (x7_1 + 1)), rs_, rs_, H', ⟨by have := HK1.out; omega⟩, ⟨kr_ HO_5.out⟩, ⟨bb_ HB.out⟩⟩
        ·rw [if_neg c13] at H
         have c13b0 : ((rd y229 x7_1) == 2) = false := beq_eq_false_iff_ne.mpr c13
         have c13b1 : ((rd y229 x7_1) != 2) = true := bne_iff_ne.mpr c13
         replace H := Option.bind_eq_some_iff.mp H
         obtain ⟨t236, A170, H⟩ := H
         replace H : (stem_Stem.l0 k1 t236 y229 (y229.length : Int) (wrap64 (x7_1 + 1))) = some r := H
         have A17 := Aside0.mk A170
         clear A170
         have H' := Aside0.mk H
         clear H
         have p232 : 0 ≤ (x7_1 : Int) := of_decide_eq_true as_
         have q232 : x7_1 < (y229.length : Int) := of_decide_eq_true as_
         obtain ⟨ad232, e232, hx232_0⟩ := Kd.at_int (Kd.R_reads' HO_5.out).2.2 x7_1 p232 q232
         cases e232
         replace p232 := eq_true p232
         replace q232 := eq_true q232
         go_wp2_with (first | ((with_reducible refine gate_callee (f := 67) rfl ?_); refine goesL_ (some 12) rfl rfl Tryz.func67 (by kernel_rfl) rfl #[.string x0_1] rfl ar_ ?_; (with_reducible refine (stem_plain.calls x0_1 true _ A8.out).mono ?_); rintro e w18 ⟨rfl, hb⟩; refine ⟨_, rfl, ?_⟩; have n0_ := Aside0.mk (Kd.R_below (kr_ HO_5.out) hb); have n1_ := Aside0.mk (below_step (bb_ HB.out) hb); clear HO_5; clear HB; have HO_5 := n0_; have HB := n1_; clear n0_ n1_; (try clear hb); (try clear hb2); (try clear hk); (try clear hi)) | ((with_reducible refine gate_callee (f := 70) rfl ?_); refine goesL_ (some 17) rfl rfl Tryz.func70 (by kernel_rfl) rfl #[.string x0_1] rfl ar_ ?_; (with_reducible refine (stem_other.calls x0_1 t236 _ (by first | exact hG | exact GL.drewN hG _ | exact GL.below hG (bb_ HB.out)) A17.out).mono ?_); rintro e w19 ⟨rfl, hb⟩; refine ⟨_, rfl, ?_⟩; have n0_ := Aside0.mk (Kd.R_below (kr_ HO_5.out) hb); have n1_ := Aside0.mk (below_step (bb_ HB.out) hb); clear HO_5; clear HB; have HO_5 := n0_; have HB := n1_; clear n0_ n1_; (try clear hb); (try clear hb2); (try clear hk); (try clear hi)))
         go_roundg k1
         case measure => have := HK1.out; omega
         case rel => exact ⟨(t236), (wrap64 (x7_1 + 1)), rs_, rs_, H', ⟨by have := HK1.out; omega⟩, ⟨kr_ HO_5.out⟩, ⟨bb_ HB.out⟩⟩
      ·replace c9 := Bool.eq_false_iff.mpr c9
       subst c9
       have H1 : (some x0_1) = some r := by rw [if_neg (show ¬ (false = true) by decide)] at H; exact H
       clear H
       have H := H1
       clear H1
       obtain rfl := Option.some.inj H
       have p232 : 0 ≤ (x7_1 : Int) := of_decide_eq_true as_
       have q232 : x7_1 < (y229.length : Int) := of_decide_eq_true as_
       obtain ⟨ad232, e232, hx232_0⟩ := Kd.at_int (Kd.R_reads' HO_5.out).2.2 x7_1 p232 q232
       cases e232
       replace p232 := eq_true p232
       replace q232 := eq_true q232
       go_wp2_with (first | ((with_reducible refine gate_callee (f := 67) rfl ?_); refine goesL_ (some 12) rfl rfl Tryz.func67 (by kernel_rfl) rfl #[.string x0_1] rfl ar_ ?_; (with_reducible refine (stem_plain.calls x0_1 false _ A8.out).mono ?_); rintro e w20 ⟨rfl, hb⟩; refine ⟨_, rfl, ?_⟩; have n0_ := Aside0.mk (Kd.R_below (kr_ HO_5.out) hb); have n1_ := Aside0.mk (below_step (bb_ HB.out) hb); clear HO_5; clear HB; have HO_5 := n0_; have HB := n1_; clear n0_ n1_; (try clear hb); (try clear hb2); (try clear hk); (try clear hi)))
       go_ret
       exact ⟨by first | rfl | (simp [errW_none, errW_some] <;> rfl) | (simp [*, errW_none, errW_some] <;> rfl), bb_ HB.out⟩
     ·rw [if_neg c7] at H
      exact absurd H (by simp)
    ·rw [if_neg c6] at H
     exact absurd H (by simp)
   ·rw [if_neg c5] at H
    have c5b0 : decide (x7_1 < (y229.length : Int)) = false := decide_eq_false c5
    clear c5
    obtain rfl := Option.some.inj H
    go_wp2
    go_ret
    exact ⟨by first | rfl | (simp [errW_none, errW_some] <;> rfl) | (simp [*, errW_none, errW_some] <;> rfl), bb_ HB.out⟩
def terms_Text.l0 : Nat → List (S40) → List (S40) → Int → Int → Option ((List (S40)))
 | 0, _, _, _, _ => none
 | k + 1, x3, x7, x8, x9 => if x9 < x8 then (if 0 ≤ x9 then (if x9 < (x7.length : Int) then ((stem_Stop.f ((rd_T40 x7 x9).f0)).bind fun t242 => (if t242 = true then (terms_Text.l0 k x3 x7 x8 (wrap64 (x9 + 1))) else ((stem_Stem.f k ((rd_T40 x7 x9).f0)).bind fun t243 => (if x3.length < 5864062014805 then (terms_Text.l0 k (x3 ++ [(⟨t243, (rd_T40 x7 x9).f1⟩ : S40)]) x7 x8 (wrap64 (x9 + 1))) else (none))))) else (none)) else (none)) else (some x3)
def terms_Text.f (k : Nat) (a0 : ByteArray) : Option ((List (S40))) := (token_Words.f k a0).bind fun t237 => (terms_Text.l0 k ([] : List (S40)) t237 (t237.length : Int) 0)
theorem terms_Text.mono_l : ∀ k, (∀ y0 y1 y2 y3, LeO (terms_Text.l0 k y0 y1 y2 y3) (terms_Text.l0 (k + 1) y0 y1 y2 y3))
 | 0 => fun _ _ _ _ r h => by simp [terms_Text.l0] at h
 | k + 1 => by
  have ih0 := terms_Text.mono_l k
  ·intro y0 y1 y2 y3
   unfold terms_Text.l0
   repeat' first
   | (with_reducible exact ih0 _ _ _ _)
   | (with_reducible exact stem_Stem.mono _ _)
   | (with_reducible exact token_Words.mono _ _)
   | (with_reducible exact LeO.refl _)
   | (with_reducible exact LeO.none _)
   | (with_reducible refine LeO.ite ?_ ?_)
   | (with_reducible refine LeO.bind ?_ (fun _ => ?_))
   | exact ih0 _ _ _ _
   | exact stem_Stem.mono _ _
   | exact token_Words.mono _ _
   | exact LeO.none _
   | refine LeO.ite ?_ ?_
   | refine LeO.bind ?_ (fun _ => ?_)
theorem terms_Text.mono : ∀ a0 k, LeO (terms_Text.f k a0) (terms_Text.f (k + 1) a0) := by
 intro a0 k
 have ih0 := terms_Text.mono_l k
 unfold terms_Text.f
 repeat' first
   | (with_reducible exact ih0 _ _ _ _)
   | (with_reducible exact stem_Stem.mono _ _)
   | (with_reducible exact token_Words.mono _ _)
   | (with_reducible exact LeO.refl _)
   | (with_reducible exact LeO.none _)
   | (with_reducible refine LeO.ite ?_ ?_)
   | (with_reducible refine LeO.bind ?_ (fun _ => ?_))
   | exact ih0 _ _ _ _
   | exact stem_Stem.mono _ _
   | exact token_Words.mono _ _
   | exact LeO.none _
   | refine LeO.ite ?_ ?_
   | refine LeO.bind ?_ (fun _ => ?_)
def terms_Text.T6 : Bool × List (List Nat × List Nat) := (true, [([], []), ([], []), ([1], [1]), ([2], [2]), ([], []), ([4], [4]), ([3, 5], [3, 5]), ([6], [6]), ([0, 7, 3], [0, 7]), ([8, 8, 0, 1, 2, 3, 4, 5, 6, 7, 8], [0, 8])])
def terms_Text.B6 : List Nat := [0, 0, 2, 6, 0, 16, 62, 126, 255, 511]
theorem terms_Text.tab6 : rtab .any (opsOf Tryz.f27 6) = terms_Text.T6 := by kernel_rfl
theorem terms_Text.bits6 : waitsOk terms_Text.T6.2 terms_Text.B6 = true := by kernel_rfl
set_option maxHeartbeats 8000000 in
set_option maxRecDepth 100000 in
theorem terms_Text.calls (k : Nat) (a0 : ByteArray) (r : List (S40)) (w : World) (hG : GL w) (h : terms_Text.f k a0 = some r) :
  Calls Tryz.prog 27 #[.string a0] w fun e w' => ∃ v0_ : Value, e = .returned (v0_) ∧ Kd.R k40 40 w' w.heap.size (fun _ => True) v0_ r ∧ Below w.heap.size w w' := by
 have hu40 := Tryz.underlying40
 have HB := Aside0.mk (Below.refl w.heap.size w)
 have H : ((token_Words.f k a0).bind fun t237 => (terms_Text.l0 k ([] : List (S40)) t237 (t237.length : Int) 0)) = some r := h
 clear h
 replace H := Option.bind_eq_some_iff.mp H
 obtain ⟨t237, A20, H⟩ := H
 replace H : (terms_Text.l0 k ([] : List (S40)) t237 (t237.length : Int) 0) = some r := H
 have A2 := Aside0.mk A20
 clear A20
 have H' := Aside0.mk H
 clear H
 go_enter Tryz.func27, Tryz.ntmps27
 go_wp2_with (first | ((with_reducible refine gate_callee (f := 46) rfl ?_); refine goesL_ (some 7) rfl rfl Tryz.func46 (by kernel_rfl) rfl #[.string a0] rfl ar_ ?_; (with_reducible refine (token_Words.calls k a0 t237 _ (by first | exact hG | exact GL.drewN hG _ | exact GL.below hG (bb_ HB.out)) A2.out).mono ?_); rintro e w3 ⟨v238, rfl, ho0, hb⟩; refine ⟨_, rfl, ?_⟩; have n0_ := Aside0.mk (Kd.R_lower ho0 (below_size (bb_ HB.out))); have n1_ := Aside0.mk (below_step (bb_ HB.out) hb); clear HB; have HO239 := n0_; have HB := n1_; clear n0_ n1_; (try clear hb); (try clear hb2); (try clear hk); (try clear hi); (try clear ho0); obtain ⟨Ao4, co4, eo4⟩ := Kd.R_slice HO239.out; subst eo4))
 go_loopg [3, 9] k (fun kq v3 v9 w' => ∃ (x3_1 : List (S40)) (x9_1 : Int), v9 = .int .i64 x9_1 ∧ Aside0 (terms_Text.l0 kq x3_1 t237 (t237.length : Int) x9_1 = some r) ∧ Aside0 (kq ≤ k) ∧ Aside0 (Kd.R k40 40 w' w.heap.size (fun k_ => some k_ ≠ ((.slice Ao4 t237.length co4) : Value).ownBlock) v3 x3_1) ∧ Aside0 (Kd.R k40 40 w' w.heap.size (fun k_ => some k_ ≠ (v3 : Value).ownBlock) (.slice Ao4 t237.length co4) t237) ∧ Aside0 (Below w.heap.size w w'))
 case atStart => exact ⟨(([] : List (S40))), (0), rs_, H', ⟨Nat.le_refl _⟩, ⟨by first | exact Kd.R_nil _ _ _ _ _ | exact Kd.N_nil _ _ _ _ _ | exact Kd.V_nil _ _ _ _ _ | exact Kd.Q_nil _ _ _ _ _ | exact Kd.S_nil _ _ _ _ _⟩, ⟨by (with_reducible repeat (first | apply Kd.R_alloc | apply Kd.R_drewN | apply Kd.R_drew)); exact Kd.R_mono HO239.out (fun _ hk => (by simp [Value.ownBlock]))⟩, ⟨bb_ HB.out⟩⟩
 case round =>
  clear H'
  try clear c2
  try clear p2
  try clear c4
  obtain ⟨x3_1, x9_1, rfl, HA, HK1, HO_3, HO_7, HB⟩ := hrel
  cases gk with
  | zero => exact absurd HA.out (by simp [terms_Text.l0])
  | succ k1 =>
   have H := HA.out
   clear HA
   simp only [terms_Text.l0] at H
   by_cases c5 : x9_1 < (t237.length : Int)
   ·rw [if_pos c5] at H
    have c5b0 : decide (x9_1 < (t237.length : Int)) = true := decide_eq_true c5
    clear c5
    by_cases c6 : 0 ≤ x9_1
    ·rw [if_pos c6] at H
     have c6b0 : decide (0 ≤ x9_1) = true := decide_eq_true c6
     clear c6
     by_cases c7 : x9_1 < (t237.length : Int)
     ·rw [if_pos c7] at H
      have c7b0 : decide (x9_1 < (t237.length : Int)) = true := decide_eq_true c7
      clear c7
      replace H := Option.bind_eq_some_iff.mp H
      obtain ⟨t242, A80, H⟩ := H
      replace H : (if t242 = true then (terms_Text.l0 k1 x3_1 t237 (t237.length : Int) (wrap64 (x9_1 + 1))) else ((stem_Stem.f k1 ((rd_T40 t237 x9_1).f0)).bind fun t243 => (if x3_1.length < 5864062014805 then (terms_Text.l0 k1 (x3_1 ++ [(⟨t243, (rd_T40 t237 x9_1).f1⟩ : S40)]) t237 (t237.length : Int) (wrap64 (x9_1 + 1))) else (none)))) = some r := H
      have A8 := Aside0.mk A80
      clear A80
      by_cases c9 : t242 = true
      ·subst c9
       have H1 : (terms_Text.l0 k1 x3_1 t237 (t237.length : Int) (wrap64 (x9_1 + 1))) = some r := by rw [if_pos rfl] at H; exact H
       clear H
       have H := H1
       clear H1
       have H' := Aside0.mk H
       clear H
       have p240 : 0 ≤ (x9_1 : Int) := of_decide_eq_true as_
       have q240 : x9_1 < (t237.length : Int) := of_decide_eq_true as_
       obtain ⟨ad240, e240, hx240_0, hx240_1⟩ := at_T40 (Kd.R_reads' HO_7.out).2.2 x9_1 p240 q240
       cases e240
       replace p240 := eq_true p240
       replace q240 := eq_true q240
       go_wp2_with (first | ((with_reducible refine gate_dst (N := 5) rfl ?_); refine box_event ?hg (N := 5) ?hd (cs := #[.string (⟨#[]⟩ : ByteArray), .int .i64 0]) (t := 40) ?hr ?_; (case hd => rfl); (case hg => rfl); (case hr => first | (go_simp; done) | (go_simp; rfl)); intro gb241 hg w10 hbox hb; have n0_ := Aside0.mk (Kd.R_below (Kd.R_elderB (kr_ HO_3.out) gb241 (Nat.le_of_eq hg.symm)) hb); have n1_ := Aside0.mk (Kd.R_below (Kd.R_elderB (kr_ HO_7.out) gb241 (Nat.le_of_eq hg.symm)) hb); have n2_ := Aside0.mk (below_step (bb_ HB.out) hb); have n3_ := Aside0.mk (hbox); have n4_ := Aside0.mk ((by rw [hg]; exact (below_size (bb_ HB.out)) : w.heap.size ≤ gb241)); have n5_ := Aside0.mk ((by rw [hg]; exact (below_size (bb_ HB.out)) : w.heap.size ≤ gb241)); clear HO_3; clear HO_7; clear HB; have HO_3 := n0_; have HO_7 := n1_; have HB := n2_; have BK241 := n3_; have GW241 := n4_; have GE241 := n5_; clear n0_ n1_ n2_ n3_ n4_ n5_; clear hb hbox hg; have hcz11_0 : w10.cell? ⟨gb241, 0, none⟩ = some (.string (⟨#[]⟩ : ByteArray)) := (blk_cell BK241.out 0).trans rfl; have hcz11_1 : w10.cell? ⟨gb241, 1, none⟩ = some (.int .i64 0) := (blk_cell BK241.out 1).trans rfl; have hfz11_0 := blk_frozen BK241.out 0; have hfz11_1 := blk_frozen BK241.out 1) | ((with_reducible refine gate_callee (f := 47) rfl ?_); refine goesL_ (some 15) rfl rfl Tryz.func47 (by kernel_rfl) rfl #[.string ((rd_T40 t237 x9_1).f0)] rfl ar_ ?_; (with_reducible refine (stem_Stop.calls ((rd_T40 t237 x9_1).f0) true _ (by first | exact hG | exact GL.drewN hG _ | exact GL.below hG (bb1_ HB.out GE241.out)) A8.out).mono ?_); rintro e w' ⟨rfl, ⟨nd, rfl⟩⟩; refine ⟨_, rfl, ?_⟩))
       go_roundg k1
       case measure => have := HK1.out; omega
       case rel => exact ⟨(x3_1), (wrap64 (x9_1 + 1)), rs_, H', ⟨by have := HK1.out; omega⟩, ⟨by (with_reducible repeat (first | apply Kd.R_alloc | apply Kd.R_drewN | apply Kd.R_drew)); exact Kd.R_mono (Kd.R_far (p := ⟨gb241, 1, none⟩) (Kd.R_far (p := ⟨gb241, 0, none⟩) (Kd.R_mono HO_3.out (fun k_ hk => (⟨hk, hk.2⟩ : _ ∧ k_ ≠ gb241))) (fun _ hk => hk.2) (.string ((rd_T40 t237 x9_1).f0))) (fun _ hk => hk.2) (.int .i64 ((rd_T40 t237 x9_1).f1))) (fun _ hk => hk.1.1)⟩, ⟨by (with_reducible repeat (first | apply Kd.R_alloc | apply Kd.R_drewN | apply Kd.R_drew)); exact Kd.R_mono (Kd.R_far (p := ⟨gb241, 1, none⟩) (Kd.R_far (p := ⟨gb241, 0, none⟩) (Kd.R_mono HO_7.out (fun k_ hk => (⟨hk, hk.2⟩ : _ ∧ k_ ≠ gb241))) (fun _ hk => hk.2) (.string ((rd_T40 t237 x9_1).f0))) (fun _ hk => hk.2) (.int .i64 ((rd_T40 t237 x9_1).f1))) (fun _ hk => hk.1.1)⟩, ⟨bb1_ HB.out GE241.out⟩⟩
      ·replace c9 := Bool.eq_false_iff.mpr c9
       subst c9
       have H1 : ((stem_Stem.f k1 ((rd_T40 t237 x9_1).f0)).bind fun t243 => (if x3_1.length < 5864062014805 then (terms_Text.l0 k1 (x3_1 ++ [(⟨t243, (rd_T40 t237 x9_1).f1⟩ : S40)]) t237 (t237.length : Int) (wrap64 (x9_1 + 1))) else (none))) = some r := by rw [if_neg (show ¬ (false = true) by decide)] at H; exact H
       clear H
       have H := H1
       clear H1
       replace H := Option.bind_eq_some_iff.mp H
       obtain ⟨t243, A120, H⟩ := H
       replace H : (if x3_1.length < 5864062014805 then (terms_Text.l0 k1 (x3_1 ++ [(⟨t243, (rd_T40 t237 x9_1).f1⟩ : S40)]) t237 (t237.length : Int) (wrap64 (x9_1 + 1))) else (none)) = some r := H
       have A12 := Aside0.mk A120
       clear A120
       by_cases c13 : x3_1.length < 5864062014805
       ·rw [if_pos c13] at H
        have LMc13 := Aside0.mk c13
        clear c13
        obtain ⟨y244, hy244⟩ : ∃ y_ : List (S40), y_ = (x3_1 ++ [(⟨t243, (rd_T40 t237 x9_1).f1⟩ : S40)]) := ⟨_, rfl⟩
        replace H : (terms_Text.l0 k1 y244 t237 (t237.length : Int) (wrap64 (x9_1 + 1))) = some r := by first | (rw [hy244]; with_reducible exact H) | (have H2_ := (Option.bind_some _ _).symm.trans H; rw [hy244]; with_reducible exact H2_) | (have H2_ := (Option.bind_some _ _).symm.trans H; with_reducible exact H2_) | with_reducible exact H | (rw [hy244]; exact H) | exact H
        have Ny244 := Aside0.mk hy244
        clear hy244
        have H' := Aside0.mk H
        clear H
        have p240 : 0 ≤ (x9_1 : Int) := of_decide_eq_true as_
        have q240 : x9_1 < (t237.length : Int) := of_decide_eq_true as_
        obtain ⟨ad240, e240, hx240_0, hx240_1⟩ := at_T40 (Kd.R_reads' HO_7.out).2.2 x9_1 p240 q240
        cases e240
        replace p240 := eq_true p240
        replace q240 := eq_true q240
        try go_wp2_with (first | ((with_reducible refine gate_dst (N := 5) rfl ?_); refine box_event ?hg (N := 5) ?hd (cs := #[.string (⟨#[]⟩ : ByteArray), .int .i64 0]) (t := 40) ?hr ?_; (case hd => rfl); (case hg => rfl); (case hr => first | (go_simp; done) | (go_simp; rfl)); intro gb241 hg w14 hbox hb; have n0_ := Aside0.mk (Kd.R_below (Kd.R_elderB (kr_ HO_3.out) gb241 (Nat.le_of_eq hg.symm)) hb); have n1_ := Aside0.mk (Kd.R_below (Kd.R_elderB (kr_ HO_7.out) gb241 (Nat.le_of_eq hg.symm)) hb); have n2_ := Aside0.mk (below_step (bb_ HB.out) hb); have n3_ := Aside0.mk (hbox); have n4_ := Aside0.mk ((by rw [hg]; exact (below_size (bb_ HB.out)) : w.heap.size ≤ gb241)); have n5_ := Aside0.mk ((by rw [hg]; exact (below_size (bb_ HB.out)) : w.heap.size ≤ gb241)); clear HO_3; clear HO_7; clear HB; have HO_3 := n0_; have HO_7 := n1_; have HB := n2_; have BK241 := n3_; have GW241 := n4_; have GE241 := n5_; clear n0_ n1_ n2_ n3_ n4_ n5_; clear hb hbox hg; have hcz15_0 : w14.cell? ⟨gb241, 0, none⟩ = some (.string (⟨#[]⟩ : ByteArray)) := (blk_cell BK241.out 0).trans rfl; have hcz15_1 : w14.cell? ⟨gb241, 1, none⟩ = some (.int .i64 0) := (blk_cell BK241.out 1).trans rfl; have hfz15_0 := blk_frozen BK241.out 0; have hfz15_1 := blk_frozen BK241.out 1) | ((with_reducible refine gate_callee (f := 47) rfl ?_); refine goesL_ (some 15) rfl rfl Tryz.func47 (by kernel_rfl) rfl #[.string ((rd_T40 t237 x9_1).f0)] rfl ar_ ?_; (with_reducible refine (stem_Stop.calls ((rd_T40 t237 x9_1).f0) false _ (by first | exact hG | exact GL.drewN hG _ | exact GL.below hG (bb1_ HB.out GE241.out)) A8.out).mono ?_); rintro e w' ⟨rfl, ⟨nd, rfl⟩⟩; refine ⟨_, rfl, ?_⟩))
        have n0_ : Aside0 (Kd.R k40 40 ((w14.setCell ⟨gb241, 0, none⟩ (.string ((rd_T40 t237 x9_1).f0))).setCell ⟨gb241, 1, none⟩ (.int .i64 ((rd_T40 t237 x9_1).f1))) w.heap.size (fun k_ => some k_ ≠ (.slice (some ad240) t237.length co4 : Value).ownBlock ∧ k_ ≠ gb241) u3 x3_1) := ⟨by (with_reducible repeat (first | apply Kd.R_alloc | apply Kd.R_drewN | apply Kd.R_drew)); exact Kd.R_mono (Kd.R_far (p := ⟨gb241, 1, none⟩) (Kd.R_far (p := ⟨gb241, 0, none⟩) (Kd.R_mono HO_3.out (fun k_ hk => (⟨hk, hk.2⟩ : _ ∧ k_ ≠ gb241))) (fun _ hk => hk.2) (.string ((rd_T40 t237 x9_1).f0))) (fun _ hk => hk.2) (.int .i64 ((rd_T40 t237 x9_1).f1))) (fun _ hk => ⟨hk.1.1, hk.1.2⟩)⟩
        have n1_ : Aside0 (Kd.R k40 40 ((w14.setCell ⟨gb241, 0, none⟩ (.string ((rd_T40 t237 x9_1).f0))).setCell ⟨gb241, 1, none⟩ (.int .i64 ((rd_T40 t237 x9_1).f1))) w.heap.size (fun k_ => some k_ ≠ (u3 : Value).ownBlock ∧ k_ ≠ gb241) (.slice (some ad240) t237.length co4) t237) := ⟨by (with_reducible repeat (first | apply Kd.R_alloc | apply Kd.R_drewN | apply Kd.R_drew)); exact Kd.R_mono (Kd.R_far (p := ⟨gb241, 1, none⟩) (Kd.R_far (p := ⟨gb241, 0, none⟩) (Kd.R_mono HO_7.out (fun k_ hk => (⟨hk, hk.2⟩ : _ ∧ k_ ≠ gb241))) (fun _ hk => hk.2) (.string ((rd_T40 t237 x9_1).f0))) (fun _ hk => hk.2) (.int .i64 ((rd_T40 t237 x9_1).f1))) (fun _ hk => ⟨hk.1.1, hk.1.2⟩)⟩
        have n2_ : Aside0 (((w14.setCell ⟨gb241, 0, none⟩ (.string ((rd_T40 t237 x9_1).f0))).setCell ⟨gb241, 1, none⟩ (.int .i64 ((rd_T40 t237 x9_1).f1))).heap[gb241]? = some (.cells #[.string ((rd_T40 t237 x9_1).f0), .int .i64 ((rd_T40 t237 x9_1).f1)] 40 (0, 0))) := ⟨by (with_reducible repeat (first | refine blk_drewN ?_ _ | refine blk_drew ?_ | refine blk_alloc ?_ _)); refine blk_put (cs := #[.string ((rd_T40 t237 x9_1).f0), .int .i64 0]) ?_ 1 _ rfl; (with_reducible repeat (first | refine blk_drewN ?_ _ | refine blk_drew ?_ | refine blk_alloc ?_ _)); refine blk_put (cs := #[.string (⟨#[]⟩ : ByteArray), .int .i64 0]) ?_ 0 _ rfl; (with_reducible repeat (first | refine blk_drewN ?_ _ | refine blk_drew ?_ | refine blk_alloc ?_ _)); exact BK241.out⟩
        have n3_ : Aside0 (Below w.heap.size w ((w14.setCell ⟨gb241, 0, none⟩ (.string ((rd_T40 t237 x9_1).f0))).setCell ⟨gb241, 1, none⟩ (.int .i64 ((rd_T40 t237 x9_1).f1)))) := ⟨bb1_ HB.out GE241.out⟩
        (try clear HO_3)
        (try clear HO_7)
        (try clear BK241)
        (try clear HB)
        generalize ((w14.setCell ⟨gb241, 0, none⟩ (.string ((rd_T40 t237 x9_1).f0))).setCell ⟨gb241, 1, none⟩ (.int .i64 ((rd_T40 t237 x9_1).f1))) = w16 at n0_ n1_ n2_ n3_ ⊢
        have HO_3 := n0_
        have HO_7 := n1_
        have BK241 := n2_
        have HB := n3_
        clear n0_ n1_ n2_ n3_
        (try (rw [drewN_self w16]; generalize hq_ : World.drewN w16 _ = w16; have n0_ : Aside0 (Kd.R k40 40 w16 w.heap.size (fun k_ => some k_ ≠ (.slice (some ad240) t237.length co4 : Value).ownBlock ∧ k_ ≠ gb241) u3 x3_1) := ⟨by rw [← hq_]; exact (kr_ HO_3.out)⟩; have n1_ : Aside0 (Kd.R k40 40 w16 w.heap.size (fun k_ => some k_ ≠ (u3 : Value).ownBlock ∧ k_ ≠ gb241) (.slice (some ad240) t237.length co4) t237) := ⟨by rw [← hq_]; exact (kr_ HO_7.out)⟩; have n2_ : Aside0 (w16.heap[gb241]? = some (.cells #[.string ((rd_T40 t237 x9_1).f0), .int .i64 ((rd_T40 t237 x9_1).f1)] 40 (0, 0))) := ⟨by rw [← hq_]; exact (bk_ BK241.out)⟩; have n3_ : Aside0 (Below w.heap.size w w16) := ⟨by rw [← hq_]; exact (bb1_ HB.out GE241.out)⟩; clear HO_3 HO_7 BK241 HB hq_; have HO_3 := n0_; have HO_7 := n1_; have BK241 := n2_; have HB := n3_; clear n0_ n1_ n2_ n3_))
        have n0_ := Aside0.mk (Kd.R_drew HO_3.out)
        have n1_ := Aside0.mk (Kd.R_drew HO_7.out)
        have n2_ := Aside0.mk (blk_drew BK241.out)
        have n3_ := Aside0.mk (below_drew1 HB.out)
        clear HO_3
        clear HO_7
        clear BK241
        clear HB
        have HO_3 := n0_
        have HO_7 := n1_
        have BK241 := n2_
        have HB := n3_
        clear n0_ n1_ n2_ n3_
        refine start_ (n := 10) (S := fun w' => w'.cell? ⟨gb241, 0, none⟩ = some (.string ((rd_T40 t237 x9_1).f0)) ∧ w'.cell? ⟨gb241, 1, none⟩ = some (.int .i64 ((rd_T40 t237 x9_1).f1))) (ds := []) #[false, false, false, false, false, false, false, false, false, false] (by kernel_rfl) rfl rfl ⟨(blk_cell BK241.out 0).trans rfl, (blk_cell BK241.out 1).trans rfl⟩ (fun hHeld => ?_); refine with_tabW terms_Text.tab6 terms_Text.bits6 (fun HT_ HW_ => ?_)
        generalize w16.drew = w17 at HO_3 HO_7 BK241 HB hHeld ⊢
        refine pure_ (i := 0) (N := some 17) (v := ?_) (a' := ?_) #[true, false, false, false, false, false, false, false, false, false] rfl rfl (any_of HT_.out (by kernel_rfl)) (fun _ _ _ h => h) (Or.inl ⟨by rfl, ?_⟩) ?_ ?_
        rotate_left
        ·intro w'
         go_simp
         with_reducible rfl
        rotate_left
        ·simp only [Act.put, List.setIfInBounds_toArray, List.set_cons_zero, List.set_cons_succ, i64_w, i32_w]
         rfl
        refine pure_ (i := 1) (N := some 18) (v := ?_) (a' := ?_) #[true, true, false, false, false, false, false, false, false, false] rfl rfl (any_of HT_.out (by kernel_rfl)) (fun _ _ _ h => h) (Or.inl ⟨by rfl, ?_⟩) ?_ ?_
        rotate_left
        ·intro w'
         go_simp
         with_reducible rfl
        rotate_left
        ·simp only [Act.put, List.setIfInBounds_toArray, List.set_cons_zero, List.set_cons_succ, i64_w, i32_w]
         rfl
        refine pure_ (i := 4) (N := some 21) (v := ?_) (a' := ?_) #[true, true, false, false, true, false, false, false, false, false] rfl rfl (any_of HT_.out (by kernel_rfl)) (fun _ _ _ h => h) (Or.inl ⟨by rfl, ?_⟩) ?_ ?_
        rotate_left
        ·intro w'
         go_simp
         with_reducible rfl
        rotate_left
        ·simp only [Act.put, List.setIfInBounds_toArray, List.set_cons_zero, List.set_cons_succ, i64_w, i32_w]
         rfl
        refine take_ (i := 2) (N := some 19) (v := ?_) (a' := ?_) #[true, true, true, false, true, false, false, false, false, false] rfl rfl (take_ofW HT_.out HW_.out (by kernel_rfl)) (fun _ _ _ h => h) (Or.inl ⟨by rfl, ?_⟩) hHeld ?_ ?_
        rotate_left
        ·rintro w' ⟨s0, s1⟩
         go_simp
         with_reducible rfl
        rotate_left
        ·simp only [Act.put, List.setIfInBounds_toArray, List.set_cons_zero, List.set_cons_succ, i64_w, i32_w]
         rfl
        refine take_ (i := 5) (N := some 22) (v := ?_) (a' := ?_) #[true, true, true, false, true, true, false, false, false, false] rfl rfl (take_ofW HT_.out HW_.out (by kernel_rfl)) (fun _ _ _ h => h) (Or.inl ⟨by rfl, ?_⟩) hHeld ?_ ?_
        rotate_left
        ·rintro w' ⟨s0, s1⟩
         go_simp
         with_reducible rfl
        rotate_left
        ·simp only [Act.put, List.setIfInBounds_toArray, List.set_cons_zero, List.set_cons_succ, i64_w, i32_w]
         rfl
        refine one_ (i := 3) (N := some 20) #[true, true, true, true, true, true, false, false, false, false] rfl rfl (one_of HT_.out (by kernel_rfl)) (by decide) (fun K hK => ?_)
        refine goes_ Tryz.func48 (by kernel_rfl) rfl #[.string ((rd_T40 t237 x9_1).f0)] (by rfl) rfl rfl ar_ ?_
        with_reducible refine (stem_Stem.calls k1 ((rd_T40 t237 x9_1).f0) t243 _ (by first | exact hG | exact GL.drewN hG _ | exact GL.below hG (bb1_ HB.out GE241.out)) A12.out).mono ?_
        rintro e w18 ⟨rfl, hb⟩
        refine ⟨_, rfl, ?_⟩
        have n0_ := Aside0.mk (Kd.R_below (kr_ HO_3.out) hb)
        have n1_ := Aside0.mk (Kd.R_below (kr_ HO_7.out) hb)
        have n2_ := Aside0.mk (blk_below (g := gb241) (o := .cells #[.string ((rd_T40 t237 x9_1).f0), .int .i64 ((rd_T40 t237 x9_1).f1)] 40 (0, 0)) (bk_ BK241.out) hb)
        have n3_ := Aside0.mk (below_step (bb1_ HB.out GE241.out) hb)
        clear HO_3
        clear HO_7
        clear BK241
        clear HB
        have HO_3 := n0_
        have HO_7 := n1_
        have BK241 := n2_
        have HB := n3_
        clear n0_ n1_ n2_ n3_
        (try clear hb)
        (try clear hb2)
        (try clear hk)
        (try clear hi)
        refine hK.out _ _ ⟨(blk_cell BK241.out 0).trans rfl, (blk_cell BK241.out 1).trans rfl⟩ (fun hHeld => ?_)
        clear hK K
        refine norm_ (a' := ?_) ?_ ?_
        rotate_left
        ·show Act.put _ (some 20) _ = _
         simp only [Act.put, List.setIfInBounds_toArray, List.set_cons_zero, List.set_cons_succ, i64_w, i32_w]
         rfl
        refine pure_ (i := 6) (N := some 23) (v := ?_) (a' := ?_) #[true, true, true, true, true, true, true, false, false, false] rfl rfl (any_of HT_.out (by kernel_rfl)) (fun _ _ _ h => h) (Or.inl ⟨by rfl, ?_⟩) ?_ ?_
        rotate_left
        ·intro w'
         go_simp
         with_reducible rfl
        rotate_left
        ·simp only [Act.put, List.setIfInBounds_toArray, List.set_cons_zero, List.set_cons_succ, i64_w, i32_w]
         rfl
        refine one_ (i := 7) (N := some 24) #[true, true, true, true, true, true, true, true, false, false] rfl rfl (one_of HT_.out (by kernel_rfl)) (by decide) (fun K hK => ?_)
        refine value_ (w1 := ?_) (v := ?_) (by rfl) rfl ?_ ?_
        rotate_left 2
        ·go_simp
         constructor
         ·rfl
         ·rfl
        refine hK.out _ _ ⟨(blk_cell (blk_alloc BK241.out _) 0).trans rfl, (blk_cell (blk_alloc BK241.out _) 1).trans rfl⟩ (fun hHeld => ?_)
        clear hK K
        refine norm_ (a' := ?_) ?_ ?_
        rotate_left
        ·show Act.put _ (some 24) _ = _
         simp only [Act.put, List.setIfInBounds_toArray, List.set_cons_zero, List.set_cons_succ, i64_w, i32_w]
         rfl
        refine one_ (i := 8) (N := some 25) #[true, true, true, true, true, true, true, true, true, false] rfl rfl (one_of HT_.out (by kernel_rfl)) (by decide) (fun K hK => ?_)
        refine Kd.R_append_step k40 (w0 := w) w.heap.size (by rfl) (.tmp 17) (.tmp 24) 22 40 (.agg #[(.string ⟨#[]⟩), (.int .i64 0)]) 24 rfl Tryz.underlying22 info40 rfl (by decide) (by omega) u3 x3_1 (⟨t243, (rd_T40 t237 x9_1).f1⟩ : S40) [.string t243, .int .i64 ((rd_T40 t237 x9_1).f1)] (fun k_ => some k_ ≠ (.slice (some ad240) t237.length co4 : Value).ownBlock ∧ k_ ≠ gb241) (fun _ => False) rfl rfl ?aP (fun _ hk => hk.elim) ?aF ?aO ?aB ?aS ?aL ?_
        (case aP => exact k40_mkM _ _ _ (⟨t243, (rd_T40 t237 x9_1).f1⟩ : S40))
        (case aB => exact (bb1_ HB.out GE241.out))
        (case aF => exact (fun k_ hk => ⟨Kd.fresh' (Kd.R_lt (kr_ HO_7.out)) k_ hk, Kd.freshB (g := gb241) (o := .cells #[.string ((rd_T40 t237 x9_1).f0), .int .i64 ((rd_T40 t237 x9_1).f1)] 40 (0, 0)) (bk_ BK241.out) k_ hk⟩))
        (case aO => exact (kr_ HO_3.out))
        (case aS => exact (below_size (bb1_ HB.out GE241.out)))
        (case aL => have := LMc13.out; omega)
        intro v245 w19 ho hb hg hat
        rw [← Ny244.out] at ho
        have n0_ := Aside0.mk (Kd.R_after (ok := (fun k_ => k_ ≠ gb241)) (by (with_reducible repeat (first | apply Kd.R_alloc | apply Kd.R_drewN | apply Kd.R_drew)); exact Kd.R_mono HO_7.out (fun _ hk => ⟨hk.2, hk.1⟩)) hg hat)
        have n1_ := Aside0.mk (blk_grown (g := gb241) (o := .cells #[.string ((rd_T40 t237 x9_1).f0), .int .i64 ((rd_T40 t237 x9_1).f1)] 40 (0, 0)) (bk_ BK241.out) hg (Kd.R_away HO_3.out (fun _ hk => hk.2)))
        have n2_ := Aside0.mk (hb)
        have n3_ := Aside0.mk (ho)
        clear HO_7
        clear BK241
        clear HB
        clear HO_3
        have HO_7 := n0_
        have BK241 := n1_
        have HB := n2_
        have HO246 := n3_
        clear n0_ n1_ n2_ n3_
        clear ho hb hg hat
        refine hK.out _ _ ⟨(blk_cell BK241.out 0).trans rfl, (blk_cell BK241.out 1).trans rfl⟩ (fun hHeld => ?_)
        clear hK K
        refine norm_ (a' := ?_) ?_ ?_
        rotate_left
        ·show Act.put _ (some 25) _ = _
         simp only [Act.put, List.setIfInBounds_toArray, List.set_cons_zero, List.set_cons_succ, i64_w, i32_w]
         rfl
        refine pure_ (i := 9) (N := some 3) (v := ?_) (a' := ?_) #[true, true, true, true, true, true, true, true, true, true] rfl rfl (any_of HT_.out (by kernel_rfl)) (fun _ _ _ h => h) (Or.inl ⟨by rfl, ?_⟩) ?_ ?_
        rotate_left
        ·intro w'
         go_simp
         with_reducible rfl
        rotate_left
        ·simp only [Act.put, List.setIfInBounds_toArray, List.set_cons_zero, List.set_cons_succ, i64_w, i32_w]
         rfl
        refine done_ (done_of HT_.out (by kernel_rfl)) ?_
        try go_wp2
        go_roundg k1
        case measure => have := HK1.out; omega
        case rel => exact ⟨(y244), (wrap64 (x9_1 + 1)), rs_, H', ⟨by have := HK1.out; omega⟩, ⟨by (with_reducible repeat (first | apply Kd.R_alloc | apply Kd.R_drewN | apply Kd.R_drew)); exact Kd.R_mono HO246.out (fun _ hk => hk.1)⟩, ⟨by (with_reducible repeat (first | apply Kd.R_alloc | apply Kd.R_drewN | apply Kd.R_drew)); exact Kd.R_mono HO_7.out (fun _ hk => hk.2)⟩, ⟨bb1_ HB.out GE241.out⟩⟩
       ·rw [if_neg c13] at H
        exact absurd H (by simp)
     ·rw [if_neg c7] at H
      exact absurd H (by simp)
    ·rw [if_neg c6] at H
     exact absurd H (by simp)
   ·rw [if_neg c5] at H
    have c5b0 : decide (x9_1 < (t237.length : Int)) = false := decide_eq_false c5
    clear c5
    obtain rfl := Option.some.inj H
    go_wp2
    go_ret
    exact ⟨_, by first | rfl | (simp [errW_none, errW_some] <;> rfl) | (simp [*, errW_none, errW_some] <;> rfl), by (with_reducible repeat (first | apply Kd.R_alloc | apply Kd.R_drewN | apply Kd.R_drew)); exact Kd.R_mono HO_3.out (fun _ hk => trivial), bb_ HB.out⟩
def api_Token_49.f (l0 : List S40) : Option (List S40) := if l0.length ≤ 1000000 then some l0 else none
theorem api_Token_49.nil (w : World) (a : Option Addr) (n c n' c' : Nat) : (binOp .eql 22 (.slice a n c) (.slice none n' c')).run Tryz.prog w = .ok (.bool a.isNone) w := Lib.run_eql_slice_nil w 22 40 a n c n' c' Tryz.underlying22
attribute [local go_sem high] api_Token_49.nil
set_option maxHeartbeats 4000000 in
set_option maxRecDepth 100000 in
theorem api_Token_49.calls (A0 : Option Addr) (c0 : Nat) (l0 : List S40) (r : List S40) (w : World) (hr0 : Kd.C k40 w A0 l0.length l0) (hc0 : l0.length ≤ c0) (h : api_Token_49.f l0 = some r) :
  Calls Tryz.prog 49 #[.slice A0 l0.length c0] w fun e w' => ∃ v0_ : Value, e = .returned (v0_) ∧ Kd.R k40 40 w' w.heap.size (fun _ => True) v0_ r ∧ Below w.heap.size w w' := by
 unfold api_Token_49.f at h
 split at h
 ·rename_i hl
  cases h
  cases A0 with
  | none =>
   have hn : l0 = [] := by
    have := hr0
    cases l0 with
    | nil => rfl
    | cons x t =>
     obtain ⟨ad, _, e, _⟩ := Kd.C_get hr0 x 0 (by omega) (by simp only [List.length_cons]; omega)
     cases e
   subst hn
   clear hr0 hc0 hl
   go_enter Tryz.func49, Tryz.ntmps49
   go_wp2
   go_ret
   exact ⟨_, rfl, Kd.R_nil _ _ _ _ _, Below.refl _ _⟩
  | some ad =>
   have HR := Aside0.mk hr0
   clear hr0
   go_enter Tryz.func49, Tryz.ntmps49
   have HO := Aside0.mk (show Kd.R k40 40 (w.alloc (.cells #[] 40)) w.heap.size (fun _ => True) (.slice (some ⟨w.heap.size, 0, none⟩) 0 0) ([] : List S40) from
    ⟨fun _ _ => trivial, [], by simpa using World.ownsRow_lit (base := w.heap.size) (e := 40) (size := k40.sz) w #[] 0 (Nat.le_refl _) (by decide) (by simp), Reps.none _ _⟩)
   have HR2 := Aside0.mk (Kd.C_below HR.out (below_alloc (Below.refl _ _) (.cells #[] 40)))
   have HL := Aside0.mk hl
   clear hl
   go_wp2_with ((refine Kd.R_append_rows k40 (w0 := w) w.heap.size rfl (.tmp 5) (.tmp 6) 22 40 (.agg #[.string ⟨#[]⟩, .int .i64 0]) 24 rfl Tryz.underlying22 info40 rfl (by decide) (by decide) (.slice (some ⟨w.heap.size, 0, none⟩) 0 0) [] l0 (some ad) l0.length c0 (fun _ => True) (fun k => some k ≠ (Value.slice (some ⟨w.heap.size, 0, none⟩) 0 0).ownBlock) rfl rfl HO.out HR2.out (fun x cs h => by obtain rfl := k40_open h; exact k40_mkM _ _ _ x) (fun k hk => ⟨trivial, hk⟩) (fun _ _ => trivial) (below_alloc (Below.refl _ _) _) (by simp) (by have := HL.out; simp only [List.length_nil]; omega) ?_); intro v1 w1 hr1 hb1 hg1 hat1)
   go_ret
   exact ⟨_, rfl, by simpa using hr1, hb1⟩
 ·cases h
end Go.Proofs.YtcgkmomhjincgaaGreatDoor.LibX
