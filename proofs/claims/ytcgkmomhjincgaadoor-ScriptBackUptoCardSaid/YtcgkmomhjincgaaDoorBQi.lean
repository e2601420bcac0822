/- The lines of script and their laws, part Qi: contracts by hand. -/
import Derived.Test.YtcgkmomhjincgaaDoorBLibQ0
import Derived.Test.YtcgkmomhjincgaaDoorBQh
import Derived.RangeFuncNested
import Derived.RangeFuncBound
import Derived.RangeFuncCalls
import Derived.RangeFuncLeaves
import Derived.WalkKit
import Derived.OwnWalkIn
import Derived.TacticsInMore
import Derived.LoopNIn
import Derived.LoopIn
import Derived.Shelf.RegionOpen
import Derived.IntWalk
import Derived.Lib.Hide
import Derived.Maps.AppendAt
import Derived.Lib.AppendStr
import Derived.Lib.UnsafeStr
import Derived.Lib.Builder
import Derived.Laws.Externs
import Derived.HandedShaped
import Derived.Shelf.Vars
import Derived.Deep.DeepHandedRow
import Derived.Carry
import Derived.ProofKit
import Derived.OpenShut
import Derived.ShutString
import Derived.ChangeOld
import Derived.SizedLaws
import Derived.LaidMore
import Derived.Lay
import Derived.SevenTiedAt
import Derived.Stop.Joined
namespace Go.Proofs.YtcgkmomhjincgaaDoor.LibQ.Scr
open Go.RowKit Go.Proofs.YtcgkmomhjincgaaDoor.LibQ Go.Proofs.YtcgkmomhjincgaaDoorW.PrintWords Go.Proofs.YtcgkmomhjincgaaDoorW.PrintLast Go.Proofs.YtcgkmomhjincgaaDoorW.PrintMore
set_option linter.unusedVariables false
set_option linter.unusedSimpArgs false
attribute [local go_sem] max2_int min2_int max_two min_two max_three min_three max_four min_four
attribute [local go_sem] Oper.semAt_some
set_option maxHeartbeats 16000000 in
set_option maxRecDepth 100000 in
theorem parse_short (s : ByteArray) (w : World) (hG : GL w) (hs : s.size ≤ 32768) :
    Calls Tryd.prog 31 #[.string s] w fun e w' => ∃ v, e = .returned (.tuple #[v, .int .i64 (parseGo (linesF (s.size + 1) s) [] 0).2.1, .int .i64 (parseGo (linesF (s.size + 1) s) [] 0).2.2]) ∧ Kd.S k42 42 w' w.heap.size (fun _ => True) v (parseGo (linesF (s.size + 1) s) [] 0).1 ∧ Below w.heap.size w w' := by
  have b1 : decide ((32768 : Int) < (s.size : Int)) = false := decide_eq_false (by omega)
  refine (callsIn_wide (n := 3)).1 ?_
  refine callsIn_of_wp_marks Tryd.func31 rfl trivial ?_ rfl
  simp only [Tryd.ntmps31, List.size_toArray, List.length_cons, List.length_nil, Nat.reduceAdd, Nat.reduceSub, Array.replicate_succ, Array.replicate_zero, List.push_toArray, List.append_toArray, List.nil_append, List.cons_append]
  gi_wp2_with fail
  refine ⟨trivial, ?_⟩
  refine (callsIn_wide.2 (strLines_calls s _)).mono ?_
  rintro e w' ⟨rfl, rfl⟩
  gi_wp2_with fail
  have hsz : ((((((w.alloc (.cells #[.slice none 0 0] 44)).alloc (.cells #[.int .i64 0] 3)).alloc (.cells #[.int .i64 0] 27)).alloc (.cells #[.slice none 0 0] 44)).alloc (.cells #[.int .i64 0] 3))).heap.size = w.heap.size + 5 := by simp
  simp only [hsz, Nat.add_assoc, Nat.reduceAdd]
  refine range_cell (gf := 79) (lb := #[.pointer (some ⟨w.heap.size + 5, 0, none⟩)]) (B := w.heap.size + 5) (w := W6 s w) rfl (enters_of Tryd.func79 (by kernel_rfl) rfl)
    (lines_stops _ (W6 s w) (w.heap.size + 5) s (by omega) (W6_five s w)) (by rw [W6_size]; omega) (fun h k => k.trans h) (fun W o => World.putObj_heap_other (by rw [W6_size]; omega)) (fun _ => rfl)
    (PIn w.heap.size w) (PIx w.heap.size w)
    (fun pre W o h => by obtain ⟨v, xs, h⟩ := h; rw [W6_size]; exact ⟨v, xs, h.put o⟩)
    (fun pre W o h => by obtain ⟨p, x, v, xs, h1, h2, h3, h⟩ := h; rw [W6_size]; exact ⟨p, x, v, xs, h1, h2, h3, h.put o⟩)
    (fun pre A u h => by obtain ⟨v, xs, h⟩ := h; exact ⟨v, xs, h.cell u⟩)
    (fun pre A h => by obtain ⟨v, xs, h⟩ := h; exact ⟨v, xs, h.drew⟩)
    (fun o1 o2 => ⟨_, _, PI_zero s w o1 o2⟩)
    (fun x => { tmps := #[.string s, undef, .pointer (some ⟨w.heap.size, 0, none⟩), .pointer (some ⟨w.heap.size + 1, 0, none⟩), .pointer (some ⟨w.heap.size + 2, 0, none⟩), .pointer (some ⟨w.heap.size + 3, 0, none⟩), .pointer (some ⟨w.heap.size + 4, 0, none⟩), .string x, undef, undef, .string s, .int .i64 s.size, .bool false, .string s, .func (.func 79) #[] #[.pointer (some ⟨w.heap.size + 5, 0, none⟩)], .string x, undef, undef, undef, undef, undef, undef, undef, undef, undef, undef, undef, undef, undef, undef, undef, undef, undef, undef, undef, undef, undef], defers := [] }) ?assign ?body ?done ?stop
  case assign =>
    intro x W K hK
    gi_wp2
    exact hK
  case body =>
    rintro pre x W ⟨v, xs, hI⟩ hrd hlt
    rw [W6_size] at hlt ⊢
    have HGW := Aside0.mk (hG.below hI.below)
    obtain ⟨Av, cv, ev⟩ := Kd.R_slice (Kd.S_R hI.own)
    subst ev
    have HI := Aside0.mk hI
    have hxs : x.size ≤ 32768 := by
      obtain ⟨rest, hrd⟩ := hrd
      have := linesF_mem _ s x (by rw [hrd]; simp)
      omega
    have hxy : (trimB x).size ≤ 32768 := by have := trimB_size x; omega
    have hpl : pre.length < 32768 := by
      obtain ⟨rest, hrd⟩ := hrd
      have := linesF_len (s.size + 1) s
      rw [hrd] at this
      simp only [List.length_append, List.length_cons] at this
      omega
    obtain ⟨y, hy⟩ : ∃ y, y = trimB x := ⟨_, rfl⟩
    have HT : Aside0 (Calls Tryd.prog 66 #[.string x, .string ⟨#[10]⟩] W fun e w' => e = .returned (.string y) ∧ W = w') := ⟨by rw [hy]; exact (Tryd.strings_TrimSuffix x ⟨#[10]⟩ W (by omega)).mono fun _ _ h => ⟨h.1, h.2.symm⟩⟩
    rw [← hy] at hxy
    have HY := Aside0.mk hy
    have HPL := Aside0.mk hpl
    have HXY := Aside0.mk hxy
    have HLT := Aside0.mk hlt
    clear hI hrd hxs hxy hpl hG hs b1 hsz hy hlt
    have cn : W.cell? ⟨w.heap.size + 4, 0, none⟩ = some (.int .i64 (pre.length : Int)) := (blk_cell HI.out.bn 0).trans rfl
    have fn4 : W.frozen? ⟨w.heap.size + 4, 0, none⟩ = false := blk_frozen HI.out.bn 0
    have pl : (pre.length : Int) ≤ 32768 := by have := HPL.out; omega
    gi_step
    gi_step
    gi_step
    refine region_up ?hd1 ?hq1 ?_
    case hd1 => rfl
    case hq1 => exact fun _ _ h => h
    go_wp2_with (go_at_call 66; refine HT.out.mono ?_; rintro e w' ⟨rfl, rfl⟩)
    by_cases hz : y.size = 0
    · have e1 : y.toList.isEmpty = true := empty_yes hz
      gi_wp2_with fail
      have hk := HI.out.skip (x := x) (by rw [goOn_snoc, HI.out.on, Option.bind_some, if_pos (by rw [← HY.out]; exact hz)])
      exact ⟨hk.2 _ (by omega), hk.2 _ (by omega), hk.2 _ (by omega), _, _, hk.1⟩
    · have e1 : y.toList.isEmpty = false := empty_no hz
      obtain ⟨⟨r, rb⟩, hrr⟩ : ∃ q, q = readS y := ⟨_, rfl⟩
      have HRD := Aside0.mk (show readF 400000001 y = some (r, rb) by rw [hrr]; exact read_f y (by have := HXY.out; omega) 400000001 (by omega))
      have HRR := Aside0.mk hrr
      have HZ := Aside0.mk hz
      clear hrr hz
      gi_step
      gi_step
      refine region_up ?hd2 ?hq2 ?_
      case hd2 => rfl
      case hq2 => exact fun _ _ h => h
      go_wp2_with fail
      refine wpIn_cond_true rfl ?_
      gi_step
      refine region_up ?hd3 ?hq3 ?_
      case hd3 => rfl
      case hq3 => exact fun _ _ h => h
      go_wp2_with fail
      refine (read_calls 400000001 y W r rb HGW.out (by have := HXY.out; omega) HRD.out).mono ?_
      rintro e w3 ⟨v1, rfl, hR1, hb⟩
      obtain ⟨A1, c1, ev1, hc1, hF1⟩ := Kd.R_V (base' := 0) hR1
      have HR1 := Aside0.mk hR1
      subst ev1
      have HB3 := Aside0.mk hb
      have HZ4 := Aside0.mk (show StepAt (w3.alloc (.cells (SC z42 (.slice none 0 0)) 42)) w3.heap.size z42 (.slice none 0 0) from blk_new w3 _)
      clear hR1 hb hc1 hF1
      go_wp2_with (first | ((with_reducible refine gate_store (t := 42) (p := 8) rfl ?_); refine store_event (t := 42) (p := 8) (v := .tmp 23) (w1 := putS (w3.alloc (.cells (SC z42 (.slice none 0 0)) 42)) w3.heap.size r (.slice A1 r.f9.length c1)) rfl rfl rfl (store_step HZ4.out r (.slice A1 r.f9.length c1) rfl _ _ (.tmp 8) (.tmp 23) rfl rfl rfl) ?_; intro w5 hw5; have HW5 := Aside0.mk hw5; clear hw5))
      have HC5 := Aside0.mk (show StepAt w5 w3.heap.size r (.slice A1 r.f9.length c1) by rw [HW5.out]; exact putS_at HZ4.out _ _)
      have H35 : Below w3.heap.size w3 w5 := by rw [HW5.out]; exact putS_below (below_alloc (Below.refl w3.heap.size w3) _) (Nat.le_refl _) _ _
      have HB5 := Aside0.mk (HB3.out.trans (H35.mono HB3.out.size))
      have HS5 := Aside0.mk (show w3.heap.size ≤ w5.heap.size from H35.size)
      have cl5 : w5.cell? ⟨w.heap.size + 3, 0, none⟩ = some (.slice Av xs.length cv) := (blk_cell (blk_below HI.out.bl HB5.out) 0).trans rfl
      have cn5 : w5.cell? ⟨w.heap.size + 4, 0, none⟩ = some (.int .i64 (pre.length : Int)) := (blk_cell (blk_below HI.out.bn HB5.out) 0).trans rfl
      have H35A := Aside0.mk H35
      clear H35 cn fn4
      cases rb with
      | false =>
        have c05 : w5.cell? ⟨w.heap.size, 0, none⟩ = some (.slice none 0 0) := (blk_cell (blk_below HI.out.r0 HB5.out) 0).trans rfl
        have c15 : w5.cell? ⟨w.heap.size + 1, 0, none⟩ = some (.int .i64 0) := (blk_cell (blk_below HI.out.r1 HB5.out) 0).trans rfl
        have c25 : w5.cell? ⟨w.heap.size + 2, 0, none⟩ = some (.int .i64 0) := (blk_cell (blk_below HI.out.r2 HB5.out) 0).trans rfl
        have f05 : w5.frozen? ⟨w.heap.size, 0, none⟩ = false := blk_frozen (blk_below HI.out.r0 HB5.out) 0
        have f15 : w5.frozen? ⟨w.heap.size + 1, 0, none⟩ = false := blk_frozen (blk_below HI.out.r1 HB5.out) 0
        have f25 : w5.frozen? ⟨w.heap.size + 2, 0, none⟩ = false := blk_frozen (blk_below HI.out.r2 HB5.out) 0
        gi_wp2_with fail
        have hmix : Tryd.prog.follows .mixedOrders = true := by kernel_rfl
        gi_region_with_o (fail)
        all_goals gi_wp2_with fail
        all_goals (
          have hk := HI.out.stop HB5.out (by have := HLT.out; omega) (.int .i64 (pre.length : Int)) (.int .i64 17)
          exact ⟨hk.2 _ (by omega) (by omega), hk.2 _ (by omega) (by omega), pre, x, _, xs, rfl, by rw [← HY.out]; exact HZ.out, by rw [← HY.out, ← HRR.out], hk.1⟩)
      | true =>
        have HXL := Aside0.mk (show xs.length ≤ 32768 by have h1 := goOn_len _ _ _ HI.out.on; have h2 := HPL.out; simp at h1; omega)
        have HLT8 := Aside0.mk (show w.heap.size + 8 ≤ W.heap.size by have := HLT.out; omega)
        have HSB := Aside0.mk (Kd.S_mono (ok' := fun k => k < W.heap.size) (Kd.S_bound HI.out.own) (fun k hk => hk.2.2.1))
        have HM := Aside0.mk (k42_mkM w5 (w.heap.size + 8) (fun k => some k = (.slice A1 r.f9.length c1 : Value).ownBlock) r (Kd.R_lower (Kd.R_tight rfl (R_lt HR1.out (fun q hq hl => H35A.out.block q hl))) HLT8.out))
        have HOK := Aside0.mk (show ∀ k, some k = (.slice A1 r.f9.length c1 : Value).ownBlock → True ∧ some k ≠ (.slice Av xs.length cv : Value).ownBlock from fun k hk => ⟨trivial, fun e => by
          have h1 := (Kd.R_bound HR1.out).1 k hk.symm
          have h2 := (Kd.S_R HSB.out).1 k e.symm
          have h3 := h1.2.1
          omega⟩)
        have HAO := Aside0.mk (show Kd.S k42 42 w5 (w.heap.size + 8) (fun k => True ∧ ¬ some k = (.slice A1 r.f9.length c1 : Value).ownBlock) (.slice Av xs.length cv) xs from
          S_lt (Kd.S_mono HSB.out (fun k hk => ⟨trivial, fun e => by have h1 := (Kd.R_bound HR1.out).1 k e.symm; have h3 := h1.2.1; omega⟩)) (fun q hq hl => HB5.out.block q hl))
        have HAB := Aside0.mk (show Below (w.heap.size + 8) W w5 from HB5.out.mono HLT8.out)
        have fl5 : w5.frozen? ⟨w.heap.size + 3, 0, none⟩ = false := blk_frozen (blk_below HI.out.bl HB5.out) 0
        have HAS := Aside0.mk (show w.heap.size + 8 ≤ w5.heap.size by have h1 := HLT8.out; have h2 := HB5.out.size; omega)
        gi_step
        gi_step
        refine region_up ?hd4 ?hq4 ?_
        case hd4 => rfl
        case hq4 => exact fun _ _ h => h
        go_wp2_with fail
        refine wpIn_cond_false rfl ?_
        gi_step
        gi_step
        gi_step
        refine region_up ?hd5 ?hq5 ?_
        case hd5 => rfl
        case hq5 => exact fun _ _ h => h
        go_wp2_with (first | ((with_reducible refine gate_dst (N := 30) rfl ?_); refine Kd.event_run rfl (load_step' HC5.out _ _ (.tmp 8) rfl rfl) ?_) | ((with_reducible refine gate_builtin (b := .append) (xs := #[.tmp 29, .tmp 31]) rfl ?_); at_builtin; refine Kd.S_append k42 (w0 := W) (w.heap.size + 8) rfl (.tmp 29) (.tmp 31) 44 42 (.agg #[(.int .i64 0), (.int .i64 0), (.int .i64 0), (.int .i64 0), (.int .i64 0), (.int .i64 0), (.string ⟨#[]⟩), (.int .i64 0), (.string ⟨#[]⟩), (.slice none 0 0)]) 112 rfl Tryd.underlying44 info42b rfl (by decide) (by omega) (.slice Av xs.length cv) xs r [.int .i64 r.f0, .int .i64 r.f1, .int .i64 r.f2, .int .i64 r.f3, .int .i64 r.f4, .int .i64 r.f5, .string r.f6, .int .i64 r.f7, .string r.f8, .slice A1 r.f9.length c1] (fun _ => True) (fun k => some k = (.slice A1 r.f9.length c1 : Value).ownBlock) rfl rfl HM.out HOK.out (fun _ _ => trivial) HAO.out HAB.out HAS.out (by have := HXL.out; omega) ?_; intro v2 w6 ho6 hb6 _ _; obtain ⟨Ao6, co6, eo6⟩ := Kd.R_slice (Kd.S_R ho6); subst eo6; have HO6 := Aside0.mk ho6; have HB6 := Aside0.mk hb6; have c36 : w6.cell? ⟨w.heap.size + 3, 0, none⟩ = some (.slice Av xs.length cv) := (blk_cell ((hb6.block (w.heap.size + 3) (by omega)).trans HI.out.bl) 0).trans rfl; have f36 : w6.frozen? ⟨w.heap.size + 3, 0, none⟩ = false := blk_frozen ((hb6.block (w.heap.size + 3) (by omega)).trans HI.out.bl) 0; have c46 : w6.cell? ⟨w.heap.size + 4, 0, none⟩ = some (.int .i64 (pre.length : Int)) := (blk_cell ((hb6.block (w.heap.size + 4) (by omega)).trans HI.out.bn) 0).trans rfl; have f46 : w6.frozen? ⟨w.heap.size + 4, 0, none⟩ = false := blk_frozen ((hb6.block (w.heap.size + 4) (by omega)).trans HI.out.bn) 0; clear ho6 hb6))
        gi_wp2_with fail
        have hk := HI.out.next (x := x) HB6.out (by have := HLT.out; omega) HO6.out (by rw [goOn_snoc, HI.out.on, Option.bind_some, ← HY.out, if_neg HZ.out, ← HRR.out, if_pos rfl])
        simp only [List.length_append, List.length_cons, List.length_nil, Nat.zero_add] at hk
        exact ⟨hk.2 _ (by omega) (by omega), hk.2 _ (by omega) (by omega), hk.2 _ (by omega) (by omega), _, _, hk.1⟩
  case done =>
    rintro ys W rfl ⟨v, xs, hI⟩ hK
    rw [W6_size] at hK ⊢
    obtain ⟨Av, cv, ev⟩ := Kd.R_slice (Kd.S_R hI.own)
    subst ev
    have HI := Aside0.mk hI
    have HK := Aside0.mk hK
    have c0 : W.cell? ⟨w.heap.size, 0, none⟩ = some (.slice none 0 0) := (blk_cell hI.r0 0).trans rfl
    have c1 : W.cell? ⟨w.heap.size + 1, 0, none⟩ = some (.int .i64 0) := (blk_cell hI.r1 0).trans rfl
    have c2 : W.cell? ⟨w.heap.size + 2, 0, none⟩ = some (.int .i64 0) := (blk_cell hI.r2 0).trans rfl
    have c3 : W.cell? ⟨w.heap.size + 3, 0, none⟩ = some (.slice Av xs.length cv) := (blk_cell hI.bl 0).trans rfl
    have c4 : W.cell? ⟨w.heap.size + 4, 0, none⟩ = some (.int .i64 ((linesF (s.size + 1) s).length : Int)) := (blk_cell hI.bn 0).trans rfl
    have f0 : W.frozen? ⟨w.heap.size, 0, none⟩ = false := blk_frozen hI.r0 0
    have f1 : W.frozen? ⟨w.heap.size + 1, 0, none⟩ = false := blk_frozen hI.r1 0
    have f2 : W.frozen? ⟨w.heap.size + 2, 0, none⟩ = false := blk_frozen hI.r2 0
    clear hI hK hG b1 hsz
    gi_wp2_with fail
    refine wpIn_wide.2 ?_
    go_region
    gi_wp2_with fail
    have hk := HI.out.stopped (fun _ _ => rfl) (fun _ _ _ => rfl) (Below.refl _ W) (.int .i64 ((linesF (s.size + 1) s).length : Int)) (.int .i64 0)
    obtain ⟨W9, hW9⟩ : ∃ W9, W9 = (((W.setCell ⟨w.heap.size, 0, none⟩ (.slice Av xs.length cv)).setCell ⟨w.heap.size + 1, 0, none⟩ (.int .i64 ((linesF (s.size + 1) s).length : Int))).setCell ⟨w.heap.size + 2, 0, none⟩ (.int .i64 0)).drew := ⟨_, rfl⟩
    rw [← hW9] at hk ⊢
    have hD : W9.heap[w.heap.size + 6]? = some (.deferred (some [])) := (hk.2 _ (by omega) (by omega)).trans HK.out
    refine ⟨by simp, .inl ⟨_, _, rfl, run_takeDeferred hD, ?_⟩⟩
    have hq := hk.1.put6 (.deferred none)
    have d0 : (W9.putObj (w.heap.size + 6) (.deferred none)).cell? ⟨w.heap.size, 0, none⟩ = some (.slice Av xs.length cv) := (blk_cell hq.r0 0).trans rfl
    have d1 : (W9.putObj (w.heap.size + 6) (.deferred none)).cell? ⟨w.heap.size + 1, 0, none⟩ = some (.int .i64 ((linesF (s.size + 1) s).length : Int)) := (blk_cell hq.r1 0).trans rfl
    have d2 : (W9.putObj (w.heap.size + 6) (.deferred none)).cell? ⟨w.heap.size + 2, 0, none⟩ = some (.int .i64 0) := (blk_cell hq.r2 0).trans rfl
    have hp := parseGo_on (linesF (s.size + 1) s) [] [] xs 0 hq.on
    rw [List.append_nil] at hp
    refine ⟨.tuple #[.slice Av xs.length cv, .int .i64 ((linesF (s.size + 1) s).length : Int), .int .i64 0], ?_, .slice Av xs.length cv, ?_, ?_, hq.below⟩
    · have hu := Tryd.underlying44
      have hu2 := Tryd.underlying27
      simp [results, Tryd.results31, go_sem, d0, d1, d2]
    · rw [hp]
      simp [parseGo]
    · rw [hp]
      exact S_low hq.own (by omega)
  case stop =>
    rintro pre W ⟨rest, hpre⟩ ⟨p, x, v, xs, rfl, h1, h2, hI⟩ hK
    rw [W6_size] at hK ⊢
    obtain ⟨Av, cv, ev⟩ := Kd.R_slice (Kd.S_R hI.own)
    subst ev
    gi_wp2_with fail
    refine ⟨by simp, .inl ⟨_, _, rfl, run_takeDeferred hK, ?_⟩⟩
    have hq := hI.put6 (.deferred none)
    have d0 : (W.putObj (w.heap.size + 6) (.deferred none)).cell? ⟨w.heap.size, 0, none⟩ = some (.slice Av xs.length cv) := (blk_cell hq.r0 0).trans rfl
    have d1 : (W.putObj (w.heap.size + 6) (.deferred none)).cell? ⟨w.heap.size + 1, 0, none⟩ = some (.int .i64 (p.length : Int)) := (blk_cell hq.r1 0).trans rfl
    have d2 : (W.putObj (w.heap.size + 6) (.deferred none)).cell? ⟨w.heap.size + 2, 0, none⟩ = some (.int .i64 17) := (blk_cell hq.r2 0).trans rfl
    have hp := parseGo_on p (x :: rest) [] xs 0 hq.on
    have hp2 : parseGo (linesF (s.size + 1) s) [] 0 = (xs, (p.length : Int), 17) := by
      rw [hpre, List.append_assoc]
      show parseGo (p ++ (x :: rest)) [] 0 = _
      rw [hp]
      simp only [parseGo]
      rw [if_neg h1, if_neg (by rw [h2]; simp)]
      simp
    refine ⟨.tuple #[.slice Av xs.length cv, .int .i64 (p.length : Int), .int .i64 17], ?_, .slice Av xs.length cv, ?_, ?_, hq.below⟩
    · have hu := Tryd.underlying44
      have hu2 := Tryd.underlying27
      simp [results, Tryd.results31, go_sem, d0, d1, d2]
    · rw [hp2]
    · rw [hp2]
      exact S_low hq.own (by omega)
end Go.Proofs.YtcgkmomhjincgaaDoor.LibQ.Scr
