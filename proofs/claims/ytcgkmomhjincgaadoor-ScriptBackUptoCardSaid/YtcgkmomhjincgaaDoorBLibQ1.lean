import Derived.Test.YtcgkmomhjincgaaDoorBLibQ0
namespace Go.Proofs.YtcgkmomhjincgaaDoor.LibQ
open Go.RowKit Go.Proofs.YtcgkmomhjincgaaDoorW.PrintWords Go.Proofs.YtcgkmomhjincgaaDoorW.PrintLast Go.Proofs.YtcgkmomhjincgaaDoorW.PrintMore
attribute [local go_sem] max2_int min2_int max_two min_two max_three min_three max_four min_four   -- for this text's walks alone
set_option linter.unusedVariables false
set_option linter.unusedSimpArgs false
def script_bare.f (a0 : Int) : Option (Bool) := if a0 > 32 then (if a0 < 127 then (some (a0 != 37)) else (some false)) else (some false)
set_option maxHeartbeats 8000000 in
set_option maxRecDepth 100000 in
theorem script_bare.calls (a0 : Int) (r : Bool) (w : World) (h : script_bare.f a0 = some r) :
  Calls Tryd.prog 48 #[.int .u8 a0] w fun e w' => e = .returned (.bool r) ∧ Drawn0 w w' := by
 have H : (if a0 > 32 then (if a0 < 127 then (some (a0 != 37)) else (some false)) else (some false)) = some r := h
 clear h
 by_cases c2 : a0 > 32
 ·rw [if_pos c2] at H
  have c2b0 : decide (32 < a0) = true := decide_eq_true c2
  clear c2
  by_cases c3 : a0 < 127
  ·rw [if_pos c3] at H
   have c3b0 : decide (a0 < 127) = true := decide_eq_true c3
   clear c3
   obtain rfl := Option.some.inj H
   go_enter Tryd.func48, Tryd.ntmps48
   go_wp2
   go_ret
   exact ⟨by first | rfl | (simp; done) | (simp [*]; done), by repeat (first | exact Drawn0.refl _ | apply Drawn0.step)⟩
  ·rw [if_neg c3] at H
   have c3b0 : decide (a0 < 127) = false := decide_eq_false c3
   clear c3
   obtain rfl := Option.some.inj H
   go_enter Tryd.func48, Tryd.ntmps48
   go_wp2
   go_ret
   exact ⟨by first | rfl | (simp; done) | (simp [*]; done), by repeat (first | exact Drawn0.refl _ | apply Drawn0.step)⟩
 ·rw [if_neg c2] at H
  have c2b0 : decide (32 < a0) = false := decide_eq_false c2
  clear c2
  obtain rfl := Option.some.inj H
  go_enter Tryd.func48, Tryd.ntmps48
  go_wp2
  go_ret
  exact ⟨by first | rfl | (simp; done) | (simp [*]; done), by repeat (first | exact Drawn0.refl _ | apply Drawn0.step)⟩
def script_Quote.f (a0 : ByteArray) : Option ByteArray := if a0.size ≤ 40000000 then some (if a0.size = 0 then ⟨#[37]⟩ else strOfNums (quoteL (bytesOf a0))) else none
theorem bare_f (c : Int) : script_bare.f c = some (decide (32 < c ∧ c < 127 ∧ c ≠ 37)) := by
 unfold script_bare.f
 by_cases c1 : c > 32
 ·by_cases c2 : c < 127
  ·rw [if_pos c1, if_pos c2]
   congr 1
   by_cases c3 : c = 37
   ·subst c3; rfl
   ·rw [decide_eq_true (by omega)]; simpa using c3
  ·rw [if_pos c1, if_neg c2, decide_eq_false (by omega)]
 ·rw [if_neg c1, decide_eq_false (by omega)]
theorem three_row (W : World) (a b c : Int) : ReadsRow (fun x cs => cs = [Value.int .u8 x]) 1 (W.alloc (.cells #[.int .u8 a, .int .u8 b, .int .u8 c] 5)) (some ⟨W.heap.size, 0, none⟩) 3 [a, b, c] := by
 have hb : (W.alloc (.cells #[.int .u8 a, .int .u8 b, .int .u8 c] 5)).heap[W.heap.size]? = some (.cells #[.int .u8 a, .int .u8 b, .int .u8 c] 5 (0, 0)) := blk_new W _
 refine ⟨rfl, by decide, fun _ => ⟨_, rfl, fun j p hj => ⟨[.int .u8 p], rfl, rfl, fun i u hu => ?_⟩⟩⟩
 have hi : i = 0 := by
  have := (List.getElem?_eq_some_iff.1 hu).1
  simp only [List.length_cons, List.length_nil] at this
  omega
 subst hi
 have hu2 : u = .int .u8 p := by simpa using hu.symm
 subst hu2
 have hjl : j < 3 := (List.getElem?_eq_some_iff.1 hj).1
 have h0 := blk_cell hb j
 have e : (⟨W.heap.size, 0, none⟩ : Addr).add (j * 1 + 0) = ⟨W.heap.size, j, none⟩ := by
  unfold Addr.add
  by_cases h : j = 0
  ·subst h; rfl
  ·rw [if_neg (by omega)]; simp
 rw [e, h0]
 match j, hjl with
 | 0, _ => simpa using hj
 | 1, _ => simpa using hj
 | 2, _ => simpa using hj
set_option maxHeartbeats 4000000 in
set_option maxRecDepth 100000 in
theorem script_Quote.calls (a0 : ByteArray) (r : ByteArray) (w : World) (h : script_Quote.f a0 = some r) :
  Calls Tryd.prog 22 #[.string a0] w fun e w' => e = .returned (.string r) ∧ Below w.heap.size w w' := by
 unfold script_Quote.f at h
 split at h
 ·rename_i hs
  have HSZ := Aside0.mk (show a0.size ≤ 9223372036854775807 by omega)
  have HS := Aside0.mk hs
  have hr0 := Option.some.inj h
  clear h hs
  by_cases c0 : a0.size = 0
  ·rw [if_pos c0] at hr0
   subst hr0
   have b0 := empty_of a0 c0
   clear c0
   go_enter Tryd.func22, Tryd.ntmps22
   go_wp2_with fail
   go_ret
   exact ⟨rfl, Below.refl _ _⟩
  ·rw [if_neg c0] at hr0
   have hr := Aside0.mk hr0
   have b0 := empty_not a0 c0
   clear c0 hr0
   go_enter Tryd.func22, Tryd.ntmps22
   go_wp2_with (refine wpList_bytes rfl 9 70 5 _ rfl Tryd.underlying9 Tryd.underlying70 Tryd.underlying5 a0 rfl HSZ.out ?_; intro W1 A1 c1 hb0 hrd0 hc0)
   have hb := Aside0.mk hb0
   have hrd := Aside0.mk hrd0
   clear hb0 hrd0 hc0
   go_loopg [3, 11] a0.size (fun n v3 v11 wr => ∃ (k : Nat) (xs : List Int), v11 = .int .i64 k ∧ Aside0 (n + k = a0.size) ∧ Aside0 (xs = quoteL ((bytesOf a0).take k)) ∧ Aside0 (Kd.R (Kd.int .u8) 5 wr W1.heap.size (fun _ => True) v3 xs) ∧ Aside0 (Below W1.heap.size W1 wr))
   case atStart => exact ⟨0, [], rfl, ⟨rfl⟩, ⟨rfl⟩, ⟨Kd.R_nil _ _ _ _ _⟩, ⟨Below.refl _ _⟩⟩
   case round =>
    obtain ⟨k, xs, rfl, HN, HX, HO, HB⟩ := hrel
    by_cases hk : k < a0.size
    ·obtain ⟨ad, e, hc⟩ := bytes_at hrd.out k hk
     cases e
     replace hc := (HB.out.cell (World.block_lt_of_cell? W1 _ hc)).trans hc
     have hk' : decide (k < a0.size) = true := by simpa using hk
     have hxl : xs.length ≤ 120000000 := by
      have h1 := quoteL_len ((bytesOf a0).take k)
      rw [← HX.out, List.length_take, bytesOf_length] at h1
      have := HS.out
      omega
     have HXL := Aside0.mk hxl
     have hq := quoteL_take a0 k hk
     have hbr := bare_f (rd (bytesOf a0) (k : Int))
     obtain ⟨c, hcc⟩ : ∃ c, c = rd (bytesOf a0) (k : Int) := ⟨_, rfl⟩
     have hcr : 0 ≤ c ∧ c ≤ 255 := by rw [hcc, rd_bytesOf]; exact bt_range a0 _
     rw [← hcc] at hq hbr hc
     have HQ := Aside0.mk hq
     have HK := Aside0.mk hk
     clear hxl hcc hq
     have hs2 := HS.out
     by_cases cb : 32 < c ∧ c < 127 ∧ c ≠ 37
     ·rw [decide_eq_true cb] at hbr
      have HBR := Aside0.mk hbr
      have HCB := Aside0.mk cb
      clear hbr cb
      go_wp2_with (first | (go_at_call 48; (with_reducible refine (script_bare.calls c true _ HBR.out).mono ?_); rintro e w' ⟨rfl, ⟨nd, rfl⟩⟩) | (at_builtin; refine Kd.R_append (Kd.int .u8) (w0 := W1) W1.heap.size rfl (.tmp 17) (.tmp 19) 70 5 (.int .u8 0) 1 rfl Tryd.underlying70 info5 rfl (by decide) (by decide) u3 xs c [.int .u8 c] (fun _ => True) (fun _ => False) rfl rfl ?aP (fun _ hk => hk.elim) (fun _ _ => trivial) ?aO ?aB ?aS ?aL ?_; (case aP => exact rfl); (case aB => exact (pw_below_drewN HB.out _)); (case aO => exact Kd.R_drewN HO.out _); (case aS => exact (below_size (pw_below_drewN HB.out _))); (case aL => have := HXL.out; omega); intro v1 w1 ho1 hb1 hg1 hat1))
      have HB1 := Aside0.mk hb1
      have HO1 := Aside0.mk ho1
      clear hb1 ho1 hg1 hat1
      go_wp2
      go_roundg (gk - 1)
      case measure => have := HN.out; have := HK.out; omega
      case rel => exact ⟨k + 1, xs ++ [c], by go_num, ⟨by have := HN.out; have := HK.out; omega⟩, ⟨by rw [HQ.out, ← HX.out]; unfold quote1; rw [if_pos HCB.out]⟩, HO1, HB1⟩
     ·rw [decide_eq_false cb] at hbr
      have HBR := Aside0.mk hbr
      have HCB := Aside0.mk cb
      clear hbr cb
      go_wp2_with (first | (go_at_call 48; (with_reducible refine (script_bare.calls c false _ HBR.out).mono ?_); rintro e w' ⟨rfl, ⟨nd, rfl⟩⟩))
      have hc16 : 0 ≤ c / 16 ∧ c / 16 < 16 := by omega
      have ha := u8_and15 c hcr.1 (show c < 256 by omega)
      have HA := Aside0.mk ha
      have hb1 : 0 ≤ bits .and .u8 c 15 ∧ bits .and .u8 c 15 < 16 := by rw [ha]; omega
      clear ha
      have hd1 := bt_at (⟨#[48, 49, 50, 51, 52, 53, 54, 55, 56, 57, 97, 98, 99, 100, 101, 102]⟩ : ByteArray) (c / 16)
      have hd2 := bt_at (⟨#[48, 49, 50, 51, 52, 53, 54, 55, 56, 57, 97, 98, 99, 100, 101, 102]⟩ : ByteArray) (bits .and .u8 c 15)
      have H3 := Aside0.mk (three_row (wr.drewN (nd + 1)) 37 (hexD (c / 16)) (hexD (bits .and .u8 c 15)))
      have HOW := Aside0.mk (Kd.R_alloc (Kd.R_drewN HO.out (nd + 1)) (.cells #[.int .u8 37, .int .u8 (hexD (c / 16)), .int .u8 (hexD (bits .and .u8 c 15))] 5))
      have HBW := Aside0.mk (below_alloc (pw_below_drewN HB.out (nd + 1)) (.cells #[.int .u8 37, .int .u8 (hexD (c / 16)), .int .u8 (hexD (bits .and .u8 c 15))] 5))
      have HOB := Aside0.mk (show ∀ k, u3.ownBlock = some k → k < wr.heap.size from fun k hk => Kd.R_lt HO.out k hk)
      go_region_held3 (fun _ => True) (exact trivial) ((refine Kd.R_append_rows_step (Kd.int .u8) (Rr := fun x cs => cs = [.int .u8 x]) (w0 := W1) W1.heap.size (by rfl) (.tmp 21) (.tmp 28) 70 5 (.int .u8 0) 1 rfl Tryd.underlying70 info5 rfl (by decide) (by decide) u3 xs [37, hexD (c / 16), hexD (bits .and .u8 c 15)] (some ⟨wr.heap.size, 0, none⟩) 3 3 (fun _ => True) (fun k => some k ≠ u3.ownBlock) rfl rfl HOW.out H3.out (fun x cs h => h) (fun k hk => ⟨trivial, hk⟩) (fun _ _ => trivial) HBW.out (below_size HBW.out) (by have := HXL.out; omega) ?_; intro v1 w1 ho1 hb1 hg1 hat1))
      all_goals (
       have HB1 := Aside0.mk hb1
       have HO1 := Aside0.mk ho1
       clear hb1 ho1 hg1 hat1
       go_wp2
       go_roundg (gk - 1)
       case measure => have := HN.out; omega
       case rel => exact ⟨k + 1, xs ++ [37, hexD (c / 16), hexD (bits .and .u8 c 15)], by go_num, ⟨by have := HN.out; omega⟩, ⟨by rw [HQ.out, ← HX.out]; unfold quote1; rw [if_neg HCB.out, HA.out]⟩, HO1, HB1⟩)
    ·have e : k = a0.size := by have := HN.out; omega
     have hk' : decide (k < a0.size) = false := by simpa using hk
     obtain ⟨A, cc, hv, hcc, hCC⟩ := Kd.R_V (base' := 0) HO.out
     subst hv
     have hcv := Kd.C_string (P := Tryd.prog) (src := 70) (dst := 9) (e := 5) (c := cc) Tryd.underlying70 Tryd.underlying5 Tryd.underlying9 (Kd.F_now hCC)
     go_wp2
     go_ret
     exact ⟨ret_str (by rw [← hr.out, HX.out, e, List.take_of_length_le (by rw [bytesOf_length]; exact Nat.le_refl _)]), hb.out.trans (HB.out.mono hb.out.size)⟩
 ·cases h
def script_word.f (a0 : Int) : Option (ByteArray × List Int) := if a0 = 1 then (some ((⟨#[112, 117, 116]⟩ : ByteArray), (([0, 6, 5, 7] : List Int)))) else (if a0 = 2 then (some ((⟨#[100, 114, 111, 112]⟩ : ByteArray), (([0, 6] : List Int)))) else (if a0 = 3 then (some ((⟨#[115, 121, 110, 99]⟩ : ByteArray), (([0] : List Int)))) else (if a0 = 4 then (some ((⟨#[115, 101, 110, 100]⟩ : ByteArray), (([0, 1] : List Int)))) else (if a0 = 5 then (some ((⟨#[100, 101, 108, 105, 118, 101, 114]⟩ : ByteArray), (([0, 1, 2] : List Int)))) else (if a0 = 6 then (some ((⟨#[108, 111, 115, 101]⟩ : ByteArray), (([0, 1, 2] : List Int)))) else (if a0 = 7 then (some ((⟨#[100, 111, 117, 98, 108, 101]⟩ : ByteArray), (([0, 1, 2] : List Int)))) else (if a0 = 8 then (some ((⟨#[115, 112, 111, 105, 108]⟩ : ByteArray), (([0, 1, 2, 4, 3] : List Int)))) else (if a0 = 9 then (some ((⟨#[99, 114, 97, 115, 104]⟩ : ByteArray), (([0, 3, 4, 8] : List Int)))) else (if a0 = 10 then (some ((⟨#[115, 116, 97, 114, 116]⟩ : ByteArray), (([0] : List Int)))) else (if a0 = 11 then (some ((⟨#[102, 117, 115, 101]⟩ : ByteArray), (([0, 2] : List Int)))) else (if a0 = 12 then (some ((⟨#[102, 108, 117, 115, 104]⟩ : ByteArray), (([0] : List Int)))) else (if a0 = 13 then (some ((⟨#[99, 111, 109, 112, 97, 99, 116]⟩ : ByteArray), (([0] : List Int)))) else (if a0 = 14 then (some ((⟨#[99, 111, 108, 108, 101, 99, 116]⟩ : ByteArray), (([0] : List Int)))) else (if a0 = 15 then (some ((⟨#[115, 97, 118, 101]⟩ : ByteArray), (([0] : List Int)))) else (if a0 = 16 then (some ((⟨#[113, 117, 101, 114, 121]⟩ : ByteArray), (([0, 2, 7] : List Int)))) else (some ((⟨#[]⟩ : ByteArray), ([] : List Int))))))))))))))))))
set_option maxHeartbeats 8000000 in
set_option maxRecDepth 100000 in
theorem script_word.calls (a0 : Int) (r1 : ByteArray) (r2 : List Int) (w : World) (h : script_word.f a0 = some (r1, r2)) :
  Calls Tryd.prog 49 #[.int .i64 a0] w fun e w' => ∃ v1_ : Value, e = .returned (.tuple #[.string r1, v1_]) ∧ Kd.R (Kd.int .i64) 78 w' w.heap.size (fun _ => True) v1_ r2 ∧ Below w.heap.size w w' := by
 have HB := Aside0.mk (Below.refl w.heap.size w)
 have H : (if a0 = 1 then (some ((⟨#[112, 117, 116]⟩ : ByteArray), (([0, 6, 5, 7] : List Int)))) else (if a0 = 2 then (some ((⟨#[100, 114, 111, 112]⟩ : ByteArray), (([0, 6] : List Int)))) else (if a0 = 3 then (some ((⟨#[115, 121, 110, 99]⟩ : ByteArray), (([0] : List Int)))) else (if a0 = 4 then (some ((⟨#[115, 101, 110, 100]⟩ : ByteArray), (([0, 1] : List Int)))) else (if a0 = 5 then (some ((⟨#[100, 101, 108, 105, 118, 101, 114]⟩ : ByteArray), (([0, 1, 2] : List Int)))) else (if a0 = 6 then (some ((⟨#[108, 111, 115, 101]⟩ : ByteArray), (([0, 1, 2] : List Int)))) else (if a0 = 7 then (some ((⟨#[100, 111, 117, 98, 108, 101]⟩ : ByteArray), (([0, 1, 2] : List Int)))) else (if a0 = 8 then (some ((⟨#[115, 112, 111, 105, 108]⟩ : ByteArray), (([0, 1, 2, 4, 3] : List Int)))) else (if a0 = 9 then (some ((⟨#[99, 114, 97, 115, 104]⟩ : ByteArray), (([0, 3, 4, 8] : List Int)))) else (if a0 = 10 then (some ((⟨#[115, 116, 97, 114, 116]⟩ : ByteArray), (([0] : List Int)))) else (if a0 = 11 then (some ((⟨#[102, 117, 115, 101]⟩ : ByteArray), (([0, 2] : List Int)))) else (if a0 = 12 then (some ((⟨#[102, 108, 117, 115, 104]⟩ : ByteArray), (([0] : List Int)))) else (if a0 = 13 then (some ((⟨#[99, 111, 109, 112, 97, 99, 116]⟩ : ByteArray), (([0] : List Int)))) else (if a0 = 14 then (some ((⟨#[99, 111, 108, 108, 101, 99, 116]⟩ : ByteArray), (([0] : List Int)))) else (if a0 = 15 then (some ((⟨#[115, 97, 118, 101]⟩ : ByteArray), (([0] : List Int)))) else (if a0 = 16 then (some ((⟨#[113, 117, 101, 114, 121]⟩ : ByteArray), (([0, 2, 7] : List Int)))) else (some ((⟨#[]⟩ : ByteArray), ([] : List Int))))))))))))))))))) = some (r1, r2) := h
 clear h
 by_cases c2 : a0 = 1
 ·rw [if_pos c2] at H
  have c2b0 : (a0 == 1) = true := beq_iff_eq.mpr c2
  have c2b1 : (a0 != 1) = false := bne_eq_false_iff_eq.mpr c2
  clear c2
  obtain ⟨y101, hy101⟩ : ∃ y_ : List Int, y_ = (([0, 6, 5, 7] : List Int)) := ⟨_, rfl⟩
  replace H : (some ((⟨#[112, 117, 116]⟩ : ByteArray), y101)) = some (r1, r2) := by first | (rw [hy101]; with_reducible exact H) | (have H2_ := (Option.bind_some _ _).symm.trans H; rw [hy101]; with_reducible exact H2_) | (have H2_ := (Option.bind_some _ _).symm.trans H; with_reducible exact H2_) | with_reducible exact H | (rw [hy101]; exact H) | exact H
  have Ny101 := Aside0.mk hy101
  clear hy101
  simp only [Option.some.injEq, Prod.mk.injEq] at H
  obtain ⟨rfl, rfl⟩ := H
  go_enter Tryd.func49, Tryd.ntmps49
  go_wp2_with (first | ((with_reducible refine gate_dst (N := 7) rfl ?_); refine Kd.R_lit (Kd.int .i64) _ 78 ?hg (N := 7) ?hd (xs := ([0, 6, 5, 7] : List Int)) (inner := [.int .i64 0, .int .i64 6, .int .i64 5, .int .i64 7]) (ok := fun _ => True) (okp := fun _ => True) ?hr ?hp (fun _ hk => hk) trivial (Below.refl _ _) (Nat.le_refl _) (by simp) ?_; (case hd => rfl); (case hg => rfl); (case hr => first | (go_simp; done) | (go_simp; rfl)); (case hp => exact (Reps.one (show Kd.M (Kd.int .i64) _ _ _ 0 [.int .i64 0] from rfl) (Reps.one (show Kd.M (Kd.int .i64) _ _ _ 6 [.int .i64 6] from rfl) (Reps.one (show Kd.M (Kd.int .i64) _ _ _ 5 [.int .i64 5] from rfl) (Reps.one (show Kd.M (Kd.int .i64) _ _ _ 7 [.int .i64 7] from rfl) (Reps.none _ _)))))); intro v102 w3 ho4 hb hg_ hnew_; clear hg_ hnew_; (first | rw [← Ny101.out] at ho4 | (simp only [Int.reduceToNat] at ho4; rw [← Ny101.out] at ho4)); have n0_ := Aside0.mk (Kd.R_lower ho4 (below_size (bb_ HB.out))); have n1_ := Aside0.mk (below_step (bb_ HB.out) hb); clear HB; have HO103 := n0_; have HB := n1_; clear n0_ n1_; clear hb ho4))
  go_ret2
  exact ⟨_, by first | rfl | (simp [errW_none, errW_some] <;> rfl) | (simp [*, errW_none, errW_some] <;> rfl), by (with_reducible repeat (first | apply Kd.R_alloc | apply Kd.R_drewN | apply Kd.R_drew)); exact HO103.out, bb_ HB.out⟩
 ·rw [if_neg c2] at H
  have c2b0 : (a0 == 1) = false := beq_eq_false_iff_ne.mpr c2
  have c2b1 : (a0 != 1) = true := bne_iff_ne.mpr c2
  by_cases c5 : a0 = 2
  ·rw [if_pos c5] at H
   have c5b0 : (a0 == 2) = true := beq_iff_eq.mpr c5
   have c5b1 : (a0 != 2) = false := bne_eq_false_iff_eq.mpr c5
   clear c5
   obtain ⟨y104, hy104⟩ : ∃ y_ : List Int, y_ = (([0, 6] : List Int)) := ⟨_, rfl⟩
   replace H : (some ((⟨#[100, 114, 111, 112]⟩ : ByteArray), y104)) = some (r1, r2) := by first | (rw [hy104]; with_reducible exact H) | (have H2_ := (Option.bind_some _ _).symm.trans H; rw [hy104]; with_reducible exact H2_) | (have H2_ := (Option.bind_some _ _).symm.trans H; with_reducible exact H2_) | with_reducible exact H | (rw [hy104]; exact H) | exact H
   have Ny104 := Aside0.mk hy104
   clear hy104
   simp only [Option.some.injEq, Prod.mk.injEq] at H
   obtain ⟨rfl, rfl⟩ := H
   go_enter Tryd.func49, Tryd.ntmps49
   go_wp2_with (first | ((with_reducible refine gate_dst (N := 10) rfl ?_); refine Kd.R_lit (Kd.int .i64) _ 78 ?hg (N := 10) ?hd (xs := ([0, 6] : List Int)) (inner := [.int .i64 0, .int .i64 6]) (ok := fun _ => True) (okp := fun _ => True) ?hr ?hp (fun _ hk => hk) trivial (Below.refl _ _) (Nat.le_refl _) (by simp) ?_; (case hd => rfl); (case hg => rfl); (case hr => first | (go_simp; done) | (go_simp; rfl)); (case hp => exact (Reps.one (show Kd.M (Kd.int .i64) _ _ _ 0 [.int .i64 0] from rfl) (Reps.one (show Kd.M (Kd.int .i64) _ _ _ 6 [.int .i64 6] from rfl) (Reps.none _ _)))); intro v105 w6 ho7 hb hg_ hnew_; clear hg_ hnew_; (first | rw [← Ny104.out] at ho7 | (simp only [Int.reduceToNat] at ho7; rw [← Ny104.out] at ho7)); have n0_ := Aside0.mk (Kd.R_lower ho7 (below_size (bb_ HB.out))); have n1_ := Aside0.mk (below_step (bb_ HB.out) hb); clear HB; have HO106 := n0_; have HB := n1_; clear n0_ n1_; clear hb ho7))
   go_ret2
   exact ⟨_, by first | rfl | (simp [errW_none, errW_some] <;> rfl) | (simp [*, errW_none, errW_some] <;> rfl), by (with_reducible repeat (first | apply Kd.R_alloc | apply Kd.R_drewN | apply Kd.R_drew)); exact HO106.out, bb_ HB.out⟩
  ·rw [if_neg c5] at H
   have c5b0 : (a0 == 2) = false := beq_eq_false_iff_ne.mpr c5
   have c5b1 : (a0 != 2) = true := bne_iff_ne.mpr c5
   by_cases c8 : a0 = 3
   ·rw [if_pos c8] at H
    have c8b0 : (a0 == 3) = true := beq_iff_eq.mpr c8
    have c8b1 : (a0 != 3) = false := bne_eq_false_iff_eq.mpr c8
    clear c8
    obtain ⟨y107, hy107⟩ : ∃ y_ : List Int, y_ = (([0] : List Int)) := ⟨_, rfl⟩
    replace H : (some ((⟨#[115, 121, 110, 99]⟩ : ByteArray), y107)) = some (r1, r2) := by first | (rw [hy107]; with_reducible exact H) | (have H2_ := (Option.bind_some _ _).symm.trans H; rw [hy107]; with_reducible exact H2_) | (have H2_ := (Option.bind_some _ _).symm.trans H; with_reducible exact H2_) | with_reducible exact H | (rw [hy107]; exact H) | exact H
    have Ny107 := Aside0.mk hy107
    clear hy107
    simp only [Option.some.injEq, Prod.mk.injEq] at H
    obtain ⟨rfl, rfl⟩ := H
    go_enter Tryd.func49, Tryd.ntmps49
    go_wp2_with (first | ((with_reducible refine gate_dst (N := 13) rfl ?_); refine Kd.R_lit (Kd.int .i64) _ 78 ?hg (N := 13) ?hd (xs := ([0] : List Int)) (inner := [.int .i64 0]) (ok := fun _ => True) (okp := fun _ => True) ?hr ?hp (fun _ hk => hk) trivial (Below.refl _ _) (Nat.le_refl _) (by simp) ?_; (case hd => rfl); (case hg => rfl); (case hr => first | (go_simp; done) | (go_simp; rfl)); (case hp => exact (Reps.one (show Kd.M (Kd.int .i64) _ _ _ 0 [.int .i64 0] from rfl) (Reps.none _ _))); intro v108 w9 ho10 hb hg_ hnew_; clear hg_ hnew_; (first | rw [← Ny107.out] at ho10 | (simp only [Int.reduceToNat] at ho10; rw [← Ny107.out] at ho10)); have n0_ := Aside0.mk (Kd.R_lower ho10 (below_size (bb_ HB.out))); have n1_ := Aside0.mk (below_step (bb_ HB.out) hb); clear HB; have HO109 := n0_; have HB := n1_; clear n0_ n1_; clear hb ho10))
    go_ret2
    exact ⟨_, by first | rfl | (simp [errW_none, errW_some] <;> rfl) | (simp [*, errW_none, errW_some] <;> rfl), by (with_reducible repeat (first | apply Kd.R_alloc | apply Kd.R_drewN | apply Kd.R_drew)); exact HO109.out, bb_ HB.out⟩
   ·rw [if_neg c8] at H
    have c8b0 : (a0 == 3) = false := beq_eq_false_iff_ne.mpr c8
    have c8b1 : (a0 != 3) = true := bne_iff_ne.mpr c8
    by_cases c11 : a0 = 4
    ·rw [if_pos c11] at H
     have c11b0 : (a0 == 4) = true := beq_iff_eq.mpr c11
     have c11b1 : (a0 != 4) = false := bne_eq_false_iff_eq.mpr c11
     clear c11
     obtain ⟨y110, hy110⟩ : ∃ y_ : List Int, y_ = (([0, 1] : List Int)) := ⟨_, rfl⟩
     replace H : (some ((⟨#[115, 101, 110, 100]⟩ : ByteArray), y110)) = some (r1, r2) := by first | (rw [hy110]; with_reducible exact H) | (have H2_ := (Option.bind_some _ _).symm.trans H; rw [hy110]; with_reducible exact H2_) | (have H2_ := (Option.bind_some _ _).symm.trans H; with_reducible exact H2_) | with_reducible exact H | (rw [hy110]; exact H) | exact H
     have Ny110 := Aside0.mk hy110
     clear hy110
     simp only [Option.some.injEq, Prod.mk.injEq] at H
     obtain ⟨rfl, rfl⟩ := H
     go_enter Tryd.func49, Tryd.ntmps49
     go_wp2_with (first | ((with_reducible refine gate_dst (N := 16) rfl ?_); refine Kd.R_lit (Kd.int .i64) _ 78 ?hg (N := 16) ?hd (xs := ([0, 1] : List Int)) (inner := [.int .i64 0, .int .i64 1]) (ok := fun _ => True) (okp := fun _ => True) ?hr ?hp (fun _ hk => hk) trivial (Below.refl _ _) (Nat.le_refl _) (by simp) ?_; (case hd => rfl); (case hg => rfl); (case hr => first | (go_simp; done) | (go_simp; rfl)); (case hp => exact (Reps.one (show Kd.M (Kd.int .i64) _ _ _ 0 [.int .i64 0] from rfl) (Reps.one (show Kd.M (Kd.int .i64) _ _ _ 1 [.int .i64 1] from rfl) (Reps.none _ _)))); intro v111 w12 ho13 hb hg_ hnew_; clear hg_ hnew_; (first | rw [← Ny110.out] at ho13 | (simp only [Int.reduceToNat] at ho13; rw [← Ny110.out] at ho13)); have n0_ := Aside0.mk (Kd.R_lower ho13 (below_size (bb_ HB.out))); have n1_ := Aside0.mk (below_step (bb_ HB.out) hb); clear HB; have HO112 := n0_; have HB := n1_; clear n0_ n1_; clear hb ho13))
     go_ret2
     exact ⟨_, by first | rfl | (simp [errW_none, errW_some] <;> rfl) | (simp [*, errW_none, errW_some] <;> rfl), by (with_reducible repeat (first | apply Kd.R_alloc | apply Kd.R_drewN | apply Kd.R_drew)); exact HO112.out, bb_ HB.out⟩
    ·rw [if_neg c11] at H
     have c11b0 : (a0 == 4) = false := beq_eq_false_iff_ne.mpr c11
     have c11b1 : (a0 != 4) = true := bne_iff_ne.mpr c11
     by_cases c14 : a0 = 5
     ·rw [if_pos c14] at H
      have c14b0 : (a0 == 5) = true := beq_iff_eq.mpr c14
      have c14b1 : (a0 != 5) = false := bne_eq_false_iff_eq.mpr c14
      clear c14
      obtain ⟨y113, hy113⟩ : ∃ y_ : List Int, y_ = (([0, 1, 2] : List Int)) := ⟨_, rfl⟩
      replace H : (some ((⟨#[100, 101, 108, 105, 118, 101, 114]⟩ : ByteArray), y113)) = some (r1, r2) := by first | (rw [hy113]; with_reducible exact H) | (have H2_ := (Option.bind_some _ _).symm.trans H; rw [hy113]; with_reducible exact H2_) | (have H2_ := (Option.bind_some _ _).symm.trans H; with_reducible exact H2_) | with_reducible exact H | (rw [hy113]; exact H) | exact H
      have Ny113 := Aside0.mk hy113
      clear hy113
      simp only [Option.some.injEq, Prod.mk.injEq] at H
      obtain ⟨rfl, rfl⟩ := H
      go_enter Tryd.func49, Tryd.ntmps49
      go_wp2_with (first | ((with_reducible refine gate_dst (N := 19) rfl ?_); refine Kd.R_lit (Kd.int .i64) _ 78 ?hg (N := 19) ?hd (xs := ([0, 1, 2] : List Int)) (inner := [.int .i64 0, .int .i64 1, .int .i64 2]) (ok := fun _ => True) (okp := fun _ => True) ?hr ?hp (fun _ hk => hk) trivial (Below.refl _ _) (Nat.le_refl _) (by simp) ?_; (case hd => rfl); (case hg => rfl); (case hr => first | (go_simp; done) | (go_simp; rfl)); (case hp => exact (Reps.one (show Kd.M (Kd.int .i64) _ _ _ 0 [.int .i64 0] from rfl) (Reps.one (show Kd.M (Kd.int .i64) _ _ _ 1 [.int .i64 1] from rfl) (Reps.one (show Kd.M (Kd.int .i64) _ _ _ 2 [.int .i64 2] from rfl) (Reps.none _ _))))); intro v114 w15 ho16 hb hg_ hnew_; clear hg_ hnew_; (first | rw [← Ny113.out] at ho16 | (simp only [Int.reduceToNat] at ho16; rw [← Ny113.out] at ho16)); have n0_ := Aside0.mk (Kd.R_lower ho16 (below_size (bb_ HB.out))); have n1_ := Aside0.mk (below_step (bb_ HB.out) hb); clear HB; have HO115 := n0_; have HB := n1_; clear n0_ n1_; clear hb ho16))
      go_ret2
      exact ⟨_, by first | rfl | (simp [errW_none, errW_some] <;> rfl) | (simp [*, errW_none, errW_some] <;> rfl), by (with_reducible repeat (first | apply Kd.R_alloc | apply Kd.R_drewN | apply Kd.R_drew)); exact HO115.out, bb_ HB.out⟩
     ·rw [if_neg c14] at H
      have c14b0 : (a0 == 5) = false := beq_eq_false_iff_ne.mpr c14
      have c14b1 : (a0 != 5) = true := bne_iff_ne.mpr c14
      by_cases c17 : a0 = 6
      ·rw [if_pos c17] at H
       have c17b0 : (a0 == 6) = true := beq_iff_eq.mpr c17
       have c17b1 : (a0 != 6) = false := bne_eq_false_iff_eq.mpr c17
       clear c17
       obtain ⟨y116, hy116⟩ : ∃ y_ : List Int, y_ = (([0, 1, 2] : List Int)) := ⟨_, rfl⟩
       replace H : (some ((⟨#[108, 111, 115, 101]⟩ : ByteArray), y116)) = some (r1, r2) := by first | (rw [hy116]; with_reducible exact H) | (have H2_ := (Option.bind_some _ _).symm.trans H; rw [hy116]; with_reducible exact H2_) | (have H2_ := (Option.bind_some _ _).symm.trans H; with_reducible exact H2_) | with_reducible exact H | (rw [hy116]; exact H) | exact H
       have Ny116 := Aside0.mk hy116
       clear hy116
       simp only [Option.some.injEq, Prod.mk.injEq] at H
       obtain ⟨rfl, rfl⟩ := H
       go_enter Tryd.func49, Tryd.ntmps49
       go_wp2_with (first | ((with_reducible refine gate_dst (N := 22) rfl ?_); refine Kd.R_lit (Kd.int .i64) _ 78 ?hg (N := 22) ?hd (xs := ([0, 1, 2] : List Int)) (inner := [.int .i64 0, .int .i64 1, .int .i64 2]) (ok := fun _ => True) (okp := fun _ => True) ?hr ?hp (fun _ hk => hk) trivial (Below.refl _ _) (Nat.le_refl _) (by simp) ?_; (case hd => rfl); (case hg => rfl); (case hr => first | (go_simp; done) | (go_simp; rfl)); (case hp => exact (Reps.one (show Kd.M (Kd.int .i64) _ _ _ 0 [.int .i64 0] from rfl) (Reps.one (show Kd.M (Kd.int .i64) _ _ _ 1 [.int .i64 1] from rfl) (Reps.one (show Kd.M (Kd.int .i64) _ _ _ 2 [.int .i64 2] from rfl) (Reps.none _ _))))); intro v117 w18 ho19 hb hg_ hnew_; clear hg_ hnew_; (first | rw [← Ny116.out] at ho19 | (simp only [Int.reduceToNat] at ho19; rw [← Ny116.out] at ho19)); have n0_ := Aside0.mk (Kd.R_lower ho19 (below_size (bb_ HB.out))); have n1_ := Aside0.mk (below_step (bb_ HB.out) hb); clear HB; have HO118 := n0_; have HB := n1_; clear n0_ n1_; clear hb ho19))
       go_ret2
       exact ⟨_, by first | rfl | (simp [errW_none, errW_some] <;> rfl) | (simp [*, errW_none, errW_some] <;> rfl), by (with_reducible repeat (first | apply Kd.R_alloc | apply Kd.R_drewN | apply Kd.R_drew)); exact HO118.out, bb_ HB.out⟩
      ·rw [if_neg c17] at H
       have c17b0 : (a0 == 6) = false := beq_eq_false_iff_ne.mpr c17
       have c17b1 : (a0 != 6) = true := bne_iff_ne.mpr c17
       by_cases c20 : a0 = 7
       ·rw [if_pos c20] at H
        have c20b0 : (a0 == 7) = true := beq_iff_eq.mpr c20
        have c20b1 : (a0 != 7) = false := bne_eq_false_iff_eq.mpr c20
        clear c20
        obtain ⟨y119, hy119⟩ : ∃ y_ : List Int, y_ = (([0, 1, 2] : List Int)) := ⟨_, rfl⟩
        replace H : (some ((⟨#[100, 111, 117, 98, 108, 101]⟩ : ByteArray), y119)) = some (r1, r2) := by first | (rw [hy119]; with_reducible exact H) | (have H2_ := (Option.bind_some _ _).symm.trans H; rw [hy119]; with_reducible exact H2_) | (have H2_ := (Option.bind_some _ _).symm.trans H; with_reducible exact H2_) | with_reducible exact H | (rw [hy119]; exact H) | exact H
        have Ny119 := Aside0.mk hy119
        clear hy119
        simp only [Option.some.injEq, Prod.mk.injEq] at H
        obtain ⟨rfl, rfl⟩ := H
        go_enter Tryd.func49, Tryd.ntmps49
        go_wp2_with (first | ((with_reducible refine gate_dst (N := 25) rfl ?_); refine Kd.R_lit (Kd.int .i64) _ 78 ?hg (N := 25) ?hd (xs := ([0, 1, 2] : List Int)) (inner := [.int .i64 0, .int .i64 1, .int .i64 2]) (ok := fun _ => True) (okp := fun _ => True) ?hr ?hp (fun _ hk => hk) trivial (Below.refl _ _) (Nat.le_refl _) (by simp) ?_; (case hd => rfl); (case hg => rfl); (case hr => first | (go_simp; done) | (go_simp; rfl)); (case hp => exact (Reps.one (show Kd.M (Kd.int .i64) _ _ _ 0 [.int .i64 0] from rfl) (Reps.one (show Kd.M (Kd.int .i64) _ _ _ 1 [.int .i64 1] from rfl) (Reps.one (show Kd.M (Kd.int .i64) _ _ _ 2 [.int .i64 2] from rfl) (Reps.none _ _))))); intro v120 w21 ho22 hb hg_ hnew_; clear hg_ hnew_; (first | rw [← Ny119.out] at ho22 | (simp only [Int.reduceToNat] at ho22; rw [← Ny119.out] at ho22)); have n0_ := Aside0.mk (Kd.R_lower ho22 (below_size (bb_ HB.out))); have n1_ := Aside0.mk (below_step (bb_ HB.out) hb); clear HB; have HO121 := n0_; have HB := n1_; clear n0_ n1_; clear hb ho22))
        go_ret2
        exact ⟨_, by first | rfl | (simp [errW_none, errW_some] <;> rfl) | (simp [*, errW_none, errW_some] <;> rfl), by (with_reducible repeat (first | apply Kd.R_alloc | apply Kd.R_drewN | apply Kd.R_drew)); exact HO121.out, bb_ HB.out⟩
       ·rw [if_neg c20] at H
        have c20b0 : (a0 == 7) = false := beq_eq_false_iff_ne.mpr c20
        have c20b1 : (a0 != 7) = true := bne_iff_ne.mpr c20
        by_cases c23 : a0 = 8
        ·rw [if_pos c23] at H
         have c23b0 : (a0 == 8) = true := beq_iff_eq.mpr c23
         have c23b1 : (a0 != 8) = false := bne_eq_false_iff_eq.mpr c23
         clear c23
         obtain ⟨y122, hy122⟩ : ∃ y_ : List Int, y_ = (([0, 1, 2, 4, 3] : List Int)) := ⟨_, rfl⟩
         replace H : (some ((⟨#[115, 112, 111, 105, 108]⟩ : ByteArray), y122)) = some (r1, r2) := by first | (rw [hy122]; with_reducible exact H) | (have H2_ := (Option.bind_some _ _).symm.trans H; rw [hy122]; with_reducible exact H2_) | (have H2_ := (Option.bind_some _ _).symm.trans H; with_reducible exact H2_) | with_reducible exact H | (rw [hy122]; exact H) | exact H
         have Ny122 := Aside0.mk hy122
         clear hy122
         simp only [Option.some.injEq, Prod.mk.injEq] at H
         obtain ⟨rfl, rfl⟩ := H
         go_enter Tryd.func49, Tryd.ntmps49
         go_wp2_with (first | ((with_reducible refine gate_dst (N := 28) rfl ?_); refine Kd.R_lit (Kd.int .i64) _ 78 ?hg (N := 28) ?hd (xs := ([0, 1, 2, 4, 3] : List Int)) (inner := [.int .i64 0, .int .i64 1, .int .i64 2, .int .i64 4, .int .i64 3]) (ok := fun _ => True) (okp := fun _ => True) ?hr ?hp (fun _ hk => hk) trivial (Below.refl _ _) (Nat.le_refl _) (by simp) ?_; (case hd => rfl); (case hg => rfl); (case hr => first | (go_simp; done) | (go_simp; rfl)); (case hp => exact (Reps.one (show Kd.M (Kd.int .i64) _ _ _ 0 [.int .i64 0] from rfl) (Reps.one (show Kd.M (Kd.int .i64) _ _ _ 1 [.int .i64 1] from rfl) (Reps.one (show Kd.M (Kd.int .i64) _ _ _ 2 [.int .i64 2] from rfl) (Reps.one (show Kd.M (Kd.int .i64) _ _ _ 4 [.int .i64 4] from rfl) (Reps.one (show Kd.M (Kd.int .i64) _ _ _ 3 [.int .i64 3] from rfl) (Reps.none _ _))))))); intro v123 w24 ho25 hb hg_ hnew_; clear hg_ hnew_; (first | rw [← Ny122.out] at ho25 | (simp only [Int.reduceToNat] at ho25; rw [← Ny122.out] at ho25)); have n0_ := Aside0.mk (Kd.R_lower ho25 (below_size (bb_ HB.out))); have n1_ := Aside0.mk (below_step (bb_ HB.out) hb); clear HB; have HO124 := n0_; have HB := n1_; clear n0_ n1_; clear hb ho25))
         go_ret2
         exact ⟨_, by first | rfl | (simp [errW_none, errW_some] <;> rfl) | (simp [*, errW_none, errW_some] <;> rfl), by (with_reducible repeat (first | apply Kd.R_alloc | apply Kd.R_drewN | apply Kd.R_drew)); exact HO124.out, bb_ HB.out⟩
        ·rw [if_neg c23] at H
         have c23b0 : (a0 == 8) = false := beq_eq_false_iff_ne.mpr c23
         have c23b1 : (a0 != 8) = true := bne_iff_ne.mpr c23
         by_cases c26 : a0 = 9
         ·rw [if_pos c26] at H
          have c26b0 : (a0 == 9) = true := beq_iff_eq.mpr c26
          have c26b1 : (a0 != 9) = false := bne_eq_false_iff_eq.mpr c26
          clear c26
          obtain ⟨y125, hy125⟩ : ∃ y_ : List Int, y_ = (([0, 3, 4, 8] : List Int)) := ⟨_, rfl⟩
          replace H : (some ((⟨#[99, 114, 97, 115, 104]⟩ : ByteArray), y125)) = some (r1, r2) := by first | (rw [hy125]; with_reducible exact H) | (have H2_ := (Option.bind_some _ _).symm.trans H; rw [hy125]; with_reducible exact H2_) | (have H2_ := (Option.bind_some _ _).symm.trans H; with_reducible exact H2_) | with_reducible exact H | (rw [hy125]; exact H) | exact H
          have Ny125 := Aside0.mk hy125
          clear hy125
          simp only [Option.some.injEq, Prod.mk.injEq] at H
          obtain ⟨rfl, rfl⟩ := H
          go_enter Tryd.func49, Tryd.ntmps49
          go_wp2_with (first | ((with_reducible refine gate_dst (N := 31) rfl ?_); refine Kd.R_lit (Kd.int .i64) _ 78 ?hg (N := 31) ?hd (xs := ([0, 3, 4, 8] : List Int)) (inner := [.int .i64 0, .int .i64 3, .int .i64 4, .int .i64 8]) (ok := fun _ => True) (okp := fun _ => True) ?hr ?hp (fun _ hk => hk) trivial (Below.refl _ _) (Nat.le_refl _) (by simp) ?_; (case hd => rfl); (case hg => rfl); (case hr => first | (go_simp; done) | (go_simp; rfl)); (case hp => exact (Reps.one (show Kd.M (Kd.int .i64) _ _ _ 0 [.int .i64 0] from rfl) (Reps.one (show Kd.M (Kd.int .i64) _ _ _ 3 [.int .i64 3] from rfl) (Reps.one (show Kd.M (Kd.int .i64) _ _ _ 4 [.int .i64 4] from rfl) (Reps.one (show Kd.M (Kd.int .i64) _ _ _ 8 [.int .i64 8] from rfl) (Reps.none _ _)))))); intro v126 w27 ho28 hb hg_ hnew_; clear hg_ hnew_; (first | rw [← Ny125.out] at ho28 | (simp only [Int.reduceToNat] at ho28; rw [← Ny125.out] at ho28)); have n0_ := Aside0.mk (Kd.R_lower ho28 (below_size (bb_ HB.out))); have n1_ := Aside0.mk (below_step (bb_ HB.out) hb); clear HB; have HO127 := n0_; have HB := n1_; clear n0_ n1_; clear hb ho28))
          go_ret2
          exact ⟨_, by first | rfl | (simp [errW_none, errW_some] <;> rfl) | (simp [*, errW_none, errW_some] <;> rfl), by (with_reducible repeat (first | apply Kd.R_alloc | apply Kd.R_drewN | apply Kd.R_drew)); exact HO127.out, bb_ HB.out⟩
         ·rw [if_neg c26] at H
          have c26b0 : (a0 == 9) = false := beq_eq_false_iff_ne.mpr c26
          have c26b1 : (a0 != 9) = true := bne_iff_ne.mpr c26
          by_cases c29 : a0 = 10
          ·rw [if_pos c29] at H
           have c29b0 : (a0 == 10) = true := beq_iff_eq.mpr c29
           have c29b1 : (a0 != 10) = false := bne_eq_false_iff_eq.mpr c29
           clear c29
           obtain ⟨y128, hy128⟩ : ∃ y_ : List Int, y_ = (([0] : List Int)) := ⟨_, rfl⟩
           replace H : (some ((⟨#[115, 116, 97, 114, 116]⟩ : ByteArray), y128)) = some (r1, r2) := by first | (rw [hy128]; with_reducible exact H) | (have H2_ := (Option.bind_some _ _).symm.trans H; rw [hy128]; with_reducible exact H2_) | (have H2_ := (Option.bind_some _ _).symm.trans H; with_reducible exact H2_) | with_reducible exact H | (rw [hy128]; exact H) | exact H
           have Ny128 := Aside0.mk hy128
           clear hy128
           simp only [Option.some.injEq, Prod.mk.injEq] at H
           obtain ⟨rfl, rfl⟩ := H
           go_enter Tryd.func49, Tryd.ntmps49
           go_wp2_with (first | ((with_reducible refine gate_dst (N := 34) rfl ?_); refine Kd.R_lit (Kd.int .i64) _ 78 ?hg (N := 34) ?hd (xs := ([0] : List Int)) (inner := [.int .i64 0]) (ok := fun _ => True) (okp := fun _ => True) ?hr ?hp (fun _ hk => hk) trivial (Below.refl _ _) (Nat.le_refl _) (by simp) ?_; (case hd => rfl); (case hg => rfl); (case hr => first | (go_simp; done) | (go_simp; rfl)); (case hp => exact (Reps.one (show Kd.M (Kd.int .i64) _ _ _ 0 [.int .i64 0] from rfl) (Reps.none _ _))); intro v129 w30 ho31 hb hg_ hnew_; clear hg_ hnew_; (first | rw [← Ny128.out] at ho31 | (simp only [Int.reduceToNat] at ho31; rw [← Ny128.out] at ho31)); have n0_ := Aside0.mk (Kd.R_lower ho31 (below_size (bb_ HB.out))); have n1_ := Aside0.mk (below_step (bb_ HB.out) hb); clear HB; have HO130 := n0_; have HB := n1_; clear n0_ n1_; clear hb ho31))
           go_ret2
           exact ⟨_, by first | rfl | (simp [errW_none, errW_some] <;> rfl) | (simp [*, errW_none, errW_some] <;> rfl), by (with_reducible repeat (first | apply Kd.R_alloc | apply Kd.R_drewN | apply Kd.R_drew)); exact HO130.out, bb_ HB.out⟩
          ·rw [if_neg c29] at H
           have c29b0 : (a0 == 10) = false := beq_eq_false_iff_ne.mpr c29
           have c29b1 : (a0 != 10) = true := bne_iff_ne.mpr c29
           by_cases c32 : a0 = 11
           ·rw [if_pos c32] at H
            have c32b0 : (a0 == 11) = true := beq_iff_eq.mpr c32
            have c32b1 : (a0 != 11) = false := bne_eq_false_iff_eq.mpr c32
            clear c32
            obtain ⟨y131, hy131⟩ : ∃ y_ : List Int, y_ = (([0, 2] : List Int)) := ⟨_, rfl⟩
            replace H : (some ((⟨#[102, 117, 115, 101]⟩ : ByteArray), y131)) = some (r1, r2) := by first | (rw [hy131]; with_reducible exact H) | (have H2_ := (Option.bind_some _ _).symm.trans H; rw [hy131]; with_reducible exact H2_) | (have H2_ := (Option.bind_some _ _).symm.trans H; with_reducible exact H2_) | with_reducible exact H | (rw [hy131]; exact H) | exact H
            have Ny131 := Aside0.mk hy131
            clear hy131
            simp only [Option.some.injEq, Prod.mk.injEq] at H
            obtain ⟨rfl, rfl⟩ := H
            go_enter Tryd.func49, Tryd.ntmps49
            go_wp2_with (first | ((with_reducible refine gate_dst (N := 37) rfl ?_); refine Kd.R_lit (Kd.int .i64) _ 78 ?hg (N := 37) ?hd (xs := ([0, 2] : List Int)) (inner := [.int .i64 0, .int .i64 2]) (ok := fun _ => True) (okp := fun _ => True) ?hr ?hp (fun _ hk => hk) trivial (Below.refl _ _) (Nat.le_refl _) (by simp) ?_; (case hd => rfl); (case hg => rfl); (case hr => first | (go_simp; done) | (go_simp; rfl)); (case hp => exact (Reps.one (show Kd.M (Kd.int .i64) _ _ _ 0 [.int .i64 0] from rfl) (Reps.one (show Kd.M (Kd.int .i64) _ _ _ 2 [.int .i64 2] from rfl) (Reps.none _ _)))); intro v132 w33 ho34 hb hg_ hnew_; clear hg_ hnew_; (first | rw [← Ny131.out] at ho34 | (simp only [Int.reduceToNat] at ho34; rw [← Ny131.out] at ho34)); have n0_ := Aside0.mk (Kd.R_lower ho34 (below_size (bb_ HB.out))); have n1_ := Aside0.mk (below_step (bb_ HB.out) hb); clear HB; have HO133 := n0_; have HB := n1_; clear n0_ n1_; clear hb ho34))
            go_ret2
            exact ⟨_, by first | rfl | (simp [errW_none, errW_some] <;> rfl) | (simp [*, errW_none, errW_some] <;> rfl), by (with_reducible repeat (first | apply Kd.R_alloc | apply Kd.R_drewN | apply Kd.R_drew)); exact HO133.out, bb_ HB.out⟩
           ·rw [if_neg c32] at H
            have c32b0 : (a0 == 11) = false := beq_eq_false_iff_ne.mpr c32
            have c32b1 : (a0 != 11) = true := bne_iff_ne.mpr c32
            by_cases c35 : a0 = 12
            ·rw [if_pos c35] at H
             have c35b0 : (a0 == 12) = true := beq_iff_eq.mpr c35
             have c35b1 : (a0 != 12) = false := bne_eq_false_iff_eq.mpr c35
             clear c35
             obtain ⟨y134, hy134⟩ : ∃ y_ : List Int, y_ = (([0] : List Int)) := ⟨_, rfl⟩
             replace H : (some ((⟨#[102, 108, 117, 115, 104]⟩ : ByteArray), y134)) = some (r1, r2) := by first | (rw [hy134]; with_reducible exact H) | (have H2_ := (Option.bind_some _ _).symm.trans H; rw [hy134]; with_reducible exact H2_) | (have H2_ := (Option.bind_some _ _).symm.trans H; with_reducible exact H2_) | with_reducible exact H | (rw [hy134]; exact H) | exact H
             have Ny134 := Aside0.mk hy134
             clear hy134
             simp only [Option.some.injEq, Prod.mk.injEq] at H
             obtain ⟨rfl, rfl⟩ := H
             go_enter Tryd.func49, Tryd.ntmps49
             go_wp2_with (first | ((with_reducible refine gate_dst (N := 40) rfl ?_); refine Kd.R_lit (Kd.int .i64) _ 78 ?hg (N := 40) ?hd (xs := ([0] : List Int)) (inner := [.int .i64 0]) (ok := fun _ => True) (okp := fun _ => True) ?hr ?hp (fun _ hk => hk) trivial (Below.refl _ _) (Nat.le_refl _) (by simp) ?_; (case hd => rfl); (case hg => rfl); (case hr => first | (go_simp; done) | (go_simp; rfl)); (case hp => exact (Reps.one (show Kd.M (Kd.int .i64) _ _ _ 0 [.int .i64 0] from rfl) (Reps.none _ _))); intro v135 w36 ho37 hb hg_ hnew_; clear hg_ hnew_; (first | rw [← Ny134.out] at ho37 | (simp only [Int.reduceToNat] at ho37; rw [← Ny134.out] at ho37)); have n0_ := Aside0.mk (Kd.R_lower ho37 (below_size (bb_ HB.out))); have n1_ := Aside0.mk (below_step (bb_ HB.out) hb); clear HB; have HO136 := n0_; have HB := n1_; clear n0_ n1_; clear hb ho37))
             go_ret2
             exact ⟨_, by first | rfl | (simp [errW_none, errW_some] <;> rfl) | (simp [*, errW_none, errW_some] <;> rfl), by (with_reducible repeat (first | apply Kd.R_alloc | apply Kd.R_drewN | apply Kd.R_drew)); exact HO136.out, bb_ HB.out⟩
            ·rw [if_neg c35] at H
             have c35b0 : (a0 == 12) = false := beq_eq_false_iff_ne.mpr c35
             have c35b1 : (a0 != 12) = true := bne_iff_ne.mpr c35
             by_cases c38 : a0 = 13
             ·rw [if_pos c38] at H
              have c38b0 : (a0 == 13) = true := beq_iff_eq.mpr c38
              have c38b1 : (a0 != 13) = false := bne_eq_false_iff_eq.mpr c38
              clear c38
              obtain ⟨y137, hy137⟩ : ∃ y_ : List Int, y_ = (([0] : List Int)) := ⟨_, rfl⟩
              replace H : (some ((⟨#[99, 111, 109, 112, 97, 99, 116]⟩ : ByteArray), y137)) = some (r1, r2) := by first | (rw [hy137]; with_reducible exact H) | (have H2_ := (Option.bind_some _ _).symm.trans H; rw [hy137]; with_reducible exact H2_) | (have H2_ := (Option.bind_some _ _).symm.trans H; with_reducible exact H2_) | with_reducible exact H | (rw [hy137]; exact H) | exact H
              have Ny137 := Aside0.mk hy137
              clear hy137
              simp only [Option.some.injEq, Prod.mk.injEq] at H
              obtain ⟨rfl, rfl⟩ := H
              go_enter Tryd.func49, Tryd.ntmps49
              go_wp2_with (first | ((with_reducible refine gate_dst (N := 43) rfl ?_); refine Kd.R_lit (Kd.int .i64) _ 78 ?hg (N := 43) ?hd (xs := ([0] : List Int)) (inner := [.int .i64 0]) (ok := fun _ => True) (okp := fun _ => True) ?hr ?hp (fun _ hk => hk) trivial (Below.refl _ _) (Nat.le_refl _) (by simp) ?_; (case hd => rfl); (case hg => rfl); (case hr => first | (go_simp; done) | (go_simp; rfl)); (case hp => exact (Reps.one (show Kd.M (Kd.int .i64) _ _ _ 0 [.int .i64 0] from rfl) (Reps.none _ _))); intro v138 w39 ho40 hb hg_ hnew_; clear hg_ hnew_; (first | rw [← Ny137.out] at ho40 | (simp only [Int.reduceToNat] at ho40; rw [← Ny137.out] at ho40)); have n0_ := Aside0.mk (Kd.R_lower ho40 (below_size (bb_ HB.out))); have n1_ := Aside0.mk (below_step (bb_ HB.out) hb); clear HB; have HO139 := n0_; have HB := n1_; clear n0_ n1_; clear hb ho40))
              go_ret2
              exact ⟨_, by first | rfl | (simp [errW_none, errW_some] <;> rfl) | (simp [*, errW_none, errW_some] <;> rfl), by (with_reducible repeat (first | apply Kd.R_alloc | apply Kd.R_drewN | apply Kd.R_drew)); exact HO139.out, bb_ HB.out⟩
             ·rw [if_neg c38] at H
              have c38b0 : (a0 == 13) = false := beq_eq_false_iff_ne.mpr c38
              have c38b1 : (a0 != 13) = true := bne_iff_ne.mpr c38
              by_cases c41 : a0 = 14
              ·rw [if_pos c41] at H
               have c41b0 : (a0 == 14) = true := beq_iff_eq.mpr c41
               have c41b1 : (a0 != 14) = false := bne_eq_false_iff_eq.mpr c41
               clear c41
               obtain ⟨y140, hy140⟩ : ∃ y_ : List Int, y_ = (([0] : List Int)) := ⟨_, rfl⟩
               replace H : (some ((⟨#[99, 111, 108, 108, 101, 99, 116]⟩ : ByteArray), y140)) = some (r1, r2) := by first | (rw [hy140]; with_reducible exact H) | (have H2_ := (Option.bind_some _ _).symm.trans H; rw [hy140]; with_reducible exact H2_) | (have H2_ := (Option.bind_some _ _).symm.trans H; with_reducible exact H2_) | with_reducible exact H | (rw [hy140]; exact H) | exact H
               have Ny140 := Aside0.mk hy140
               clear hy140
               simp only [Option.some.injEq, Prod.mk.injEq] at H
               obtain ⟨rfl, rfl⟩ := H
               go_enter Tryd.func49, Tryd.ntmps49
               go_wp2_with (first | ((with_reducible refine gate_dst (N := 46) rfl ?_); refine Kd.R_lit (Kd.int .i64) _ 78 ?hg (N := 46) ?hd (xs := ([0] : List Int)) (inner := [.int .i64 0]) (ok := fun _ => True) (okp := fun _ => True) ?hr ?hp (fun _ hk => hk) trivial (Below.refl _ _) (Nat.le_refl _) (by simp) ?_; (case hd => rfl); (case hg => rfl); (case hr => first | (go_simp; done) | (go_simp; rfl)); (case hp => exact (Reps.one (show Kd.M (Kd.int .i64) _ _ _ 0 [.int .i64 0] from rfl) (Reps.none _ _))); intro v141 w42 ho43 hb hg_ hnew_; clear hg_ hnew_; (first | rw [← Ny140.out] at ho43 | (simp only [Int.reduceToNat] at ho43; rw [← Ny140.out] at ho43)); have n0_ := Aside0.mk (Kd.R_lower ho43 (below_size (bb_ HB.out))); have n1_ := Aside0.mk (below_step (bb_ HB.out) hb); clear HB; have HO142 := n0_; have HB := n1_; clear n0_ n1_; clear hb ho43))
               go_ret2
               exact ⟨_, by first | rfl | (simp [errW_none, errW_some] <;> rfl) | (simp [*, errW_none, errW_some] <;> rfl), by (with_reducible repeat (first | apply Kd.R_alloc | apply Kd.R_drewN | apply Kd.R_drew)); exact HO142.out, bb_ HB.out⟩
              ·rw [if_neg c41] at H
               have c41b0 : (a0 == 14) = false := beq_eq_false_iff_ne.mpr c41
               have c41b1 : (a0 != 14) = true := bne_iff_ne.mpr c41
               by_cases c44 : a0 = 15
               ·rw [if_pos c44] at H
                have c44b0 : (a0 == 15) = true := beq_iff_eq.mpr c44
                have c44b1 : (a0 != 15) = false := bne_eq_false_iff_eq.mpr c44
                clear c44
                obtain ⟨y143, hy143⟩ : ∃ y_ : List Int, y_ = (([0] : List Int)) := ⟨_, rfl⟩
                replace H : (some ((⟨#[115, 97, 118, 101]⟩ : ByteArray), y143)) = some (r1, r2) := by first | (rw [hy143]; with_reducible exact H) | (have H2_ := (Option.bind_some _ _).symm.trans H; rw [hy143]; with_reducible exact H2_) | (have H2_ := (Option.bind_some _ _).symm.trans H; with_reducible exact H2_) | with_reducible exact H | (rw [hy143]; exact H) | exact H
                have Ny143 := Aside0.mk hy143
                clear hy143
                simp only [Option.some.injEq, Prod.mk.injEq] at H
                obtain ⟨rfl, rfl⟩ := H
                go_enter Tryd.func49, Tryd.ntmps49
                go_wp2_with (first | ((with_reducible refine gate_dst (N := 49) rfl ?_); refine Kd.R_lit (Kd.int .i64) _ 78 ?hg (N := 49) ?hd (xs := ([0] : List Int)) (inner := [.int .i64 0]) (ok := fun _ => True) (okp := fun _ => True) ?hr ?hp (fun _ hk => hk) trivial (Below.refl _ _) (Nat.le_refl _) (by simp) ?_; (case hd => rfl); (case hg => rfl); (case hr => first | (go_simp; done) | (go_simp; rfl)); (case hp => exact (Reps.one (show Kd.M (Kd.int .i64) _ _ _ 0 [.int .i64 0] from rfl) (Reps.none _ _))); intro v144 w45 ho46 hb hg_ hnew_; clear hg_ hnew_; (first | rw [← Ny143.out] at ho46 | (simp only [Int.reduceToNat] at ho46; rw [← Ny143.out] at ho46)); have n0_ := Aside0.mk (Kd.R_lower ho46 (below_size (bb_ HB.out))); have n1_ := Aside0.mk (below_step (bb_ HB.out) hb); clear HB; have HO145 := n0_; have HB := n1_; clear n0_ n1_; clear hb ho46))
                go_ret2
                exact ⟨_, by first | rfl | (simp [errW_none, errW_some] <;> rfl) | (simp [*, errW_none, errW_some] <;> rfl), by (with_reducible repeat (first | apply Kd.R_alloc | apply Kd.R_drewN | apply Kd.R_drew)); exact HO145.out, bb_ HB.out⟩
               ·rw [if_neg c44] at H
                have c44b0 : (a0 == 15) = false := beq_eq_false_iff_ne.mpr c44
                have c44b1 : (a0 != 15) = true := bne_iff_ne.mpr c44
                by_cases c47 : a0 = 16
                ·rw [if_pos c47] at H
                 have c47b0 : (a0 == 16) = true := beq_iff_eq.mpr c47
                 have c47b1 : (a0 != 16) = false := bne_eq_false_iff_eq.mpr c47
                 clear c47
                 obtain ⟨y146, hy146⟩ : ∃ y_ : List Int, y_ = (([0, 2, 7] : List Int)) := ⟨_, rfl⟩
                 replace H : (some ((⟨#[113, 117, 101, 114, 121]⟩ : ByteArray), y146)) = some (r1, r2) := by first | (rw [hy146]; with_reducible exact H) | (have H2_ := (Option.bind_some _ _).symm.trans H; rw [hy146]; with_reducible exact H2_) | (have H2_ := (Option.bind_some _ _).symm.trans H; with_reducible exact H2_) | with_reducible exact H | (rw [hy146]; exact H) | exact H
                 have Ny146 := Aside0.mk hy146
                 clear hy146
                 simp only [Option.some.injEq, Prod.mk.injEq] at H
                 obtain ⟨rfl, rfl⟩ := H
                 go_enter Tryd.func49, Tryd.ntmps49
                 go_wp2_with (first | ((with_reducible refine gate_dst (N := 52) rfl ?_); refine Kd.R_lit (Kd.int .i64) _ 78 ?hg (N := 52) ?hd (xs := ([0, 2, 7] : List Int)) (inner := [.int .i64 0, .int .i64 2, .int .i64 7]) (ok := fun _ => True) (okp := fun _ => True) ?hr ?hp (fun _ hk => hk) trivial (Below.refl _ _) (Nat.le_refl _) (by simp) ?_; (case hd => rfl); (case hg => rfl); (case hr => first | (go_simp; done) | (go_simp; rfl)); (case hp => exact (Reps.one (show Kd.M (Kd.int .i64) _ _ _ 0 [.int .i64 0] from rfl) (Reps.one (show Kd.M (Kd.int .i64) _ _ _ 2 [.int .i64 2] from rfl) (Reps.one (show Kd.M (Kd.int .i64) _ _ _ 7 [.int .i64 7] from rfl) (Reps.none _ _))))); intro v147 w48 ho49 hb hg_ hnew_; clear hg_ hnew_; (first | rw [← Ny146.out] at ho49 | (simp only [Int.reduceToNat] at ho49; rw [← Ny146.out] at ho49)); have n0_ := Aside0.mk (Kd.R_lower ho49 (below_size (bb_ HB.out))); have n1_ := Aside0.mk (below_step (bb_ HB.out) hb); clear HB; have HO148 := n0_; have HB := n1_; clear n0_ n1_; clear hb ho49))
                 go_ret2
                 exact ⟨_, by first | rfl | (simp [errW_none, errW_some] <;> rfl) | (simp [*, errW_none, errW_some] <;> rfl), by (with_reducible repeat (first | apply Kd.R_alloc | apply Kd.R_drewN | apply Kd.R_drew)); exact HO148.out, bb_ HB.out⟩
                ·rw [if_neg c47] at H
                 have c47b0 : (a0 == 16) = false := beq_eq_false_iff_ne.mpr c47
                 have c47b1 : (a0 != 16) = true := bne_iff_ne.mpr c47
                 simp only [Option.some.injEq, Prod.mk.injEq] at H
                 obtain ⟨rfl, rfl⟩ := H
                 go_enter Tryd.func49, Tryd.ntmps49
                 go_wp2
                 go_ret2
                 exact ⟨_, by first | rfl | (simp [errW_none, errW_some] <;> rfl) | (simp [*, errW_none, errW_some] <;> rfl), by first | exact Kd.R_nil _ _ _ _ _ | exact Kd.N_nil _ _ _ _ _ | exact Kd.V_nil _ _ _ _ _ | exact Kd.Q_nil _ _ _ _ _ | exact Kd.S_nil _ _ _ _ _, bb_ HB.out⟩
def strings_Split.f (a0 a1 : ByteArray) : Option (List ByteArray) := if a0.size < 4294967281 ∧ 1 ≤ a1.size then some (Lib.splitB a1 0 (Lib.countB a0 a1) a0) else none
theorem strs_new (W : World) (l : List ByteArray) (hl : l.length ≤ 140737488355328) : Kd.R Kd.string 9 (W.alloc (.cells (l.map Value.string).toArray 9)) W.heap.size (fun _ => True) (.slice (some ⟨W.heap.size, 0, none⟩) l.length l.length) l := by
 refine ⟨fun _ _ => trivial, l.map Value.string, ?_, ?_⟩
 ·have h2 := World.ownsRow_lit (base := W.heap.size) (e := 9) (size := Kd.string.sz) W (l.map Value.string).toArray l.length (Nat.le_refl _) (by have : maxLen = 9223372036854775807 := rfl; omega) (by simp [Kd.string, Kd.scalar])
  simpa using h2
 ·refine ⟨by simp [Kd.string, Kd.scalar], fun j p hj => ?_⟩
  obtain ⟨hjl, hp⟩ := List.getElem?_eq_some_iff.1 hj
  show ((l.map Value.string).drop (j * 1)).take 1 = [.string p]
  rw [Nat.mul_one, List.drop_eq_getElem_cons (by simpa using hjl)]
  simp [hp]
theorem strings_Split.calls (a0 a1 : ByteArray) (r : List ByteArray) (w : World) (hG : GL w) (h : strings_Split.f a0 a1 = some r) :
  Calls Tryd.prog 57 #[.string a0, .string a1] w fun e w' => ∃ v0_ : Value, e = .returned (v0_) ∧ Kd.R Kd.string 9 w' w.heap.size (fun _ => True) v0_ r ∧ Below w.heap.size w w' := by
 unfold strings_Split.f at h
 split at h
 ·rename_i hs
  cases h
  obtain ⟨m, hm⟩ := hG.len
  refine (Tryd.strings_Split a0 a1 m w hs.1 hm hs.2).mono ?_
  rintro e w' ⟨rfl, rfl⟩
  have hlen := Lib.splitB_all a1 hs.2 0 (Lib.countB a0 a1) a0 rfl
  refine ⟨_, rfl, ?_, below_alloc (Below.refl _ _) _⟩
  rw [← hlen]
  exact strs_new w _ (by rw [hlen]; have := Lib.countB_le a1 hs.2 a0.size a0 (Nat.le_refl _); omega)
 ·cases h
def script_kind.l0 : Nat → ByteArray → Int → Option (Int)
 | 0, _, _ => none
 | k + 1, x0, x3 => if x3 ≤ 16 then ((script_word.f x3).bind fun bt149 => (if bt149.1.toList = x0.toList then (some x3) else (script_kind.l0 k x0 (wrap64 (x3 + 1))))) else (some 0)
def script_kind.f (k : Nat) (a0 : ByteArray) : Option (Int) := script_kind.l0 k a0 1
set_option maxHeartbeats 8000000 in
set_option maxRecDepth 100000 in
theorem script_kind.calls (k : Nat) (a0 : ByteArray) (r : Int) (w : World) (h : script_kind.f k a0 = some r) :
  Calls Tryd.prog 58 #[.string a0] w fun e w' => e = .returned (.int .i64 r) ∧ Below w.heap.size w w' := by
 have HB := Aside0.mk (Below.refl w.heap.size w)
 have H : (script_kind.l0 k a0 1) = some r := h
 clear h
 have H' := Aside0.mk H
 clear H
 go_enter Tryd.func58, Tryd.ntmps58
 go_wp2
 go_loopg [3] k (fun kq v3 w' => ∃ (x3_1 : Int), v3 = .int .i64 x3_1 ∧ Aside0 (script_kind.l0 kq a0 x3_1 = some r) ∧ Aside0 (kq ≤ k) ∧ Aside0 (Below w.heap.size w w'))
 case atStart => exact ⟨(1), rs_, H', ⟨Nat.le_refl _⟩, ⟨bb_ HB.out⟩⟩
 case round =>
  clear H'
  obtain ⟨x3_1, rfl, HA, HK1, HB⟩ := hrel
  cases gk with
  | zero => exact absurd HA.out (by simp [script_kind.l0])
  | succ k1 =>
   have H := HA.out
   clear HA
   simp only [script_kind.l0] at H
   by_cases c2 : x3_1 ≤ 16
   ·rw [if_pos c2] at H
    have c2b0 : decide (x3_1 ≤ 16) = true := decide_eq_true c2
    clear c2
    replace H := Option.bind_eq_some_iff.mp H
    obtain ⟨⟨t149, t150⟩, A30, H⟩ := H
    replace H : (if t149.toList = a0.toList then (some x3_1) else (script_kind.l0 k1 a0 (wrap64 (x3_1 + 1)))) = some r := H
    have A3 := Aside0.mk A30
    clear A30
    by_cases c4 : t149.toList = a0.toList
    ·rw [if_pos c4] at H
     have c4b0 : (t149.toList == a0.toList) = true := beq_iff_eq.mpr c4
     have c4b1 : (t149.toList != a0.toList) = false := bne_eq_false_iff_eq.mpr c4
     clear c4
     obtain rfl := Option.some.inj H
     go_wp2_with (first | ((with_reducible refine gate_callee (f := 49) rfl ?_); refine goesL_ (some 12) rfl rfl Tryd.func49 (by kernel_rfl) rfl #[.int .i64 x3_1] rfl ar_ ?_; (with_reducible refine (script_word.calls x3_1 t149 t150 _ A3.out).mono ?_); rintro e w5 ⟨v151, rfl, ho0, hb⟩; refine ⟨_, rfl, ?_⟩; have n0_ := Aside0.mk (Kd.R_lower ho0 (below_size (bb_ HB.out))); have n1_ := Aside0.mk (below_step (bb_ HB.out) hb); clear HB; have HO152 := n0_; have HB := n1_; clear n0_ n1_; (try clear hb); (try clear hb2); (try clear hk); (try clear hi); (try clear ho0)))
     go_ret
     exact ⟨by first | rfl | (simp [errW_none, errW_some] <;> rfl) | (simp [*, errW_none, errW_some] <;> rfl), bb_ HB.out⟩
    ·rw [if_neg c4] at H
     have c4b0 : (t149.toList == a0.toList) = false := beq_eq_false_iff_ne.mpr c4
     have c4b1 : (t149.toList != a0.toList) = true := bne_iff_ne.mpr c4
     have H' := Aside0.mk H
     clear H
     go_wp2_with (first | ((with_reducible refine gate_callee (f := 49) rfl ?_); refine goesL_ (some 12) rfl rfl Tryd.func49 (by kernel_rfl) rfl #[.int .i64 x3_1] rfl ar_ ?_; (with_reducible refine (script_word.calls x3_1 t149 t150 _ A3.out).mono ?_); rintro e w6 ⟨v151, rfl, ho0, hb⟩; refine ⟨_, rfl, ?_⟩; have n0_ := Aside0.mk (Kd.R_lower ho0 (below_size (bb_ HB.out))); have n1_ := Aside0.mk (below_step (bb_ HB.out) hb); clear HB; have HO152 := n0_; have HB := n1_; clear n0_ n1_; (try clear hb); (try clear hb2); (try clear hk); (try clear hi); (try clear ho0)))
     go_roundg k1
     case measure => have := HK1.out; omega
     case rel => exact ⟨(wrap64 (x3_1 + 1)), rs_, H', ⟨by have := HK1.out; omega⟩, ⟨bb_ HB.out⟩⟩
   ·rw [if_neg c2] at H
    have c2b0 : decide (x3_1 ≤ 16) = false := decide_eq_false c2
    clear c2
    obtain rfl := Option.some.inj H
    go_wp2
    go_ret
    exact ⟨by first | rfl | (simp [errW_none, errW_some] <;> rfl) | (simp [*, errW_none, errW_some] <;> rfl), bb_ HB.out⟩
def strconv_Itoa_50.f (a0 : Int) : Option ByteArray := if -9223372036854775808 ≤ a0 ∧ a0 ≤ 9223372036854775807 then some ⟨(Lib.itoa a0).toArray⟩ else none
theorem strconv_Itoa_50.calls (a0 : Int) (r : ByteArray) (w : World) (hG : GL w) (h : strconv_Itoa_50.f a0 = some r) :
  Calls Tryd.prog 50 #[.int .i64 a0] w fun e w' => e = .returned (.string r) ∧ Below w.heap.size w w' := by
 unfold strconv_Itoa_50.f at h
 split at h
 ·rename_i hs
  cases h
  refine (Tryd.strconv_Itoa a0 hs.1 hs.2 w hG.pow).mono ?_
  rintro e w' ⟨rfl, k, os, rfl⟩
  exact ⟨rfl, Lib.below_grow _ w (Nat.le_refl _) k os⟩
 ·cases h
def atoiN (s : ByteArray) : Int × Bool := match Lib.atoiAll s.data.toList with | .ok v => (v, true) | .range => (Lib.atoiSat s.data.toList, false) | _ => (0, false)
def script_number.f (a0 : ByteArray) : Option (Int × Bool) := if a0.size ≤ 40000000 then some ((atoiN a0).1, (atoiN a0).2 && decide (-1 ≤ (atoiN a0).1) && decide ((atoiN a0).1 ≤ 1073741824) && ((Lib.itoa (atoiN a0).1) == a0.toList)) else none
theorem atoi_calls (s : ByteArray) (w : World) (hG : GL w) (hs : s.size ≤ 40000000) :
  Calls Tryd.prog 93 #[.string s] w fun e w' => ∃ ev, e = .returned (.tuple #[.int .i64 (atoiN s).1, ev]) ∧ (((atoiN s).2 = true ∧ ev = .nilIface) ∨ ((atoiN s).2 = false ∧ ∃ t p, ev = .iface t p)) ∧ Below w.heap.size w w' := by
 cases h : Lib.atoiAll s.data.toList with
 | ok v =>
  refine (Tryd.strconv_Atoi_ok s (by omega) v h w).mono ?_
  have e1 : atoiN s = (v, true) := by unfold atoiN; rw [h]
  rintro e w' ⟨rfl, hw⟩
  refine ⟨_, by rw [e1], .inl ⟨by rw [e1], rfl⟩, ?_⟩
  rcases hw with rfl | ⟨t, rfl⟩
  ·exact Below.refl _ _
  ·exact bytes_below (Below.refl _ _) (Nat.le_refl _) _ _
 | range =>
  obtain ⟨ev, hv, hev⟩ := hG.rng
  refine (Tryd.strconv_Atoi_range s (by omega) h ev w hv hev).mono ?_
  have e1 : atoiN s = (Lib.atoiSat s.data.toList, false) := by unfold atoiN; rw [h]
  rintro e w' ⟨N, rfl, _, _, hb⟩
  exact ⟨_, by rw [e1], .inr ⟨by rw [e1], _, _, rfl⟩, hb⟩
 | _ =>
  obtain ⟨ev, hv, hev⟩ := hG.syn
  refine (Tryd.strconv_Atoi_syntax s (by omega) h ev w hv hev).mono ?_
  have e1 : atoiN s = (0, false) := by unfold atoiN; rw [h]
  rintro e w' ⟨N, rfl, _, _, hb⟩
  exact ⟨_, by rw [e1], .inr ⟨by rw [e1], _, _, rfl⟩, hb⟩
set_option maxHeartbeats 4000000 in
set_option maxRecDepth 100000 in
theorem script_number.calls (a0 : ByteArray) (r1 : Int) (r2 : Bool) (w : World) (hG : GL w) (h : script_number.f a0 = some (r1, r2)) :
  Calls Tryd.prog 78 #[.string a0] w fun e w' => e = .returned (.tuple #[.int .i64 r1, .bool r2]) ∧ Below w.heap.size w w' := by
 unfold script_number.f at h
 split at h
 ·rename_i hs
  simp only [Option.some.injEq, Prod.mk.injEq] at h
  obtain ⟨h1, h2⟩ := h
  have HG := Aside0.mk hG
  have HA := Aside0.mk (atoi_calls a0 w hG hs)
  obtain ⟨n, hn⟩ : ∃ n, n = (atoiN a0).1 := ⟨_, rfl⟩
  obtain ⟨b, hb0⟩ : ∃ b, b = (atoiN a0).2 := ⟨_, rfl⟩
  rw [← hn, ← hb0] at HA
  rw [← hn, ← hb0] at h2
  rw [← hn] at h1
  clear hn hb0
  subst h1
  have H2 := Aside0.mk h2
  clear hG hs h2
  go_enter Tryd.func78, Tryd.ntmps78
  go_wp2_with fail
  refine HA.out.mono ?_
  rintro e w1 ⟨ev, rfl, hev, hb⟩
  have HG1 := Aside0.mk (HG.out.below hb)
  have HB1 := Aside0.mk hb
  clear HA hb
  rcases hev with ⟨rfl, rfl⟩ | ⟨rfl, t, p, rfl⟩
  ·by_cases c1 : -1 ≤ n
   ·by_cases c2 : n ≤ 1073741824
    ·have b1 : decide (-1 ≤ n) = true := decide_eq_true c1
     have b2 : decide (n ≤ 1073741824) = true := decide_eq_true c2
     have e2 : r2 = (Lib.itoa n == a0.toList) := by rw [← H2.out, b1, b2]; rfl
     have HI := Aside0.mk (strconv_Itoa_50.calls n ⟨(Lib.itoa n).toArray⟩ w1 HG1.out (by unfold strconv_Itoa_50.f; rw [if_pos (by omega)]))
     have HE := Aside0.mk e2
     clear c1 c2 e2 H2
     go_wp2_with fail
     refine HI.out.mono ?_
     rintro e w2 ⟨rfl, hb2⟩
     have HB2 := Aside0.mk (HB1.out.trans (hb2.mono HB1.out.size))
     clear hb2
     go_wp2
     go_ret2
     have e3 := HE.out
     subst e3
     exact ⟨rfl, HB2.out⟩
    ·have b1 : decide (-1 ≤ n) = true := decide_eq_true c1
     have b2 : decide (n ≤ 1073741824) = false := decide_eq_false c2
     have e2 : r2 = false := by rw [← H2.out, b1, b2]; rfl
     subst e2
     clear c1 c2 H2
     go_wp2
     go_ret2
     exact ⟨rfl, HB1.out⟩
   ·have b1 : decide (-1 ≤ n) = false := decide_eq_false c1
    have e2 : r2 = false := by rw [← H2.out, b1]; rfl
    subst e2
    clear c1 H2
    go_wp2
    go_ret2
    exact ⟨rfl, HB1.out⟩
  ·have e2 : r2 = false := by rw [← H2.out]; rfl
   subst e2
   clear H2
   go_wp2
   go_ret2
   exact ⟨rfl, HB1.out⟩
 ·cases h
def script_list.l0 : Nat → List Int → List ByteArray → Int → Int → Option (List Int × Bool)
 | 0, _, _, _, _ => none
 | k + 1, x4, x9, x10, x11 => if x11 < x10 then (if 0 ≤ x11 then (if x11 < (x9.length : Int) then ((script_number.f (rdOf ByteArray.empty x9 x11)).bind fun bt174 => (if bt174.2 = true then (if x4.length < 17592186044416 then (script_list.l0 k (x4 ++ [bt174.1]) x9 x10 (wrap64 (x11 + 1))) else (none)) else (some (([] : List Int), false)))) else (none)) else (none)) else (some (x4, true))
def script_list.f (k : Nat) (l0 : List ByteArray) : Option (List Int × Bool) := script_list.l0 k ([] : List Int) l0 (l0.length : Int) 0
set_option maxHeartbeats 8000000 in
set_option maxRecDepth 100000 in
theorem script_list.calls (k : Nat) (A0 : Option Addr) (c0 : Nat) (l0 : List ByteArray) (r1 : List Int) (r2 : Bool) (w : World) (hG : GL w) (hr0 : Kd.C Kd.string w A0 l0.length l0) (hc0 : l0.length ≤ c0) (h : script_list.f k l0 = some (r1, r2)) :
  Calls Tryd.prog 59 #[.slice A0 l0.length c0] w fun e w' => ∃ v0_ : Value, e = .returned (.tuple #[v0_, .bool r2]) ∧ Kd.R (Kd.int .i64) 3 w' w.heap.size (fun _ => True) v0_ r1 ∧ Below w.heap.size w w' := by
 have HR0 := Aside0.mk hr0
 have HC0 := Aside0.mk hc0
 clear hr0 hc0
 have HB := Aside0.mk (Below.refl w.heap.size w)
 have H : (script_list.l0 k ([] : List Int) l0 (l0.length : Int) 0) = some (r1, r2) := h
 clear h
 have H' := Aside0.mk H
 clear H
 go_enter Tryd.func59, Tryd.ntmps59
 go_wp2
 go_loopg [4, 11] k (fun kq v4 v11 w' => ∃ (x4_1 : List Int) (x11_1 : Int), v11 = .int .i64 x11_1 ∧ Aside0 (script_list.l0 kq x4_1 l0 (l0.length : Int) x11_1 = some (r1, r2)) ∧ Aside0 (kq ≤ k) ∧ Aside0 (Kd.R (Kd.int .i64) 3 w' w.heap.size (fun _ => True) v4 x4_1) ∧ Aside0 (Below w.heap.size w w'))
 case atStart => exact ⟨(([] : List Int)), (0), rs_, H', ⟨Nat.le_refl _⟩, ⟨by first | exact Kd.R_nil _ _ _ _ _ | exact Kd.N_nil _ _ _ _ _ | exact Kd.V_nil _ _ _ _ _ | exact Kd.Q_nil _ _ _ _ _ | exact Kd.S_nil _ _ _ _ _⟩, ⟨bb_ HB.out⟩⟩
 case round =>
  clear H'
  obtain ⟨x4_1, x11_1, rfl, HA, HK1, HO_4, HB⟩ := hrel
  cases gk with
  | zero => exact absurd HA.out (by simp [script_list.l0])
  | succ k1 =>
   have H := HA.out
   clear HA
   simp only [script_list.l0] at H
   by_cases c2 : x11_1 < (l0.length : Int)
   ·rw [if_pos c2] at H
    have c2b0 : decide (x11_1 < (l0.length : Int)) = true := decide_eq_true c2
    clear c2
    by_cases c3 : 0 ≤ x11_1
    ·rw [if_pos c3] at H
     have c3b0 : decide (0 ≤ x11_1) = true := decide_eq_true c3
     clear c3
     by_cases c4 : x11_1 < (l0.length : Int)
     ·rw [if_pos c4] at H
      have c4b0 : decide (x11_1 < (l0.length : Int)) = true := decide_eq_true c4
      clear c4
      replace H := Option.bind_eq_some_iff.mp H
      obtain ⟨⟨t174, t175⟩, A50, H⟩ := H
      replace H : (if t175 = true then (if x4_1.length < 17592186044416 then (script_list.l0 k1 (x4_1 ++ [t174]) l0 (l0.length : Int) (wrap64 (x11_1 + 1))) else (none)) else (some (([] : List Int), false))) = some (r1, r2) := H
      have A5 := Aside0.mk A50
      clear A50
      by_cases c6 : t175 = true
      ·subst c6
       have H1 : (if x4_1.length < 17592186044416 then (script_list.l0 k1 (x4_1 ++ [t174]) l0 (l0.length : Int) (wrap64 (x11_1 + 1))) else (none)) = some (r1, r2) := by rw [if_pos rfl] at H; exact H
       clear H
       have H := H1
       clear H1
       by_cases c7 : x4_1.length < 17592186044416
       ·rw [if_pos c7] at H
        have LMc7 := Aside0.mk c7
        clear c7
        obtain ⟨y176, hy176⟩ : ∃ y_ : List Int, y_ = (x4_1 ++ [t174]) := ⟨_, rfl⟩
        replace H : (script_list.l0 k1 y176 l0 (l0.length : Int) (wrap64 (x11_1 + 1))) = some (r1, r2) := by first | (rw [hy176]; with_reducible exact H) | (have H2_ := (Option.bind_some _ _).symm.trans H; rw [hy176]; with_reducible exact H2_) | (have H2_ := (Option.bind_some _ _).symm.trans H; with_reducible exact H2_) | with_reducible exact H | (rw [hy176]; exact H) | exact H
        have Ny176 := Aside0.mk hy176
        clear hy176
        have H' := Aside0.mk H
        clear H
        have p173 : 0 ≤ (x11_1 : Int) := of_decide_eq_true as_
        have q173 : x11_1 < (l0.length : Int) := of_decide_eq_true as_
        obtain ⟨ad173, e173, hx173_0⟩ := Kd.at_string HR0.out x11_1 p173 q173
        cases e173
        replace hx173_0 := (HB.out.cell (World.block_lt_of_cell? w _ hx173_0)).trans hx173_0
        replace p173 := eq_true p173
        replace q173 := eq_true q173
        go_wp2_with (first | ((with_reducible refine gate_callee (f := 78) rfl ?_); refine goesL_ (some 17) rfl rfl Tryd.func78 (by kernel_rfl) rfl #[.string (rdOf ByteArray.empty l0 x11_1)] rfl ar_ ?_; (with_reducible refine (script_number.calls (rdOf ByteArray.empty l0 x11_1) t174 true _ (by first | exact hG | exact GL.drewN hG _ | exact GL.below hG (bb_ HB.out)) A5.out).mono ?_); rintro e w8 ⟨rfl, hb⟩; refine ⟨_, rfl, ?_⟩; have n0_ := Aside0.mk (Kd.R_below (kr_ HO_4.out) hb); have n1_ := Aside0.mk (below_step (bb_ HB.out) hb); clear HO_4; clear HB; have HO_4 := n0_; have HB := n1_; clear n0_ n1_; (try clear hb); (try clear hb2); (try clear hk); (try clear hi)) | ((with_reducible refine gate_builtin (b := .append) (xs := #[.tmp 22, .tmp 24]) rfl ?_); at_builtin; refine Kd.R_append (Kd.int .i64) (w0 := w) w.heap.size rfl (.tmp 22) (.tmp 24) 40 3 (.int .i64 0) 8 rfl Tryd.underlying40 info3 rfl (by decide) (by omega) u4 x4_1 t174 [.int .i64 t174] (fun _ => True) (fun _ => False) rfl rfl ?aP (fun _ hk => hk.elim) ?aF ?aO ?aB ?aS ?aL ?_; (case aP => exact rfl); (case aB => exact (bb_ HB.out)); (case aF => exact (fun _ _ => trivial)); (case aO => exact (kr_ HO_4.out)); (case aS => exact (below_size (bb_ HB.out))); (case aL => have := LMc7.out; omega); intro v177 w9 ho hb hg hat; rw [← Ny176.out] at ho; have n0_ := Aside0.mk (hb); have n1_ := Aside0.mk (ho); clear HB; clear HO_4; have HB := n0_; have HO178 := n1_; clear n0_ n1_; clear ho hb hg hat))
        go_roundg k1
        case measure => have := HK1.out; omega
        case rel => exact ⟨(y176), (wrap64 (x11_1 + 1)), rs_, H', ⟨by have := HK1.out; omega⟩, ⟨kr_ HO178.out⟩, ⟨bb_ HB.out⟩⟩
       ·rw [if_neg c7] at H
        exact absurd H (by simp)
      ·replace c6 := Bool.eq_false_iff.mpr c6
       subst c6
       have H1 : (some (([] : List Int), false)) = some (r1, r2) := by rw [if_neg (show ¬ (false = true) by decide)] at H; exact H
       clear H
       have H := H1
       clear H1
       simp only [Option.some.injEq, Prod.mk.injEq] at H
       obtain ⟨rfl, rfl⟩ := H
       have p173 : 0 ≤ (x11_1 : Int) := of_decide_eq_true as_
       have q173 : x11_1 < (l0.length : Int) := of_decide_eq_true as_
       obtain ⟨ad173, e173, hx173_0⟩ := Kd.at_string HR0.out x11_1 p173 q173
       cases e173
       replace hx173_0 := (HB.out.cell (World.block_lt_of_cell? w _ hx173_0)).trans hx173_0
       replace p173 := eq_true p173
       replace q173 := eq_true q173
       go_wp2_with (first | ((with_reducible refine gate_callee (f := 78) rfl ?_); refine goesL_ (some 17) rfl rfl Tryd.func78 (by kernel_rfl) rfl #[.string (rdOf ByteArray.empty l0 x11_1)] rfl ar_ ?_; (with_reducible refine (script_number.calls (rdOf ByteArray.empty l0 x11_1) t174 false _ (by first | exact hG | exact GL.drewN hG _ | exact GL.below hG (bb_ HB.out)) A5.out).mono ?_); rintro e w10 ⟨rfl, hb⟩; refine ⟨_, rfl, ?_⟩; have n0_ := Aside0.mk (Kd.R_below (kr_ HO_4.out) hb); have n1_ := Aside0.mk (below_step (bb_ HB.out) hb); clear HO_4; clear HB; have HO_4 := n0_; have HB := n1_; clear n0_ n1_; (try clear hb); (try clear hb2); (try clear hk); (try clear hi)))
       go_ret2
       exact ⟨_, by first | rfl | (simp [errW_none, errW_some] <;> rfl) | (simp [*, errW_none, errW_some] <;> rfl), by first | exact Kd.R_nil _ _ _ _ _ | exact Kd.N_nil _ _ _ _ _ | exact Kd.V_nil _ _ _ _ _ | exact Kd.Q_nil _ _ _ _ _ | exact Kd.S_nil _ _ _ _ _, bb_ HB.out⟩
     ·rw [if_neg c4] at H
      exact absurd H (by simp)
    ·rw [if_neg c3] at H
     exact absurd H (by simp)
   ·rw [if_neg c2] at H
    have c2b0 : decide (x11_1 < (l0.length : Int)) = false := decide_eq_false c2
    clear c2
    simp only [Option.some.injEq, Prod.mk.injEq] at H
    obtain ⟨rfl, rfl⟩ := H
    go_wp2
    go_ret2
    exact ⟨_, by first | rfl | (simp [errW_none, errW_some] <;> rfl) | (simp [*, errW_none, errW_some] <;> rfl), by (with_reducible repeat (first | apply Kd.R_alloc | apply Kd.R_drewN | apply Kd.R_drew)); exact HO_4.out, bb_ HB.out⟩
end Go.Proofs.YtcgkmomhjincgaaDoor.LibQ
