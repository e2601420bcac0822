/- The reader of parse and its laws, part Rc: contracts by hand. -/
import Derived.Test.YtcgkmomhjincgaaDoorNLib0
import Derived.Test.YtcgkmomhjincgaaDoorNRb
import Derived.Test.YtcgkmomhjincgaaDoorNLib8
import Derived.Test.YtcgkmomhjincgaaDoorNLib9
namespace Go.Proofs.YtcgkmomhjincgaaDoor.Lib.Scr
open Go.RowKit Go.Proofs.YtcgkmomhjincgaaDoor.Lib Go.Proofs.YtcgkmomhjincgaaDoorW.PrintWords Go.Proofs.YtcgkmomhjincgaaDoorW.PrintLast Go.Proofs.YtcgkmomhjincgaaDoorW.PrintMore
set_option linter.unusedVariables false
set_option linter.unusedSimpArgs false
attribute [local go_sem] max2_int min2_int max_two min_two max_three min_three max_four min_four
theorem RS.under {w0 W w1 : World} {g b : Nat} {s : ByteArray} {st : PSt} (h : RS w0 W g s st) (hb : Below b W w1) (hg : g < b) : RS w0 w1 g s st :=
  ⟨h.gl, h.below.trans (hb.mono (Nat.le_trans h.ge (Nat.le_of_lt hg))), h.ge, (hb.block g hg).trans h.blk, h.le, h.sz, h.dp⟩
theorem BelowBut.under {g b : Nat} {w W w1 : World} (h : BelowBut g w W) (hb : Below b W w1) (hw : w.heap.size ≤ b) : BelowBut g w w1 :=
  ⟨hb.os.trans h.os, hb.tape.trans h.tape, hb.output.trans h.output, Nat.le_trans h.size hb.size, fun k hk hkg => (hb.block k (Nat.lt_of_lt_of_le hk hw)).trans (h.block k hk hkg)⟩
theorem N_but {α : Type} {d : Kd α} {e base g : Nat} {ok : Nat → Prop} {W w1 : World} {v : Value} {xs : List α} (h : Kd.N d e W base ok v xs) (hb : BelowBut g W w1) (hok : ∀ k, ok k → k ≠ g) : Kd.N d e w1 base ok v xs :=
  Kd.N_step h (fun k hk hlt => hb.block k hlt (hok k hk))
set_option maxHeartbeats 8000000 in
set_option maxRecDepth 100000 in
theorem any_step (k : Nat) (s : ByteArray) (hE : ∀ j, j ≤ k → FnOK 72 s (fun st => everyF j s st)) : FnOK 36 s (fun st => anyF (k + 1) s st) := by
  intro w0 w g st st' x h hf
  simp only [anyF] at hf
  obtain ⟨⟨y, st1⟩, hr, hf⟩ := Option.bind_eq_some_iff.1 hf
  obtain ⟨⟨lq, stq⟩, hl, hf⟩ := Option.bind_eq_some_iff.1 hf
  simp only [Option.some.injEq, Prod.mk.injEq] at hf hl
  obtain ⟨rfl, rfl⟩ := hf
  have HS := Aside0.mk h
  have hlt := h.lt
  have hne : ¬ (g = w.heap.size) := by omega
  have hne' : ¬ (w.heap.size = g) := by omega
  have hu := Tryd.underlying26
  have HE := Aside0.mk hE
  have HR := Aside0.mk hr
  have HLL := Aside0.mk hl
  have HOKG : Aside0 (∀ k, w.heap.size + 1 ≤ k → k ≠ g) := ⟨fun k hk => by omega⟩
  clear h hE hr hl
  go_enter Tryd.func36, Tryd.ntmps36
  go_wp2_with fail
  refine (HE.out k (Nat.le_refl _) w0 _ g st st1 y (HS.out.alloc _) HR.out).mono ?_
  rintro e w2 ⟨A2, c2', A3, c3', rfl, hN, hrs, hbb⟩
  have HRS2 := Aside0.mk hrs
  have HBB2 := Aside0.mk (((BelowBut.refl g w).alloc _).trans hbb)
  have HN2 := Aside0.mk hN
  have HBOX2 : Aside0 (w2.heap[w.heap.size]? = some (.cells #[.int .i64 0, .int .i64 0, .slice none 0 0, .slice none 0 0] 26 (0, 0))) := ⟨hbb.at_ (blk_new w _) hne'⟩
  have HZ2 := Aside0.mk (show w.heap.size + 1 ≤ w2.heap.size by have := hbb.size; simpa using this)
  have HL0 := Aside0.mk (show Kd.N k26 26 (w2.alloc (.cells #[.int .i64 y.f0, .int .i64 y.f1, .slice A2 y.f2.length c2', .slice A3 y.f3.length c3'] 26)) (w.heap.size + 1) (fun k => w.heap.size + 1 ≤ k) (.slice (some ⟨w2.heap.size, 0, none⟩) 1 1) [y] from N_one (base := w.heap.size + 1) (e := 26) (ok := fun k => w.heap.size + 1 ≤ k) (okp := fun k => (w.alloc (.cells #[.int .i64 0, .int .i64 0, .slice none 0 0, .slice none 0 0] 26)).heap.size ≤ k) hN (fun k hk => by simpa using hk) HZ2.out HZ2.out)
  clear hN hrs hbb
  go_wp2_with fail
  go_loopg [3] k (fun n v3 wr => ∃ (stc : PSt) (l : List S26), Aside0 (n ≤ k) ∧ Aside0 (anyL n s stc l = some (lq, stq)) ∧ Aside0 (Kd.N k26 26 wr (w.heap.size + 1) (fun k => w.heap.size + 1 ≤ k) v3 l) ∧ Aside0 (RS w0 wr g s stc) ∧ Aside0 (BelowBut g w wr) ∧ Aside0 (wr.heap[w.heap.size]? = some (.cells #[.int .i64 0, .int .i64 0, .slice none 0 0, .slice none 0 0] 26 (0, 0))))
  case atStart => exact ⟨st1, [y], ⟨Nat.le_refl _⟩, HLL, HL0, ⟨HRS2.out.alloc _⟩, ⟨HBB2.out.alloc _⟩, ⟨blk_alloc HBOX2.out _⟩⟩
  case round =>
    obtain ⟨stc, l, HNK, HK, HL, HRS, HBB, HBOX⟩ := hrel
    obtain ⟨A5, c5, hv⟩ := Kd.N_slice HL.out
    subst hv
    have HZ := Aside0.mk (show w.heap.size + 1 ≤ wr.heap.size from blk_lt HBOX.out)
    have hltg := HRS.out.lt
    cases gk with
    | zero => exact absurd HK.out (by simp [anyL])
    | succ k1 =>
      have hk := HK.out
      simp only [anyL] at hk
      go_wp2_with fail
      refine (peek_calls w0 wr g s stc HRS.out).mono ?_
      rintro e w3 ⟨rfl, hrs, hbb⟩
      have HRS3 := Aside0.mk hrs
      have HBB3 := Aside0.mk (HBB.out.trans hbb)
      have HBOX3 := Aside0.mk (hbb.at_ HBOX.out hne')
      have HL3 := Aside0.mk (N_but HL.out hbb HOKG.out)
      have HBQ := Aside0.mk hbb.size
      have HZ3 := Aside0.mk (show w.heap.size + 1 ≤ w3.heap.size from blk_lt HBOX3.out)
      clear hrs hbb
      by_cases c1 : (peekF s stc).1 = 124
      · rw [if_pos c1] at hk
        have b1 : ((peekF s stc).1 == 124) = true := by simpa using c1
        by_cases c2 : (peekF s stc).2.at_ + 1 ≤ s.size ∧ l.length ≤ 1000000
        · rw [if_pos c2] at hk
          obtain ⟨⟨y2, st2⟩, hr2, hk⟩ := Option.bind_eq_some_iff.1 hk
          simp only at hk
          have HK2 := Aside0.mk hk
          have HR2 := Aside0.mk hr2
          have HLEN := Aside0.mk c2.2
          have HAT := Aside0.mk c2.1
          have hc1 := HRS3.out.c1
          have hfr := HRS3.out.fr 1
          have hsz := HRS3.out.sz
          have hle := HRS3.out.le
          clear hk hr2 c1 c2 HK
          go_wp2_with fail
          refine (HE.out k1 (Nat.le_of_succ_le HNK.out) w0 _ g (bump (peekF s stc).2) st2 y2 ((HRS3.out.at ((peekF s stc).2.at_ + 1) HAT.out _ (by simp))) HR2.out).mono ?_
          rintro e w5 ⟨A2, c2', A3, c3', rfl, hN, hrs, hbb⟩
          have HRS5 := Aside0.mk hrs
          have HBB5 := Aside0.mk ((HBB3.out.set 1 (.int .i64 (((peekF s stc).2.at_ : Int) + 1))).trans hbb)
          have HBOX5 := Aside0.mk (hbb.at_ (blk_far HBOX3.out (p := ⟨g, 1, none⟩) hne' _) hne')
          have HL2 := HL3
          have HLN := Aside0.mk (N_but (Kd.N_far HL3.out (p := ⟨g, 1, none⟩) HOKG.out (.int .i64 (((peekF s stc).2.at_ : Int) + 1))) hbb HOKG.out)
          have HY := Aside0.mk (show NodeAt w5 w3.heap.size y2 A2 c2' A3 c3' from hN.from_ (by simp))
          have HZN := Aside0.mk (show w.heap.size + 1 ≤ w5.heap.size from blk_lt HBOX5.out)
          clear hN hrs hbb
          have HOWN : Aside0 (∀ k, w3.heap.size ≤ k → w.heap.size + 1 ≤ k ∧ some k ≠ (Value.slice A5 l.length c5).ownBlock) := ⟨fun k hk => ⟨Nat.le_trans HZ.out (Nat.le_trans HBQ.out hk), fun he => by have := Kd.N_lt HL2.out k he.symm; omega⟩⟩
          have HFR : Aside0 (∀ k, w5.heap.size ≤ k → w.heap.size + 1 ≤ k) := ⟨fun k hk => Nat.le_trans HZN.out hk⟩
          have HLM := Aside0.mk (show (l.length + 1) * 64 ≤ 140737488355328 by have := HLEN.out; omega)
          go_wp2_with (at_builtin; refine Kd.N_append k26 (w0 := w5) (w.heap.size + 1) ?g1a (.tmp 17) (.tmp 20) 24 26 (.agg #[(.int .i64 0), (.int .i64 0), (.slice none 0 0), (.slice none 0 0)]) 64 ?g2a Tryd.underlying24 node_info ?g3a (Nat.succ_pos 3) (Nat.succ_pos 63) (.slice A5 l.length c5) l y2 [.int .i64 y2.f0, .int .i64 y2.f1, .slice A2 y2.f2.length c2', .slice A3 y2.f3.length c3'] (fun k => w.heap.size + 1 ≤ k) (fun k => w3.heap.size ≤ k) ?g4a ?g5a ?aPa ?aKa ?aFa ?aOa ?aBa ?aSa ?aLa ?_; (case g1a => rfl); (case g2a => rfl); (case g3a => rfl); (case g4a => rfl); (case g5a => rfl); (case aPa => exact HY.out); (case aKa => exact HOWN.out); (case aFa => exact HFR.out); (case aOa => exact HLN.out); (case aBa => exact Below.refl _ _); (case aSa => exact HZN.out); (case aLa => exact HLM.out); intro v31 w8 ho hb hg hat)
          have HO8 := Aside0.mk ho
          have HB8 := Aside0.mk hb
          clear ho hb hg hat
          go_roundg k1
          case measure => omega
          case rel => exact ⟨st2, l ++ [y2], ⟨Nat.le_of_succ_le HNK.out⟩, HK2, HO8, ⟨HRS5.out.under HB8.out (Nat.lt_succ_of_lt hlt)⟩, ⟨HBB5.out.under HB8.out (Nat.le_succ _)⟩, ⟨(HB8.out.block _ (Nat.lt_succ_self _)).trans HBOX5.out⟩⟩
        · rw [if_neg c2] at hk; cases hk
      · rw [if_neg c1] at hk
        have b1 : ((peekF s stc).1 == 124) = false := by simpa using c1
        simp only [Option.some.injEq, Prod.mk.injEq] at hk
        obtain ⟨rfl, rfl⟩ := hk
        have HL := HL3
        have HRSE := HRS3
        have HBBE := HBB3
        have HBOXE := HBOX3
        clear c1 HK
        go_wp2_with fail
        obtain ⟨hnl, hnc, _⟩ := Kd.N_reads' HL.out
        have HF := Aside0.mk (Kd.N_F HL.out)
        refine (join_calls 6 _ w3 _ _ _ HF.out hnc).mono ?_
        rintro e w9 ⟨A2, c2', A3, c3', rfl, hN, hb⟩
        have HN := Aside0.mk (show NodeAt w9 (w.heap.size + 1) _ A2 c2' A3 c3' from hN)
        have HRS9 := Aside0.mk (HRSE.out.then_ hb)
        have HBB9 := Aside0.mk (HBBE.out.then_ hb)
        have HBOX9 := Aside0.mk (blk_below HBOXE.out hb)
        obtain ⟨q0, q1, q2, q3, qz⟩ := box_cells HBOX9.out
        clear hN hb
        go_wp2
        refine bodyPost_ret (results_cell_row rfl _ _ w.heap.size 26 _ (0, 0) _ rfl (putN_blk HBOX9.out _ _ _ _) hu rfl (by kernel_rfl)) rfl ⟨A2, c2', A3, c3', rfl, ?_, ?_, ?_⟩
        · exact (HN.out.putN (b := w.heap.size) (Nat.lt_succ_self _) _ _ _ _).from_ (Nat.le_succ _)
        · exact HRS9.out.putN hne HS.out.below.size _ _ _ _
        · exact HBB9.out.putN (Nat.le_refl _) _ _ _ _
set_option maxHeartbeats 8000000 in
set_option maxRecDepth 100000 in
theorem every_step (k : Nat) (s : ByteArray) (hE : ∀ j, j ≤ k → FnOK 85 s (fun st => unaryF j s st)) : FnOK 72 s (fun st => everyF (k + 1) s st) := by
  intro w0 w g st st' x h hf
  simp only [everyF] at hf
  obtain ⟨⟨y, st1⟩, hr, hf⟩ := Option.bind_eq_some_iff.1 hf
  obtain ⟨⟨lq, stq⟩, hl, hf⟩ := Option.bind_eq_some_iff.1 hf
  simp only [Option.some.injEq, Prod.mk.injEq] at hf hl
  obtain ⟨rfl, rfl⟩ := hf
  have HS := Aside0.mk h
  have hlt := h.lt
  have hne : ¬ (g = w.heap.size) := by omega
  have hne' : ¬ (w.heap.size = g) := by omega
  have hu := Tryd.underlying26
  have HE := Aside0.mk hE
  have HR := Aside0.mk hr
  have HLL := Aside0.mk hl
  have HOKG : Aside0 (∀ k, w.heap.size + 1 ≤ k → k ≠ g) := ⟨fun k hk => by omega⟩
  clear h hE hr hl
  go_enter Tryd.func72, Tryd.ntmps72
  go_wp2_with fail
  refine (HE.out k (Nat.le_refl _) w0 _ g st st1 y (HS.out.alloc _) HR.out).mono ?_
  rintro e w2 ⟨A2, c2', A3, c3', rfl, hN, hrs, hbb⟩
  have HRS2 := Aside0.mk hrs
  have HBB2 := Aside0.mk (((BelowBut.refl g w).alloc _).trans hbb)
  have HN2 := Aside0.mk hN
  have HBOX2 : Aside0 (w2.heap[w.heap.size]? = some (.cells #[.int .i64 0, .int .i64 0, .slice none 0 0, .slice none 0 0] 26 (0, 0))) := ⟨hbb.at_ (blk_new w _) hne'⟩
  have HZ2 := Aside0.mk (show w.heap.size + 1 ≤ w2.heap.size by have := hbb.size; simpa using this)
  have HL0 := Aside0.mk (show Kd.N k26 26 (w2.alloc (.cells #[.int .i64 y.f0, .int .i64 y.f1, .slice A2 y.f2.length c2', .slice A3 y.f3.length c3'] 26)) (w.heap.size + 1) (fun k => w.heap.size + 1 ≤ k) (.slice (some ⟨w2.heap.size, 0, none⟩) 1 1) [y] from N_one (base := w.heap.size + 1) (e := 26) (ok := fun k => w.heap.size + 1 ≤ k) (okp := fun k => (w.alloc (.cells #[.int .i64 0, .int .i64 0, .slice none 0 0, .slice none 0 0] 26)).heap.size ≤ k) hN (fun k hk => by simpa using hk) HZ2.out HZ2.out)
  clear hN hrs hbb
  go_wp2_with fail
  refine (peek_calls w0 _ g s st1 (HRS2.out.alloc _)).mono ?_
  rintro e w3 ⟨rfl, hrs, hbb⟩
  have HRS3 := Aside0.mk hrs
  have HBB3 := Aside0.mk ((HBB2.out.alloc _).trans hbb)
  have HBOX3 := Aside0.mk (hbb.at_ (blk_alloc HBOX2.out _) hne')
  have HL3 := Aside0.mk (N_but HL0.out hbb HOKG.out)
  clear hrs hbb
  go_wp2_with fail
  go_loopg [3, 4] k (fun n v3 v4 wr => ∃ (p : Int × PSt) (l : List S26), v4 = .int .i64 p.1 ∧ Aside0 (n ≤ k) ∧ Aside0 (everyL n s p l = some (lq, stq)) ∧ Aside0 (Kd.N k26 26 wr (w.heap.size + 1) (fun k => w.heap.size + 1 ≤ k) v3 l) ∧ Aside0 (RS w0 wr g s p.2) ∧ Aside0 (BelowBut g w wr) ∧ Aside0 (wr.heap[w.heap.size]? = some (.cells #[.int .i64 0, .int .i64 0, .slice none 0 0, .slice none 0 0] 26 (0, 0))))
  case atStart => exact ⟨peekF s st1, [y], rfl, ⟨Nat.le_refl _⟩, HLL, HL3, HRS3, HBB3, HBOX3⟩
  case round =>
    obtain ⟨p, l, rfl, HNK, HK, HL, HRS, HBB, HBOX⟩ := hrel
    obtain ⟨A5, c5, hv⟩ := Kd.N_slice HL.out
    subst hv
    have HZ := Aside0.mk (show w.heap.size + 1 ≤ wr.heap.size from blk_lt HBOX.out)
    have hltg := HRS.out.lt
    cases gk with
    | zero => exact absurd HK.out (by simp [everyL])
    | succ k1 =>
      have hk := HK.out
      simp only [everyL] at hk
      have HL2 := HL
      by_cases c1 : 0 ≤ p.1
      · have b1 : decide (0 ≤ p.1) = true := by simpa using c1
        by_cases c2 : p.1 = 124
        · have b2 : (p.1 != 124) = false := by simpa using c2
          rw [if_neg (fun h => h.2.1 c2)] at hk
          simp only [Option.some.injEq, Prod.mk.injEq] at hk
          obtain ⟨rfl, rfl⟩ := hk
          have HRSE := HRS
          have HBBE := HBB
          have HBOXE := HBOX
          clear c1 c2 HK
          go_wp2_with fail
          obtain ⟨hnl, hnc, _⟩ := Kd.N_reads' HL.out
          have HF := Aside0.mk (Kd.N_F HL.out)
          refine (join_calls 5 _ wr _ _ _ HF.out hnc).mono ?_
          rintro e w9 ⟨A2, c2', A3, c3', rfl, hN, hb⟩
          have HN := Aside0.mk (show NodeAt w9 (w.heap.size + 1) _ A2 c2' A3 c3' from hN)
          have HRS9 := Aside0.mk (HRSE.out.then_ hb)
          have HBB9 := Aside0.mk (HBBE.out.then_ hb)
          have HBOX9 := Aside0.mk (blk_below HBOXE.out hb)
          obtain ⟨q0, q1, q2, q3, qz⟩ := box_cells HBOX9.out
          clear hN hb
          go_wp2
          refine bodyPost_ret (results_cell_row rfl _ _ w.heap.size 26 _ (0, 0) _ rfl (putN_blk HBOX9.out _ _ _ _) hu rfl (by kernel_rfl)) rfl ⟨A2, c2', A3, c3', rfl, ?_, ?_, ?_⟩
          · exact (HN.out.putN (b := w.heap.size) (Nat.lt_succ_self _) _ _ _ _).from_ (Nat.le_succ _)
          · exact HRS9.out.putN hne HS.out.below.size _ _ _ _
          · exact HBB9.out.putN (Nat.le_refl _) _ _ _ _
        · have b2 : (p.1 != 124) = true := by simpa using c2
          by_cases c3 : p.1 = 41
          · have b3 : (p.1 != 41) = false := by simpa using c3
            rw [if_neg (fun h => h.2.2 c3)] at hk
            simp only [Option.some.injEq, Prod.mk.injEq] at hk
            obtain ⟨rfl, rfl⟩ := hk
            have HRSE := HRS
            have HBBE := HBB
            have HBOXE := HBOX
            clear c1 c2 c3 HK
            go_wp2_with fail
            obtain ⟨hnl, hnc, _⟩ := Kd.N_reads' HL.out
            have HF := Aside0.mk (Kd.N_F HL.out)
            refine (join_calls 5 _ wr _ _ _ HF.out hnc).mono ?_
            rintro e w9 ⟨A2, c2', A3, c3', rfl, hN, hb⟩
            have HN := Aside0.mk (show NodeAt w9 (w.heap.size + 1) _ A2 c2' A3 c3' from hN)
            have HRS9 := Aside0.mk (HRSE.out.then_ hb)
            have HBB9 := Aside0.mk (HBBE.out.then_ hb)
            have HBOX9 := Aside0.mk (blk_below HBOXE.out hb)
            obtain ⟨q0, q1, q2, q3, qz⟩ := box_cells HBOX9.out
            clear hN hb
            go_wp2
            refine bodyPost_ret (results_cell_row rfl _ _ w.heap.size 26 _ (0, 0) _ rfl (putN_blk HBOX9.out _ _ _ _) hu rfl (by kernel_rfl)) rfl ⟨A2, c2', A3, c3', rfl, ?_, ?_, ?_⟩
            · exact (HN.out.putN (b := w.heap.size) (Nat.lt_succ_self _) _ _ _ _).from_ (Nat.le_succ _)
            · exact HRS9.out.putN hne HS.out.below.size _ _ _ _
            · exact HBB9.out.putN (Nat.le_refl _) _ _ _ _
          · have b3 : (p.1 != 41) = true := by simpa using c3
            rw [if_pos ⟨c1, c2, c3⟩] at hk
            by_cases c4 : l.length ≤ 1000000
            · rw [if_pos c4] at hk
              obtain ⟨⟨y2, st2⟩, hr2, hk⟩ := Option.bind_eq_some_iff.1 hk
              simp only at hk
              have HK2 := Aside0.mk hk
              have HR2 := Aside0.mk hr2
              have HLEN := Aside0.mk c4
              have HBQ := Aside0.mk (Nat.le_refl wr.heap.size)
              clear hk hr2 c1 c2 c3 c4 HK
              go_wp2_with fail
              refine (HE.out k1 (Nat.le_of_succ_le HNK.out) w0 wr g p.2 st2 y2 HRS.out HR2.out).mono ?_
              rintro e w5 ⟨A2, c2', A3, c3', rfl, hN, hrs, hbb⟩
              have HRS5 := Aside0.mk hrs
              have HBB5 := Aside0.mk (HBB.out.trans hbb)
              have HBOX5 := Aside0.mk (hbb.at_ HBOX.out hne')
              have HLN := Aside0.mk (N_but HL.out hbb HOKG.out)
              have HY := Aside0.mk (show NodeAt w5 wr.heap.size y2 A2 c2' A3 c3' from hN)
              have HZN := Aside0.mk (show w.heap.size + 1 ≤ w5.heap.size from blk_lt HBOX5.out)
              clear hN hrs hbb
              have HOWN : Aside0 (∀ k, wr.heap.size ≤ k → w.heap.size + 1 ≤ k ∧ some k ≠ (Value.slice A5 l.length c5).ownBlock) := ⟨fun k hk => ⟨Nat.le_trans HZ.out (Nat.le_trans HBQ.out hk), fun he => by have := Kd.N_lt HL2.out k he.symm; omega⟩⟩
              have HFR : Aside0 (∀ k, w5.heap.size ≤ k → w.heap.size + 1 ≤ k) := ⟨fun k hk => Nat.le_trans HZN.out hk⟩
              have HLM := Aside0.mk (show (l.length + 1) * 64 ≤ 140737488355328 by have := HLEN.out; omega)
              go_wp2_with (at_builtin; refine Kd.N_append k26 (w0 := w5) (w.heap.size + 1) ?g1a (.tmp 22) (.tmp 25) 24 26 (.agg #[(.int .i64 0), (.int .i64 0), (.slice none 0 0), (.slice none 0 0)]) 64 ?g2a Tryd.underlying24 node_info ?g3a (Nat.succ_pos 3) (Nat.succ_pos 63) (.slice A5 l.length c5) l y2 [.int .i64 y2.f0, .int .i64 y2.f1, .slice A2 y2.f2.length c2', .slice A3 y2.f3.length c3'] (fun k => w.heap.size + 1 ≤ k) (fun k => wr.heap.size ≤ k) ?g4a ?g5a ?aPa ?aKa ?aFa ?aOa ?aBa ?aSa ?aLa ?_; (case g1a => rfl); (case g2a => rfl); (case g3a => rfl); (case g4a => rfl); (case g5a => rfl); (case aPa => exact HY.out); (case aKa => exact HOWN.out); (case aFa => exact HFR.out); (case aOa => exact HLN.out); (case aBa => exact Below.refl _ _); (case aSa => exact HZN.out); (case aLa => exact HLM.out); intro v31 w8 ho hb hg hat)
              have HO8 := Aside0.mk ho
              have HB8 := Aside0.mk hb
              clear ho hb hg hat
              have HRS8 := Aside0.mk (HRS5.out.under HB8.out (Nat.lt_succ_of_lt hlt))
              have HBB8 := Aside0.mk (HBB5.out.under HB8.out (Nat.le_succ _))
              have HBOX8 := Aside0.mk ((HB8.out.block _ (Nat.lt_succ_self _)).trans HBOX5.out)
              go_wp2_with fail
              refine (peek_calls w0 w8 g s st2 HRS8.out).mono ?_
              rintro e w9 ⟨rfl, hrs, hbb⟩
              have HRS9 := Aside0.mk hrs
              have HBB9 := Aside0.mk (HBB8.out.trans hbb)
              have HBOX9 := Aside0.mk (hbb.at_ HBOX8.out hne')
              have HL9 := Aside0.mk (N_but HO8.out hbb HOKG.out)
              clear hrs hbb
              go_wp2
              go_roundg k1
              case measure => omega
              case rel => exact ⟨peekF s st2, l ++ [y2], rfl, ⟨Nat.le_of_succ_le HNK.out⟩, HK2, HL9, HRS9, HBB9, HBOX9⟩
            · rw [if_neg c4] at hk; cases hk
      · have b1 : decide (0 ≤ p.1) = false := by simpa using c1
        rw [if_neg (fun h => c1 h.1)] at hk
        simp only [Option.some.injEq, Prod.mk.injEq] at hk
        obtain ⟨rfl, rfl⟩ := hk
        have HRSE := HRS
        have HBBE := HBB
        have HBOXE := HBOX
        clear c1 HK
        go_wp2_with fail
        obtain ⟨hnl, hnc, _⟩ := Kd.N_reads' HL.out
        have HF := Aside0.mk (Kd.N_F HL.out)
        refine (join_calls 5 _ wr _ _ _ HF.out hnc).mono ?_
        rintro e w9 ⟨A2, c2', A3, c3', rfl, hN, hb⟩
        have HN := Aside0.mk (show NodeAt w9 (w.heap.size + 1) _ A2 c2' A3 c3' from hN)
        have HRS9 := Aside0.mk (HRSE.out.then_ hb)
        have HBB9 := Aside0.mk (HBBE.out.then_ hb)
        have HBOX9 := Aside0.mk (blk_below HBOXE.out hb)
        obtain ⟨q0, q1, q2, q3, qz⟩ := box_cells HBOX9.out
        clear hN hb
        go_wp2
        refine bodyPost_ret (results_cell_row rfl _ _ w.heap.size 26 _ (0, 0) _ rfl (putN_blk HBOX9.out _ _ _ _) hu rfl (by kernel_rfl)) rfl ⟨A2, c2', A3, c3', rfl, ?_, ?_, ?_⟩
        · exact (HN.out.putN (b := w.heap.size) (Nat.lt_succ_self _) _ _ _ _).from_ (Nat.le_succ _)
        · exact HRS9.out.putN hne HS.out.below.size _ _ _ _
        · exact HBB9.out.putN (Nat.le_refl _) _ _ _ _
theorem reader_all (s : ByteArray) : ∀ k, (∀ j, j ≤ k → FnOK 36 s (fun st => anyF j s st) ∧ FnOK 72 s (fun st => everyF j s st) ∧ FnOK 85 s (fun st => unaryF j s st) ∧ FnOK 97 s (fun st => atomF j s st) ∧ FnOK 109 s (fun st => innerF j s st)) := by
  intro k
  induction k with
  | zero =>
    intro j hj
    obtain rfl : j = 0 := by omega
    refine ⟨?_, ?_, ?_, ?_, ?_⟩ <;> intro w0 w g st st' x _ hf <;> simp [anyF, everyF, unaryF, atomF, innerF] at hf
  | succ k ih =>
    intro j hj
    by_cases c : j ≤ k
    · exact ih j c
    · obtain rfl : j = k + 1 := by omega
      have i := ih k (Nat.le_refl _)
      exact ⟨any_step k s (fun j hj => (ih j hj).2.1), every_step k s (fun j hj => (ih j hj).2.2.1), unary_step k s i.2.2.1 i.2.2.2.1, atom_step k s i.2.2.2.2 i.2.2.2.1, inner_step k s i.1⟩
theorem any_calls (k : Nat) (s : ByteArray) : FnOK 36 s (fun st => anyF k s st) := (reader_all s k k (Nat.le_refl _)).1
def endF (s : ByteArray) (st : PSt) : PSt := if st.err = 0 then (if 0 ≤ (peekF s st).1 then failF s (peekF s st).2 13 else (peekF s st).2) else st
def parseF (k : Nat) (s : ByteArray) : Option (S26 × Int) :=
  if 120 < s.size then some (zN, 5) else (utf_Valid.f k s).bind fun v => if v = false then some (zN, 7) else
    (anyF k s ⟨0, 0, 0⟩).bind fun r => if (endF s r.2).err = 0 then some (r.1, 0) else some (zN, (endF s r.2).err)
def PP (w : World) (x : S26) (er : Int) (e : Ending) (w' : World) : Prop :=
  ∃ A2 c2 A3 c3, e = .returned (.tuple #[.agg #[.int .i64 x.f0, .int .i64 x.f1, .slice A2 x.f2.length c2, .slice A3 x.f3.length c3], .int .i64 er]) ∧ NodeAt w' w.heap.size x A2 c2 A3 c3 ∧ Below w.heap.size w w'
theorem BelowBut.belowNew {g n : Nat} {w w1 : World} (h : BelowBut g w w1) (hn : n ≤ g) (hs : n ≤ w.heap.size) : Below n w w1 := ⟨h.os, h.tape, h.output, h.size, fun k hk => h.block k (Nat.lt_of_lt_of_le hk hs) (by omega)⟩
set_option maxHeartbeats 8000000 in
set_option maxRecDepth 100000 in
theorem parse_long (s : ByteArray) (w : World) (hc : 120 < s.size) : Calls Tryd.prog 11 #[.string s] w (PP w zN 5) := by
  have hu := Tryd.underlying26
  have b1 : decide ((120 : Int) < (s.size : Int)) = true := decide_eq_true (by omega)
  clear hc
  go_enter Tryd.func11, Tryd.ntmps11
  go_wp2
  refine bodyPost_ret (results_ct rfl _ _ w.heap.size 26 _ (0, 0) _ rfl (blk_new w _) hu rfl (by kernel_rfl)) rfl ⟨none, 0, none, 0, rfl, NodeAt.zero _ _, below_alloc (Below.refl _ _) _⟩
set_option maxHeartbeats 8000000 in
set_option maxRecDepth 100000 in
theorem parse_bad (k : Nat) (s : ByteArray) (w : World) (hc : ¬ 120 < s.size) (hv : utf_Valid.f k s = some false) : Calls Tryd.prog 11 #[.string s] w (PP w zN 7) := by
  have hu := Tryd.underlying26
  have b1 : decide ((120 : Int) < (s.size : Int)) = false := decide_eq_false (by omega)
  have HV := Aside0.mk hv
  clear hc hv
  go_enter Tryd.func11, Tryd.ntmps11
  go_wp2_with fail
  refine (utf_Valid.calls k s _ _ HV.out).mono ?_
  rintro e w2 ⟨rfl, hb⟩
  have HB2 := Aside0.mk ((below_alloc (Below.refl _ w) _).trans (hb.mono (by simp)))
  have HBOX2 := Aside0.mk (blk_below (blk_new w _) hb)
  obtain ⟨q0, q1, q2, q3, qz⟩ := box_cells HBOX2.out
  clear hb
  go_wp2
  refine bodyPost_ret (results_ct rfl _ _ w.heap.size 26 _ (0, 0) _ rfl (putN_blk HBOX2.out _ _ _ _) hu rfl (by kernel_rfl)) rfl ⟨none, 0, none, 0, rfl, NodeAt.zero _ _, below_putN HB2.out (Nat.le_refl _) _ _ _ _⟩
set_option maxHeartbeats 8000000 in
set_option maxRecDepth 100000 in
theorem parse_err (k : Nat) (s : ByteArray) (w : World) (x : S26) (st1 : PSt) (hG : GL w) (hc : ¬ 120 < s.size) (hv : utf_Valid.f k s = some true) (hf : anyF k s ⟨0, 0, 0⟩ = some (x, st1)) (he : ¬ st1.err = 0) : Calls Tryd.prog 11 #[.string s] w (PP w zN st1.err) := by
  have hu := Tryd.underlying26
  have HG := Aside0.mk hG
  have HF := Aside0.mk hf
  have hsz : s.size ≤ 120 := by omega
  have HSZ := Aside0.mk hsz
  clear hG hf
  have b1 : decide ((120 : Int) < (s.size : Int)) = false := decide_eq_false (by omega)
  have HV := Aside0.mk hv
  clear hc hv
  go_enter Tryd.func11, Tryd.ntmps11
  go_wp2_with fail
  refine (utf_Valid.calls k s _ _ HV.out).mono ?_
  rintro e w2 ⟨rfl, hb⟩
  have HB2 := Aside0.mk ((below_alloc (Below.refl _ w) _).trans (hb.mono (by simp)))
  have HBOX2 := Aside0.mk (blk_below (blk_new w _) hb)
  have hz2 : w.heap.size < w2.heap.size := blk_lt HBOX2.out
  have HRS : Aside0 (RS w (w2.alloc (.cells #[.string s, .int .i64 0, .int .i64 0, .int .i64 0] 60)) w2.heap.size s ⟨0, 0, 0⟩) := ⟨⟨HG.out, below_alloc HB2.out _, Nat.le_of_lt hz2, blk_new w2 _, Nat.zero_le _, HSZ.out, Nat.zero_le _⟩⟩
  have hne' : ¬ (w.heap.size = w2.heap.size) := by omega
  clear hb
  go_wp2_with fail
  refine (any_calls k s w _ w2.heap.size ⟨0, 0, 0⟩ st1 x HRS.out HF.out).mono ?_
  rintro e w3 ⟨A2, c2', A3, c3', rfl, hN, hrs, hbb⟩
  have HRS3 := Aside0.mk hrs
  have HB3 := Aside0.mk ((below_alloc HB2.out _).trans (hbb.belowNew (n := w.heap.size) (Nat.le_of_lt hz2) (by simp; omega)))
  have HN := Aside0.mk hN
  have HBOX3 := Aside0.mk (hbb.at_ (blk_alloc HBOX2.out _) hne')
  have hz3 : w2.heap.size + 1 ≤ w3.heap.size := by have := hbb.size; simpa using this
  have hc3 := (hrs.alloc (.cells #[.int .i64 x.f0, .int .i64 x.f1, .slice A2 x.f2.length c2', .slice A3 x.f3.length c3'] 26)).c3
  clear hN hrs hbb
  have be : (st1.err == 0) = false := by simpa using he
  clear he
  obtain ⟨q0, q1, q2, q3, qz⟩ := box_cells (blk_alloc HBOX3.out (.cells #[.int .i64 x.f0, .int .i64 x.f1, .slice A2 x.f2.length c2', .slice A3 x.f3.length c3'] 26))
  go_wp2
  go_region
  go_wp2
  refine bodyPost_ret (results_ct rfl _ _ w.heap.size 26 _ (0, 0) _ rfl (blk_drew (putN_blk (blk_alloc HBOX3.out _) _ _ _ _)) hu rfl (by kernel_rfl)) rfl ⟨none, 0, none, 0, rfl, NodeAt.zero _ _, below_drew (below_putN (below_alloc HB3.out _) (Nat.le_refl _) _ _ _ _)⟩
set_option maxHeartbeats 8000000 in
set_option maxRecDepth 100000 in
theorem parse_ok (k : Nat) (s : ByteArray) (w : World) (x : S26) (st1 : PSt) (hG : GL w) (hc : ¬ 120 < s.size) (hv : utf_Valid.f k s = some true) (hf : anyF k s ⟨0, 0, 0⟩ = some (x, st1)) (he : st1.err = 0) (hp : ¬ 0 ≤ (peekF s st1).1) : Calls Tryd.prog 11 #[.string s] w (PP w x 0) := by
  have hu := Tryd.underlying26
  have HG := Aside0.mk hG
  have HF := Aside0.mk hf
  have hsz : s.size ≤ 120 := by omega
  have HSZ := Aside0.mk hsz
  clear hG hf
  have b1 : decide ((120 : Int) < (s.size : Int)) = false := decide_eq_false (by omega)
  have HV := Aside0.mk hv
  clear hc hv
  go_enter Tryd.func11, Tryd.ntmps11
  go_wp2_with fail
  refine (utf_Valid.calls k s _ _ HV.out).mono ?_
  rintro e w2 ⟨rfl, hb⟩
  have HB2 := Aside0.mk ((below_alloc (Below.refl _ w) _).trans (hb.mono (by simp)))
  have HBOX2 := Aside0.mk (blk_below (blk_new w _) hb)
  have hz2 : w.heap.size < w2.heap.size := blk_lt HBOX2.out
  have HRS : Aside0 (RS w (w2.alloc (.cells #[.string s, .int .i64 0, .int .i64 0, .int .i64 0] 60)) w2.heap.size s ⟨0, 0, 0⟩) := ⟨⟨HG.out, below_alloc HB2.out _, Nat.le_of_lt hz2, blk_new w2 _, Nat.zero_le _, HSZ.out, Nat.zero_le _⟩⟩
  have hne' : ¬ (w.heap.size = w2.heap.size) := by omega
  clear hb
  go_wp2_with fail
  refine (any_calls k s w _ w2.heap.size ⟨0, 0, 0⟩ st1 x HRS.out HF.out).mono ?_
  rintro e w3 ⟨A2, c2', A3, c3', rfl, hN, hrs, hbb⟩
  have HRS3 := Aside0.mk hrs
  have HB3 := Aside0.mk ((below_alloc HB2.out _).trans (hbb.belowNew (n := w.heap.size) (Nat.le_of_lt hz2) (by simp; omega)))
  have HN := Aside0.mk hN
  have HBOX3 := Aside0.mk (hbb.at_ (blk_alloc HBOX2.out _) hne')
  have hz3 : w2.heap.size + 1 ≤ w3.heap.size := by have := hbb.size; simpa using this
  have hc3 := (hrs.alloc (.cells #[.int .i64 x.f0, .int .i64 x.f1, .slice A2 x.f2.length c2', .slice A3 x.f3.length c3'] 26)).c3
  clear hN hrs hbb
  have be : (st1.err == 0) = true := by simpa using he
  have HE := Aside0.mk he
  clear he
  go_wp2_with fail
  refine (peek_calls w _ w2.heap.size s st1 (HRS3.out.alloc _)).mono ?_
  rintro e w4 ⟨rfl, hrs, hbb⟩
  have HRS4 := Aside0.mk hrs
  have HB4 := Aside0.mk ((below_alloc HB3.out _).trans (hbb.belowNew (n := w.heap.size) (Nat.le_of_lt hz2) (by simp; omega)))
  have HBOX4 := Aside0.mk (hbb.at_ (blk_alloc HBOX3.out _) hne')
  have HBX4 := Aside0.mk (hbb.at_ (blk_new w3 _) (by omega))
  have HBB4 := Aside0.mk hbb
  have hc4 := hrs.c3
  clear hrs hbb
  have bp : decide (0 ≤ (peekF s st1).1) = false := by simpa using hp
  clear hp
  have hc5 : w4.cell? ⟨w2.heap.size, 3, none⟩ = some (.int .i64 0) := by rw [hc4]; exact congrArg (fun z => some (Value.int .i64 z)) (show (peekF s st1).2.err = 0 from HE.out)
  clear hc4
  obtain ⟨q0, q1, q2, q3, qz⟩ := box_cells HBOX4.out
  obtain ⟨p0, p1, p2, p3, pz⟩ := box_cells HBX4.out
  have hz4 := blk_lt HBX4.out
  go_wp2
  refine bodyPost_ret (results_ct rfl _ _ w.heap.size 26 _ (0, 0) _ rfl (putN_blk HBOX4.out _ _ _ _) hu rfl (by kernel_rfl)) rfl ⟨A2, c2', A3, c3', rfl, ?_, below_putN HB4.out (Nat.le_refl _) _ _ _ _⟩
  exact ((((HN.out.then_ (below_alloc (Below.refl _ _) _)).but HBB4.out (by simp)).putN (b := w.heap.size) (by simp; omega) _ _ _ _)).from_ (by simp; omega)
set_option maxHeartbeats 8000000 in
set_option maxRecDepth 100000 in
theorem parse_more (k : Nat) (s : ByteArray) (w : World) (x : S26) (st1 : PSt) (hG : GL w) (hc : ¬ 120 < s.size) (hv : utf_Valid.f k s = some true) (hf : anyF k s ⟨0, 0, 0⟩ = some (x, st1)) (he : st1.err = 0) (hp : 0 ≤ (peekF s st1).1) : Calls Tryd.prog 11 #[.string s] w (PP w zN 13) := by
  have hu := Tryd.underlying26
  have HG := Aside0.mk hG
  have HF := Aside0.mk hf
  have hsz : s.size ≤ 120 := by omega
  have HSZ := Aside0.mk hsz
  clear hG hf
  have b1 : decide ((120 : Int) < (s.size : Int)) = false := decide_eq_false (by omega)
  have HV := Aside0.mk hv
  clear hc hv
  go_enter Tryd.func11, Tryd.ntmps11
  go_wp2_with fail
  refine (utf_Valid.calls k s _ _ HV.out).mono ?_
  rintro e w2 ⟨rfl, hb⟩
  have HB2 := Aside0.mk ((below_alloc (Below.refl _ w) _).trans (hb.mono (by simp)))
  have HBOX2 := Aside0.mk (blk_below (blk_new w _) hb)
  have hz2 : w.heap.size < w2.heap.size := blk_lt HBOX2.out
  have HRS : Aside0 (RS w (w2.alloc (.cells #[.string s, .int .i64 0, .int .i64 0, .int .i64 0] 60)) w2.heap.size s ⟨0, 0, 0⟩) := ⟨⟨HG.out, below_alloc HB2.out _, Nat.le_of_lt hz2, blk_new w2 _, Nat.zero_le _, HSZ.out, Nat.zero_le _⟩⟩
  have hne' : ¬ (w.heap.size = w2.heap.size) := by omega
  clear hb
  go_wp2_with fail
  refine (any_calls k s w _ w2.heap.size ⟨0, 0, 0⟩ st1 x HRS.out HF.out).mono ?_
  rintro e w3 ⟨A2, c2', A3, c3', rfl, hN, hrs, hbb⟩
  have HRS3 := Aside0.mk hrs
  have HB3 := Aside0.mk ((below_alloc HB2.out _).trans (hbb.belowNew (n := w.heap.size) (Nat.le_of_lt hz2) (by simp; omega)))
  have HN := Aside0.mk hN
  have HBOX3 := Aside0.mk (hbb.at_ (blk_alloc HBOX2.out _) hne')
  have hz3 : w2.heap.size + 1 ≤ w3.heap.size := by have := hbb.size; simpa using this
  have hc3 := (hrs.alloc (.cells #[.int .i64 x.f0, .int .i64 x.f1, .slice A2 x.f2.length c2', .slice A3 x.f3.length c3'] 26)).c3
  clear hN hrs hbb
  have be : (st1.err == 0) = true := by simpa using he
  have HE := Aside0.mk he
  clear he
  go_wp2_with fail
  refine (peek_calls w _ w2.heap.size s st1 (HRS3.out.alloc _)).mono ?_
  rintro e w4 ⟨rfl, hrs, hbb⟩
  have HRS4 := Aside0.mk hrs
  have HB4 := Aside0.mk ((below_alloc HB3.out _).trans (hbb.belowNew (n := w.heap.size) (Nat.le_of_lt hz2) (by simp; omega)))
  have HBOX4 := Aside0.mk (hbb.at_ (blk_alloc HBOX3.out _) hne')
  have HBX4 := Aside0.mk (hbb.at_ (blk_new w3 _) (by omega))
  have HBB4 := Aside0.mk hbb
  have hc4 := hrs.c3
  clear hrs hbb
  have bp : decide (0 ≤ (peekF s st1).1) = true := by simpa using hp
  clear hp
  go_wp2_with fail
  refine (fail_calls w _ w2.heap.size s _ 13 HRS4.out).mono ?_
  rintro e w5 ⟨rfl, hrs, hbb⟩
  have HBOX5 := Aside0.mk (hbb.at_ HBOX4.out hne')
  have HB5 := Aside0.mk (HB4.out.trans (hbb.belowNew (n := w.heap.size) (Nat.le_of_lt hz2) (HB4.out.size)))
  have hc5 : w5.cell? ⟨w2.heap.size, 3, none⟩ = some (.int .i64 13) := by rw [hrs.c3]; exact congrArg (fun z => some (Value.int .i64 z)) (show (failF s (peekF s st1).2 13).err = 13 by unfold failF; rw [if_pos (show (peekF s st1).2.err = 0 from HE.out)])
  clear hrs hbb hc4
  obtain ⟨q0, q1, q2, q3, qz⟩ := box_cells HBOX5.out
  go_wp2
  go_region
  go_wp2
  refine bodyPost_ret (results_ct rfl _ _ w.heap.size 26 _ (0, 0) _ rfl (blk_drew (putN_blk HBOX5.out _ _ _ _)) hu rfl (by kernel_rfl)) rfl ⟨none, 0, none, 0, rfl, NodeAt.zero _ _, below_drew (below_putN HB5.out (Nat.le_refl _) _ _ _ _)⟩
theorem parse_calls (k : Nat) (s : ByteArray) (w : World) (x : S26) (er : Int) (hG : GL w) (hf : parseF k s = some (x, er)) : Calls Tryd.prog 11 #[.string s] w (PP w x er) := by
  unfold parseF at hf
  by_cases hc : 120 < s.size
  · rw [if_pos hc] at hf
    simp only [Option.some.injEq, Prod.mk.injEq] at hf
    obtain ⟨rfl, rfl⟩ := hf
    exact parse_long s w hc
  · rw [if_neg hc] at hf
    obtain ⟨v, hv, hf⟩ := Option.bind_eq_some_iff.1 hf
    cases v with
    | false =>
      rw [if_pos rfl] at hf
      simp only [Option.some.injEq, Prod.mk.injEq] at hf
      obtain ⟨rfl, rfl⟩ := hf
      exact parse_bad k s w hc hv
    | true =>
      rw [if_neg (by simp)] at hf
      obtain ⟨⟨y, st1⟩, hr, hf⟩ := Option.bind_eq_some_iff.1 hf
      simp only at hf
      by_cases he : st1.err = 0
      · by_cases hp : 0 ≤ (peekF s st1).1
        · have h13 : (endF s st1).err = 13 := by
            unfold endF failF
            rw [if_pos he, if_pos hp, if_pos (show (peekF s st1).2.err = 0 from he)]
          rw [h13, if_neg (by decide)] at hf
          simp only [Option.some.injEq, Prod.mk.injEq] at hf
          obtain ⟨rfl, rfl⟩ := hf
          exact parse_more k s w y st1 hG hc hv hr he hp
        · have h0 : (endF s st1).err = 0 := by
            unfold endF
            rw [if_pos he, if_neg hp]
            exact he
          rw [h0, if_pos rfl] at hf
          simp only [Option.some.injEq, Prod.mk.injEq] at hf
          obtain ⟨rfl, rfl⟩ := hf
          exact parse_ok k s w y st1 hG hc hv hr he hp
      · have h1 : (endF s st1).err = st1.err := by
          unfold endF
          rw [if_neg he]
        rw [h1, if_neg he] at hf
        simp only [Option.some.injEq, Prod.mk.injEq] at hf
        obtain ⟨rfl, rfl⟩ := hf
        exact parse_err k s w y st1 hG hc hv hr he
mutual
def sameF (k : Nat) : S26 → S26 → Option Bool
  | ⟨a, f, ts, kids⟩, y => if a = y.f0 then (if f = y.f1 then (api_Token.f k ts y.f2).bind fun b => (if b = true then (if kids.length = y.f3.length then sameL k kids y.f3 else some false) else some false) else some false) else some false
def sameL (k : Nat) : List S26 → List S26 → Option Bool
  | [], _ => some true
  | _ :: _, [] => some true
  | x :: t, y :: u => (sameF k x y).bind fun b => if b = true then sameL k t u else some false
end
theorem sameF_eq (k : Nat) (x y : S26) : sameF k x y = if x.f0 = y.f0 then (if x.f1 = y.f1 then (api_Token.f k x.f2 y.f2).bind fun b => (if b = true then (if x.f3.length = y.f3.length then sameL k x.f3 y.f3 else some false) else some false) else some false) else some false := by cases x; simp only [sameF]
theorem sameL_drop (k : Nat) (xs ys : List S26) (i : Nat) (h : i < xs.length) (h2 : i < ys.length) : sameL k (xs.drop i) (ys.drop i) = (sameF k xs[i] ys[i]).bind fun b => if b = true then sameL k (xs.drop (i + 1)) (ys.drop (i + 1)) else some false := by
  rw [List.drop_eq_getElem_cons h, List.drop_eq_getElem_cons h2, sameL]
def SameP (k : Nat) (x : S26) : Prop := ∀ (y : S26) (r : Bool) (w : World) (A2 : Option Addr) (c2 : Nat) (A3 : Option Addr) (c3 : Nat) (B2 : Option Addr) (d2 : Nat) (B3 : Option Addr) (d3 : Nat),
  Kd.C k57 w A2 x.f2.length x.f2 → x.f2.length ≤ c2 → Kd.C k26 w A3 x.f3.length x.f3 → x.f3.length ≤ c3 →
  Kd.C k57 w B2 y.f2.length y.f2 → y.f2.length ≤ d2 → Kd.C k26 w B3 y.f3.length y.f3 → y.f3.length ≤ d3 → sameF k x y = some r →
  Calls Tryd.prog 12 #[.agg #[.int .i64 x.f0, .int .i64 x.f1, .slice A2 x.f2.length c2, .slice A3 x.f3.length c3], .agg #[.int .i64 y.f0, .int .i64 y.f1, .slice B2 y.f2.length d2, .slice B3 y.f3.length d3]] w fun e w' => e = .returned (.bool r) ∧ Below w.heap.size w w'
theorem nodeC_at {W : World} {A : Option Addr} {xs : List S26} (h : Kd.C k26 W A xs.length xs) (i : Nat) (hi : i < xs.length) :
    ∃ ad A2 c2 A3 c3, A = some ad ∧ W.cell? (ad.add (i * 4)) = some (.int .i64 xs[i].f0) ∧ W.cell? ⟨(ad.add (i * 4)).block, (ad.add (i * 4)).off + 1, none⟩ = some (.int .i64 xs[i].f1) ∧
      W.cell? ⟨(ad.add (i * 4)).block, (ad.add (i * 4)).off + 2, none⟩ = some (.slice A2 xs[i].f2.length c2) ∧ W.cell? ⟨(ad.add (i * 4)).block, (ad.add (i * 4)).off + 3, none⟩ = some (.slice A3 xs[i].f3.length c3) ∧
      xs[i].f2.length ≤ c2 ∧ Kd.C k57 W A2 xs[i].f2.length xs[i].f2 ∧ xs[i].f3.length ≤ c3 ∧ Kd.C k26 W A3 xs[i].f3.length xs[i].f3 := by
  obtain ⟨ad, A2, c2, A3, c3, he, q0, q1, q2, q3, l2, g2, l3, g3⟩ := at_T26 h (i : Int) (by omega) (by omega)
  have hx : rd_T26 xs (i : Int) = xs[i] := by simp [rd_T26, List.getD_eq_getElem?_getD, List.getElem?_eq_getElem hi]
  rw [hx] at q0 q1 q2 q3 l2 g2 l3 g3
  exact ⟨ad, A2, c2, A3, c3, he, q0, q1, q2, q3, l2, g2, l3, g3⟩
set_option maxHeartbeats 8000000 in
set_option maxRecDepth 100000 in
theorem equal_step (k : Nat) (xs ys : List S26) (ih : ∀ (i : Nat) (h : i < xs.length), SameP k (xs[i]'h)) (w : World) (A : Option Addr) (c : Nat) (B : Option Addr) (d : Nat) (r : Bool)
    (hC : Kd.C k26 w A xs.length xs) (hc : xs.length ≤ c) (hD : Kd.C k26 w B ys.length ys) (hd : ys.length ≤ d) (hf : (if xs.length = ys.length then sameL k xs ys else some false) = some r) :
    Calls Tryd.prog 40 #[.slice A xs.length c, .slice B ys.length d, .func (.func 12) #[] #[]] w fun e w' => e = .returned (.bool r) ∧ Below w.heap.size w w' := by
  have HC := Aside0.mk hC
  have HD := Aside0.mk hD
  have IH := Aside0.mk ih
  have hu := Tryd.underlying26
  clear hC hD ih
  by_cases c1 : xs.length = ys.length
  · rw [if_pos c1] at hf
    have HF := Aside0.mk hf
    have HLEN := Aside0.mk c1
    have hmax : xs.length ≤ 9223372036854775807 := HC.out.2.1
    have b1 : ((xs.length : Int) != (ys.length : Int)) = false := by simp; omega
    clear hf c1
    go_enter Tryd.func40, Tryd.ntmps40
    go_wp2
    go_loopg [17] xs.length (fun n v17 wr => ∃ i : Nat, v17 = .int .i64 i ∧ Aside0 (n + i = xs.length) ∧ Aside0 (sameL k (xs.drop i) (ys.drop i) = some r) ∧ Aside0 (Below w.heap.size w wr))
    case atStart => exact ⟨0, rfl, ⟨rfl⟩, ⟨by simpa using HF.out⟩, ⟨Below.refl _ _⟩⟩
    case round =>
      obtain ⟨i, rfl, HN, HK, HB⟩ := hrel
      by_cases hi : i < xs.length
      · have hi2 : i < ys.length := by have := HLEN.out; omega
        have hb' : decide (i < xs.length) = true := by simpa using hi
        obtain ⟨ad, A2, c2, A3, c3, rfl, q0, q1, q2, q3, l2, g2, l3, g3⟩ := nodeC_at (Kd.C_below HC.out HB.out) i hi
        obtain ⟨bd, B2, d2, B3, d3, rfl, p0, p1, p2, p3, m2, h2, m3, h3⟩ := nodeC_at (Kd.C_below HD.out HB.out) i hi2
        have hk := HK.out
        rw [sameL_drop k xs ys i hi hi2] at hk
        have IHI := Aside0.mk (IH.out i hi ys[i])
        obtain ⟨x, hx⟩ : ∃ x, x = xs[i] := ⟨_, rfl⟩
        obtain ⟨y, hy⟩ : ∃ y, y = ys[i] := ⟨_, rfl⟩
        rw [← hx] at hk IHI q0 q1 q2 q3 l2 g2 l3 g3
        rw [← hy] at hk IHI p0 p1 p2 p3 m2 h2 m3 h3
        obtain ⟨b, hb1, hk⟩ := Option.bind_eq_some_iff.1 hk
        have HBI := Aside0.mk hb1
        have HG := Aside0.mk (And.intro g2 (And.intro g3 (And.intro h2 h3)))
        have HLL := Aside0.mk (And.intro l2 (And.intro l3 (And.intro m2 m3)))
        have up : ∀ {q : Addr} {v : Value}, wr.cell? q = some v → (wr.alloc (.cells #[.int .i64 x.f0, .int .i64 x.f1, .slice A2 x.f2.length c2, .slice A3 x.f3.length c3] 26)).cell? q = some v := fun h => (World.cell?_alloc_lt _ _ _ (World.block_lt_of_cell? _ _ h)).trans h
        replace p0 := up p0
        replace p1 := up p1
        replace p2 := up p2
        replace p3 := up p3
        clear hx hy HK hb1 g2 g3 h2 h3 l2 l3 m2 m3 up
        cases b with
        | true =>
          rw [if_pos rfl] at hk
          have HK2 := Aside0.mk hk
          clear hk
          go_wp2_with fail
          refine (IHI.out true _ A2 c2 A3 c3 B2 d2 B3 d3 (Kd.C_below HG.out.1 (below_alloc (below_alloc (Below.refl _ _) _) _)) HLL.out.1 (Kd.C_below HG.out.2.1 (below_alloc (below_alloc (Below.refl _ _) _) _)) HLL.out.2.1 (Kd.C_below HG.out.2.2.1 (below_alloc (below_alloc (Below.refl _ _) _) _)) HLL.out.2.2.1 (Kd.C_below HG.out.2.2.2 (below_alloc (below_alloc (Below.refl _ _) _) _)) HLL.out.2.2.2 HBI.out).mono ?_
          rintro e w1 ⟨rfl, hb⟩
          have HB1 := Aside0.mk (HB.out.trans ((below_alloc (below_alloc (Below.refl wr.heap.size wr) _) _).trans (hb.mono (by simp; omega)) |>.mono HB.out.size))
          clear hb
          go_wp2
          go_roundg (gk - 1)
          case measure => have := HN.out; omega
          case rel => exact ⟨i + 1, rfl, ⟨by have := HN.out; omega⟩, HK2, HB1⟩
        | false =>
          rw [if_neg (by simp)] at hk
          obtain rfl := Option.some.inj hk
          clear hk
          go_wp2_with fail
          refine (IHI.out false _ A2 c2 A3 c3 B2 d2 B3 d3 (Kd.C_below HG.out.1 (below_alloc (below_alloc (Below.refl _ _) _) _)) HLL.out.1 (Kd.C_below HG.out.2.1 (below_alloc (below_alloc (Below.refl _ _) _) _)) HLL.out.2.1 (Kd.C_below HG.out.2.2.1 (below_alloc (below_alloc (Below.refl _ _) _) _)) HLL.out.2.2.1 (Kd.C_below HG.out.2.2.2 (below_alloc (below_alloc (Below.refl _ _) _) _)) HLL.out.2.2.2 HBI.out).mono ?_
          rintro e w1 ⟨rfl, hb⟩
          have HB1 := Aside0.mk (HB.out.trans ((below_alloc (below_alloc (Below.refl wr.heap.size wr) _) _).trans (hb.mono (by simp; omega)) |>.mono HB.out.size))
          clear hb
          go_wp2
          go_ret
          exact ⟨rfl, HB1.out⟩
      · have e : i = xs.length := by have := HN.out; omega
        have hb' : decide (i < xs.length) = false := by simpa using hi
        have HR := Aside0.mk (show true = r by have := HK.out; rw [e, List.drop_length, sameL] at this; exact Option.some.inj this)
        clear hi e HK
        go_wp2
        go_ret
        exact ⟨ret_b HR.out, HB.out⟩
  · rw [if_neg c1] at hf
    obtain rfl := Option.some.inj hf
    have b1 : ((xs.length : Int) != (ys.length : Int)) = true := by simp; omega
    clear hf c1
    go_enter Tryd.func40, Tryd.ntmps40
    go_wp2
    go_ret
    exact ⟨rfl, Below.refl _ _⟩
set_option maxHeartbeats 8000000 in
set_option maxRecDepth 100000 in
theorem same_step (k : Nat) (x : S26) (ih : ∀ (i : Nat) (h : i < x.f3.length), SameP k (x.f3[i]'h)) : SameP k x := by
  intro y r w A2 c2 A3 c3 B2 d2 B3 d3 g2 l2 g3 l3 h2 m2 h3 m3 hf
  rw [sameF_eq] at hf
  have HG := Aside0.mk (And.intro g2 (And.intro g3 (And.intro h2 h3)))
  have HLL := Aside0.mk (And.intro l2 (And.intro l3 (And.intro m2 m3)))
  have IH := Aside0.mk ih
  have hu := Tryd.underlying26
  clear g2 g3 h2 h3 l2 l3 m2 m3 ih
  by_cases c1 : x.f0 = y.f0
  · rw [if_pos c1] at hf
    have b1 : (x.f0 == y.f0) = true := by simpa using c1
    by_cases cf : x.f1 = y.f1
    · rw [if_pos cf] at hf
      have b2 : (x.f1 == y.f1) = true := by simpa using cf
      obtain ⟨b, hb1, hf⟩ := Option.bind_eq_some_iff.1 hf
      have HT := Aside0.mk hb1
      clear c1 cf hb1
      cases b with
      | true =>
        rw [if_pos rfl] at hf
        have HF := Aside0.mk hf
        clear hf
        go_enter Tryd.func12, Tryd.ntmps12
        go_wp2_with fail
        refine (api_Token.calls k A2 c2 x.f2 B2 d2 y.f2 true _ (Kd.C_below HG.out.1 (below_alloc (below_alloc (Below.refl _ _) _) _)) HLL.out.1 (Kd.C_below HG.out.2.2.1 (below_alloc (below_alloc (Below.refl _ _) _) _)) HLL.out.2.2.1 HT.out).mono ?_
        rintro e w1 ⟨rfl, ⟨nd, rfl⟩⟩
        go_wp2_with fail
        refine (equal_step k x.f3 y.f3 IH.out _ A3 c3 B3 d3 r (Kd.C_below HG.out.2.1 (pw_below_drewN (below_alloc (below_alloc (Below.refl _ _) _) _) _)) HLL.out.2.1 (Kd.C_below HG.out.2.2.2 (pw_below_drewN (below_alloc (below_alloc (Below.refl _ _) _) _) _)) HLL.out.2.2.2 HF.out).mono ?_
        rintro e w2 ⟨rfl, hb⟩
        have HB := Aside0.mk ((pw_below_drewN (below_alloc (below_alloc (Below.refl w.heap.size w) _) _) _).trans (hb.mono (by simp; omega)))
        clear hb
        go_wp2
        go_ret
        exact ⟨rfl, HB.out⟩
      | false =>
        rw [if_neg (by simp)] at hf
        obtain rfl := Option.some.inj hf
        clear hf
        go_enter Tryd.func12, Tryd.ntmps12
        go_wp2_with fail
        refine (api_Token.calls k A2 c2 x.f2 B2 d2 y.f2 false _ (Kd.C_below HG.out.1 (below_alloc (below_alloc (Below.refl _ _) _) _)) HLL.out.1 (Kd.C_below HG.out.2.2.1 (below_alloc (below_alloc (Below.refl _ _) _) _)) HLL.out.2.2.1 HT.out).mono ?_
        rintro e w1 ⟨rfl, ⟨nd, rfl⟩⟩
        go_wp2
        go_ret
        exact ⟨rfl, pw_below_drewN (below_alloc (below_alloc (Below.refl w.heap.size w) _) _) _⟩
    · rw [if_neg cf] at hf
      obtain rfl := Option.some.inj hf
      have b2 : (x.f1 == y.f1) = false := by simpa using cf
      clear c1 cf hf
      go_enter Tryd.func12, Tryd.ntmps12
      go_wp2
      go_ret
      exact ⟨rfl, below_alloc (below_alloc (Below.refl _ _) _) _⟩
  · rw [if_neg c1] at hf
    obtain rfl := Option.some.inj hf
    have b1 : (x.f0 == y.f0) = false := by simpa using c1
    clear c1 hf
    go_enter Tryd.func12, Tryd.ntmps12
    go_wp2
    go_ret
    exact ⟨rfl, below_alloc (below_alloc (Below.refl _ _) _) _⟩
theorem same_calls (k : Nat) : ∀ x : S26, SameP k x
  | ⟨a, fd, ts, kids⟩ => same_step k ⟨a, fd, ts, kids⟩ (fun i h => same_calls k kids[i])
termination_by x => SizeOf.sizeOf x
decreasing_by
  have := List.sizeOf_lt_of_mem (List.getElem_mem h)
  simp only at this ⊢
  simp
  omega
def exS : ByteArray := ⟨#[114, 101, 100, 32, 40, 102, 111, 120, 32, 124, 32, 116, 105, 116, 108, 101, 58, 34, 98, 108, 117, 101, 32, 114, 117, 110, 115, 34, 41, 32]⟩
def exA : S26 := ⟨2, 0, [⟨⟨#[114, 101, 100]⟩, 0⟩], []⟩
def exB : S26 := ⟨2, 0, [⟨⟨#[102, 111, 120]⟩, 0⟩], []⟩
def exC : S26 := ⟨4, 1, [⟨⟨#[98, 108, 117, 101]⟩, 0⟩, ⟨⟨#[114, 117, 110]⟩, 1⟩], []⟩
def exO : S26 := ⟨6, 0, [], [exB, exC]⟩
def exN : S26 := ⟨5, 0, [], [exA, exO]⟩
set_option maxRecDepth 100000 in
theorem ex_parse : parseF 60 exS = some (exN, 0) := by kernel_rfl
set_option maxHeartbeats 8000000 in
set_option maxRecDepth 100000 in
theorem awake_calls (w : World) (hG : GL w) : Calls Tryd.prog 10 #[] w fun e w' => e = .returned (.bool true) ∧ Below w.heap.size w w' := by
  have HP : Aside0 (Calls Tryd.prog 11 #[.string exS] w fun e w' => ∃ A2 c2 A3 c3, e = .returned (.tuple #[.agg #[.int .i64 5, .int .i64 0, .slice A2 0 c2, .slice A3 2 c3], .int .i64 0]) ∧ NodeAt w' w.heap.size exN A2 c2 A3 c3 ∧ Below w.heap.size w w') := ⟨parse_calls 60 exS w exN 0 hG ex_parse⟩
  have hu := Tryd.underlying26
  clear hG
  go_enter Tryd.func10, Tryd.ntmps10
  go_wp2_with fail
  refine HP.out.mono ?_
  rintro e w1 ⟨A2, c2, A3, c3, rfl, hN, hb⟩
  obtain ⟨B2, d2, B3, d3, he, l2, g2, l3, g3⟩ := k26_open (Kd.FK_now hN)
  simp only [List.cons.injEq, Value.slice.injEq, true_and, and_true] at he
  obtain ⟨⟨rfl, rfl⟩, rfl, rfl⟩ := he
  have hC : Kd.C k26 w1 A3 ([exA, exO] : List S26).length [exA, exO] := g3
  obtain ⟨ad, P2, p2, P3, p3, rfl, x0, x1, x2, x3, m2, y2, m3, y3⟩ := nodeC_at hC 1 (by decide)
  have hC2 : Kd.C k26 w1 P3 ([exB, exC] : List S26).length [exB, exC] := y3
  obtain ⟨bd, Q2, q2, Q3, q3, rfl, u0, u1, u2, u3, n2, z2, n3, z3⟩ := nodeC_at hC2 1 (by decide)
  have hC3 : Kd.C k57 w1 Q2 ([⟨⟨#[98, 108, 117, 101]⟩, 0⟩, ⟨⟨#[114, 117, 110]⟩, 1⟩] : List S57).length [⟨⟨#[98, 108, 117, 101]⟩, 0⟩, ⟨⟨#[114, 117, 110]⟩, 1⟩] := z2
  obtain ⟨cd, rfl, v0, v1⟩ := at_T57 hC3 1 (by decide) (by decide)
  have up : ∀ {q : Addr} {v : Value} {o : Obj}, w1.cell? q = some v → (w1.alloc o).cell? q = some v := fun h => (World.cell?_alloc_lt _ _ _ (World.block_lt_of_cell? _ _ h)).trans h
  have up2 : ∀ {q : Addr} {v : Value} {o o2 : Obj}, w1.cell? q = some v → ((w1.alloc o).alloc o2).cell? q = some v := fun h => (World.cell?_alloc_lt _ _ _ (World.block_lt_of_cell? _ _ (up h))).trans (up h)
  have F0 : (w1.alloc (.cells #[.int .i64 5, .int .i64 0, .slice A2 0 c2, .slice (some ad) 2 c3] 26)).cell? ⟨ad.block, ad.off + 4, none⟩ = some (.int .i64 6) := up x0
  have F3 : (w1.alloc (.cells #[.int .i64 5, .int .i64 0, .slice A2 0 c2, .slice (some ad) 2 c3] 26)).cell? ⟨ad.block, ad.off + 7, none⟩ = some (.slice (some bd) 2 p3) := up x3
  have G0 : (w1.alloc (.cells #[.int .i64 5, .int .i64 0, .slice A2 0 c2, .slice (some ad) 2 c3] 26)).cell? ⟨bd.block, bd.off + 4, none⟩ = some (.int .i64 4) := up u0
  have G1 : (w1.alloc (.cells #[.int .i64 5, .int .i64 0, .slice A2 0 c2, .slice (some ad) 2 c3] 26)).cell? ⟨bd.block, bd.off + 5, none⟩ = some (.int .i64 1) := up u1
  have G2 : (w1.alloc (.cells #[.int .i64 5, .int .i64 0, .slice A2 0 c2, .slice (some ad) 2 c3] 26)).cell? ⟨bd.block, bd.off + 6, none⟩ = some (.slice (some cd) 2 q2) := up u2
  have G3 : (w1.alloc (.cells #[.int .i64 5, .int .i64 0, .slice A2 0 c2, .slice (some ad) 2 c3] 26)).cell? ⟨bd.block, bd.off + 7, none⟩ = some (.slice Q3 0 q3) := up u3
  have H0 : ((w1.alloc (.cells #[.int .i64 5, .int .i64 0, .slice A2 0 c2, .slice (some ad) 2 c3] 26)).alloc (.cells #[.int .i64 4, .int .i64 1, .slice (some cd) 2 q2, .slice Q3 0 q3] 26)).cell? ⟨cd.block, cd.off + 2, none⟩ = some (.string ⟨#[114, 117, 110]⟩) := up2 v0
  have H1 : ((w1.alloc (.cells #[.int .i64 5, .int .i64 0, .slice A2 0 c2, .slice (some ad) 2 c3] 26)).alloc (.cells #[.int .i64 4, .int .i64 1, .slice (some cd) 2 q2, .slice Q3 0 q3] 26)).cell? ⟨cd.block, cd.off + 3, none⟩ = some (.int .i64 1) := up2 v1
  have HB := Aside0.mk hb
  clear hN hb g2 g3 hC hC2 hC3 y2 y3 z2 z3 x0 x1 x2 x3 u0 u1 u2 u3 v0 v1 up up2
  go_wp2
  go_ret
  exact ⟨rfl, below_alloc (below_alloc HB.out _) _⟩
set_option maxHeartbeats 8000000 in
set_option maxRecDepth 100000 in
theorem ends_long (s : ByteArray) (w : World) (hG : GL w) (hc : 4096 < s.size) : Calls Tryd.prog 3 #[.string s] w fun e w' => e = .returned (.bool true) ∧ Below w.heap.size w w' := by
  have b1 : decide ((4096 : Int) < (s.size : Int)) = true := decide_eq_true (by omega)
  have HG := Aside0.mk hG
  clear hG hc
  go_enter Tryd.func3, Tryd.ntmps3
  go_wp2_with fail
  refine (awake_calls w HG.out).mono ?_
  rintro e w1 ⟨rfl, hb⟩
  have HB := Aside0.mk hb
  clear hb
  go_wp2
  go_ret
  exact ⟨rfl, HB.out⟩
set_option maxHeartbeats 8000000 in
set_option maxRecDepth 100000 in
theorem ends_bad (k k2 : Nat) (s : ByteArray) (w : World) (x : S26) (er : Int) (hG : GL w) (hc : ¬ 4096 < s.size) (hf : parseF k s = some (x, er)) (he : ¬ er = 0) (hs : sameF k2 x zN = some true) :
    Calls Tryd.prog 3 #[.string s] w fun e w' => e = .returned (.bool true) ∧ Below w.heap.size w w' := by
  have b1 : decide ((4096 : Int) < (s.size : Int)) = false := decide_eq_false (by omega)
  have be : (er != 0) = true := by simpa using he
  have HG := Aside0.mk hG
  have HP := Aside0.mk (parse_calls k s w x er hG hf)
  have HS := Aside0.mk hs
  clear hG hc hf hs he
  go_enter Tryd.func3, Tryd.ntmps3
  go_wp2_with fail
  refine HP.out.mono ?_
  rintro e w1 ⟨A2, c2, A3, c3, rfl, hN, hb⟩
  obtain ⟨B2, d2, B3, d3, he, l2, g2, l3, g3⟩ := k26_open (Kd.FK_now hN)
  simp only [List.cons.injEq, Value.slice.injEq, true_and, and_true] at he
  obtain ⟨⟨rfl, rfl⟩, rfl, rfl⟩ := he
  have HB := Aside0.mk hb
  have HC := Aside0.mk (And.intro g2 (And.intro l2 (And.intro g3 l3)))
  clear hN hb l2 g2 l3 g3
  go_wp2_with fail
  have HC2 : Aside0 (∀ o, Calls Tryd.prog 12 #[.agg #[.int .i64 x.f0, .int .i64 x.f1, .slice A2 x.f2.length c2, .slice A3 x.f3.length c3], .agg #[.int .i64 0, .int .i64 0, .slice none 0 0, .slice none 0 0]] (w1.alloc o) fun e w' => e = .returned (.bool true) ∧ Below (w1.alloc o).heap.size (w1.alloc o) w') :=
    ⟨fun o => same_calls k2 x zN true _ A2 c2 A3 c3 none 0 none 0 (Kd.C_below HC.out.1 (below_alloc (Below.refl _ _) _)) HC.out.2.1 (Kd.C_below HC.out.2.2.1 (below_alloc (Below.refl _ _) _)) HC.out.2.2.2 (Kd.C_nil _ _) (Nat.le_refl _) (Kd.C_nil _ _) (Nat.le_refl _) HS.out⟩
  refine (HC2.out _).mono ?_
  rintro e w2 ⟨rfl, hb⟩
  have HB2 := Aside0.mk ((below_alloc HB.out _).trans (hb.mono (by have := HB.out.size; simp; omega)))
  clear hb
  go_wp2_with fail
  refine (awake_calls w2 (HG.out.below HB2.out)).mono ?_
  rintro e w3 ⟨rfl, hb⟩
  have HB3 := Aside0.mk (HB2.out.trans (hb.mono HB2.out.size))
  clear hb
  go_wp2
  go_ret
  exact ⟨rfl, HB3.out⟩
set_option maxHeartbeats 8000000 in
set_option maxRecDepth 100000 in
theorem ends_ok (k k2 : Nat) (s : ByteArray) (w : World) (x : S26) (hG : GL w) (hc : ¬ 4096 < s.size) (hf : parseF k s = some (x, 0)) (hs : scholialaw22_fine.f k2 x.f0 x.f1 x.f2 x.f3 0 = some true) :
    Calls Tryd.prog 3 #[.string s] w fun e w' => e = .returned (.bool true) ∧ Below w.heap.size w w' := by
  have b1 : decide ((4096 : Int) < (s.size : Int)) = false := decide_eq_false (by omega)
  have HG := Aside0.mk hG
  have HP := Aside0.mk (parse_calls k s w x 0 hG hf)
  have HS := Aside0.mk hs
  clear hG hc hf hs
  go_enter Tryd.func3, Tryd.ntmps3
  go_wp2_with fail
  refine HP.out.mono ?_
  rintro e w1 ⟨A2, c2, A3, c3, rfl, hN, hb⟩
  obtain ⟨B2, d2, B3, d3, he, l2, g2, l3, g3⟩ := k26_open (Kd.FK_now hN)
  simp only [List.cons.injEq, Value.slice.injEq, true_and, and_true] at he
  obtain ⟨⟨rfl, rfl⟩, rfl, rfl⟩ := he
  have HB := Aside0.mk hb
  have HC := Aside0.mk (And.intro g2 (And.intro l2 (And.intro g3 l3)))
  clear hN hb l2 g2 l3 g3
  go_wp2_with fail
  have HC2 : Aside0 (∀ o, Calls Tryd.prog 13 #[.agg #[.int .i64 x.f0, .int .i64 x.f1, .slice A2 x.f2.length c2, .slice A3 x.f3.length c3], .int .i64 0] (w1.alloc o) fun e w' => e = .returned (.bool true) ∧ Below (w1.alloc o).heap.size (w1.alloc o) w') :=
    ⟨fun o => scholialaw22_fine.calls k2 x.f0 x.f1 A2 c2 x.f2 A3 c3 x.f3 0 true _ (Kd.C_below HC.out.1 (below_alloc (Below.refl _ _) _)) HC.out.2.1 (Kd.C_below HC.out.2.2.1 (below_alloc (Below.refl _ _) _)) HC.out.2.2.2 HS.out⟩
  refine (HC2.out _).mono ?_
  rintro e w2 ⟨rfl, hb⟩
  have HB2 := Aside0.mk ((below_alloc HB.out _).trans (hb.mono (by have := HB.out.size; simp; omega)))
  clear hb
  go_wp2_with fail
  refine (awake_calls w2 (HG.out.below HB2.out)).mono ?_
  rintro e w3 ⟨rfl, hb⟩
  have HB3 := Aside0.mk (HB2.out.trans (hb.mono HB2.out.size))
  clear hb
  go_wp2
  go_ret
  exact ⟨rfl, HB3.out⟩
end Go.Proofs.YtcgkmomhjincgaaDoor.Lib.Scr
