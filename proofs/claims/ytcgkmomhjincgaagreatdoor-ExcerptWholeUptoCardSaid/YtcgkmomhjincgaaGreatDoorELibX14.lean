import Derived.Test.YtcgkmomhjincgaaGreatDoorELibX0
import Derived.Test.YtcgkmomhjincgaaGreatDoorELibX7
import Derived.Test.YtcgkmomhjincgaaGreatDoorELibX13
namespace Go.Proofs.YtcgkmomhjincgaaGreatDoor.LibX
open Go.RowKit Go.Proofs.YtcgkmomhjincgaaGreatDoorW.PrintWords Go.Proofs.YtcgkmomhjincgaaGreatDoorW.PrintLast Go.Proofs.YtcgkmomhjincgaaGreatDoorW.PrintMore
attribute [local go_sem] max2_int min2_int max_two min_two max_three min_three max_four min_four   -- for this text's walks alone
set_option linter.unusedVariables false
set_option linter.unusedSimpArgs false
theorem sizeBuilder : (Tryz.prog.info? 68).map (·.size) = some 2 := by kernel_rfl
theorem liesBuilder : liesAt Tryz.prog Tryz.prog.depth 68 (2 / Tryz.prog.cellsOf 68) 0 68 1 = true := by kernel_rfl
theorem infoByte : (Tryz.prog.info? 5).map (fun i => (i.zero, i.size, i.bytes)) = some (some (.int .u8 0), 1, 1) := by kernel_rfl
set_option maxHeartbeats 1000000 in
set_option maxRecDepth 100000 in
theorem copy_used (b : Nat) (w : World) (h0 : w.cell? ⟨b, 0, none⟩ = some (.pointer (some ⟨b, 0, none⟩))) :
  Calls Tryz.prog 54 #[.pointer (some ⟨b, 0, none⟩)] w fun e w' => e = .returned (.tuple #[]) ∧ w' = w := by
 obtain ⟨j, hj, _⟩ := Option.map_eq_some_iff.1 sizeBuilder
 go_enter Tryz.func54, Tryz.ntmps54
 go_wp2
 rw [Lib.run_neq_ptr_same w _ Tryz.underlying66 hj]
 go_wp2
 go_end0
 exact ⟨rfl, rfl⟩
set_option maxHeartbeats 1000000 in
set_option maxRecDepth 100000 in
theorem copy_fresh (b : Nat) (w : World) (h0 : w.cell? ⟨b, 0, none⟩ = some (.pointer none)) (hsh : w.shape? b = some (68, 2)) (hfz : w.frozen? ⟨b, 0, none⟩ = false) :
  Calls Tryz.prog 54 #[.pointer (some ⟨b, 0, none⟩)] w fun e w' => e = .returned (.tuple #[]) ∧ w' = w.setCell ⟨b, 0, none⟩ (.pointer (some ⟨b, 0, none⟩)) := by
 obtain ⟨j, hj, hjs⟩ := Option.map_eq_some_iff.1 sizeBuilder
 go_enter Tryz.func54, Tryz.ntmps54
 go_wp2
 rw [Lib.run_to_unsafe w ⟨b, 0, none⟩ Tryz.underlying66 Tryz.underlying112 hj (by rw [hjs]; decide) hsh (Nat.zero_lt_succ 1)]
 simp only [Result.andThen]
 rw [Oper.upon_value]
 go_wp2
 rw [run_callFunc_extern Tryz.func85 (by kernel_rfl) (by kernel_rfl) (by kernel_rfl) (e := Extern.AbiNoEscape.same) (by kernel_rfl)]
 rw [Lib.run_noEscape]
 simp only [Result.andThen]
 rw [Oper.upon_value]
 go_wp2
 rw [Lib.run_from_unsafe w ⟨b, 0, none⟩ Tryz.underlying112 Tryz.underlying66 hj hsh liesBuilder]
 simp only [Result.andThen]
 rw [Oper.upon_value]
 go_wp2
 go_end0
 exact ⟨rfl, rfl⟩
def KeepB (b : Nat) (w w' : World) : Prop := ∀ (k : Nat) (cs : Array Value) (T : TypeId) (fr : Nat × Nat), w.heap[k]? = some (.cells cs T fr) → T ≠ 5 → k ≠ b → w'.heap[k]? = some (.cells cs T fr)
theorem KeepB.refl (b : Nat) (w : World) : KeepB b w w := fun _ _ _ _ h _ _ => h
theorem KeepB.trans {b : Nat} {w w1 w2 : World} (h : KeepB b w w1) (h2 : KeepB b w1 w2) : KeepB b w w2 := fun k cs T fr hk hT hb => h2 k cs T fr (h k cs T fr hk hT hb) hT hb
theorem KeepB.set (b j : Nat) (v : Value) (w : World) : KeepB b w (w.setCell ⟨b, j, none⟩ v) := fun k _ _ _ hk _ hb => by
 rw [Below.heap_setCell _ _ _ _ (fun e => hb e)]; exact hk
theorem copy_check (B b : Nat) (bs : List Value) (w : World) (h : Lib.IsBuilder 68 5 B b bs w) :
  Calls Tryz.prog 54 #[.pointer (some ⟨b, 0, none⟩)] w fun e w' => e = .returned (.tuple #[]) ∧ (Lib.BuilderAt 68 5 B b (.pointer (some ⟨b, 0, none⟩)) bs w' ∧ Below B w w' ∧ KeepB b w w') := by
 rcases h with h | h
 ·refine (copy_fresh b w h.cell0 h.shape h.frozen0).mono ?_
  rintro e w' ⟨rfl, rfl⟩
  exact ⟨rfl, h.used _, (Below.refl B w).setCell (p := ⟨b, 0, none⟩) h.1 _, KeepB.set b 0 _ w⟩
 ·refine (copy_used b w h.cell0).mono ?_
  rintro e w' ⟨rfl, rfl⟩
  exact ⟨rfl, h, Below.refl B _, KeepB.refl b _⟩
set_option maxHeartbeats 4000000 in
set_option maxRecDepth 100000 in
theorem write_string (B b : Nat) (bs : List Value) (s : ByteArray) (w : World) (h : Lib.IsBuilder 68 5 B b bs w) (hlen : bs.length + s.size ≤ 140737488355328) (hBw : B ≤ w.heap.size) :
  Calls Tryz.prog 32 #[.pointer (some ⟨b, 0, none⟩), .string s] w fun e w' => e = .returned (.tuple #[.int .i64 s.size, .nilIface]) ∧ (Lib.BuilderAt 68 5 B b (.pointer (some ⟨b, 0, none⟩)) (bs ++ Lib.strCells s) w' ∧ Below B w w' ∧ KeepB b w w') := by
 obtain ⟨i0, hi, hz0, hz1, hz2⟩ := info_parts infoByte
 go_enter Tryz.func32, Tryz.ntmps32
 go_wp2_with (go_at_call 54; refine (copy_check B b bs _ h).mono ?_)
 rintro e w1 ⟨rfl, h1, hb1, hkp⟩
 obtain ⟨hB, v, hbk, hown, hne⟩ := h1
 have c0 : w1.cell? ⟨b, 0, none⟩ = some (.pointer (some ⟨b, 0, none⟩)) := by rw [Lib.cell_of_heap hbk]; rfl
 have c1 : w1.cell? ⟨b, 1, none⟩ = some v := by rw [Lib.cell_of_heap hbk]; rfl
 go_wp2_with (at_builtin; refine Lib.wpList_append_own_string _ rfl _ _ 53 9 rfl B 5 i0 Tryz.underlying53 Tryz.underlying9 hi hz0 hz1 hz2 _ _ _ rfl hown s rfl ?c3 ?c4 ?c5 ?_)
 case c3 => unfold maxLen; omega
 case c4 => omega
 case c5 => have := hb1.size; omega
 intro v' w2 hown' hgrow _
 have hlt : b < w1.heap.size := by
  rcases Nat.lt_or_ge b w1.heap.size with h' | h'
  ·exact h'
  ·simp [Array.getElem?_eq_none h'] at hbk
 have hb2 : w2.heap[b]? = some (.cells #[.pointer (some ⟨b, 0, none⟩), v] 68 (0, 0)) := by
  rw [hgrow.block b hlt (fun e => hne e.symm)]
  exact hbk
 have d0 : w2.cell? ⟨b, 0, none⟩ = some (.pointer (some ⟨b, 0, none⟩)) := by rw [Lib.cell_of_heap hb2]; rfl
 have d1 : w2.cell? ⟨b, 1, none⟩ = some v := by rw [Lib.cell_of_heap hb2]; rfl
 have f1 : w2.frozen? ⟨b, 1, none⟩ = false := Lib.frozen_of_heap hb2 1
 obtain ⟨ao, n', cap, rfl⟩ : ∃ ao n' cap, v' = .slice ao n' cap := by
  rcases hown'.2 with ⟨hv, _⟩ | ⟨g, cap, cur, hv, _⟩
  ·exact ⟨_, _, _, hv⟩
  ·exact ⟨_, _, _, hv⟩
 go_wp2
 go_ret2
 refine ⟨rfl, ?_, ?_, ?_⟩
 ·exact Lib.BuilderAt.put (T := 68) (e := 5) hB hb2 (bs' := bs ++ Lib.strCells s) (by simpa [Lib.strCells_length] using hown') (by decide)
 ·exact (hb1.grown hgrow (by have := hb1.size; omega) (fun k hk => (hown.lt k hk).1)).setCell (p := ⟨b, 1, none⟩) hB _
 ·refine hkp.trans (KeepB.trans ?_ (KeepB.set b 1 _ w2))
  intro k cs T fr hk hT _
  rw [hgrow.block k (Array.getElem?_eq_some_iff.1 hk).1 (fun e => Lib.ownBlock_ne hown hk hT e.symm)]
  exact hk
def excerpt_piece.part (a0 : ByteArray) (last : Int) (x : S60) (b : Bool) : List UInt8 :=
 (a0.extract last.toNat x.f0.toNat).data.toList ++ (if b then [91] ++ (a0.extract x.f0.toNat x.f1.toNat).data.toList ++ [93] else (a0.extract x.f0.toNat x.f1.toNat).data.toList)
def excerpt_piece.go (a0 : ByteArray) (l1 : List S60) (l4 : List Int) : Nat → Int → Int → List UInt8 → Option (List UInt8)
 | 0, _, _, out => some out
 | d + 1, i, last, out => if 0 ≤ i ∧ i < l1.length ∧ 0 ≤ last ∧ last ≤ (rd_T60 l1 i).f0 ∧ (rd_T60 l1 i).f0 ≤ (rd_T60 l1 i).f1 ∧ (rd_T60 l1 i).f1 ≤ a0.size ∧ out.length ≤ 40000000 then
   excerpt_piece.go a0 l1 l4 d (i + 1) (rd_T60 l1 i).f1 (out ++ excerpt_piece.part a0 last (rd_T60 l1 i) (l4.contains i)) else none
def excerpt_piece.f (a0 : ByteArray) (l1 : List S60) (a2 a3 : Int) (l4 : List Int) : Option ByteArray :=
 if 0 ≤ a2 ∧ a2 < l1.length ∧ a2 ≤ a3 ∧ a3 ≤ l1.length ∧ l1.length ≤ 40000000 ∧ a0.size ≤ 40000000 ∧ l4.length ≤ 40000000 then (excerpt_piece.go a0 l1 l4 (a3 - a2).toNat a2 (rd_T60 l1 a2).f0 []).map fun o => ⟨o.toArray⟩ else none
theorem excerpt_piece.index (l : List Int) (x : Int) (hl : l.length ≤ 40000000) : ∀ (d i : Nat), i + d = l.length → ∃ r, slices_Index_int_int.l0 (d + 1) l x (l.length : Int) (i : Int) = some r ∧ decide (r ≥ 0) = (l.drop i).contains x := by
 intro d
 induction d with
 | zero =>
  intro i hi
  refine ⟨-1, ?_, ?_⟩
  ·rw [slices_Index_int_int.l0, if_neg (by omega)]
  ·rw [List.drop_eq_nil_of_le (by omega)]; simp
 | succ d ih =>
  intro i hi
  have hlt : i < l.length := by omega
  have hd : l.drop i = l[i] :: l.drop (i + 1) := List.drop_eq_getElem_cons hlt
  have hr : rd l (i : Int) = l[i] := by simp [rd, List.getD_eq_getElem?_getD, List.getElem?_eq_getElem hlt]
  rw [slices_Index_int_int.l0, if_pos (by omega), if_pos (by omega), if_pos (by omega), hr]
  by_cases c : x = l[i]
  ·rw [if_pos c]
   refine ⟨i, rfl, ?_⟩
   rw [hd]
   simp only [List.contains_cons]
   rw [show (x == l[i]) = true by simpa using c, Bool.true_or]
   simp
  ·rw [if_neg c]
   obtain ⟨r, h1, h2⟩ := ih (i + 1) (by omega)
   refine ⟨r, ?_, ?_⟩
   ·rw [show wrap64 ((i : Int) + 1) = ((i + 1 : Nat) : Int) by unfold wrap64; omega]
    exact h1
   ·rw [h2, hd]
    simp only [List.contains_cons]
    rw [show (x == l[i]) = false by simpa using c, Bool.false_or]
theorem excerpt_piece.contains (l : List Int) (x : Int) (hl : l.length ≤ 40000000) : slices_Contains_int_int.f (l.length + 1) l x = some (l.contains x) := by
 obtain ⟨r, h1, h2⟩ := excerpt_piece.index l x hl l.length 0 (by omega)
 unfold slices_Contains_int_int.f slices_Index_int_int.f
 rw [show ((0 : Nat) : Int) = 0 from rfl] at h1
 rw [h1]
 simpa using h2
theorem excerpt_piece.builder_below {b : Nat} {bs : List Value} {B : Nat} {w w1 : World} (h : Lib.IsBuilder 68 5 B b bs w) (hb : Below w.heap.size w w1) : Lib.IsBuilder 68 5 B b bs w1 := by
 have key : ∀ p, Lib.BuilderAt 68 5 B b p bs w → Lib.BuilderAt 68 5 B b p bs w1 := by
  rintro p ⟨h1, v, h2, h3, h4⟩
  exact ⟨h1, v, (hb.block b (Array.getElem?_eq_some_iff.1 h2).1).trans h2, pw_own_below h3 hb, h4⟩
 exact h.elim (fun h => .inl (key _ h)) (fun h => .inr (key _ h))
theorem excerpt_piece.builder_lt {b : Nat} {bs : List Value} {B : Nat} {w : World} (h : Lib.IsBuilder 68 5 B b bs w) : b < w.heap.size := h.elim (fun h => h.lt) (fun h => h.lt)
set_option maxHeartbeats 4000000 in
set_option maxRecDepth 100000 in
theorem excerpt_piece.calls (a0 : ByteArray) (A1 : Option Addr) (c1 : Nat) (l1 : List S60) (a2 a3 : Int) (A4 : Option Addr) (c4 : Nat) (l4 : List Int) (r : ByteArray) (w : World) (hr1 : Kd.C k60 w A1 l1.length l1) (hc1 : l1.length ≤ c1) (hr4 : Kd.C (Kd.int .i64) w A4 l4.length l4) (hc4 : l4.length ≤ c4) (h : excerpt_piece.f a0 l1 a2 a3 l4 = some r) :
  Calls Tryz.prog 19 #[.string a0, .slice A1 l1.length c1, .int .i64 a2, .int .i64 a3, .slice A4 l4.length c4] w fun e w' => e = .returned (.string r) ∧ Below w.heap.size w w' := by
 have hu60 := Tryz.underlying60
 unfold excerpt_piece.f at h
 split at h
 case isFalse => cases h
 rename_i hc
 obtain ⟨hf0, hfl, hft, htl, hll, hsl, hml⟩ := hc
 obtain ⟨o, ho, hr⟩ := Option.map_eq_some_iff.1 h
 subst hr
 have HR1 := Aside0.mk hr1
 have HR4 := Aside0.mk hr4
 obtain ⟨ad0, e0, hx0, hx1⟩ := at_T60 hr1 a2 hf0 hfl
 have HO := Aside0.mk ho
 have HLL := Aside0.mk hll
 have HSL := Aside0.mk hsl
 have HC1 := Aside0.mk hc1
 have HC4 := Aside0.mk hc4
 have HTL := Aside0.mk htl
 have HFT := Aside0.mk hft
 have HF0 := Aside0.mk hf0
 have p2 : 0 ≤ a2 := hf0
 have q2 : a2 < (l1.length : Int) := hfl
 replace p2 := eq_true p2
 replace q2 := eq_true q2
 have HML := Aside0.mk hml
 clear hr1 hr4 hll hsl ho h hml hc1 hc4 htl hft hf0 hfl
 subst e0
 have hx0' := (Below.cell (below_alloc (Below.refl w.heap.size w) (.cells #[.pointer none, .slice none 0 0] 68)) (World.block_lt_of_cell? w _ hx0)).trans hx0
 have HIB := Aside0.mk (Lib.fresh_isBuilder 68 5 w)
 have HB := Aside0.mk (below_alloc (Below.refl w.heap.size w) (.cells #[.pointer none, .slice none 0 0] 68))
 clear hx0 hx1
 go_enter Tryz.func19, Tryz.ntmps19
 go_wp2_with fail
 go_loopg [12, 13] (a3 - a2).toNat (fun n v12 v13 wr => ∃ (i last : Int) (out : List UInt8), v12 = .int .i64 last ∧ v13 = .int .i64 i ∧ Aside0 (a2 ≤ i ∧ i ≤ a3 ∧ (a3 - i).toNat ≤ n) ∧ Aside0 (excerpt_piece.go a0 l1 l4 (a3 - i).toNat i last out = some o) ∧ Aside0 (Lib.IsBuilder 68 5 w.heap.size w.heap.size (Lib.byteCells out) wr) ∧ Aside0 (Below w.heap.size w wr))
 case atStart => exact ⟨a2, _, [], rfl, rfl, ⟨Int.le_refl _, HFT.out, Nat.le_refl _⟩, HO, HIB, HB⟩
 case round =>
  obtain ⟨i, last, out, rfl, rfl, HI, HGO, HIB, HB⟩ := hrel
  obtain ⟨hi0, hi1, hin⟩ := HI.out
  by_cases c : i < a3
  ·have cb : decide (i < a3) = true := decide_eq_true c
   have hg := HGO.out
   obtain ⟨d, hd⟩ : ∃ d, (a3 - i).toNat = d + 1 := ⟨(a3 - i).toNat - 1, by omega⟩
   rw [hd, excerpt_piece.go] at hg
   split at hg
   case isFalse => cases hg
   rename_i hq
   obtain ⟨h1, h2, h3, h4, h5, h6, h7⟩ := hq
   obtain ⟨x, hx⟩ : ∃ x, x = rd_T60 l1 i := ⟨_, rfl⟩
   rw [← hx] at h4 h5 h6 hg
   obtain ⟨adx, ex, hx0, hx1⟩ := at_T60 (Kd.C_below HR1.out HB.out) i h1 h2
   cases ex
   rw [← hx] at hx0 hx1
   have HGO2 := Aside0.mk hg
   have H1 := eq_true h1
   have H2 := eq_true h2
   have HL4 := Aside0.mk h4
   have HL5 := Aside0.mk h5
   have HL6 := Aside0.mk h6
   have HL7 := Aside0.mk h7
   have HD := Aside0.mk hd
   obtain ⟨g, hgz⟩ : ∃ g, g = wr.heap.size := ⟨_, rfl⟩
   clear hg c h1 h2 hx hd
   go_wp2_with fail
   have hba := below_alloc (Below.refl wr.heap.size wr) (.cells #[.int .i64 x.f0, .int .i64 x.f1] 60)
   refine (write_string w.heap.size w.heap.size (Lib.byteCells out) (a0.extract last.toNat x.f0.toNat) _ (excerpt_piece.builder_below HIB.out hba) ?_ (Nat.le_trans (below_size HB.out) (below_size hba))).mono ?_
   ·have q1 := HL7.out
    have q2 := HSL.out
    rw [Lib.byteCells_length, ByteArray.size_extract]
    omega
   rintro e w1 ⟨rfl, hib1, hb1, hk1⟩
   have hx1b := hk1 wr.heap.size _ _ _ (heap_alloc_new wr _) (by decide) (by
    have q1 := excerpt_piece.builder_lt HIB.out
    omega)
   have HB1 := Aside0.mk (HB.out.trans ((hba.mono (below_size HB.out)).trans hb1))
   have HIB1 := Aside0.mk (show Lib.IsBuilder 68 5 w.heap.size w.heap.size (Lib.byteCells (out ++ (a0.extract last.toNat x.f0.toNat).data.toList)) w1 by
    have q := hib1
    rw [Lib.strCells_eq] at q
    exact .inr (by simpa [Lib.byteCells] using q))
   have HXB := Aside0.mk hx1b
   have z0 : w1.cell? ⟨wr.heap.size, 0, none⟩ = some (.int .i64 x.f0) := by rw [Lib.cell_of_heap hx1b]; rfl
   have z1 : w1.cell? ⟨wr.heap.size, 1, none⟩ = some (.int .i64 x.f1) := by rw [Lib.cell_of_heap hx1b]; rfl
   have HGE := Aside0.mk (excerpt_piece.builder_lt HIB.out)
   clear hib1 hb1 hk1 hx1b hba hx0 hx1 HIB HB
   have e5 := HL5.out
   have e6 := HL6.out
   have e4 := HL4.out
   go_wp2_with fail
   have HR41 := Aside0.mk (Kd.C_below HR4.out HB1.out)
   refine (slices_Contains_int_int.calls (l4.length + 1) A4 c4 l4 i _ _ HR41.out HC4.out (excerpt_piece.contains l4 i HML.out)).mono ?_
   rintro e w2 ⟨rfl, ⟨nd, rfl⟩⟩
   obtain ⟨bb, hbb⟩ : ∃ bb, bb = l4.contains i := ⟨_, rfl⟩
   rw [← hbb] at HGO2 ⊢
   clear hbb
   have hdd := HD.out
   cases bb with
   | false =>
    go_wp2_with fail
    refine (write_string w.heap.size w.heap.size (Lib.byteCells (out ++ (a0.extract last.toNat x.f0.toNat).data.toList)) (a0.extract x.f0.toNat x.f1.toNat) _ (excerpt_piece.builder_below HIB1.out (by repeat (first | exact Below.refl _ _ | apply pw_below_drewN | apply below_drew1))) ?_ ?_).mono ?_
    ·have q1 := HL7.out
     have q2 := HSL.out
     rw [Lib.byteCells_length, List.length_append, Array.length_toList, Array.length_toList.symm]
     simp only [Array.length_toList]
     have q3 : (a0.extract last.toNat x.f0.toNat).data.size = (a0.extract last.toNat x.f0.toNat).size := rfl
     rw [q3, ByteArray.size_extract]
     rw [ByteArray.size_extract]
     omega
    ·exact below_size (by repeat (first | exact HB1.out | apply pw_below_drewN | apply below_drew1))
    rintro e w3 ⟨rfl, hib3, hb3, hk3⟩
    have hx3b := hk3 wr.heap.size _ _ _ (show (w1.drewN nd).heap[wr.heap.size]? = _ from HXB.out) (by decide) (by have := HGE.out; omega)
    have y1 : w3.cell? ⟨wr.heap.size, 1, none⟩ = some (.int .i64 x.f1) := by rw [Lib.cell_of_heap hx3b]; rfl
    have HB3 := Aside0.mk (show Below w.heap.size w w3 from Below.trans (by repeat (first | exact HB1.out | apply pw_below_drewN | apply below_drew1)) hb3)
    have HIB3 := Aside0.mk (show Lib.IsBuilder 68 5 w.heap.size w.heap.size (Lib.byteCells (out ++ excerpt_piece.part a0 last x false)) w3 by
     have q := hib3
     rw [Lib.strCells_eq] at q
     refine .inr ?_
     have e : Lib.byteCells (out ++ excerpt_piece.part a0 last x false) = Lib.byteCells (out ++ (a0.extract last.toNat x.f0.toNat).data.toList) ++ Lib.byteCells ((a0.extract x.f0.toNat x.f1.toNat) : ByteArray).data.toList := by
      simp [Lib.byteCells, excerpt_piece.part]
     rw [e]
     exact q)
    clear hib3 hb3 hk3 hx3b
    go_wp2
    have hib0 : 0 ≤ i := of_eq_true H1
    have hib : i < 40000000 := by have q1 := of_eq_true H2; have q2 := HLL.out; omega
    go_roundg (gk - 1)
    case measure => have := HI.out; have := HD.out; omega
    case rel => exact ⟨i + 1, x.f1, _, rfl, congrArg (Value.int .i64) (show wrap64 (i + 1) = i + 1 by unfold wrap64; omega), ⟨by omega, by omega, by omega⟩, ⟨by rw [show (a3 - (i + 1)).toNat = d by omega]; exact HGO2.out⟩, HIB3, HB3⟩
   | true =>
    obtain ⟨S0, hS0⟩ : ∃ z, a0.extract x.f0.toNat x.f1.toNat = z := ⟨_, rfl⟩
    rw [hS0]
    have hz0 : S0.size ≤ 40000000 := by have q := HSL.out; rw [← hS0, ByteArray.size_extract]; omega
    have n1 : (9223372036854775807 < 1 + S0.size) = False := eq_false (by omega)
    have n2 : (9223372036854775807 < 1 + S0.size + 1) = False := eq_false (by omega)
    have n3 : (9223372036854775807 < ((⟨#[91]⟩ : ByteArray) ++ S0).size + 1) = False := eq_false (by rw [ByteArray.size_append]; have q4 : (⟨#[91]⟩ : ByteArray).size = 1 := rfl; omega)
    go_wp2_with fail
    refine (write_string w.heap.size w.heap.size (Lib.byteCells (out ++ (a0.extract last.toNat x.f0.toNat).data.toList)) ((⟨#[91]⟩ : ByteArray) ++ S0 ++ (⟨#[93]⟩ : ByteArray)) _ (excerpt_piece.builder_below HIB1.out (by repeat (first | exact Below.refl _ _ | apply pw_below_drewN | apply below_drew1))) ?_ ?_).mono ?_
    ·have q1 := HL7.out
     have q2 := HSL.out
     rw [Lib.byteCells_length, List.length_append, Array.length_toList, Array.length_toList.symm]
     simp only [Array.length_toList]
     have q3 : (a0.extract last.toNat x.f0.toNat).data.size = (a0.extract last.toNat x.f0.toNat).size := rfl
     rw [q3, ByteArray.size_extract]
     rw [ByteArray.size_append, ByteArray.size_append]
     have q4 : (⟨#[91]⟩ : ByteArray).size = 1 := rfl
     have q5 : (⟨#[93]⟩ : ByteArray).size = 1 := rfl
     omega
    ·exact below_size (by repeat (first | exact HB1.out | apply pw_below_drewN | apply below_drew1))
    rintro e w3 ⟨rfl, hib3, hb3, hk3⟩
    have hx3b := hk3 wr.heap.size _ _ _ (show (w1.drewN nd).heap[wr.heap.size]? = _ from HXB.out) (by decide) (by have := HGE.out; omega)
    have y1 : w3.cell? ⟨wr.heap.size, 1, none⟩ = some (.int .i64 x.f1) := by rw [Lib.cell_of_heap hx3b]; rfl
    have HB3 := Aside0.mk (show Below w.heap.size w w3 from Below.trans (by repeat (first | exact HB1.out | apply pw_below_drewN | apply below_drew1)) hb3)
    have HIB3 := Aside0.mk (show Lib.IsBuilder 68 5 w.heap.size w.heap.size (Lib.byteCells (out ++ excerpt_piece.part a0 last x true)) w3 by
     have q := hib3
     rw [Lib.strCells_eq] at q
     refine .inr ?_
     have e : Lib.byteCells (out ++ excerpt_piece.part a0 last x true) = Lib.byteCells (out ++ (a0.extract last.toNat x.f0.toNat).data.toList) ++ Lib.byteCells (((⟨#[91]⟩ : ByteArray) ++ S0 ++ (⟨#[93]⟩ : ByteArray)) : ByteArray).data.toList := by
      simp [Lib.byteCells, excerpt_piece.part, hS0]
     rw [e]
     exact q)
    clear hib3 hb3 hk3 hx3b
    go_wp2
    have hib0 : 0 ≤ i := of_eq_true H1
    have hib : i < 40000000 := by have q1 := of_eq_true H2; have q2 := HLL.out; omega
    go_roundg (gk - 1)
    case measure => have := HI.out; have := HD.out; omega
    case rel => exact ⟨i + 1, x.f1, _, rfl, congrArg (Value.int .i64) (show wrap64 (i + 1) = i + 1 by unfold wrap64; omega), ⟨by omega, by omega, by omega⟩, ⟨by rw [show (a3 - (i + 1)).toNat = d by omega]; exact HGO2.out⟩, HIB3, HB3⟩
  ·have cb : decide (i < a3) = false := decide_eq_false c
   have hg := HGO.out
   rw [show (a3 - i).toNat = 0 by omega, excerpt_piece.go] at hg
   obtain rfl := Option.some.inj hg
   clear c hg
   go_wp2_with fail
   refine (Tryz.Builder_String_any w.heap.size w.heap.size out _ HIB.out (below_size HB.out)).mono ?_
   rintro e w2 ⟨rfl, hb2⟩
   have HB2 := Aside0.mk (HB.out.trans hb2)
   clear hb2
   go_wp2
   go_ret
   exact ⟨rfl, HB2.out⟩
def excerpt_Excerpt.f (k : Nat) (a0 : ByteArray) (a1_0 : Int) (a1_1 : Int) (l1_2 : List (S40)) (l1_3 : List (S25)) (a2 : Int) (a3 : Int) : Option (ByteArray) := (token_Spans.f k a0).bind fun t331 => (if (t331.length : Int) = 0 then (some (⟨#[]⟩ : ByteArray)) else ((excerpt_Marks.f k a0 a1_0 a1_1 l1_2 l1_3 a2).bind fun t334 => ((excerpt_Window.f k t334 (t331.length : Int) (mn (mx a3 1) 20)).bind fun t337 => ((excerpt_piece.f a0 t331 t337 (mn (wrap64 (t337 + (mn (mx a3 1) 20))) (t331.length : Int)) t334).bind fun t338 => (if t337 > 0 then (if 3 + t338.size ≤ 9223372036854775807 then (if (mn (wrap64 (t337 + (mn (mx a3 1) 20))) (t331.length : Int)) < (t331.length : Int) then (if ((⟨#[46, 46, 46]⟩ : ByteArray) ++ t338).size + 3 ≤ 9223372036854775807 then (some (((⟨#[46, 46, 46]⟩ : ByteArray) ++ t338) ++ (⟨#[46, 46, 46]⟩ : ByteArray))) else (none)) else (some ((⟨#[46, 46, 46]⟩ : ByteArray) ++ t338))) else (none)) else (if (mn (wrap64 (t337 + (mn (mx a3 1) 20))) (t331.length : Int)) < (t331.length : Int) then (if t338.size + 3 ≤ 9223372036854775807 then (some (t338 ++ (⟨#[46, 46, 46]⟩ : ByteArray))) else (none)) else (some t338)))))))
theorem excerpt_Excerpt.mono : ∀ a0 a1 a2 a3 a4 a5 a6 k, LeO (excerpt_Excerpt.f k a0 a1 a2 a3 a4 a5 a6) (excerpt_Excerpt.f (k + 1) a0 a1 a2 a3 a4 a5 a6) := by
 intro a0 a1 a2 a3 a4 a5 a6 k
 unfold excerpt_Excerpt.f
 repeat' first
   | (with_reducible exact excerpt_Marks.mono _ _ _ _ _ _ _)
   | (with_reducible exact excerpt_Window.mono _ _ _ _)
   | (with_reducible exact token_Spans.mono _ _)
   | (with_reducible exact LeO.refl _)
   | (with_reducible exact LeO.none _)
   | (with_reducible refine LeO.ite ?_ ?_)
   | (with_reducible refine LeO.bind ?_ (fun _ => ?_))
   | exact excerpt_Marks.mono _ _ _ _ _ _ _
   | exact excerpt_Window.mono _ _ _ _
   | exact token_Spans.mono _ _
   | exact LeO.none _
   | refine LeO.ite ?_ ?_
   | refine LeO.bind ?_ (fun _ => ?_)
set_option maxHeartbeats 8000000 in
set_option maxRecDepth 100000 in
theorem excerpt_Excerpt.calls (k : Nat) (a0 : ByteArray) (a1_0 : Int) (a1_1 : Int) (A1_2 : Option Addr) (c1_2 : Nat) (l1_2 : List (S40)) (A1_3 : Option Addr) (c1_3 : Nat) (l1_3 : List (S25)) (a2 : Int) (a3 : Int) (r : ByteArray) (w : World) (hG : GL w) (hr1_2 : Kd.C k40 w A1_2 l1_2.length l1_2) (hc1_2 : l1_2.length ≤ c1_2) (hr1_3 : Kd.C k25 w A1_3 l1_3.length l1_3) (hc1_3 : l1_3.length ≤ c1_3) (h : excerpt_Excerpt.f k a0 a1_0 a1_1 l1_2 l1_3 a2 a3 = some r) :
  Calls Tryz.prog 9 #[.string a0, .agg #[.int .i64 a1_0, .int .i64 a1_1, .slice A1_2 l1_2.length c1_2, .slice A1_3 l1_3.length c1_3], .int .i64 a2, .int .i64 a3] w fun e w' => e = .returned (.string r) ∧ Below w.heap.size w w' := by
 have hu25 := Tryz.underlying25
 have HR1_2 := Aside0.mk hr1_2
 have HC1_2 := Aside0.mk hc1_2
 clear hr1_2 hc1_2
 have HR1_3 := Aside0.mk hr1_3
 have HC1_3 := Aside0.mk hc1_3
 clear hr1_3 hc1_3
 have HB := Aside0.mk (Below.refl w.heap.size w)
 have H : ((token_Spans.f k a0).bind fun t331 => (if (t331.length : Int) = 0 then (some (⟨#[]⟩ : ByteArray)) else ((excerpt_Marks.f k a0 a1_0 a1_1 l1_2 l1_3 a2).bind fun t334 => ((excerpt_Window.f k t334 (t331.length : Int) (mn (mx a3 1) 20)).bind fun t337 => ((excerpt_piece.f a0 t331 t337 (mn (wrap64 (t337 + (mn (mx a3 1) 20))) (t331.length : Int)) t334).bind fun t338 => (if t337 > 0 then (if 3 + t338.size ≤ 9223372036854775807 then (if (mn (wrap64 (t337 + (mn (mx a3 1) 20))) (t331.length : Int)) < (t331.length : Int) then (if ((⟨#[46, 46, 46]⟩ : ByteArray) ++ t338).size + 3 ≤ 9223372036854775807 then (some (((⟨#[46, 46, 46]⟩ : ByteArray) ++ t338) ++ (⟨#[46, 46, 46]⟩ : ByteArray))) else (none)) else (some ((⟨#[46, 46, 46]⟩ : ByteArray) ++ t338))) else (none)) else (if (mn (wrap64 (t337 + (mn (mx a3 1) 20))) (t331.length : Int)) < (t331.length : Int) then (if t338.size + 3 ≤ 9223372036854775807 then (some (t338 ++ (⟨#[46, 46, 46]⟩ : ByteArray))) else (none)) else (some t338)))))))) = some r := h
 clear h
 replace H := Option.bind_eq_some_iff.mp H
 obtain ⟨t331, A50, H⟩ := H
 replace H : (if (t331.length : Int) = 0 then (some (⟨#[]⟩ : ByteArray)) else ((excerpt_Marks.f k a0 a1_0 a1_1 l1_2 l1_3 a2).bind fun t334 => ((excerpt_Window.f k t334 (t331.length : Int) (mn (mx a3 1) 20)).bind fun t337 => ((excerpt_piece.f a0 t331 t337 (mn (wrap64 (t337 + (mn (mx a3 1) 20))) (t331.length : Int)) t334).bind fun t338 => (if t337 > 0 then (if 3 + t338.size ≤ 9223372036854775807 then (if (mn (wrap64 (t337 + (mn (mx a3 1) 20))) (t331.length : Int)) < (t331.length : Int) then (if ((⟨#[46, 46, 46]⟩ : ByteArray) ++ t338).size + 3 ≤ 9223372036854775807 then (some (((⟨#[46, 46, 46]⟩ : ByteArray) ++ t338) ++ (⟨#[46, 46, 46]⟩ : ByteArray))) else (none)) else (some ((⟨#[46, 46, 46]⟩ : ByteArray) ++ t338))) else (none)) else (if (mn (wrap64 (t337 + (mn (mx a3 1) 20))) (t331.length : Int)) < (t331.length : Int) then (if t338.size + 3 ≤ 9223372036854775807 then (some (t338 ++ (⟨#[46, 46, 46]⟩ : ByteArray))) else (none)) else (some t338))))))) = some r := H
 have A5 := Aside0.mk A50
 clear A50
 by_cases c6 : (t331.length : Int) = 0
 ·rw [if_pos c6] at H
  have c6b0 : ((t331.length : Int) == 0) = true := beq_iff_eq.mpr c6
  have c6b1 : ((t331.length : Int) != 0) = false := bne_eq_false_iff_eq.mpr c6
  clear c6
  obtain rfl := Option.some.inj H
  go_enter Tryz.func9, Tryz.ntmps9
  go_wp2_with (first | ((with_reducible refine gate_dst (N := 5) rfl ?_); refine box_event ?hg (N := 5) ?hd (cs := #[.int .i64 a1_0, .int .i64 a1_1, .slice A1_2 l1_2.length c1_2, .slice A1_3 l1_3.length c1_3]) (t := 25) ?hr ?_; (case hd => rfl); (case hg => rfl); (case hr => first | (go_simp; done) | (go_simp; rfl)); intro gb330 hg w7 hbox hb; have n0_ := Aside0.mk (below_step (bb_ HB.out) hb); have n1_ := Aside0.mk (hbox); have n2_ := Aside0.mk ((by rw [hg]; exact (below_size (bb_ HB.out)) : w.heap.size ≤ gb330)); have n3_ := Aside0.mk ((by rw [hg]; exact (below_size (bb_ HB.out)) : w.heap.size ≤ gb330)); clear HB; have HB := n0_; have BK330 := n1_; have GW330 := n2_; have GE330 := n3_; clear n0_ n1_ n2_ n3_; clear hb hbox hg) | ((with_reducible refine gate_callee (f := 16) rfl ?_); refine goesL_ (some 15) rfl rfl Tryz.func16 (by kernel_rfl) rfl #[.string a0] rfl ar_ ?_; (with_reducible refine (token_Spans.calls k a0 t331 _ A5.out).mono ?_); rintro e w8 ⟨v332, rfl, ho0, hb⟩; refine ⟨_, rfl, ?_⟩; have n0_ := Aside0.mk (Kd.R_lower ho0 (below_size (bb1_ HB.out GE330.out))); have n1_ := Aside0.mk (blk_below (g := gb330) (o := .cells #[.int .i64 a1_0, .int .i64 a1_1, .slice A1_2 l1_2.length c1_2, .slice A1_3 l1_3.length c1_3] 25 (0, 0)) (bk_ BK330.out) hb); have n2_ := Aside0.mk (below_step (bb1_ HB.out GE330.out) hb); clear BK330; clear HB; have HO333 := n0_; have BK330 := n1_; have HB := n2_; clear n0_ n1_ n2_; (try clear hb); (try clear hb2); (try clear hk); (try clear hi); (try clear ho0); obtain ⟨Ao9, co9, eo9⟩ := Kd.R_slice HO333.out; subst eo9))
  go_ret
  exact ⟨by first | rfl | (simp [errW_none, errW_some] <;> rfl) | (simp [*, errW_none, errW_some] <;> rfl), by repeat (first | (with_reducible first | exact HB.out | apply below_alloc | apply pw_below_drewN | apply below_drew1 | refine below_set ?_ GE330.out) | exact HB.out)⟩
 ·rw [if_neg c6] at H
  have c6b0 : ((t331.length : Int) == 0) = false := beq_eq_false_iff_ne.mpr c6
  have c6b1 : ((t331.length : Int) != 0) = true := bne_iff_ne.mpr c6
  have c6b2 : ¬ (t331 = []) := fun h_ => c6 (by rw [h_]; rfl)
  obtain ⟨ji10, hji10⟩ : ∃ j_ : Int, (mx a3 1) = j_ := ⟨_, rfl⟩
  replace H : ((excerpt_Marks.f k a0 a1_0 a1_1 l1_2 l1_3 a2).bind fun t334 => ((excerpt_Window.f k t334 (t331.length : Int) (mn (ji10) 20)).bind fun t337 => ((excerpt_piece.f a0 t331 t337 (mn (wrap64 (t337 + (mn (ji10) 20))) (t331.length : Int)) t334).bind fun t338 => (if t337 > 0 then (if 3 + t338.size ≤ 9223372036854775807 then (if (mn (wrap64 (t337 + (mn (ji10) 20))) (t331.length : Int)) < (t331.length : Int) then (if ((⟨#[46, 46, 46]⟩ : ByteArray) ++ t338).size + 3 ≤ 9223372036854775807 then (some (((⟨#[46, 46, 46]⟩ : ByteArray) ++ t338) ++ (⟨#[46, 46, 46]⟩ : ByteArray))) else (none)) else (some ((⟨#[46, 46, 46]⟩ : ByteArray) ++ t338))) else (none)) else (if (mn (wrap64 (t337 + (mn (ji10) 20))) (t331.length : Int)) < (t331.length : Int) then (if t338.size + 3 ≤ 9223372036854775807 then (some (t338 ++ (⟨#[46, 46, 46]⟩ : ByteArray))) else (none)) else (some t338)))))) = some r := by first | (rw [hji10] at H; exact H) | (simp only [hji10] at H ⊢; exact H)
  (try rw [hji10] at A5)
  (try (have hji10l : 1 ≤ ji10 := by (rw [← hji10]; unfold mx; (repeat' split) <;> omega)))
  (try (have hji10m : 0 ≤ ji10 := by omega))
  have hji10_ : (if a3 < 1 then 1 else a3) = ji10 := hji10
  obtain ⟨ji11, hji11⟩ : ∃ j_ : Int, (mn (ji10) 20) = j_ := ⟨_, rfl⟩
  replace H : ((excerpt_Marks.f k a0 a1_0 a1_1 l1_2 l1_3 a2).bind fun t334 => ((excerpt_Window.f k t334 (t331.length : Int) (ji11)).bind fun t337 => ((excerpt_piece.f a0 t331 t337 (mn (wrap64 (t337 + (ji11))) (t331.length : Int)) t334).bind fun t338 => (if t337 > 0 then (if 3 + t338.size ≤ 9223372036854775807 then (if (mn (wrap64 (t337 + (ji11))) (t331.length : Int)) < (t331.length : Int) then (if ((⟨#[46, 46, 46]⟩ : ByteArray) ++ t338).size + 3 ≤ 9223372036854775807 then (some (((⟨#[46, 46, 46]⟩ : ByteArray) ++ t338) ++ (⟨#[46, 46, 46]⟩ : ByteArray))) else (none)) else (some ((⟨#[46, 46, 46]⟩ : ByteArray) ++ t338))) else (none)) else (if (mn (wrap64 (t337 + (ji11))) (t331.length : Int)) < (t331.length : Int) then (if t338.size + 3 ≤ 9223372036854775807 then (some (t338 ++ (⟨#[46, 46, 46]⟩ : ByteArray))) else (none)) else (some t338)))))) = some r := by first | (rw [hji11] at H; exact H) | (simp only [hji11] at H ⊢; exact H)
  (try rw [hji11] at A5)
  have hji11_ : (if 20 < (ji10) then 20 else (ji10)) = ji11 := hji11
  replace H := Option.bind_eq_some_iff.mp H
  obtain ⟨t334, A120, H⟩ := H
  replace H : ((excerpt_Window.f k t334 (t331.length : Int) (ji11)).bind fun t337 => ((excerpt_piece.f a0 t331 t337 (mn (wrap64 (t337 + (ji11))) (t331.length : Int)) t334).bind fun t338 => (if t337 > 0 then (if 3 + t338.size ≤ 9223372036854775807 then (if (mn (wrap64 (t337 + (ji11))) (t331.length : Int)) < (t331.length : Int) then (if ((⟨#[46, 46, 46]⟩ : ByteArray) ++ t338).size + 3 ≤ 9223372036854775807 then (some (((⟨#[46, 46, 46]⟩ : ByteArray) ++ t338) ++ (⟨#[46, 46, 46]⟩ : ByteArray))) else (none)) else (some ((⟨#[46, 46, 46]⟩ : ByteArray) ++ t338))) else (none)) else (if (mn (wrap64 (t337 + (ji11))) (t331.length : Int)) < (t331.length : Int) then (if t338.size + 3 ≤ 9223372036854775807 then (some (t338 ++ (⟨#[46, 46, 46]⟩ : ByteArray))) else (none)) else (some t338))))) = some r := H
  have A12 := Aside0.mk A120
  clear A120
  replace H := Option.bind_eq_some_iff.mp H
  obtain ⟨t337, A130, H⟩ := H
  replace H : ((excerpt_piece.f a0 t331 t337 (mn (wrap64 (t337 + (ji11))) (t331.length : Int)) t334).bind fun t338 => (if t337 > 0 then (if 3 + t338.size ≤ 9223372036854775807 then (if (mn (wrap64 (t337 + (ji11))) (t331.length : Int)) < (t331.length : Int) then (if ((⟨#[46, 46, 46]⟩ : ByteArray) ++ t338).size + 3 ≤ 9223372036854775807 then (some (((⟨#[46, 46, 46]⟩ : ByteArray) ++ t338) ++ (⟨#[46, 46, 46]⟩ : ByteArray))) else (none)) else (some ((⟨#[46, 46, 46]⟩ : ByteArray) ++ t338))) else (none)) else (if (mn (wrap64 (t337 + (ji11))) (t331.length : Int)) < (t331.length : Int) then (if t338.size + 3 ≤ 9223372036854775807 then (some (t338 ++ (⟨#[46, 46, 46]⟩ : ByteArray))) else (none)) else (some t338)))) = some r := H
  have A13 := Aside0.mk A130
  clear A130
  obtain ⟨ji14, hji14⟩ : ∃ j_ : Int, (mn (wrap64 (t337 + (ji11))) (t331.length : Int)) = j_ := ⟨_, rfl⟩
  replace H : ((excerpt_piece.f a0 t331 t337 (ji14) t334).bind fun t338 => (if t337 > 0 then (if 3 + t338.size ≤ 9223372036854775807 then (if (ji14) < (t331.length : Int) then (if ((⟨#[46, 46, 46]⟩ : ByteArray) ++ t338).size + 3 ≤ 9223372036854775807 then (some (((⟨#[46, 46, 46]⟩ : ByteArray) ++ t338) ++ (⟨#[46, 46, 46]⟩ : ByteArray))) else (none)) else (some ((⟨#[46, 46, 46]⟩ : ByteArray) ++ t338))) else (none)) else (if (ji14) < (t331.length : Int) then (if t338.size + 3 ≤ 9223372036854775807 then (some (t338 ++ (⟨#[46, 46, 46]⟩ : ByteArray))) else (none)) else (some t338)))) = some r := by first | (rw [hji14] at H; exact H) | (simp only [hji14] at H ⊢; exact H)
  (try rw [hji14] at A5)
  (try rw [hji14] at A12)
  (try rw [hji14] at A13)
  have hji14_ : (if (t331.length : Int) < (wrap64 (t337 + (ji11))) then (t331.length : Int) else (wrap64 (t337 + (ji11)))) = ji14 := hji14
  replace H := Option.bind_eq_some_iff.mp H
  obtain ⟨t338, A150, H⟩ := H
  replace H : (if t337 > 0 then (if 3 + t338.size ≤ 9223372036854775807 then (if (ji14) < (t331.length : Int) then (if ((⟨#[46, 46, 46]⟩ : ByteArray) ++ t338).size + 3 ≤ 9223372036854775807 then (some (((⟨#[46, 46, 46]⟩ : ByteArray) ++ t338) ++ (⟨#[46, 46, 46]⟩ : ByteArray))) else (none)) else (some ((⟨#[46, 46, 46]⟩ : ByteArray) ++ t338))) else (none)) else (if (ji14) < (t331.length : Int) then (if t338.size + 3 ≤ 9223372036854775807 then (some (t338 ++ (⟨#[46, 46, 46]⟩ : ByteArray))) else (none)) else (some t338))) = some r := H
  have A15 := Aside0.mk A150
  clear A150
  by_cases c16 : t337 > 0
  ·rw [if_pos c16] at H
   have c16b0 : decide (0 < t337) = true := decide_eq_true c16
   clear c16
   by_cases c17 : 3 + t338.size ≤ 9223372036854775807
   ·rw [if_pos c17] at H
    have c17b0 := eq_true c17
    have c17b1 : decide (3 + t338.size ≤ 9223372036854775807) = true := decide_eq_true c17
    try have c17b2 : (9223372036854775807 < 3 + t338.size) = False := eq_false (Nat.not_lt.2 c17)
    by_cases c18 : (ji14) < (t331.length : Int)
    ·rw [if_pos c18] at H
     have c18b0 : decide ((ji14) < (t331.length : Int)) = true := decide_eq_true c18
     clear c18
     by_cases c19 : ((⟨#[46, 46, 46]⟩ : ByteArray) ++ t338).size + 3 ≤ 9223372036854775807
     ·rw [if_pos c19] at H
      have c19b0 := eq_true c19
      have c19b1 : decide (((⟨#[46, 46, 46]⟩ : ByteArray) ++ t338).size + 3 ≤ 9223372036854775807) = true := decide_eq_true c19
      try have c19b2 : (9223372036854775807 < ((⟨#[46, 46, 46]⟩ : ByteArray) ++ t338).size + 3) = False := eq_false (Nat.not_lt.2 c19)
      have c19b3 : (9223372036854775807 < 3 + t338.size + 3) = False := eq_false (Nat.not_lt.2 (by have q_ := c19; rw [ByteArray.size_append] at q_; exact q_))
      obtain rfl := Option.some.inj H
      go_enter Tryz.func9, Tryz.ntmps9
      go_wp2_with (first | ((with_reducible refine gate_dst (N := 5) rfl ?_); refine box_event ?hg (N := 5) ?hd (cs := #[.int .i64 a1_0, .int .i64 a1_1, .slice A1_2 l1_2.length c1_2, .slice A1_3 l1_3.length c1_3]) (t := 25) ?hr ?_; (case hd => rfl); (case hg => rfl); (case hr => first | (go_simp; done) | (go_simp; rfl)); intro gb330 hg w20 hbox hb; have n0_ := Aside0.mk (below_step (bb_ HB.out) hb); have n1_ := Aside0.mk (hbox); have n2_ := Aside0.mk ((by rw [hg]; exact (below_size (bb_ HB.out)) : w.heap.size ≤ gb330)); have n3_ := Aside0.mk ((by rw [hg]; exact (below_size (bb_ HB.out)) : w.heap.size ≤ gb330)); clear HB; have HB := n0_; have BK330 := n1_; have GW330 := n2_; have GE330 := n3_; clear n0_ n1_ n2_ n3_; clear hb hbox hg) | ((with_reducible refine gate_callee (f := 16) rfl ?_); refine goesL_ (some 15) rfl rfl Tryz.func16 (by kernel_rfl) rfl #[.string a0] rfl ar_ ?_; (with_reducible refine (token_Spans.calls k a0 t331 _ A5.out).mono ?_); rintro e w21 ⟨v332, rfl, ho0, hb⟩; refine ⟨_, rfl, ?_⟩; have n0_ := Aside0.mk (Kd.R_lower ho0 (below_size (bb1_ HB.out GE330.out))); have n1_ := Aside0.mk (blk_below (g := gb330) (o := .cells #[.int .i64 a1_0, .int .i64 a1_1, .slice A1_2 l1_2.length c1_2, .slice A1_3 l1_3.length c1_3] 25 (0, 0)) (bk_ BK330.out) hb); have n2_ := Aside0.mk (below_step (bb1_ HB.out GE330.out) hb); clear BK330; clear HB; have HO333 := n0_; have BK330 := n1_; have HB := n2_; clear n0_ n1_ n2_; (try clear hb); (try clear hb2); (try clear hk); (try clear hi); (try clear ho0); obtain ⟨Ao22, co22, eo22⟩ := Kd.R_slice HO333.out; subst eo22; have hcz23_0 : w21.cell? ⟨gb330, 0, none⟩ = some (.int .i64 a1_0) := (blk_cell BK330.out 0).trans rfl; have hcz23_1 : w21.cell? ⟨gb330, 1, none⟩ = some (.int .i64 a1_1) := (blk_cell BK330.out 1).trans rfl; have hcz23_2 : w21.cell? ⟨gb330, 2, none⟩ = some (.slice A1_2 l1_2.length c1_2) := (blk_cell BK330.out 2).trans rfl; have hcz23_3 : w21.cell? ⟨gb330, 3, none⟩ = some (.slice A1_3 l1_3.length c1_3) := (blk_cell BK330.out 3).trans rfl; have hfz23_0 := blk_frozen BK330.out 0; have hfz23_1 := blk_frozen BK330.out 1; have hfz23_2 := blk_frozen BK330.out 2; have hfz23_3 := blk_frozen BK330.out 3) | ((with_reducible refine gate_callee (f := 17) rfl ?_); refine goesL_ (some 25) rfl rfl Tryz.func17 (by kernel_rfl) rfl #[.string a0, .agg #[.int .i64 a1_0, .int .i64 a1_1, .slice A1_2 l1_2.length c1_2, .slice A1_3 l1_3.length c1_3], .int .i64 a2] rfl ar_ ?_; (with_reducible refine (excerpt_Marks.calls k a0 a1_0 a1_1 _ _ l1_2 _ _ l1_3 a2 t334 _ (by first | exact hG | exact GL.drewN hG _ | exact GL.below hG (bb1_ HB.out GE330.out)) ?side1 ?side2 ?side3 ?side4 A12.out).mono ?_); (case side1 => repeat (first | exact (Kd.C_below HR1_2.out HB.out) | (with_reducible refine Kd.C_alloc ?_ _) | (with_reducible refine Kd.C_drewN ?_ _) | (with_reducible refine Kd.C_drew ?_))); (case side2 => exact HC1_2.out); (case side3 => repeat (first | exact (Kd.C_below HR1_3.out HB.out) | (with_reducible refine Kd.C_alloc ?_ _) | (with_reducible refine Kd.C_drewN ?_ _) | (with_reducible refine Kd.C_drew ?_))); (case side4 => exact HC1_3.out); rintro e w24 ⟨v335, rfl, ho0, hb⟩; refine ⟨_, rfl, ?_⟩; have n0_ := Aside0.mk (Kd.R_below (kr_ HO333.out) hb); have n1_ := Aside0.mk (Kd.R_lower ho0 (below_size (bb1_ HB.out GE330.out))); have n2_ := Aside0.mk (blk_below (g := gb330) (o := .cells #[.int .i64 a1_0, .int .i64 a1_1, .slice A1_2 l1_2.length c1_2, .slice A1_3 l1_3.length c1_3] 25 (0, 0)) (bk_ BK330.out) hb); have n3_ := Aside0.mk (below_step (bb1_ HB.out GE330.out) hb); clear HO333; clear BK330; clear HB; have HO333 := n0_; have HO336 := n1_; have BK330 := n2_; have HB := n3_; clear n0_ n1_ n2_ n3_; (try clear hb); (try clear hb2); (try clear hk); (try clear hi); (try clear ho0); obtain ⟨Ao25, co25, eo25⟩ := Kd.R_slice HO336.out; subst eo25) | ((with_reducible refine gate_callee (f := 18) rfl ?_); refine goesL_ (some 30) rfl rfl Tryz.func18 (by kernel_rfl) rfl #[.slice Ao25 t334.length co25, .int .i64 (t331.length : Int), .int .i64 ji11] rfl (by (try simp only [List.map_toArray, List.map_cons, List.map_nil]); first | done | (simp only [hji11]; rfl) | rfl | (simp only [List.length_drop, List.length_take]; rfl)) ?_; (with_reducible refine (excerpt_Window.calls k _ _ t334 (t331.length : Int) ji11 t337 _ ?side1 ?side2 A13.out).mono ?_); (case side1 => repeat (first | exact (Kd.R_reads' HO336.out).2.2 | (with_reducible refine Kd.C_alloc ?_ _) | (with_reducible refine Kd.C_drewN ?_ _) | (with_reducible refine Kd.C_drew ?_))); (case side2 => exact (Kd.R_reads' HO336.out).2.1); rintro e w26 ⟨rfl, hb⟩; refine ⟨_, rfl, ?_⟩; have n0_ := Aside0.mk (Kd.R_below (kr_ HO333.out) hb); have n1_ := Aside0.mk (Kd.R_below (kr_ HO336.out) hb); have n2_ := Aside0.mk (blk_below (g := gb330) (o := .cells #[.int .i64 a1_0, .int .i64 a1_1, .slice A1_2 l1_2.length c1_2, .slice A1_3 l1_3.length c1_3] 25 (0, 0)) (bk_ BK330.out) hb); have n3_ := Aside0.mk (below_step (bb1_ HB.out GE330.out) hb); clear HO333; clear HO336; clear BK330; clear HB; have HO333 := n0_; have HO336 := n1_; have BK330 := n2_; have HB := n3_; clear n0_ n1_ n2_ n3_; (try clear hb); (try clear hb2); (try clear hk); (try clear hi)) | ((with_reducible refine gate_callee (f := 19) rfl ?_); refine goesL_ (some 42) rfl rfl Tryz.func19 (by kernel_rfl) rfl #[.string a0, .slice Ao22 t331.length co22, .int .i64 t337, .int .i64 ji14, .slice Ao25 t334.length co25] rfl (by (try simp only [List.map_toArray, List.map_cons, List.map_nil]); first | done | (simp only [hji14]; rfl) | rfl | (simp only [List.length_drop, List.length_take]; rfl)) ?_; (with_reducible refine (excerpt_piece.calls a0 _ _ t331 t337 ji14 _ _ t334 t338 _ ?side1 ?side2 ?side3 ?side4 A15.out).mono ?_); (case side1 => repeat (first | exact (Kd.R_reads' HO333.out).2.2 | (with_reducible refine Kd.C_alloc ?_ _) | (with_reducible refine Kd.C_drewN ?_ _) | (with_reducible refine Kd.C_drew ?_))); (case side2 => exact (Kd.R_reads' HO333.out).2.1); (case side3 => repeat (first | exact (Kd.R_reads' HO336.out).2.2 | (with_reducible refine Kd.C_alloc ?_ _) | (with_reducible refine Kd.C_drewN ?_ _) | (with_reducible refine Kd.C_drew ?_))); (case side4 => exact (Kd.R_reads' HO336.out).2.1); rintro e w27 ⟨rfl, hb⟩; refine ⟨_, rfl, ?_⟩; have n0_ := Aside0.mk (Kd.R_below (kr_ HO333.out) hb); have n1_ := Aside0.mk (Kd.R_below (kr_ HO336.out) hb); have n2_ := Aside0.mk (blk_below (g := gb330) (o := .cells #[.int .i64 a1_0, .int .i64 a1_1, .slice A1_2 l1_2.length c1_2, .slice A1_3 l1_3.length c1_3] 25 (0, 0)) (bk_ BK330.out) hb); have n3_ := Aside0.mk (below_step (bb1_ HB.out GE330.out) hb); clear HO333; clear HO336; clear BK330; clear HB; have HO333 := n0_; have HO336 := n1_; have BK330 := n2_; have HB := n3_; clear n0_ n1_ n2_ n3_; (try clear hb); (try clear hb2); (try clear hk); (try clear hi)))
      go_ret
      exact ⟨by first | rfl | (simp [errW_none, errW_some] <;> rfl) | (simp only [← hji10, ← hji11, ← hji14]; first | rfl | (simp [errW_none, errW_some] <;> rfl)) | (simp [*, errW_none, errW_some] <;> rfl), by repeat (first | (with_reducible first | exact HB.out | apply below_alloc | apply pw_below_drewN | apply below_drew1 | refine below_set ?_ GE330.out) | exact HB.out)⟩
     ·rw [if_neg c19] at H
      exact absurd H (by simp)
    ·rw [if_neg c18] at H
     have c18b0 : decide ((ji14) < (t331.length : Int)) = false := decide_eq_false c18
     clear c18
     obtain rfl := Option.some.inj H
     go_enter Tryz.func9, Tryz.ntmps9
     go_wp2_with (first | ((with_reducible refine gate_dst (N := 5) rfl ?_); refine box_event ?hg (N := 5) ?hd (cs := #[.int .i64 a1_0, .int .i64 a1_1, .slice A1_2 l1_2.length c1_2, .slice A1_3 l1_3.length c1_3]) (t := 25) ?hr ?_; (case hd => rfl); (case hg => rfl); (case hr => first | (go_simp; done) | (go_simp; rfl)); intro gb330 hg w28 hbox hb; have n0_ := Aside0.mk (below_step (bb_ HB.out) hb); have n1_ := Aside0.mk (hbox); have n2_ := Aside0.mk ((by rw [hg]; exact (below_size (bb_ HB.out)) : w.heap.size ≤ gb330)); have n3_ := Aside0.mk ((by rw [hg]; exact (below_size (bb_ HB.out)) : w.heap.size ≤ gb330)); clear HB; have HB := n0_; have BK330 := n1_; have GW330 := n2_; have GE330 := n3_; clear n0_ n1_ n2_ n3_; clear hb hbox hg) | ((with_reducible refine gate_callee (f := 16) rfl ?_); refine goesL_ (some 15) rfl rfl Tryz.func16 (by kernel_rfl) rfl #[.string a0] rfl ar_ ?_; (with_reducible refine (token_Spans.calls k a0 t331 _ A5.out).mono ?_); rintro e w29 ⟨v332, rfl, ho0, hb⟩; refine ⟨_, rfl, ?_⟩; have n0_ := Aside0.mk (Kd.R_lower ho0 (below_size (bb1_ HB.out GE330.out))); have n1_ := Aside0.mk (blk_below (g := gb330) (o := .cells #[.int .i64 a1_0, .int .i64 a1_1, .slice A1_2 l1_2.length c1_2, .slice A1_3 l1_3.length c1_3] 25 (0, 0)) (bk_ BK330.out) hb); have n2_ := Aside0.mk (below_step (bb1_ HB.out GE330.out) hb); clear BK330; clear HB; have HO333 := n0_; have BK330 := n1_; have HB := n2_; clear n0_ n1_ n2_; (try clear hb); (try clear hb2); (try clear hk); (try clear hi); (try clear ho0); obtain ⟨Ao30, co30, eo30⟩ := Kd.R_slice HO333.out; subst eo30; have hcz31_0 : w29.cell? ⟨gb330, 0, none⟩ = some (.int .i64 a1_0) := (blk_cell BK330.out 0).trans rfl; have hcz31_1 : w29.cell? ⟨gb330, 1, none⟩ = some (.int .i64 a1_1) := (blk_cell BK330.out 1).trans rfl; have hcz31_2 : w29.cell? ⟨gb330, 2, none⟩ = some (.slice A1_2 l1_2.length c1_2) := (blk_cell BK330.out 2).trans rfl; have hcz31_3 : w29.cell? ⟨gb330, 3, none⟩ = some (.slice A1_3 l1_3.length c1_3) := (blk_cell BK330.out 3).trans rfl; have hfz31_0 := blk_frozen BK330.out 0; have hfz31_1 := blk_frozen BK330.out 1; have hfz31_2 := blk_frozen BK330.out 2; have hfz31_3 := blk_frozen BK330.out 3) | ((with_reducible refine gate_callee (f := 17) rfl ?_); refine goesL_ (some 25) rfl rfl Tryz.func17 (by kernel_rfl) rfl #[.string a0, .agg #[.int .i64 a1_0, .int .i64 a1_1, .slice A1_2 l1_2.length c1_2, .slice A1_3 l1_3.length c1_3], .int .i64 a2] rfl ar_ ?_; (with_reducible refine (excerpt_Marks.calls k a0 a1_0 a1_1 _ _ l1_2 _ _ l1_3 a2 t334 _ (by first | exact hG | exact GL.drewN hG _ | exact GL.below hG (bb1_ HB.out GE330.out)) ?side1 ?side2 ?side3 ?side4 A12.out).mono ?_); (case side1 => repeat (first | exact (Kd.C_below HR1_2.out HB.out) | (with_reducible refine Kd.C_alloc ?_ _) | (with_reducible refine Kd.C_drewN ?_ _) | (with_reducible refine Kd.C_drew ?_))); (case side2 => exact HC1_2.out); (case side3 => repeat (first | exact (Kd.C_below HR1_3.out HB.out) | (with_reducible refine Kd.C_alloc ?_ _) | (with_reducible refine Kd.C_drewN ?_ _) | (with_reducible refine Kd.C_drew ?_))); (case side4 => exact HC1_3.out); rintro e w32 ⟨v335, rfl, ho0, hb⟩; refine ⟨_, rfl, ?_⟩; have n0_ := Aside0.mk (Kd.R_below (kr_ HO333.out) hb); have n1_ := Aside0.mk (Kd.R_lower ho0 (below_size (bb1_ HB.out GE330.out))); have n2_ := Aside0.mk (blk_below (g := gb330) (o := .cells #[.int .i64 a1_0, .int .i64 a1_1, .slice A1_2 l1_2.length c1_2, .slice A1_3 l1_3.length c1_3] 25 (0, 0)) (bk_ BK330.out) hb); have n3_ := Aside0.mk (below_step (bb1_ HB.out GE330.out) hb); clear HO333; clear BK330; clear HB; have HO333 := n0_; have HO336 := n1_; have BK330 := n2_; have HB := n3_; clear n0_ n1_ n2_ n3_; (try clear hb); (try clear hb2); (try clear hk); (try clear hi); (try clear ho0); obtain ⟨Ao33, co33, eo33⟩ := Kd.R_slice HO336.out; subst eo33) | ((with_reducible refine gate_callee (f := 18) rfl ?_); refine goesL_ (some 30) rfl rfl Tryz.func18 (by kernel_rfl) rfl #[.slice Ao33 t334.length co33, .int .i64 (t331.length : Int), .int .i64 ji11] rfl (by (try simp only [List.map_toArray, List.map_cons, List.map_nil]); first | done | (simp only [hji11]; rfl) | rfl | (simp only [List.length_drop, List.length_take]; rfl)) ?_; (with_reducible refine (excerpt_Window.calls k _ _ t334 (t331.length : Int) ji11 t337 _ ?side1 ?side2 A13.out).mono ?_); (case side1 => repeat (first | exact (Kd.R_reads' HO336.out).2.2 | (with_reducible refine Kd.C_alloc ?_ _) | (with_reducible refine Kd.C_drewN ?_ _) | (with_reducible refine Kd.C_drew ?_))); (case side2 => exact (Kd.R_reads' HO336.out).2.1); rintro e w34 ⟨rfl, hb⟩; refine ⟨_, rfl, ?_⟩; have n0_ := Aside0.mk (Kd.R_below (kr_ HO333.out) hb); have n1_ := Aside0.mk (Kd.R_below (kr_ HO336.out) hb); have n2_ := Aside0.mk (blk_below (g := gb330) (o := .cells #[.int .i64 a1_0, .int .i64 a1_1, .slice A1_2 l1_2.length c1_2, .slice A1_3 l1_3.length c1_3] 25 (0, 0)) (bk_ BK330.out) hb); have n3_ := Aside0.mk (below_step (bb1_ HB.out GE330.out) hb); clear HO333; clear HO336; clear BK330; clear HB; have HO333 := n0_; have HO336 := n1_; have BK330 := n2_; have HB := n3_; clear n0_ n1_ n2_ n3_; (try clear hb); (try clear hb2); (try clear hk); (try clear hi)) | ((with_reducible refine gate_callee (f := 19) rfl ?_); refine goesL_ (some 42) rfl rfl Tryz.func19 (by kernel_rfl) rfl #[.string a0, .slice Ao30 t331.length co30, .int .i64 t337, .int .i64 ji14, .slice Ao33 t334.length co33] rfl (by (try simp only [List.map_toArray, List.map_cons, List.map_nil]); first | done | (simp only [hji14]; rfl) | rfl | (simp only [List.length_drop, List.length_take]; rfl)) ?_; (with_reducible refine (excerpt_piece.calls a0 _ _ t331 t337 ji14 _ _ t334 t338 _ ?side1 ?side2 ?side3 ?side4 A15.out).mono ?_); (case side1 => repeat (first | exact (Kd.R_reads' HO333.out).2.2 | (with_reducible refine Kd.C_alloc ?_ _) | (with_reducible refine Kd.C_drewN ?_ _) | (with_reducible refine Kd.C_drew ?_))); (case side2 => exact (Kd.R_reads' HO333.out).2.1); (case side3 => repeat (first | exact (Kd.R_reads' HO336.out).2.2 | (with_reducible refine Kd.C_alloc ?_ _) | (with_reducible refine Kd.C_drewN ?_ _) | (with_reducible refine Kd.C_drew ?_))); (case side4 => exact (Kd.R_reads' HO336.out).2.1); rintro e w35 ⟨rfl, hb⟩; refine ⟨_, rfl, ?_⟩; have n0_ := Aside0.mk (Kd.R_below (kr_ HO333.out) hb); have n1_ := Aside0.mk (Kd.R_below (kr_ HO336.out) hb); have n2_ := Aside0.mk (blk_below (g := gb330) (o := .cells #[.int .i64 a1_0, .int .i64 a1_1, .slice A1_2 l1_2.length c1_2, .slice A1_3 l1_3.length c1_3] 25 (0, 0)) (bk_ BK330.out) hb); have n3_ := Aside0.mk (below_step (bb1_ HB.out GE330.out) hb); clear HO333; clear HO336; clear BK330; clear HB; have HO333 := n0_; have HO336 := n1_; have BK330 := n2_; have HB := n3_; clear n0_ n1_ n2_ n3_; (try clear hb); (try clear hb2); (try clear hk); (try clear hi)))
     go_ret
     exact ⟨by first | rfl | (simp [errW_none, errW_some] <;> rfl) | (simp only [← hji10, ← hji11, ← hji14]; first | rfl | (simp [errW_none, errW_some] <;> rfl)) | (simp [*, errW_none, errW_some] <;> rfl), by repeat (first | (with_reducible first | exact HB.out | apply below_alloc | apply pw_below_drewN | apply below_drew1 | refine below_set ?_ GE330.out) | exact HB.out)⟩
   ·rw [if_neg c17] at H
    exact absurd H (by simp)
  ·rw [if_neg c16] at H
   have c16b0 : decide (0 < t337) = false := decide_eq_false c16
   clear c16
   by_cases c36 : (ji14) < (t331.length : Int)
   ·rw [if_pos c36] at H
    have c36b0 : decide ((ji14) < (t331.length : Int)) = true := decide_eq_true c36
    clear c36
    by_cases c37 : t338.size + 3 ≤ 9223372036854775807
    ·rw [if_pos c37] at H
     have c37b0 := eq_true c37
     have c37b1 : decide (t338.size + 3 ≤ 9223372036854775807) = true := decide_eq_true c37
     try have c37b2 : (9223372036854775807 < t338.size + 3) = False := eq_false (Nat.not_lt.2 c37)
     obtain rfl := Option.some.inj H
     go_enter Tryz.func9, Tryz.ntmps9
     go_wp2_with (first | ((with_reducible refine gate_dst (N := 5) rfl ?_); refine box_event ?hg (N := 5) ?hd (cs := #[.int .i64 a1_0, .int .i64 a1_1, .slice A1_2 l1_2.length c1_2, .slice A1_3 l1_3.length c1_3]) (t := 25) ?hr ?_; (case hd => rfl); (case hg => rfl); (case hr => first | (go_simp; done) | (go_simp; rfl)); intro gb330 hg w38 hbox hb; have n0_ := Aside0.mk (below_step (bb_ HB.out) hb); have n1_ := Aside0.mk (hbox); have n2_ := Aside0.mk ((by rw [hg]; exact (below_size (bb_ HB.out)) : w.heap.size ≤ gb330)); have n3_ := Aside0.mk ((by rw [hg]; exact (below_size (bb_ HB.out)) : w.heap.size ≤ gb330)); clear HB; have HB := n0_; have BK330 := n1_; have GW330 := n2_; have GE330 := n3_; clear n0_ n1_ n2_ n3_; clear hb hbox hg) | ((with_reducible refine gate_callee (f := 16) rfl ?_); refine goesL_ (some 15) rfl rfl Tryz.func16 (by kernel_rfl) rfl #[.string a0] rfl ar_ ?_; (with_reducible refine (token_Spans.calls k a0 t331 _ A5.out).mono ?_); rintro e w39 ⟨v332, rfl, ho0, hb⟩; refine ⟨_, rfl, ?_⟩; have n0_ := Aside0.mk (Kd.R_lower ho0 (below_size (bb1_ HB.out GE330.out))); have n1_ := Aside0.mk (blk_below (g := gb330) (o := .cells #[.int .i64 a1_0, .int .i64 a1_1, .slice A1_2 l1_2.length c1_2, .slice A1_3 l1_3.length c1_3] 25 (0, 0)) (bk_ BK330.out) hb); have n2_ := Aside0.mk (below_step (bb1_ HB.out GE330.out) hb); clear BK330; clear HB; have HO333 := n0_; have BK330 := n1_; have HB := n2_; clear n0_ n1_ n2_; (try clear hb); (try clear hb2); (try clear hk); (try clear hi); (try clear ho0); obtain ⟨Ao40, co40, eo40⟩ := Kd.R_slice HO333.out; subst eo40; have hcz41_0 : w39.cell? ⟨gb330, 0, none⟩ = some (.int .i64 a1_0) := (blk_cell BK330.out 0).trans rfl; have hcz41_1 : w39.cell? ⟨gb330, 1, none⟩ = some (.int .i64 a1_1) := (blk_cell BK330.out 1).trans rfl; have hcz41_2 : w39.cell? ⟨gb330, 2, none⟩ = some (.slice A1_2 l1_2.length c1_2) := (blk_cell BK330.out 2).trans rfl; have hcz41_3 : w39.cell? ⟨gb330, 3, none⟩ = some (.slice A1_3 l1_3.length c1_3) := (blk_cell BK330.out 3).trans rfl; have hfz41_0 := blk_frozen BK330.out 0; have hfz41_1 := blk_frozen BK330.out 1; have hfz41_2 := blk_frozen BK330.out 2; have hfz41_3 := blk_frozen BK330.out 3) | ((with_reducible refine gate_callee (f := 17) rfl ?_); refine goesL_ (some 25) rfl rfl Tryz.func17 (by kernel_rfl) rfl #[.string a0, .agg #[.int .i64 a1_0, .int .i64 a1_1, .slice A1_2 l1_2.length c1_2, .slice A1_3 l1_3.length c1_3], .int .i64 a2] rfl ar_ ?_; (with_reducible refine (excerpt_Marks.calls k a0 a1_0 a1_1 _ _ l1_2 _ _ l1_3 a2 t334 _ (by first | exact hG | exact GL.drewN hG _ | exact GL.below hG (bb1_ HB.out GE330.out)) ?side1 ?side2 ?side3 ?side4 A12.out).mono ?_); (case side1 => repeat (first | exact (Kd.C_below HR1_2.out HB.out) | (with_reducible refine Kd.C_alloc ?_ _) | (with_reducible refine Kd.C_drewN ?_ _) | (with_reducible refine Kd.C_drew ?_))); (case side2 => exact HC1_2.out); (case side3 => repeat (first | exact (Kd.C_below HR1_3.out HB.out) | (with_reducible refine Kd.C_alloc ?_ _) | (with_reducible refine Kd.C_drewN ?_ _) | (with_reducible refine Kd.C_drew ?_))); (case side4 => exact HC1_3.out); rintro e w42 ⟨v335, rfl, ho0, hb⟩; refine ⟨_, rfl, ?_⟩; have n0_ := Aside0.mk (Kd.R_below (kr_ HO333.out) hb); have n1_ := Aside0.mk (Kd.R_lower ho0 (below_size (bb1_ HB.out GE330.out))); have n2_ := Aside0.mk (blk_below (g := gb330) (o := .cells #[.int .i64 a1_0, .int .i64 a1_1, .slice A1_2 l1_2.length c1_2, .slice A1_3 l1_3.length c1_3] 25 (0, 0)) (bk_ BK330.out) hb); have n3_ := Aside0.mk (below_step (bb1_ HB.out GE330.out) hb); clear HO333; clear BK330; clear HB; have HO333 := n0_; have HO336 := n1_; have BK330 := n2_; have HB := n3_; clear n0_ n1_ n2_ n3_; (try clear hb); (try clear hb2); (try clear hk); (try clear hi); (try clear ho0); obtain ⟨Ao43, co43, eo43⟩ := Kd.R_slice HO336.out; subst eo43) | ((with_reducible refine gate_callee (f := 18) rfl ?_); refine goesL_ (some 30) rfl rfl Tryz.func18 (by kernel_rfl) rfl #[.slice Ao43 t334.length co43, .int .i64 (t331.length : Int), .int .i64 ji11] rfl (by (try simp only [List.map_toArray, List.map_cons, List.map_nil]); first | done | (simp only [hji11]; rfl) | rfl | (simp only [List.length_drop, List.length_take]; rfl)) ?_; (with_reducible refine (excerpt_Window.calls k _ _ t334 (t331.length : Int) ji11 t337 _ ?side1 ?side2 A13.out).mono ?_); (case side1 => repeat (first | exact (Kd.R_reads' HO336.out).2.2 | (with_reducible refine Kd.C_alloc ?_ _) | (with_reducible refine Kd.C_drewN ?_ _) | (with_reducible refine Kd.C_drew ?_))); (case side2 => exact (Kd.R_reads' HO336.out).2.1); rintro e w44 ⟨rfl, hb⟩; refine ⟨_, rfl, ?_⟩; have n0_ := Aside0.mk (Kd.R_below (kr_ HO333.out) hb); have n1_ := Aside0.mk (Kd.R_below (kr_ HO336.out) hb); have n2_ := Aside0.mk (blk_below (g := gb330) (o := .cells #[.int .i64 a1_0, .int .i64 a1_1, .slice A1_2 l1_2.length c1_2, .slice A1_3 l1_3.length c1_3] 25 (0, 0)) (bk_ BK330.out) hb); have n3_ := Aside0.mk (below_step (bb1_ HB.out GE330.out) hb); clear HO333; clear HO336; clear BK330; clear HB; have HO333 := n0_; have HO336 := n1_; have BK330 := n2_; have HB := n3_; clear n0_ n1_ n2_ n3_; (try clear hb); (try clear hb2); (try clear hk); (try clear hi)) | ((with_reducible refine gate_callee (f := 19) rfl ?_); refine goesL_ (some 42) rfl rfl Tryz.func19 (by kernel_rfl) rfl #[.string a0, .slice Ao40 t331.length co40, .int .i64 t337, .int .i64 ji14, .slice Ao43 t334.length co43] rfl (by (try simp only [List.map_toArray, List.map_cons, List.map_nil]); first | done | (simp only [hji14]; rfl) | rfl | (simp only [List.length_drop, List.length_take]; rfl)) ?_; (with_reducible refine (excerpt_piece.calls a0 _ _ t331 t337 ji14 _ _ t334 t338 _ ?side1 ?side2 ?side3 ?side4 A15.out).mono ?_); (case side1 => repeat (first | exact (Kd.R_reads' HO333.out).2.2 | (with_reducible refine Kd.C_alloc ?_ _) | (with_reducible refine Kd.C_drewN ?_ _) | (with_reducible refine Kd.C_drew ?_))); (case side2 => exact (Kd.R_reads' HO333.out).2.1); (case side3 => repeat (first | exact (Kd.R_reads' HO336.out).2.2 | (with_reducible refine Kd.C_alloc ?_ _) | (with_reducible refine Kd.C_drewN ?_ _) | (with_reducible refine Kd.C_drew ?_))); (case side4 => exact (Kd.R_reads' HO336.out).2.1); rintro e w45 ⟨rfl, hb⟩; refine ⟨_, rfl, ?_⟩; have n0_ := Aside0.mk (Kd.R_below (kr_ HO333.out) hb); have n1_ := Aside0.mk (Kd.R_below (kr_ HO336.out) hb); have n2_ := Aside0.mk (blk_below (g := gb330) (o := .cells #[.int .i64 a1_0, .int .i64 a1_1, .slice A1_2 l1_2.length c1_2, .slice A1_3 l1_3.length c1_3] 25 (0, 0)) (bk_ BK330.out) hb); have n3_ := Aside0.mk (below_step (bb1_ HB.out GE330.out) hb); clear HO333; clear HO336; clear BK330; clear HB; have HO333 := n0_; have HO336 := n1_; have BK330 := n2_; have HB := n3_; clear n0_ n1_ n2_ n3_; (try clear hb); (try clear hb2); (try clear hk); (try clear hi)))
     go_ret
     exact ⟨by first | rfl | (simp [errW_none, errW_some] <;> rfl) | (simp only [← hji10, ← hji11, ← hji14]; first | rfl | (simp [errW_none, errW_some] <;> rfl)) | (simp [*, errW_none, errW_some] <;> rfl), by repeat (first | (with_reducible first | exact HB.out | apply below_alloc | apply pw_below_drewN | apply below_drew1 | refine below_set ?_ GE330.out) | exact HB.out)⟩
    ·rw [if_neg c37] at H
     exact absurd H (by simp)
   ·rw [if_neg c36] at H
    have c36b0 : decide ((ji14) < (t331.length : Int)) = false := decide_eq_false c36
    clear c36
    obtain rfl := Option.some.inj H
    go_enter Tryz.func9, Tryz.ntmps9
    go_wp2_with (first | ((with_reducible refine gate_dst (N := 5) rfl ?_); refine box_event ?hg (N := 5) ?hd (cs := #[.int .i64 a1_0, .int .i64 a1_1, .slice A1_2 l1_2.length c1_2, .slice A1_3 l1_3.length c1_3]) (t := 25) ?hr ?_; (case hd => rfl); (case hg => rfl); (case hr => first | (go_simp; done) | (go_simp; rfl)); intro gb330 hg w46 hbox hb; have n0_ := Aside0.mk (below_step (bb_ HB.out) hb); have n1_ := Aside0.mk (hbox); have n2_ := Aside0.mk ((by rw [hg]; exact (below_size (bb_ HB.out)) : w.heap.size ≤ gb330)); have n3_ := Aside0.mk ((by rw [hg]; exact (below_size (bb_ HB.out)) : w.heap.size ≤ gb330)); clear HB; have HB := n0_; have BK330 := n1_; have GW330 := n2_; have GE330 := n3_; clear n0_ n1_ n2_ n3_; clear hb hbox hg) | ((with_reducible refine gate_callee (f := 16) rfl ?_); refine goesL_ (some 15) rfl rfl Tryz.func16 (by kernel_rfl) rfl #[.string a0] rfl ar_ ?_; (with_reducible refine (token_Spans.calls k a0 t331 _ A5.out).mono ?_); rintro e w47 ⟨v332, rfl, ho0, hb⟩; refine ⟨_, rfl, ?_⟩; have n0_ := Aside0.mk (Kd.R_lower ho0 (below_size (bb1_ HB.out GE330.out))); have n1_ := Aside0.mk (blk_below (g := gb330) (o := .cells #[.int .i64 a1_0, .int .i64 a1_1, .slice A1_2 l1_2.length c1_2, .slice A1_3 l1_3.length c1_3] 25 (0, 0)) (bk_ BK330.out) hb); have n2_ := Aside0.mk (below_step (bb1_ HB.out GE330.out) hb); clear BK330; clear HB; have HO333 := n0_; have BK330 := n1_; have HB := n2_; clear n0_ n1_ n2_; (try clear hb); (try clear hb2); (try clear hk); (try clear hi); (try clear ho0); obtain ⟨Ao48, co48, eo48⟩ := Kd.R_slice HO333.out; subst eo48; have hcz49_0 : w47.cell? ⟨gb330, 0, none⟩ = some (.int .i64 a1_0) := (blk_cell BK330.out 0).trans rfl; have hcz49_1 : w47.cell? ⟨gb330, 1, none⟩ = some (.int .i64 a1_1) := (blk_cell BK330.out 1).trans rfl; have hcz49_2 : w47.cell? ⟨gb330, 2, none⟩ = some (.slice A1_2 l1_2.length c1_2) := (blk_cell BK330.out 2).trans rfl; have hcz49_3 : w47.cell? ⟨gb330, 3, none⟩ = some (.slice A1_3 l1_3.length c1_3) := (blk_cell BK330.out 3).trans rfl; have hfz49_0 := blk_frozen BK330.out 0; have hfz49_1 := blk_frozen BK330.out 1; have hfz49_2 := blk_frozen BK330.out 2; have hfz49_3 := blk_frozen BK330.out 3) | ((with_reducible refine gate_callee (f := 17) rfl ?_); refine goesL_ (some 25) rfl rfl Tryz.func17 (by kernel_rfl) rfl #[.string a0, .agg #[.int .i64 a1_0, .int .i64 a1_1, .slice A1_2 l1_2.length c1_2, .slice A1_3 l1_3.length c1_3], .int .i64 a2] rfl ar_ ?_; (with_reducible refine (excerpt_Marks.calls k a0 a1_0 a1_1 _ _ l1_2 _ _ l1_3 a2 t334 _ (by first | exact hG | exact GL.drewN hG _ | exact GL.below hG (bb1_ HB.out GE330.out)) ?side1 ?side2 ?side3 ?side4 A12.out).mono ?_); (case side1 => repeat (first | exact (Kd.C_below HR1_2.out HB.out) | (with_reducible refine Kd.C_alloc ?_ _) | (with_reducible refine Kd.C_drewN ?_ _) | (with_reducible refine Kd.C_drew ?_))); (case side2 => exact HC1_2.out); (case side3 => repeat (first | exact (Kd.C_below HR1_3.out HB.out) | (with_reducible refine Kd.C_alloc ?_ _) | (with_reducible refine Kd.C_drewN ?_ _) | (with_reducible refine Kd.C_drew ?_))); (case side4 => exact HC1_3.out); rintro e w50 ⟨v335, rfl, ho0, hb⟩; refine ⟨_, rfl, ?_⟩; have n0_ := Aside0.mk (Kd.R_below (kr_ HO333.out) hb); have n1_ := Aside0.mk (Kd.R_lower ho0 (below_size (bb1_ HB.out GE330.out))); have n2_ := Aside0.mk (blk_below (g := gb330) (o := .cells #[.int .i64 a1_0, .int .i64 a1_1, .slice A1_2 l1_2.length c1_2, .slice A1_3 l1_3.length c1_3] 25 (0, 0)) (bk_ BK330.out) hb); have n3_ := Aside0.mk (below_step (bb1_ HB.out GE330.out) hb); clear HO333; clear BK330; clear HB; have HO333 := n0_; have HO336 := n1_; have BK330 := n2_; have HB := n3_; clear n0_ n1_ n2_ n3_; (try clear hb); (try clear hb2); (try clear hk); (try clear hi); (try clear ho0); obtain ⟨Ao51, co51, eo51⟩ := Kd.R_slice HO336.out; subst eo51) | ((with_reducible refine gate_callee (f := 18) rfl ?_); refine goesL_ (some 30) rfl rfl Tryz.func18 (by kernel_rfl) rfl #[.slice Ao51 t334.length co51, .int .i64 (t331.length : Int), .int .i64 ji11] rfl (by (try simp only [List.map_toArray, List.map_cons, List.map_nil]); first | done | (simp only [hji11]; rfl) | rfl | (simp only [List.length_drop, List.length_take]; rfl)) ?_; (with_reducible refine (excerpt_Window.calls k _ _ t334 (t331.length : Int) ji11 t337 _ ?side1 ?side2 A13.out).mono ?_); (case side1 => repeat (first | exact (Kd.R_reads' HO336.out).2.2 | (with_reducible refine Kd.C_alloc ?_ _) | (with_reducible refine Kd.C_drewN ?_ _) | (with_reducible refine Kd.C_drew ?_))); (case side2 => exact (Kd.R_reads' HO336.out).2.1); rintro e w52 ⟨rfl, hb⟩; refine ⟨_, rfl, ?_⟩; have n0_ := Aside0.mk (Kd.R_below (kr_ HO333.out) hb); have n1_ := Aside0.mk (Kd.R_below (kr_ HO336.out) hb); have n2_ := Aside0.mk (blk_below (g := gb330) (o := .cells #[.int .i64 a1_0, .int .i64 a1_1, .slice A1_2 l1_2.length c1_2, .slice A1_3 l1_3.length c1_3] 25 (0, 0)) (bk_ BK330.out) hb); have n3_ := Aside0.mk (below_step (bb1_ HB.out GE330.out) hb); clear HO333; clear HO336; clear BK330; clear HB; have HO333 := n0_; have HO336 := n1_; have BK330 := n2_; have HB := n3_; clear n0_ n1_ n2_ n3_; (try clear hb); (try clear hb2); (try clear hk); (try clear hi)) | ((with_reducible refine gate_callee (f := 19) rfl ?_); refine goesL_ (some 42) rfl rfl Tryz.func19 (by kernel_rfl) rfl #[.string a0, .slice Ao48 t331.length co48, .int .i64 t337, .int .i64 ji14, .slice Ao51 t334.length co51] rfl (by (try simp only [List.map_toArray, List.map_cons, List.map_nil]); first | done | (simp only [hji14]; rfl) | rfl | (simp only [List.length_drop, List.length_take]; rfl)) ?_; (with_reducible refine (excerpt_piece.calls a0 _ _ t331 t337 ji14 _ _ t334 t338 _ ?side1 ?side2 ?side3 ?side4 A15.out).mono ?_); (case side1 => repeat (first | exact (Kd.R_reads' HO333.out).2.2 | (with_reducible refine Kd.C_alloc ?_ _) | (with_reducible refine Kd.C_drewN ?_ _) | (with_reducible refine Kd.C_drew ?_))); (case side2 => exact (Kd.R_reads' HO333.out).2.1); (case side3 => repeat (first | exact (Kd.R_reads' HO336.out).2.2 | (with_reducible refine Kd.C_alloc ?_ _) | (with_reducible refine Kd.C_drewN ?_ _) | (with_reducible refine Kd.C_drew ?_))); (case side4 => exact (Kd.R_reads' HO336.out).2.1); rintro e w53 ⟨rfl, hb⟩; refine ⟨_, rfl, ?_⟩; have n0_ := Aside0.mk (Kd.R_below (kr_ HO333.out) hb); have n1_ := Aside0.mk (Kd.R_below (kr_ HO336.out) hb); have n2_ := Aside0.mk (blk_below (g := gb330) (o := .cells #[.int .i64 a1_0, .int .i64 a1_1, .slice A1_2 l1_2.length c1_2, .slice A1_3 l1_3.length c1_3] 25 (0, 0)) (bk_ BK330.out) hb); have n3_ := Aside0.mk (below_step (bb1_ HB.out GE330.out) hb); clear HO333; clear HO336; clear BK330; clear HB; have HO333 := n0_; have HO336 := n1_; have BK330 := n2_; have HB := n3_; clear n0_ n1_ n2_ n3_; (try clear hb); (try clear hb2); (try clear hk); (try clear hi)))
    go_ret
    exact ⟨by first | rfl | (simp [errW_none, errW_some] <;> rfl) | (simp only [← hji10, ← hji11, ← hji14]; first | rfl | (simp [errW_none, errW_some] <;> rfl)) | (simp [*, errW_none, errW_some] <;> rfl), by repeat (first | (with_reducible first | exact HB.out | apply below_alloc | apply pw_below_drewN | apply below_drew1 | refine below_set ?_ GE330.out) | exact HB.out)⟩
def scholialaw31_awake.f (k : Nat)  : Option (Bool) := (excerpt_Excerpt.f k (⟨#[116, 104, 101, 32, 113, 117, 105, 99, 107, 32, 114, 101, 100, 32, 102, 111, 120, 32, 114, 97, 110]⟩ : ByteArray) 2 0 (([(⟨(⟨#[102, 111, 120]⟩ : ByteArray), 0⟩ : S40)] : List (S40))) ([] : List (S25)) 1 2).bind fun t343 => (some (t343.toList == ([46, 46, 46, 114, 101, 100, 32, 91, 102, 111, 120, 93, 46, 46, 46] : List UInt8)))
theorem scholialaw31_awake.mono : ∀ k, LeO (scholialaw31_awake.f k ) (scholialaw31_awake.f (k + 1) ) := by
 intro  k
 unfold scholialaw31_awake.f
 repeat' first
   | (with_reducible exact excerpt_Excerpt.mono _ _ _ _ _ _ _ _)
   | (with_reducible exact LeO.refl _)
   | (with_reducible exact LeO.none _)
   | (with_reducible refine LeO.ite ?_ ?_)
   | (with_reducible refine LeO.bind ?_ (fun _ => ?_))
   | exact excerpt_Excerpt.mono _ _ _ _ _ _ _ _
   | exact LeO.none _
   | refine LeO.ite ?_ ?_
   | refine LeO.bind ?_ (fun _ => ?_)
set_option maxHeartbeats 8000000 in
set_option maxRecDepth 100000 in
theorem scholialaw31_awake.calls (k : Nat)  (r : Bool) (w : World) (hG : GL w) (h : scholialaw31_awake.f k  = some r) :
  Calls Tryz.prog 7 #[] w fun e w' => e = .returned (.bool r) ∧ Below w.heap.size w w' := by
 have hu40 := Tryz.underlying40
 have hu25 := Tryz.underlying25
 have HB := Aside0.mk (Below.refl w.heap.size w)
 have H : ((excerpt_Excerpt.f k (⟨#[116, 104, 101, 32, 113, 117, 105, 99, 107, 32, 114, 101, 100, 32, 102, 111, 120, 32, 114, 97, 110]⟩ : ByteArray) 2 0 (([(⟨(⟨#[102, 111, 120]⟩ : ByteArray), 0⟩ : S40)] : List (S40))) ([] : List (S25)) 1 2).bind fun t343 => (some (t343.toList == ([46, 46, 46, 114, 101, 100, 32, 91, 102, 111, 120, 93, 46, 46, 46] : List UInt8)))) = some r := h
 clear h
 obtain ⟨y339, hy339⟩ : ∃ y_ : List (S40), y_ = (([(⟨(⟨#[102, 111, 120]⟩ : ByteArray), 0⟩ : S40)] : List (S40))) := ⟨_, rfl⟩
 replace H : ((excerpt_Excerpt.f k (⟨#[116, 104, 101, 32, 113, 117, 105, 99, 107, 32, 114, 101, 100, 32, 102, 111, 120, 32, 114, 97, 110]⟩ : ByteArray) 2 0 y339 ([] : List (S25)) 1 2).bind fun t343 => (some (t343.toList == ([46, 46, 46, 114, 101, 100, 32, 91, 102, 111, 120, 93, 46, 46, 46] : List UInt8)))) = some r := by first | (rw [hy339]; with_reducible exact H) | (have H2_ := (Option.bind_some _ _).symm.trans H; rw [hy339]; with_reducible exact H2_) | (have H2_ := (Option.bind_some _ _).symm.trans H; with_reducible exact H2_) | with_reducible exact H | (rw [hy339]; exact H) | exact H
 have Ny339 := Aside0.mk hy339
 clear hy339
 replace H := Option.bind_eq_some_iff.mp H
 obtain ⟨t343, A10, H⟩ := H
 replace H : (some (t343.toList == ([46, 46, 46, 114, 101, 100, 32, 91, 102, 111, 120, 93, 46, 46, 46] : List UInt8))) = some r := H
 have A1 := Aside0.mk A10
 clear A10
 obtain rfl := Option.some.inj H
 go_enter Tryz.func7, Tryz.ntmps7
 go_wp2_with (first | ((with_reducible refine gate_dst (N := 3) rfl ?_); refine Kd.R_lit k40 _ 40 ?hg (N := 3) ?hd (xs := ([(⟨(⟨#[102, 111, 120]⟩ : ByteArray), 0⟩ : S40)] : List (S40))) (inner := [.string (⟨#[102, 111, 120]⟩ : ByteArray), .int .i64 0]) (ok := fun _ => True) (okp := fun _ => True) ?hr ?hp (fun _ hk => hk) trivial (Below.refl _ _) (Nat.le_refl _) (by simp) ?_; (case hd => rfl); (case hg => rfl); (case hr => first | (go_simp; done) | (go_simp; rfl)); (case hp => exact (Reps.c2 (show Kd.M k40 _ _ _ (⟨(⟨#[102, 111, 120]⟩ : ByteArray), 0⟩ : S40) [.string (⟨#[102, 111, 120]⟩ : ByteArray), .int .i64 0] from (k40_mkM _ _ _ (⟨(⟨#[102, 111, 120]⟩ : ByteArray), 0⟩ : S40) )) (Reps.none _ _))); intro v340 w2 ho3 hb hg_ hnew_; clear hg_ hnew_; (first | rw [← Ny339.out] at ho3 | (simp only [Int.reduceToNat] at ho3; rw [← Ny339.out] at ho3)); have n0_ := Aside0.mk (Kd.R_lower ho3 (below_size (bb_ HB.out))); have n1_ := Aside0.mk (below_step (bb_ HB.out) hb); clear HB; have HO341 := n0_; have HB := n1_; clear n0_ n1_; clear hb ho3; obtain ⟨Ao4, co4, eo4⟩ := Kd.R_slice HO341.out; subst eo4) | ((with_reducible refine gate_dst (N := 1) rfl ?_); refine box_event ?hg (N := 1) ?hd (cs := #[.int .i64 0, .int .i64 0, .slice none 0 0, .slice none 0 0]) (t := 25) ?hr ?_; (case hd => rfl); (case hg => rfl); (case hr => first | (go_simp; done) | (go_simp; rfl)); intro gb342 hg w5 hbox hb; have n0_ := Aside0.mk (Kd.R_below (kr_ HO341.out) hb); have n1_ := Aside0.mk (below_step (bb_ HB.out) hb); have n2_ := Aside0.mk (hbox); have n3_ := Aside0.mk ((by rw [hg]; exact (below_size (bb_ HB.out)) : w.heap.size ≤ gb342)); have n4_ := Aside0.mk ((by rw [hg]; exact (below_size (bb_ HB.out)) : w.heap.size ≤ gb342)); clear HO341; clear HB; have HO341 := n0_; have HB := n1_; have BK342 := n2_; have GW342 := n3_; have GE342 := n4_; clear n0_ n1_ n2_ n3_ n4_; clear hb hbox hg; have hcz6_0 : w5.cell? ⟨gb342, 0, none⟩ = some (.int .i64 0) := (blk_cell BK342.out 0).trans rfl; have hcz6_1 : w5.cell? ⟨gb342, 1, none⟩ = some (.int .i64 0) := (blk_cell BK342.out 1).trans rfl; have hcz6_2 : w5.cell? ⟨gb342, 2, none⟩ = some (.slice none 0 0) := (blk_cell BK342.out 2).trans rfl; have hcz6_3 : w5.cell? ⟨gb342, 3, none⟩ = some (.slice none 0 0) := (blk_cell BK342.out 3).trans rfl; have hfz6_0 := blk_frozen BK342.out 0; have hfz6_1 := blk_frozen BK342.out 1; have hfz6_2 := blk_frozen BK342.out 2; have hfz6_3 := blk_frozen BK342.out 3) | ((with_reducible refine gate_callee (f := 9) rfl ?_); refine goesL_ (some 6) rfl rfl Tryz.func9 (by kernel_rfl) rfl #[.string (⟨#[116, 104, 101, 32, 113, 117, 105, 99, 107, 32, 114, 101, 100, 32, 102, 111, 120, 32, 114, 97, 110]⟩ : ByteArray), .agg #[.int .i64 2, .int .i64 0, .slice Ao4 y339.length co4, .slice none 0 0], .int .i64 1, .int .i64 2] rfl ar_ ?_; (refine (excerpt_Excerpt.calls k (⟨#[116, 104, 101, 32, 113, 117, 105, 99, 107, 32, 114, 101, 100, 32, 102, 111, 120, 32, 114, 97, 110]⟩ : ByteArray) 2 0 _ _ y339 _ _ ([] : List (S25)) 1 2 t343 _ (by first | exact hG | exact GL.drewN hG _ | exact GL.below hG (bb1_ HB.out GE342.out)) ?side1 ?side2 ?side3 ?side4 A1.out).mono ?_); (case side1 => refine (Kd.R_reads' (e := 40) (base := w.heap.size) (ok := fun k_ => True) (n := y339.length) (c := co4) ?_).2.2; exact (by (with_reducible repeat (first | apply Kd.R_alloc | apply Kd.R_drewN | apply Kd.R_drew)); exact (Kd.R_mono (Kd.R_far (p := ⟨gb342, 3, none⟩) (Kd.R_far (p := ⟨gb342, 2, none⟩) (Kd.R_far (p := ⟨gb342, 1, none⟩) (Kd.R_far (p := ⟨gb342, 0, none⟩) (Kd.R_types HO341.out BK342.out (by decide)) (fun _ hk => hk.2) (.int .i64 2)) (fun _ hk => hk.2) (.int .i64 0)) (fun _ hk => hk.2) (.slice Ao4 y339.length co4)) (fun _ hk => hk.2) (.slice none 0 0)) (fun _ h_ => h_.1)))); (case side2 => exact (Kd.R_reads' HO341.out).2.1); (case side3 => exact Kd.C_nil _ _); (case side4 => exact Nat.le_refl _); rintro e w7 ⟨rfl, hb⟩; refine ⟨_, rfl, ?_⟩; have n0_ := Aside0.mk (Kd.R_below (by (with_reducible repeat (first | apply Kd.R_alloc | apply Kd.R_drewN | apply Kd.R_drew)); exact (Kd.R_mono (Kd.R_far (p := ⟨gb342, 3, none⟩) (Kd.R_far (p := ⟨gb342, 2, none⟩) (Kd.R_far (p := ⟨gb342, 1, none⟩) (Kd.R_far (p := ⟨gb342, 0, none⟩) (Kd.R_types HO341.out BK342.out (by decide)) (fun _ hk => hk.2) (.int .i64 2)) (fun _ hk => hk.2) (.int .i64 0)) (fun _ hk => hk.2) (.slice Ao4 y339.length co4)) (fun _ hk => hk.2) (.slice none 0 0)) (fun _ h_ => h_.1))) hb); have n1_ := Aside0.mk (blk_below (g := gb342) (o := .cells #[.int .i64 2, .int .i64 0, .slice Ao4 y339.length co4, .slice none 0 0] 25 (0, 0)) (by (with_reducible repeat (first | refine blk_drewN ?_ _ | refine blk_drew ?_ | refine blk_alloc ?_ _)); refine blk_put (cs := #[.int .i64 2, .int .i64 0, .slice Ao4 y339.length co4, .slice none 0 0]) ?_ 3 _ rfl; (with_reducible repeat (first | refine blk_drewN ?_ _ | refine blk_drew ?_ | refine blk_alloc ?_ _)); refine blk_put (cs := #[.int .i64 2, .int .i64 0, .slice none 0 0, .slice none 0 0]) ?_ 2 _ rfl; (with_reducible repeat (first | refine blk_drewN ?_ _ | refine blk_drew ?_ | refine blk_alloc ?_ _)); refine blk_put (cs := #[.int .i64 2, .int .i64 0, .slice none 0 0, .slice none 0 0]) ?_ 1 _ rfl; (with_reducible repeat (first | refine blk_drewN ?_ _ | refine blk_drew ?_ | refine blk_alloc ?_ _)); refine blk_put (cs := #[.int .i64 0, .int .i64 0, .slice none 0 0, .slice none 0 0]) ?_ 0 _ rfl; (with_reducible repeat (first | refine blk_drewN ?_ _ | refine blk_drew ?_ | refine blk_alloc ?_ _)); exact BK342.out) hb); have n2_ := Aside0.mk (below_step (bb1_ HB.out GE342.out) hb); clear HO341; clear BK342; clear HB; have HO341 := n0_; have BK342 := n1_; have HB := n2_; clear n0_ n1_ n2_; (try clear hb); (try clear hb2); (try clear hk); (try clear hi)))
 go_ret
 exact ⟨by first | rfl | (simp [errW_none, errW_some] <;> rfl) | (simp [*, errW_none, errW_some] <;> rfl), by repeat (first | (with_reducible first | exact HB.out | apply below_alloc | apply pw_below_drewN | apply below_drew1 | refine below_set ?_ GE342.out) | exact HB.out)⟩
def strings_ReplaceAll.f (a0 a1 a2 : ByteArray) : Option ByteArray := if a0.size ≤ 40000000 ∧ a1.size = 1 ∧ a2.size = 0 then some ⟨(Lib.replaceAll a0.data.toList a1.data.toList a2.data.toList).toArray⟩ else none
theorem strings_ReplaceAll.calls (a0 a1 a2 : ByteArray) (r : ByteArray) (w : World) (hG : GL w) (h : strings_ReplaceAll.f a0 a1 a2 = some r) :
  Calls Tryz.prog 10 #[.string a0, .string a1, .string a2] w fun e w' => e = .returned (.string r) ∧ Below w.heap.size w w' := by
 unfold strings_ReplaceAll.f at h
 split at h
 ·rename_i c
  cases h
  obtain ⟨m, hm⟩ := hG.maxlen
  refine (Tryz.strings_ReplaceAll a0 a1 a2 m w (by omega) hm (by omega) ?_).mono ?_
  ·rw [c.2.2]; omega
  ·rintro e w' ⟨rfl, hb⟩
   exact ⟨rfl, hb⟩
 ·cases h
end Go.Proofs.YtcgkmomhjincgaaGreatDoor.LibX
