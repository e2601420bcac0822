/- The lines of script and their laws, part Qj: contracts by hand. -/
import Derived.Test.YtcgkmomhjincgaaDoorBLibQ0
import Derived.Test.YtcgkmomhjincgaaDoorBQf
import Derived.RangeFuncNested
import Derived.RangeFuncBound
import Derived.RangeFuncCalls
import Derived.RangeFuncLeaves
import Derived.WalkKit
import Derived.OwnWalkIn
import Derived.TacticsInMore
import Derived.LoopNIn
import Derived.LoopIn
import Derived.Shelf.RegionOpen
import Derived.IntWalk
import Derived.Lib.Hide
import Derived.Maps.AppendAt
import Derived.Lib.AppendStr
import Derived.Lib.UnsafeStr
import Derived.Lib.Builder
import Derived.Laws.Externs
import Derived.HandedShaped
import Derived.Shelf.Vars
import Derived.Deep.DeepHandedRow
import Derived.Carry
import Derived.ProofKit
import Derived.OpenShut
import Derived.ShutString
import Derived.ChangeOld
import Derived.SizedLaws
import Derived.LaidMore
import Derived.Lay
import Derived.SevenTiedAt
import Derived.Stop.Joined
namespace Go.Proofs.YtcgkmomhjincgaaDoor.LibQ.Scr
open Go.RowKit Go.Proofs.YtcgkmomhjincgaaDoor.LibQ Go.Proofs.YtcgkmomhjincgaaDoorW.PrintWords Go.Proofs.YtcgkmomhjincgaaDoorW.PrintLast Go.Proofs.YtcgkmomhjincgaaDoorW.PrintMore
set_option linter.unusedVariables false
set_option linter.unusedSimpArgs false
attribute [local go_sem] max2_int min2_int max_two min_two max_three min_three max_four min_four
theorem sizeBuilder : (Tryd.prog.info? 102).map (·.size) = some 2 := by kernel_rfl
theorem liesBuilder : liesAt Tryd.prog Tryd.prog.depth 102 (2 / Tryd.prog.cellsOf 102) 0 102 1 = true := by kernel_rfl
theorem infoByte : (Tryd.prog.info? 5).map (fun i => (i.zero, i.size, i.bytes)) = some (some (.int .u8 0), 1, 1) := by kernel_rfl
set_option maxHeartbeats 1000000 in
set_option maxRecDepth 100000 in
theorem copy_used (b : Nat) (w : World) (h0 : w.cell? ⟨b, 0, none⟩ = some (.pointer (some ⟨b, 0, none⟩))) :
    Calls Tryd.prog 82 #[.pointer (some ⟨b, 0, none⟩)] w fun e w' => e = .returned (.tuple #[]) ∧ w' = w := by
  obtain ⟨j, hj, _⟩ := Option.map_eq_some_iff.1 sizeBuilder
  go_enter Tryd.func82, Tryd.ntmps82
  go_wp2
  rw [Lib.run_neq_ptr_same w _ Tryd.underlying100 hj]
  go_wp2
  go_end0
  exact ⟨rfl, rfl⟩
set_option maxHeartbeats 1000000 in
set_option maxRecDepth 100000 in
theorem copy_fresh (b : Nat) (w : World) (h0 : w.cell? ⟨b, 0, none⟩ = some (.pointer none)) (hsh : w.shape? b = some (102, 2)) (hfz : w.frozen? ⟨b, 0, none⟩ = false) :
    Calls Tryd.prog 82 #[.pointer (some ⟨b, 0, none⟩)] w fun e w' => e = .returned (.tuple #[]) ∧ w' = w.setCell ⟨b, 0, none⟩ (.pointer (some ⟨b, 0, none⟩)) := by
  obtain ⟨j, hj, hjs⟩ := Option.map_eq_some_iff.1 sizeBuilder
  go_enter Tryd.func82, Tryd.ntmps82
  go_wp2
  rw [Lib.run_to_unsafe w ⟨b, 0, none⟩ Tryd.underlying100 Tryd.underlying122 hj (by rw [hjs]; decide) hsh (Nat.zero_lt_succ 1)]
  simp only [Result.andThen]
  rw [Oper.upon_value]
  go_wp2
  rw [run_callFunc_extern Tryd.func95 (by kernel_rfl) (by kernel_rfl) (by kernel_rfl) (e := Extern.AbiNoEscape.same) (by kernel_rfl)]
  rw [Lib.run_noEscape]
  simp only [Result.andThen]
  rw [Oper.upon_value]
  go_wp2
  rw [Lib.run_from_unsafe w ⟨b, 0, none⟩ Tryd.underlying122 Tryd.underlying100 hj hsh liesBuilder]
  simp only [Result.andThen]
  rw [Oper.upon_value]
  go_wp2
  go_end0
  exact ⟨rfl, rfl⟩
def KeepB (b : Nat) (w w' : World) : Prop := ∀ (k : Nat) (cs : Array Value) (T : TypeId) (fr : Nat × Nat), w.heap[k]? = some (.cells cs T fr) → T ≠ 5 → k ≠ b → w'.heap[k]? = some (.cells cs T fr)
theorem KeepB.refl (b : Nat) (w : World) : KeepB b w w := fun _ _ _ _ h _ _ => h
theorem KeepB.trans {b : Nat} {w w1 w2 : World} (h : KeepB b w w1) (h2 : KeepB b w1 w2) : KeepB b w w2 := fun k cs T fr hk hT hb => h2 k cs T fr (h k cs T fr hk hT hb) hT hb
theorem KeepB.set (b j : Nat) (v : Value) (w : World) : KeepB b w (w.setCell ⟨b, j, none⟩ v) := fun k _ _ _ hk _ hb => by
  rw [Below.heap_setCell _ _ _ _ (fun e => hb e)]; exact hk
theorem copy_check (B b : Nat) (bs : List Value) (w : World) (h : Lib.IsBuilder 102 5 B b bs w) :
    Calls Tryd.prog 82 #[.pointer (some ⟨b, 0, none⟩)] w fun e w' => e = .returned (.tuple #[]) ∧ (Lib.BuilderAt 102 5 B b (.pointer (some ⟨b, 0, none⟩)) bs w' ∧ Below B w w' ∧ KeepB b w w') := by
  rcases h with h | h
  · refine (copy_fresh b w h.cell0 h.shape h.frozen0).mono ?_
    rintro e w' ⟨rfl, rfl⟩
    exact ⟨rfl, h.used _, (Below.refl B w).setCell (p := ⟨b, 0, none⟩) h.1 _, KeepB.set b 0 _ w⟩
  · refine (copy_used b w h.cell0).mono ?_
    rintro e w' ⟨rfl, rfl⟩
    exact ⟨rfl, h, Below.refl B _, KeepB.refl b _⟩
set_option maxHeartbeats 4000000 in
set_option maxRecDepth 100000 in
theorem write_string (B b : Nat) (bs : List Value) (s : ByteArray) (w : World) (h : Lib.IsBuilder 102 5 B b bs w) (hlen : bs.length + s.size ≤ 140737488355328) (hBw : B ≤ w.heap.size) :
    Calls Tryd.prog 68 #[.pointer (some ⟨b, 0, none⟩), .string s] w fun e w' => e = .returned (.tuple #[.int .i64 s.size, .nilIface]) ∧ (Lib.BuilderAt 102 5 B b (.pointer (some ⟨b, 0, none⟩)) (bs ++ Lib.strCells s) w' ∧ Below B w w' ∧ KeepB b w w') := by
  obtain ⟨i0, hi, hz0, hz1, hz2⟩ := info_parts infoByte
  go_enter Tryd.func68, Tryd.ntmps68
  go_wp2_with (go_at_call 82; refine (copy_check B b bs _ h).mono ?_)
  rintro e w1 ⟨rfl, h1, hb1, hkp⟩
  obtain ⟨hB, v, hbk, hown, hne⟩ := h1
  have c0 : w1.cell? ⟨b, 0, none⟩ = some (.pointer (some ⟨b, 0, none⟩)) := by rw [Lib.cell_of_heap hbk]; rfl
  have c1 : w1.cell? ⟨b, 1, none⟩ = some v := by rw [Lib.cell_of_heap hbk]; rfl
  go_wp2_with (at_builtin; refine Lib.wpList_append_own_string _ rfl _ _ 70 9 rfl B 5 i0 Tryd.underlying70 Tryd.underlying9 hi hz0 hz1 hz2 _ _ _ rfl hown s rfl ?c3 ?c4 ?c5 ?_)
  case c3 => unfold maxLen; omega
  case c4 => omega
  case c5 => have := hb1.size; omega
  intro v' w2 hown' hgrow _
  have hlt : b < w1.heap.size := by
    rcases Nat.lt_or_ge b w1.heap.size with h' | h'
    · exact h'
    · simp [Array.getElem?_eq_none h'] at hbk
  have hb2 : w2.heap[b]? = some (.cells #[.pointer (some ⟨b, 0, none⟩), v] 102 (0, 0)) := by
    rw [hgrow.block b hlt (fun e => hne e.symm)]
    exact hbk
  have d0 : w2.cell? ⟨b, 0, none⟩ = some (.pointer (some ⟨b, 0, none⟩)) := by rw [Lib.cell_of_heap hb2]; rfl
  have d1 : w2.cell? ⟨b, 1, none⟩ = some v := by rw [Lib.cell_of_heap hb2]; rfl
  have f1 : w2.frozen? ⟨b, 1, none⟩ = false := Lib.frozen_of_heap hb2 1
  obtain ⟨ao, n', cap, rfl⟩ : ∃ ao n' cap, v' = .slice ao n' cap := by
    rcases hown'.2 with ⟨hv, _⟩ | ⟨g, cap, cur, hv, _⟩
    · exact ⟨_, _, _, hv⟩
    · exact ⟨_, _, _, hv⟩
  go_wp2
  go_ret2
  refine ⟨rfl, ?_, ?_, ?_⟩
  · exact Lib.BuilderAt.put (T := 102) (e := 5) hB hb2 (bs' := bs ++ Lib.strCells s) (by simpa [Lib.strCells_length] using hown') (by decide)
  · exact (hb1.grown hgrow (by have := hb1.size; omega) (fun k hk => (hown.lt k hk).1)).setCell (p := ⟨b, 1, none⟩) hB _
  · refine hkp.trans (KeepB.trans ?_ (KeepB.set b 1 _ w2))
    intro k cs T fr hk hT _
    rw [hgrow.block k (Array.getElem?_eq_some_iff.1 hk).1 (fun e => Lib.ownBlock_ne hown hk hT e.symm)]
    exact hk
set_option maxHeartbeats 4000000 in
set_option maxRecDepth 100000 in
theorem write_byte (B b : Nat) (bs : List Value) (c : Int) (w : World) (h : Lib.IsBuilder 102 5 B b bs w) (hlen : bs.length + 1 ≤ 140737488355328) (hBw : B ≤ w.heap.size) :
    Calls Tryd.prog 69 #[.pointer (some ⟨b, 0, none⟩), .int .u8 c] w fun e w' => e = .returned .nilIface ∧ (Lib.BuilderAt 102 5 B b (.pointer (some ⟨b, 0, none⟩)) (bs ++ [.int .u8 c]) w' ∧ Below B w w' ∧ KeepB b w w') := by
  obtain ⟨i0, hi, hz0, hz1, hz2⟩ := info_parts infoByte
  go_enter Tryd.func69, Tryd.ntmps69
  go_wp2_with (go_at_call 82; refine (copy_check B b bs _ h).mono ?_)
  rintro e w1 ⟨rfl, h1, hb1, hkp⟩
  obtain ⟨hB, v, hbk, hown, hne⟩ := h1
  have c0 : w1.cell? ⟨b, 0, none⟩ = some (.pointer (some ⟨b, 0, none⟩)) := by rw [Lib.cell_of_heap hbk]; rfl
  have c1 : w1.cell? ⟨b, 1, none⟩ = some v := by rw [Lib.cell_of_heap hbk]; rfl
  go_wp2_with (at_builtin; refine wpList_append_own _ rfl _ _ 70 rfl B 5 i0 (.int .u8 0) 1 1 Tryd.underlying70 hi hz0 hz1 hz2 rfl (by decide) _ _ _ rfl (hown.alloc _) ⟨w1.heap.size, 0, none⟩ 1 1 [.int .u8 c] rfl rfl (cell_one_new _ _ _) (by simp [Value.oneCell']) ?c3 ?c4 ?c5 ?_)
  case c3 => unfold maxLen; omega
  case c4 => omega
  case c5 => have := hb1.size; simp; omega
  intro v' w2 hown' hgrow _
  have hal : ∀ k, k < w1.heap.size → (w1.alloc (.cells #[.int .u8 c] 5)).heap[k]? = w1.heap[k]? := fun k hk => Below.heap_alloc _ _ k hk
  have hlt : b < w1.heap.size := by
    rcases Nat.lt_or_ge b w1.heap.size with h' | h'
    · exact h'
    · simp [Array.getElem?_eq_none h'] at hbk
  have hb2 : w2.heap[b]? = some (.cells #[.pointer (some ⟨b, 0, none⟩), v] 102 (0, 0)) := by
    rw [hgrow.block b (by simp; omega) (fun e => hne e.symm), hal b hlt]
    exact hbk
  have d0 : w2.cell? ⟨b, 0, none⟩ = some (.pointer (some ⟨b, 0, none⟩)) := by rw [Lib.cell_of_heap hb2]; rfl
  have d1 : w2.cell? ⟨b, 1, none⟩ = some v := by rw [Lib.cell_of_heap hb2]; rfl
  have f1 : w2.frozen? ⟨b, 1, none⟩ = false := Lib.frozen_of_heap hb2 1
  obtain ⟨ao, n', cap, rfl⟩ : ∃ ao n' cap, v' = .slice ao n' cap := by
    rcases hown'.2 with ⟨hv, _⟩ | ⟨g, cap, cur, hv, _⟩
    · exact ⟨_, _, _, hv⟩
    · exact ⟨_, _, _, hv⟩
  have hba : Below B w (w1.alloc (.cells #[.int .u8 c] 5)) := hb1.alloc (by have := hb1.size; omega) _
  clear hal
  go_wp2
  go_ret
  refine ⟨rfl, ?_, ?_, ?_⟩
  · exact Lib.BuilderAt.put (T := 102) (e := 5) hB hb2 (bs' := bs ++ [.int .u8 c]) (by simpa using hown') (by decide)
  · exact (hba.grown hgrow (by have := hb1.size; simp; omega) (fun k hk => (hown.lt k hk).1)).setCell (p := ⟨b, 1, none⟩) hB _
  · refine hkp.trans (KeepB.trans ?_ (KeepB.set b 1 _ w2))
    intro k cs T fr hk hT _
    rw [hgrow.block k (by have := (Array.getElem?_eq_some_iff.1 hk).1; simp; omega) (fun e => Lib.ownBlock_ne hown hk hT e.symm)]
    exact (Below.heap_alloc _ _ k (Array.getElem?_eq_some_iff.1 hk).1).trans hk
theorem builder_below {b : Nat} {bs : List Value} {B : Nat} {w w1 : World} (h : Lib.IsBuilder 102 5 B b bs w) (hb : Below w.heap.size w w1) : Lib.IsBuilder 102 5 B b bs w1 := by
  have key : ∀ p, Lib.BuilderAt 102 5 B b p bs w → Lib.BuilderAt 102 5 B b p bs w1 := by
    rintro p ⟨h1, v, h2, h3, h4⟩
    exact ⟨h1, v, (hb.block b (Array.getElem?_eq_some_iff.1 h2).1).trans h2, pw_own_below h3 hb, h4⟩
  exact h.elim (fun h => .inl (key _ h)) (fun h => .inr (key _ h))
structure StepIn (W : World) (p : Addr) (x : S42) (v : Value) : Prop where
  c0 : W.cell? p = some (.int .i64 x.f0)
  c1 : W.cell? ⟨p.block, p.off + 1, none⟩ = some (.int .i64 x.f1)
  c2 : W.cell? ⟨p.block, p.off + 2, none⟩ = some (.int .i64 x.f2)
  c3 : W.cell? ⟨p.block, p.off + 3, none⟩ = some (.int .i64 x.f3)
  c4 : W.cell? ⟨p.block, p.off + 4, none⟩ = some (.int .i64 x.f4)
  c5 : W.cell? ⟨p.block, p.off + 5, none⟩ = some (.int .i64 x.f5)
  c6 : W.cell? ⟨p.block, p.off + 6, none⟩ = some (.string x.f6)
  c7 : W.cell? ⟨p.block, p.off + 7, none⟩ = some (.int .i64 x.f7)
  c8 : W.cell? ⟨p.block, p.off + 8, none⟩ = some (.string x.f8)
  c9 : W.cell? ⟨p.block, p.off + 9, none⟩ = some v
set_option maxHeartbeats 4000000 in
set_option maxRecDepth 100000 in
theorem load_in {W : World} {q : Addr} {x : S42} {v : Value} (h : StepIn W q x v) (ev : Operand → Value) (o : Oper) (p : Operand) (ho : o.op = .load 42 p) (hp : ev p = .pointer (some q)) :
    (execOp ev o).run Tryd.prog W = .ok (.value (.agg #[.int .i64 x.f0, .int .i64 x.f1, .int .i64 x.f2, .int .i64 x.f3, .int .i64 x.f4, .int .i64 x.f5, .string x.f6, .int .i64 x.f7, .string x.f8, v])) W := by
  obtain ⟨z0, z1, z2, z3, z4, z5, z6, z7, z8, z9⟩ := h
  have hu := Tryd.underlying42
  unfold execOp
  rw [ho]
  simp only [hp]
  go_simp
theorem at_step {W : World} {A : Option Addr} {xs : List S42} (h : Kd.C k42 W A xs.length xs) (i : Nat) (hi : i < xs.length) :
    ∃ ad A9 c9, A = some ad ∧ StepIn W (ad.add (i * 10)) xs[i] (.slice A9 xs[i].f9.length c9) ∧ xs[i].f9.length ≤ c9 ∧ Kd.C (Kd.int .i64) W A9 xs[i].f9.length xs[i].f9 := by
  obtain ⟨ad, A9, c9, he, q0, q1, q2, q3, q4, q5, q6, q7, q8, q9, l9, g9⟩ := at_T42 h (i : Int) (by omega) (by omega)
  have hx : rd_T42 xs (i : Int) = xs[i] := by simp [rd_T42, List.getD_eq_getElem?_getD, List.getElem?_eq_getElem hi]
  rw [hx] at q0 q1 q2 q3 q4 q5 q6 q7 q8 q9 l9 g9
  exact ⟨ad, A9, c9, he, ⟨q0, q1, q2, q3, q4, q5, q6, q7, q8, q9⟩, l9, g9⟩
theorem StepIn.below {W W1 : World} {p : Addr} {x : S42} {v : Value} (h : StepIn W p x v) (hb : Below W.heap.size W W1) : StepIn W1 p x v := by
  have g : ∀ {a : Addr} {u : Value}, W.cell? a = some u → W1.cell? a = some u := fun h => (hb.cell (World.block_lt_of_cell? _ _ h)).trans h
  exact ⟨g h.c0, g h.c1, g h.c2, g h.c3, g h.c4, g h.c5, g h.c6, g h.c7, g h.c8, g h.c9⟩
def writeP (l : List S42) : List UInt8 := l.flatMap fun x => if (lineS x).2 = 0 then (lineS x).1.data.toList ++ [10] else []
theorem lineS_two (x : S42) : (lineS x).2 = 0 ∨ (lineS x).2 = 1 := by
  unfold lineS
  split
  · exact .inr rfl
  · split
    · exact .inl rfl
    · exact .inr rfl
theorem lineS_read (x : S42) (h : (lineS x).2 = 0) : readS (lineS x).1 = (x, true) := by
  unfold lineS at h ⊢
  split at h
  · cases h
  · rename_i e he
    split at h
    · rename_i c
      rw [if_pos c]
      simp only
      have h1 := (sameB_iff _ _).1 c.2
      exact Prod.ext h1.symm c.1
    · cases h
theorem lineS_size (x : S42) (h : (lineS x).2 = 0) : (lineS x).1.size ≤ 240 := by
  have := lineS_read x h
  exact (readS_fine (lineS x).1 (by rw [this])).1
theorem writeP_snoc (l : List S42) (x : S42) : writeP (l ++ [x]) = writeP l ++ (if (lineS x).2 = 0 then (lineS x).1.data.toList ++ [10] else []) := by simp [writeP]
theorem writeP_len : ∀ l : List S42, (writeP l).length ≤ 241 * l.length
  | [] => by simp [writeP]
  | x :: t => by
    have h := writeP_len t
    have e : writeP (x :: t) = (if (lineS x).2 = 0 then (lineS x).1.data.toList ++ [10] else []) ++ writeP t := by simp [writeP]
    rw [e, List.length_append]
    split
    · rename_i c
      have h1 := lineS_size x c
      have e2 : (lineS x).1.data.toList.length = (lineS x).1.size := by rw [Array.length_toList]; rfl
      simp only [List.length_append, List.length_cons, List.length_nil]
      omega
    · simp only [List.length_nil, List.length_cons]
      omega
set_option maxHeartbeats 16000000 in
set_option maxRecDepth 100000 in
theorem write_calls (A : Option Addr) (c : Nat) (l : List S42) (w : World) (hG : GL w) (hr : Kd.C k42 w A l.length l) (hc : l.length ≤ c) (hl : l.length ≤ 1000) (hok : ∀ x ∈ l, OkS x) :
    Calls Tryd.prog 33 #[.slice A l.length c] w fun e w' => e = .returned (.string ⟨(writeP l).toArray⟩) ∧ Below w.heap.size w w' := by
  have hu := Tryd.underlying42
  have HG := Aside0.mk hG
  have HR := Aside0.mk hr
  have HC := Aside0.mk hc
  have HL := Aside0.mk hl
  have HOK := Aside0.mk hok
  have hmax : l.length ≤ 9223372036854775807 := by omega
  have HIB := Aside0.mk (Lib.fresh_isBuilder 102 5 w)
  have HB := Aside0.mk (below_alloc (Below.refl w.heap.size w) (.cells #[.pointer none, .slice none 0 0] 102))
  clear hG hr hc hl hok
  go_enter Tryd.func33, Tryd.ntmps33
  go_wp2_with fail
  go_loopg [10] l.length (fun n v10 wr => ∃ (j : Nat), v10 = .int .i64 (j : Int) ∧ Aside0 (j ≤ l.length ∧ l.length - j ≤ n) ∧ Aside0 (Lib.IsBuilder 102 5 w.heap.size w.heap.size (Lib.byteCells (writeP (l.take j))) wr) ∧ Aside0 (Below w.heap.size w wr))
  case atStart => exact ⟨0, rfl, ⟨Nat.zero_le _, Nat.le_refl _⟩, HIB, HB⟩
  case round =>
    clear HIB HB
    obtain ⟨j, rfl, HI, HIB, HB⟩ := hrel
    have hj0 := HI.out.1
    by_cases hlt : j < l.length
    · have cb : decide ((j : Int) < (l.length : Int)) = true := decide_eq_true (by omega)
      have cb2 : decide (j < l.length) = true := decide_eq_true hlt
      obtain ⟨ad, A9, c9, ead, hSI, hc9, hR9⟩ := at_step (Kd.C_below HR.out HB.out) j hlt
      obtain ⟨x, hx⟩ : ∃ x, x = l[j] := ⟨_, rfl⟩
      rw [← hx] at hSI hc9 hR9
      subst ead
      have HX := Aside0.mk (show x ∈ l by rw [hx]; exact List.getElem_mem hlt)
      have HT := Aside0.mk (show l.take (j + 1) = l.take j ++ [x] by rw [hx]; exact (List.take_append_getElem hlt).symm)
      have HSI := Aside0.mk hSI
      have HC9 := Aside0.mk hc9
      have HR9 := Aside0.mk hR9
      have HZ := Aside0.mk (show StepAt (wr.alloc (.cells (SC z42 (.slice none 0 0)) 42)) wr.heap.size z42 (.slice none 0 0) from blk_new wr _)
      have HSA := Aside0.mk (hSI.below (below_alloc (Below.refl wr.heap.size wr) (.cells (SC z42 (.slice none 0 0)) 42)))
      have hjb : (j : Int) ≤ 1000 := by have := HL.out; omega
      have hj1 : decide (0 ≤ (j : Int)) = true := decide_eq_true (by omega)
      clear hx hSI hc9 hR9
      go_wp2_with (first | ((with_reducible refine gate_dst (N := 13) rfl ?_); first | refine Kd.event_run rfl (load_in HSI.out _ _ (.tmp 12) rfl rfl) ?_ | refine Kd.event_run rfl (load_in HSA.out _ _ (.tmp 12) rfl rfl) ?_) | ((with_reducible refine gate_store (t := 42) (p := 5) rfl ?_); fail_if_success skip))
      have HBA := Aside0.mk (below_alloc (Below.refl wr.heap.size wr) (.cells #[.int .i64 x.f0, .int .i64 x.f1, .int .i64 x.f2, .int .i64 x.f3, .int .i64 x.f4, .int .i64 x.f5, .string x.f6, .int .i64 x.f7, .string x.f8, .slice A9 x.f9.length c9] 42))
      obtain ⟨⟨sx, ex⟩, hsx⟩ : ∃ q, q = lineS x := ⟨_, rfl⟩
      have HLN := Aside0.mk (line_f x (HOK.out x HX.out) 400000001 (by omega))
      rw [← hsx] at HLN
      have HSX := Aside0.mk hsx
      clear hsx
      refine (line_calls 400000001 x A9 c9 _ sx ex ((HG.out.below HB.out).below HBA.out) (Kd.C_below HR9.out HBA.out) HC9.out HLN.out).mono ?_
      rintro e w2 ⟨rfl, hb2⟩
      have HB2 := Aside0.mk (show Below wr.heap.size wr w2 from HBA.out.trans (hb2.mono HBA.out.size))
      have HIB2 := Aside0.mk (builder_below HIB.out HB2.out)
      have HBW := Aside0.mk (show Below w.heap.size w w2 from HB.out.trans (HB2.out.mono HB.out.size))
      have hwl := Lib.hid (writeP_len (l.take j))
      clear hb2 HBA
      rcases lineS_two x with h0 | h0
      · have e0 : ex = 0 := by have := HSX.out; rw [← this] at h0; exact h0
        subst e0
        have HT2 := Aside0.mk (show writeP (l.take (j + 1)) = writeP (l.take j) ++ sx.data.toList ++ [10] by
          rw [HT.out, writeP_snoc, if_pos h0, ← HSX.out, List.append_assoc])
        have HS := Aside0.mk (show sx.size ≤ 240 by have := lineS_size x h0; rw [← HSX.out] at this; exact this)
        have HWL := Aside0.mk (show (writeP (l.take j)).length ≤ 241000 by have h1 := hwl.out; have h2 := HL.out; rw [List.length_take] at h1; omega)
        clear h0 hwl
        go_wp2_with fail
        refine (write_string w.heap.size w.heap.size (Lib.byteCells (writeP (l.take j))) sx w2 HIB2.out ?_ ?_).mono ?_
        · have h1 := HWL.out
          have h2 := HS.out
          rw [Lib.byteCells_length]
          omega
        · exact below_size HBW.out
        rintro e w3 ⟨rfl, hib3, hb3, hk3⟩
        have HB3 := Aside0.mk (show Below w.heap.size w w3 from HBW.out.trans hb3)
        have HIB3 := Aside0.mk (show Lib.IsBuilder 102 5 w.heap.size w.heap.size (Lib.byteCells (writeP (l.take j)) ++ Lib.strCells sx) w3 from .inr hib3)
        clear hib3 hb3 hk3
        go_wp2_with fail
        refine (write_byte w.heap.size w.heap.size (Lib.byteCells (writeP (l.take j)) ++ Lib.strCells sx) 10 w3 HIB3.out ?_ ?_).mono ?_
        · have h1 := HWL.out
          have h2 := HS.out
          rw [List.length_append, Lib.byteCells_length, Lib.strCells_length]
          omega
        · exact below_size HB3.out
        rintro e w4 ⟨rfl, hib4, hb4, hk4⟩
        have HB4 := Aside0.mk (show Below w.heap.size w w4 from HB3.out.trans hb4)
        have HIB4 := Aside0.mk (show Lib.IsBuilder 102 5 w.heap.size w.heap.size (Lib.byteCells (writeP (l.take (j + 1)))) w4 by
          rw [HT2.out, Lib.byteCells_append, Lib.byteCells_append]
          exact .inr hib4)
        clear hib4 hb4 hk4
        go_wp2_with fail
        go_roundg (gk - 1)
        case measure => have h1 := HI.out; have h2 := HL.out; omega
        case rel => exact ⟨j + 1, by go_num, ⟨by omega, by have h1 := HI.out; omega⟩, HIB4, HB4⟩
      · have e0 : ex = 1 := by have := HSX.out; rw [← this] at h0; exact h0
        subst e0
        have HT2 := Aside0.mk (show writeP (l.take (j + 1)) = writeP (l.take j) by
          rw [HT.out, writeP_snoc, if_neg (by rw [h0]; decide), List.append_nil])
        clear h0 hwl
        go_wp2_with fail
        go_roundg (gk - 1)
        case measure => have h1 := HI.out; have h2 := HL.out; omega
        case rel => exact ⟨j + 1, by go_num, ⟨by omega, by have h1 := HI.out; omega⟩, ⟨by rw [HT2.out]; exact HIB2.out⟩, HBW⟩
    · have cb : decide ((j : Int) < (l.length : Int)) = false := decide_eq_false (by omega)
      have cb2 : decide (j < l.length) = false := decide_eq_false hlt
      have HE := Aside0.mk (show l.take j = l from List.take_of_length_le (by omega))
      clear hlt hj0
      go_wp2_with fail
      refine (Tryd.Builder_String_any w.heap.size w.heap.size (writeP (l.take j)) _ HIB.out (below_size HB.out)).mono ?_
      rintro e w2 ⟨rfl, hb2⟩
      rw [HE.out]
      have HB2 := Aside0.mk (HB.out.trans hb2)
      clear hb2
      go_wp2
      go_ret
      exact ⟨rfl, HB2.out⟩
instance : DecidableEq S42 := fun x y => decidable_of_iff (sameB x y = true) (sameB_iff x y)
theorem ssame_calls (x y : S42) (A9 : Option Addr) (c9 : Nat) (B9 : Option Addr) (d9 : Nat) (w : World) (hx : x.f9.length ≤ 40000001) (h1 : Kd.C (Kd.int .i64) w A9 x.f9.length x.f9) (h2 : x.f9.length ≤ c9) (h3 : Kd.C (Kd.int .i64) w B9 y.f9.length y.f9) (h4 : y.f9.length ≤ d9) :
    Calls Tryd.prog 30 #[.agg #[.int .i64 x.f0, .int .i64 x.f1, .int .i64 x.f2, .int .i64 x.f3, .int .i64 x.f4, .int .i64 x.f5, .string x.f6, .int .i64 x.f7, .string x.f8, .slice A9 x.f9.length c9], .agg #[.int .i64 y.f0, .int .i64 y.f1, .int .i64 y.f2, .int .i64 y.f3, .int .i64 y.f4, .int .i64 y.f5, .string y.f6, .int .i64 y.f7, .string y.f8, .slice B9 y.f9.length d9]] w fun e w' => e = .returned (.bool (sameB x y)) ∧ Below w.heap.size w w' :=
  script_Same.calls 400000001 x.f0 x.f1 x.f2 x.f3 x.f4 x.f5 x.f6 x.f7 x.f8 A9 c9 x.f9 y.f0 y.f1 y.f2 y.f3 y.f4 y.f5 y.f6 y.f7 y.f8 B9 d9 y.f9 _ w h1 h2 h3 h4 (same_f x y hx 400000001 (by omega))
set_option maxHeartbeats 16000000 in
set_option maxRecDepth 100000 in
theorem ssame_all (xs ys : List S42) (w : World) (A : Option Addr) (c : Nat) (B : Option Addr) (d : Nat) (hC : Kd.C k42 w A xs.length xs) (hc : xs.length ≤ c) (hD : Kd.C k42 w B ys.length ys) (hd : ys.length ≤ d) (h9 : ∀ x ∈ xs, x.f9.length ≤ 40000001) :
    Calls Tryd.prog 34 #[.slice A xs.length c, .slice B ys.length d, .func (.func 30) #[] #[]] w fun e w' => e = .returned (.bool (decide (xs = ys))) ∧ Below w.heap.size w w' := by
  have hmax : xs.length ≤ 9223372036854775807 := hC.2.1
  have HC := Aside0.mk hC
  have HD := Aside0.mk hD
  have H9 := Aside0.mk h9
  have hu := Tryd.underlying42
  clear hC hD h9
  by_cases c1 : xs.length = ys.length
  · have HLEN := Aside0.mk c1
    have b1 : ((xs.length : Int) != (ys.length : Int)) = false := by simp; omega
    clear c1
    go_enter Tryd.func34, Tryd.ntmps34
    go_wp2
    go_loopg [17] xs.length (fun n v17 wr => ∃ i : Nat, v17 = .int .i64 i ∧ Aside0 (n + i = xs.length) ∧ Aside0 (xs.take i = ys.take i) ∧ Aside0 (Below w.heap.size w wr))
    case atStart => exact ⟨0, rfl, ⟨rfl⟩, ⟨by simp⟩, ⟨Below.refl _ _⟩⟩
    case round =>
      obtain ⟨i, rfl, HN, HK, HB⟩ := hrel
      by_cases hi : i < xs.length
      · have hi2 : i < ys.length := by have := HLEN.out; omega
        have hb' : decide (i < xs.length) = true := by simpa using hi
        obtain ⟨ad, A9, c9, rfl, hS1, l9, g9⟩ := at_step (Kd.C_below HC.out HB.out) i hi
        obtain ⟨bd, B9, d9, rfl, hS2, m9, h9⟩ := at_step (Kd.C_below HD.out HB.out) i hi2
        obtain ⟨x, hx⟩ : ∃ x, x = xs[i] := ⟨_, rfl⟩
        obtain ⟨y, hy⟩ : ∃ y, y = ys[i] := ⟨_, rfl⟩
        have HXM := Aside0.mk (show x.f9.length ≤ 40000001 by rw [hx]; exact H9.out _ (List.getElem_mem hi))
        have HKN := Aside0.mk (show xs.take (i + 1) = ys.take (i + 1) ↔ x = y by
          rw [← List.take_append_getElem hi, ← List.take_append_getElem hi2, HK.out, hx, hy]
          exact ⟨fun h => (List.cons.inj (List.append_cancel_left h)).1, fun h => by rw [h]⟩)
        have HNE := Aside0.mk (show x ≠ y → ¬ xs = ys by
          intro hne e
          subst e
          exact hne (hx.trans hy.symm))
        rw [← hx] at hS1 l9 g9
        rw [← hy] at hS2 m9 h9
        have HG := Aside0.mk (And.intro g9 h9)
        have HLL := Aside0.mk (And.intro l9 m9)
        have HS1 := Aside0.mk hS1
        have HS2 := Aside0.mk hS2
        have HS2a := Aside0.mk (hS2.below (below_alloc (Below.refl wr.heap.size wr) (.cells #[.int .i64 x.f0, .int .i64 x.f1, .int .i64 x.f2, .int .i64 x.f3, .int .i64 x.f4, .int .i64 x.f5, .string x.f6, .int .i64 x.f7, .string x.f8, .slice A9 x.f9.length c9] 42)))
        have hib : (i : Int) ≤ 9223372036854775806 := by omega
        clear hx hy g9 h9 l9 m9 hS1 hS2
        go_wp2_with (first | ((with_reducible refine gate_dst (N := 21) rfl ?_); first | refine Kd.event_run rfl (load_in HS1.out _ _ (.tmp 20) rfl rfl) ?_) | ((with_reducible refine gate_dst (N := 25) rfl ?_); refine Kd.event_run rfl (load_in HS2a.out _ _ (.tmp 24) rfl rfl) ?_))
        have HBA := Aside0.mk (below_alloc (below_alloc (Below.refl wr.heap.size wr) (.cells #[.int .i64 x.f0, .int .i64 x.f1, .int .i64 x.f2, .int .i64 x.f3, .int .i64 x.f4, .int .i64 x.f5, .string x.f6, .int .i64 x.f7, .string x.f8, .slice A9 x.f9.length c9] 42)) (.cells #[.int .i64 y.f0, .int .i64 y.f1, .int .i64 y.f2, .int .i64 y.f3, .int .i64 y.f4, .int .i64 y.f5, .string y.f6, .int .i64 y.f7, .string y.f8, .slice B9 y.f9.length d9] 42))
        refine (ssame_calls x y A9 c9 B9 d9 _ HXM.out (Kd.C_below HG.out.1 HBA.out) HLL.out.1 (Kd.C_below HG.out.2 HBA.out) HLL.out.2).mono ?_
        rintro e w1 ⟨rfl, hb⟩
        have HB1 := Aside0.mk (HB.out.trans ((HBA.out.trans (hb.mono HBA.out.size)).mono HB.out.size))
        clear hb HBA
        obtain ⟨sb, hsb⟩ : ∃ b, b = sameB x y := ⟨_, rfl⟩
        rw [← hsb]
        cases sb with
        | true =>
          have HK2 := Aside0.mk (HKN.out.2 ((sameB_iff x y).1 hsb.symm))
          clear hsb
          go_wp2
          go_roundg (gk - 1)
          case measure => have := HN.out; omega
          case rel => exact ⟨i + 1, by go_num, ⟨by have := HN.out; omega⟩, HK2, HB1⟩
        | false =>
          have HF := Aside0.mk (show false = decide (xs = ys) from (decide_eq_false (HNE.out (fun e => by rw [(sameB_iff x y).2 e] at hsb; cases hsb))).symm)
          clear hsb
          go_wp2
          go_ret
          exact ⟨ret_bool HF.out, HB1.out⟩
      · have e : i = xs.length := by have := HN.out; omega
        have hb' : decide (i < xs.length) = false := by simpa using hi
        have HF := Aside0.mk (show true = decide (xs = ys) from (decide_eq_true (by
          have h1 := HK.out
          rw [e, List.take_length, HLEN.out, List.take_length] at h1
          exact h1)).symm)
        clear hi e HK
        go_wp2
        go_ret
        exact ⟨ret_bool HF.out, HB.out⟩
  · have HF := Aside0.mk (show false = decide (xs = ys) from (decide_eq_false (fun e => c1 (by rw [e]))).symm)
    have b1 : ((xs.length : Int) != (ys.length : Int)) = true := by simp; omega
    clear c1
    go_enter Tryd.func34, Tryd.ntmps34
    go_wp2
    go_ret
    exact ⟨ret_bool HF.out, Below.refl _ _⟩
end Go.Proofs.YtcgkmomhjincgaaDoor.LibQ.Scr
