/- The lines of script and their laws, part Qa: contracts by hand. -/
import Derived.Test.YtcgkmomhjincgaaDoorBLibQ0
import Derived.Test.YtcgkmomhjincgaaDoorBLibQ2
namespace Go.Proofs.YtcgkmomhjincgaaDoor.LibQ.Scr
open Go.RowKit Go.Proofs.YtcgkmomhjincgaaDoor.LibQ Go.Proofs.YtcgkmomhjincgaaDoorW.PrintWords Go.Proofs.YtcgkmomhjincgaaDoorW.PrintLast Go.Proofs.YtcgkmomhjincgaaDoorW.PrintMore
set_option linter.unusedVariables false
set_option linter.unusedSimpArgs false
attribute [local go_sem] max2_int min2_int max_two min_two max_three min_three max_four min_four
structure BelowBut (g : Nat) (w w' : World) : Prop where
  os : w'.os = w.os
  tape : w'.tape = w.tape
  output : w'.output = w.output
  size : w.heap.size ≤ w'.heap.size
  block : ∀ k, k < w.heap.size → k ≠ g → w'.heap[k]? = w.heap[k]?
theorem BelowBut.refl (g : Nat) (w : World) : BelowBut g w w := ⟨rfl, rfl, rfl, Nat.le_refl _, fun _ _ _ => rfl⟩
theorem BelowBut.trans {g : Nat} {a b c : World} (h : BelowBut g a b) (k : BelowBut g b c) : BelowBut g a c :=
  ⟨k.os.trans h.os, k.tape.trans h.tape, k.output.trans h.output, Nat.le_trans h.size k.size, fun i hi hg => (k.block i (Nat.lt_of_lt_of_le hi h.size) hg).trans (h.block i hi hg)⟩
theorem BelowBut.below {g : Nat} {w w' : World} (h : Below w.heap.size w w') : BelowBut g w w' := ⟨h.os, h.tape, h.output, h.size, fun k hk _ => h.block k hk⟩
theorem BelowBut.set {g : Nat} {w w1 : World} (h : BelowBut g w w1) (j : Nat) (v : Value) : BelowBut g w (w1.setCell ⟨g, j, none⟩ v) :=
  h.trans ⟨rfl, rfl, rfl, by simp [World.setCell], fun k _ hk => Below.heap_setCell w1 ⟨g, j, none⟩ v k hk⟩
theorem BelowBut.from_ {g : Nat} {w0 w w' : World} (h : BelowBut g w w') (h0 : Below w0.heap.size w0 w) (hg : w0.heap.size ≤ g) : Below w0.heap.size w0 w' :=
  ⟨h.os.trans h0.os, h.tape.trans h0.tape, h.output.trans h0.output, Nat.le_trans h0.size h.size, fun k hk => (h.block k (Nat.lt_of_lt_of_le hk h0.size) (by omega)).trans (h0.block k hk)⟩
theorem blk_below {w w1 : World} {g : Nat} {o : Obj} (h : w.heap[g]? = some o) (hb : Below w.heap.size w w1) : w1.heap[g]? = some o := gl_block hb h
def SC (x : S42) (v : Value) : Array Value := #[.int .i64 x.f0, .int .i64 x.f1, .int .i64 x.f2, .int .i64 x.f3, .int .i64 x.f4, .int .i64 x.f5, .string x.f6, .int .i64 x.f7, .string x.f8, v]
def StepAt (w : World) (g : Nat) (x : S42) (v : Value) : Prop := w.heap[g]? = some (.cells (SC x v) 42 (0, 0))
def slotOff (p : Int) : Nat := if p = 0 then 1 else if p = 1 then 2 else if p = 2 then 3 else if p = 3 then 4 else if p = 4 then 5 else 7
def setN (x : S42) (p n : Int) : S42 := if p = 0 then { x with f1 := n } else if p = 1 then { x with f2 := n } else if p = 2 then { x with f3 := n } else if p = 3 then { x with f4 := n } else if p = 4 then { x with f5 := n } else { x with f7 := n }
def getN (x : S42) (p : Int) : Int := if p = 0 then x.f1 else if p = 1 then x.f2 else if p = 2 then x.f3 else if p = 3 then x.f4 else if p = 4 then x.f5 else x.f7
theorem setN_cells (x : S42) (p n : Int) (v : Value) (w : World) (g : Nat) (h : StepAt w g x v) : StepAt (w.setCell ⟨g, slotOff p, none⟩ (.int .i64 n)) g (setN x p n) v := by
  have hs := blk_set h (slotOff p) (.int .i64 n)
  unfold StepAt
  rw [hs]
  congr 2
  unfold slotOff setN SC
  repeat' split
  all_goals simp
theorem getN_cell (x : S42) (p : Int) (v : Value) (w : World) (g : Nat) (h : StepAt w g x v) : w.cell? ⟨g, slotOff p, none⟩ = some (.int .i64 (getN x p)) := by
  rw [blk_cell h]
  unfold slotOff getN SC
  repeat' split
  all_goals rfl
set_option maxHeartbeats 4000000 in
set_option maxRecDepth 100000 in
theorem slot_calls (p : Int) (g : Nat) (w : World) :
    Calls Tryd.prog 51 #[.pointer (some ⟨g, 0, none⟩), .int .i64 p] w fun e w' => e = .returned (.pointer (some ⟨g, slotOff p, none⟩)) ∧ w' = w := by
  have hu := Tryd.underlying42
  unfold slotOff
  by_cases c0 : p = 0
  · subst c0
    go_enter Tryd.func51, Tryd.ntmps51
    go_wp2
    go_ret
    exact ⟨rfl, rfl⟩
  · have b0 : (p == 0) = false := by simpa using c0
    rw [if_neg c0]
    by_cases c1 : p = 1
    · subst c1
      go_enter Tryd.func51, Tryd.ntmps51
      go_wp2
      go_ret
      exact ⟨rfl, rfl⟩
    · have b1 : (p == 1) = false := by simpa using c1
      rw [if_neg c1]
      by_cases c2 : p = 2
      · subst c2
        go_enter Tryd.func51, Tryd.ntmps51
        go_wp2
        go_ret
        exact ⟨rfl, rfl⟩
      · have b2 : (p == 2) = false := by simpa using c2
        rw [if_neg c2]
        by_cases c3 : p = 3
        · subst c3
          go_enter Tryd.func51, Tryd.ntmps51
          go_wp2
          go_ret
          exact ⟨rfl, rfl⟩
        · have b3 : (p == 3) = false := by simpa using c3
          rw [if_neg c3]
          by_cases c4 : p = 4
          · subst c4
            go_enter Tryd.func51, Tryd.ntmps51
            go_wp2
            go_ret
            exact ⟨rfl, rfl⟩
          · have b4 : (p == 4) = false := by simpa using c4
            rw [if_neg c4]
            clear c0 c1 c2 c3 c4
            go_enter Tryd.func51, Tryd.ntmps51
            go_wp2
            go_ret
            exact ⟨rfl, rfl⟩
def putF (k : Nat) (p : Int) (wd : ByteArray) (x : S42) : Option (S42 × Bool) :=
  if p = 6 then (script_Unquote.f k wd).bind fun r => some ({ x with f6 := r.1 }, r.2)
  else if p = 7 then (script_Unquote.f k wd).bind fun r => some ({ x with f8 := r.1 }, r.2)
  else (script_number.f wd).bind fun r => some (setN x p r.1, r.2)
set_option maxHeartbeats 4000000 in
set_option maxRecDepth 100000 in
theorem put_calls (k : Nat) (p : Int) (wd : ByteArray) (x x' : S42) (b : Bool) (v : Value) (g : Nat) (w : World) (hG : GL w) (h : StepAt w g x v) (hf : putF k p wd x = some (x', b)) :
    Calls Tryd.prog 60 #[.pointer (some ⟨g, 0, none⟩), .int .i64 p, .string wd] w fun e w' => e = .returned (.bool b) ∧ StepAt w' g x' v ∧ BelowBut g w w' := by
  have hu := Tryd.underlying42
  unfold putF at hf
  have HG := Aside0.mk hG
  have HS := Aside0.mk h
  have hblk : w.heap[g]? = some (.cells (SC x v) 42 (0, 0)) := h
  clear hG h
  by_cases c0 : p = 6
  · subst c0
    rw [if_pos rfl] at hf
    obtain ⟨⟨r1, r2⟩, hr, hf⟩ := Option.bind_eq_some_iff.1 hf
    simp only [Option.some.injEq, Prod.mk.injEq] at hf
    obtain ⟨rfl, rfl⟩ := hf
    have HR := Aside0.mk hr
    clear hr hblk
    go_enter Tryd.func60, Tryd.ntmps60
    go_wp2_with fail
    refine (script_Unquote.calls k wd r1 r2 w HR.out).mono ?_
    rintro e w1 ⟨rfl, hb⟩
    have HB := Aside0.mk hb
    have hb1 : w1.heap[g]? = some (.cells (SC x v) 42 (0, 0)) := blk_below HS.out hb
    have hc := (blk_cell hb1 6).trans rfl
    have hfz := blk_frozen hb1 6
    have HB1 := Aside0.mk hb1
    clear hb hb1
    go_wp2
    go_ret
    refine ⟨rfl, ?_, (BelowBut.below HB.out).set 6 _⟩
    have := blk_set HB1.out 6 (.string r1)
    simpa [StepAt, SC] using this
  · have b0 : (p == 6) = false := by simpa using c0
    rw [if_neg c0] at hf
    by_cases c1 : p = 7
    · subst c1
      rw [if_pos rfl] at hf
      obtain ⟨⟨r1, r2⟩, hr, hf⟩ := Option.bind_eq_some_iff.1 hf
      simp only [Option.some.injEq, Prod.mk.injEq] at hf
      obtain ⟨rfl, rfl⟩ := hf
      have HR := Aside0.mk hr
      clear hr hblk c0
      go_enter Tryd.func60, Tryd.ntmps60
      go_wp2_with fail
      refine (script_Unquote.calls k wd r1 r2 w HR.out).mono ?_
      rintro e w1 ⟨rfl, hb⟩
      have HB := Aside0.mk hb
      have hb1 : w1.heap[g]? = some (.cells (SC x v) 42 (0, 0)) := blk_below HS.out hb
      have hc := (blk_cell hb1 8).trans rfl
      have hfz := blk_frozen hb1 8
      have HB1 := Aside0.mk hb1
      clear hb hb1
      go_wp2
      go_ret
      refine ⟨rfl, ?_, (BelowBut.below HB.out).set 8 _⟩
      have := blk_set HB1.out 8 (.string r1)
      simpa [StepAt, SC] using this
    · have b1 : (p == 7) = false := by simpa using c1
      rw [if_neg c1] at hf
      obtain ⟨⟨r1, r2⟩, hr, hf⟩ := Option.bind_eq_some_iff.1 hf
      simp only [Option.some.injEq, Prod.mk.injEq] at hf
      obtain ⟨rfl, rfl⟩ := hf
      have HR := Aside0.mk hr
      clear hr hblk c0 c1
      go_enter Tryd.func60, Tryd.ntmps60
      go_wp2_with fail
      refine (slot_calls p g w).mono ?_
      rintro e w0 ⟨rfl, rfl⟩
      go_wp2_with fail
      refine (script_number.calls wd r1 r2 w0 HG.out HR.out).mono ?_
      rintro e w1 ⟨rfl, hb⟩
      have HB := Aside0.mk hb
      have hb1 : StepAt w1 g x v := blk_below HS.out hb
      have hc := getN_cell x p v w1 g hb1
      have hfz := blk_frozen (show w1.heap[g]? = some (.cells (SC x v) 42 (0, 0)) from hb1) (slotOff p)
      have HB1 := Aside0.mk hb1
      clear hb hb1
      go_wp2
      go_ret
      refine ⟨rfl, ?_, (BelowBut.below HB.out).set (slotOff p) _⟩
      exact setN_cells x p r1 v w1 g HB1.out
theorem step_cells {W : World} {g : Nat} {x : S42} {v : Value} (h : StepAt W g x v) :
    W.cell? ⟨g, 0, none⟩ = some (.int .i64 x.f0) ∧ W.cell? ⟨g, 1, none⟩ = some (.int .i64 x.f1) ∧ W.cell? ⟨g, 2, none⟩ = some (.int .i64 x.f2) ∧ W.cell? ⟨g, 3, none⟩ = some (.int .i64 x.f3) ∧ W.cell? ⟨g, 4, none⟩ = some (.int .i64 x.f4) ∧ W.cell? ⟨g, 5, none⟩ = some (.int .i64 x.f5) ∧
    W.cell? ⟨g, 6, none⟩ = some (.string x.f6) ∧ W.cell? ⟨g, 7, none⟩ = some (.int .i64 x.f7) ∧ W.cell? ⟨g, 8, none⟩ = some (.string x.f8) ∧ W.cell? ⟨g, 9, none⟩ = some v ∧ ∀ j, W.frozen? ⟨g, j, none⟩ = false :=
  ⟨(blk_cell h 0).trans rfl, (blk_cell h 1).trans rfl, (blk_cell h 2).trans rfl, (blk_cell h 3).trans rfl, (blk_cell h 4).trans rfl, (blk_cell h 5).trans rfl, (blk_cell h 6).trans rfl, (blk_cell h 7).trans rfl, (blk_cell h 8).trans rfl, (blk_cell h 9).trans rfl, fun j => blk_frozen h j⟩
set_option maxHeartbeats 4000000 in
set_option maxRecDepth 100000 in
theorem load_step {W : World} {g : Nat} {x : S42} {v : Value} (h : StepAt W g x v) (ev : Operand → Value) (o : Oper) (p : Operand) (ho : o.op = .load 42 p) (hp : ev p = .pointer (some ⟨g, 0, none⟩)) :
    (execOp ev o).run Tryd.prog W = .ok (.value (.agg (SC x v))) W := by
  obtain ⟨z0, z1, z2, z3, z4, z5, z6, z7, z8, z9, zf⟩ := step_cells h
  have hu := Tryd.underlying42
  unfold execOp
  rw [ho]
  simp only [hp]
  go_simp
  rfl
def putS (W : World) (g : Nat) (x : S42) (v : Value) : World := (((((((((W.setCell ⟨g, 0, none⟩ (.int .i64 x.f0)).setCell ⟨g, 1, none⟩ (.int .i64 x.f1)).setCell ⟨g, 2, none⟩ (.int .i64 x.f2)).setCell ⟨g, 3, none⟩ (.int .i64 x.f3)).setCell ⟨g, 4, none⟩ (.int .i64 x.f4)).setCell ⟨g, 5, none⟩ (.int .i64 x.f5)).setCell ⟨g, 6, none⟩ (.string x.f6)).setCell ⟨g, 7, none⟩ (.int .i64 x.f7)).setCell ⟨g, 8, none⟩ (.string x.f8)).setCell ⟨g, 9, none⟩ v
theorem putS_at {W : World} {g : Nat} {y : S42} {u : Value} (h : StepAt W g y u) (x : S42) (v : Value) : StepAt (putS W g x v) g x v := by
  have h0 := blk_set h 0 (.int .i64 x.f0)
  have h1 := blk_set h0 1 (.int .i64 x.f1)
  have h2 := blk_set h1 2 (.int .i64 x.f2)
  have h3 := blk_set h2 3 (.int .i64 x.f3)
  have h4 := blk_set h3 4 (.int .i64 x.f4)
  have h5 := blk_set h4 5 (.int .i64 x.f5)
  have h6 := blk_set h5 6 (.string x.f6)
  have h7 := blk_set h6 7 (.int .i64 x.f7)
  have h8 := blk_set h7 8 (.string x.f8)
  have h9 := blk_set h8 9 v
  simpa [SC, StepAt, putS] using h9
theorem putS_below {n : Nat} {w W : World} {g : Nat} (h : Below n w W) (hg : n ≤ g) (x : S42) (v : Value) : Below n w (putS W g x v) :=
  (((((((((h.setCell hg _).setCell hg _).setCell hg _).setCell hg _).setCell hg _).setCell hg _).setCell hg _).setCell hg _).setCell hg _).setCell hg _
set_option maxHeartbeats 8000000 in
set_option maxRecDepth 100000 in
theorem store_step {W : World} {g : Nat} {y : S42} {u : Value} (h : StepAt W g y u) (x : S42) (v : Value) (h1 : v.oneCell' = true) (ev : Operand → Value) (o : Oper) (p q : Operand) (ho : o.op = .store 42 p q) (hp : ev p = .pointer (some ⟨g, 0, none⟩)) (hq : ev q = .agg (SC x v)) :
    (execOp ev o).run Tryd.prog W = .ok .skip (putS W g x v) := by
  obtain ⟨z0, z1, z2, z3, z4, z5, z6, z7, z8, z9, zf⟩ := step_cells h
  have hu := Tryd.underlying42
  have hst := run_storeCells_cells (P := Tryd.prog) g 0 (SC x v).toList 0 W
    (fun j hj => by
      have hj10 : j < 10 := hj
      have e0 : 0 + 0 + j = j := by omega
      rw [e0, blk_cell h]
      have : (SC y u).size = 10 := rfl
      rw [Array.getElem?_eq_getElem (by omega)]; rfl)
    (fun j _ => by have e0 : 0 + 0 + j = j := by omega
                   rw [e0]; exact zf j)
    (by intro z hz; simp only [SC, List.mem_cons, List.not_mem_nil, or_false] at hz; rcases hz with rfl | rfl | rfl | rfl | rfl | rfl | rfl | rfl | rfl | rfl <;> first | rfl | exact h1)
  unfold execOp
  rw [ho]
  simp only [hp, hq]
  go_simp
  refine Eq.trans (b := ((storeCells ⟨g, 0, none⟩ (SC x v).toList 0).run Tryd.prog W).andThen fun a w' => Result.ok Next.skip w') rfl ?_
  rw [hst]
  rfl
def readGo (k n : Nat) : List Int → List ByteArray → S42 → Option (S42 × Bool)
  | [], ws, x => some (if 0 < ws.length ∨ 240 < n then (z42, false) else (x, true))
  | p :: ps, ws, x =>
    if p = 8 then (script_list.f k ws).bind fun r => some (if r.2 = false ∨ 240 < n then (z42, false) else ({ x with f9 := r.1 }, true))
    else match ws with
      | [] => some (z42, false)
      | wd :: t => (putF k p wd x).bind fun q => if q.2 = false then some (z42, false) else readGo k n ps t q.1
theorem readGo_eight (k n : Nat) (p : Int) (ps : List Int) (ws : List ByteArray) (x : S42) (h : p = 8) : readGo k n (p :: ps) ws x = (script_list.f k ws).bind fun r => some (if r.2 = false ∨ 240 < n then (z42, false) else ({ x with f9 := r.1 }, true)) := by
  cases ws with
  | nil => rw [readGo, if_pos h]
  | cons a t => rw [readGo, if_pos h]
def readF (k : Nat) (s : ByteArray) : Option (S42 × Bool) :=
  (strings_Split.f s ⟨#[32]⟩).bind fun W => (script_kind.f k (W.headD ⟨#[]⟩)).bind fun kd => (script_word.f kd).bind fun r =>
    if r.2 = [] then some (z42, false) else readGo k s.size r.2 W.tail { z42 with f0 := kd }
theorem split_ne (s : ByteArray) (W : List ByteArray) (h : strings_Split.f s ⟨#[32]⟩ = some W) : 0 < W.length := by
  unfold strings_Split.f at h
  split at h
  · rename_i hs
    cases h
    rw [Lib.splitB_all _ hs.2 0 _ s rfl]
    omega
  · cases h
theorem tail_F {W : World} {ok : Nat → Prop} {ad : Addr} {c : Nat} {ws : List ByteArray} (h : Kd.F Kd.string W ok (some ad) ws.length ws) (hl : 0 < ws.length) (hc : ws.length ≤ c) :
    (c = 1 → Kd.F Kd.string W ok (some ad) ws.tail.length ws.tail) ∧ (¬ c = 1 → Kd.F Kd.string W ok (some ⟨ad.block, ad.off + 1, none⟩) ws.tail.length ws.tail) ∧ ws.length - 1 = ws.tail.length ∧ ws.tail.length ≤ c - 1 := by
  have hf := Kd.F_cut (m := 1) h (by omega) hc
  rw [List.drop_one] at hf
  refine ⟨fun e => ?_, fun e => ?_, by simp, by simp; omega⟩
  · rw [if_pos e] at hf; exact hf
  · rw [if_neg e] at hf
    have e2 : (some ad : Option Addr).map (·.add (1 * Kd.string.sz)) = some ⟨ad.block, ad.off + 1, none⟩ := by simp [Addr.add, Kd.string, Kd.scalar]
    rw [e2] at hf; exact hf
theorem info42s : (Tryd.prog.info? 42).map (·.size) = some 10 := by kernel_rfl
theorem setN_f9 (x : S42) (p n : Int) : (setN x p n).f9 = x.f9 := by
  unfold setN
  repeat' split
  all_goals rfl
theorem put_f9 (k : Nat) (p : Int) (wd : ByteArray) (x x' : S42) (b : Bool) (h : putF k p wd x = some (x', b)) : x'.f9 = x.f9 := by
  unfold putF at h
  split at h
  · obtain ⟨r, _, h⟩ := Option.bind_eq_some_iff.1 h
    simp only [Option.some.injEq, Prod.mk.injEq] at h
    obtain ⟨rfl, _⟩ := h
    rfl
  · split at h
    · obtain ⟨r, _, h⟩ := Option.bind_eq_some_iff.1 h
      simp only [Option.some.injEq, Prod.mk.injEq] at h
      obtain ⟨rfl, _⟩ := h
      rfl
    · obtain ⟨r, _, h⟩ := Option.bind_eq_some_iff.1 h
      simp only [Option.some.injEq, Prod.mk.injEq] at h
      obtain ⟨rfl, _⟩ := h
      exact setN_f9 x p _
theorem set9 {W : World} {g : Nat} {x : S42} {u : Value} (h : StepAt W g x u) (v : Value) : StepAt (W.setCell ⟨g, 9, none⟩ v) g x v := by
  have := blk_set h 9 v
  simpa [StepAt, SC] using this
theorem putS_far {W : World} {gx g q : Nat} {x : S42} {v u : Value} (h1 : q ≠ gx) (h2 : q ≠ g) : (putS (W.setCell ⟨gx, 9, none⟩ u) g x v).heap[q]? = W.heap[q]? := by
  unfold putS
  rw [Below.heap_setCell _ _ _ _ h2, Below.heap_setCell _ _ _ _ h2, Below.heap_setCell _ _ _ _ h2, Below.heap_setCell _ _ _ _ h2, Below.heap_setCell _ _ _ _ h2, Below.heap_setCell _ _ _ _ h2, Below.heap_setCell _ _ _ _ h2, Below.heap_setCell _ _ _ _ h2, Below.heap_setCell _ _ _ _ h2, Below.heap_setCell _ _ _ _ h2, Below.heap_setCell _ _ _ _ h1]
theorem keep_R {w5 w9 : World} {b0 b : Nat} {v : Value} {l : List Int} (h : Kd.R (Kd.int .i64) 3 w5 b (fun _ => True) v l) (hb : b0 ≤ b) (hk : ∀ q, b ≤ q → w9.heap[q]? = w5.heap[q]?) : Kd.R (Kd.int .i64) 3 w9 b0 (fun _ => True) v l := by
  have h1 := Kd.R_step (Kd.R_bound h) (fun q hq _ => hk q hq.2.1)
  exact Kd.R_mono (Kd.R_lower h1 hb) (fun _ _ => trivial)
def ReadP (w : World) (x : S42) (b : Bool) (e : Ending) (w' : World) : Prop :=
  ∃ v, e = .returned (.tuple #[.agg (SC x v), .bool b]) ∧ Kd.R (Kd.int .i64) 3 w' w.heap.size (fun _ => True) v x.f9 ∧ Below w.heap.size w w'
set_option maxHeartbeats 8000000 in
set_option maxRecDepth 100000 in
theorem read_calls (k : Nat) (s : ByteArray) (w : World) (x : S42) (b : Bool) (hG : GL w) (hs : s.size ≤ 40000000) (hf : readF k s = some (x, b)) :
    Calls Tryd.prog 27 #[.string s] w (ReadP w x b) := by
  have hu := Tryd.underlying42
  unfold readF at hf
  obtain ⟨W, hW, hf⟩ := Option.bind_eq_some_iff.1 hf
  obtain ⟨kd, hkd, hf⟩ := Option.bind_eq_some_iff.1 hf
  obtain ⟨⟨nm, ps⟩, hps, hf⟩ := Option.bind_eq_some_iff.1 hf
  have hWl := split_ne s W hW
  simp only at hf
  have HF := Aside0.mk hf
  have HKD := Aside0.mk hkd
  have HPS := Aside0.mk hps
  have HW := Aside0.mk hW
  have HWL := Aside0.mk hWl
  have HZ := Aside0.mk (blk_new w (.cells (SC z42 (.slice none 0 0)) 42))
  have HB := Aside0.mk (below_alloc (Below.refl w.heap.size w) (.cells (SC z42 (.slice none 0 0)) 42))
  have HG0 := Aside0.mk hG
  have HG := Aside0.mk (hG.below HB.out)
  have HSP := Aside0.mk (strings_Split.calls s ⟨#[32]⟩ W (w.alloc (.cells (SC z42 (.slice none 0 0)) 42)) HG.out hW)
  have hss := hs
  clear hf hkd hps hW hWl hG hs
  go_enter Tryd.func27, Tryd.ntmps27
  go_wp2_with fail
  refine HSP.out.mono ?_
  rintro e w1 ⟨v4, rfl, hR, hb⟩
  obtain ⟨A, c, rfl, hc, hFW⟩ := Kd.R_V (base' := 0) hR
  have HB1 := Aside0.mk (HB.out.trans (hb.mono HB.out.size))
  have HG1 := Aside0.mk (HG.out.below hb)
  have HZ1 := Aside0.mk (blk_below HZ.out hb)
  have HFW := Aside0.mk (Kd.F_bound hFW)
  have HC := Aside0.mk hc
  obtain ⟨ad, cc, eA, _, hK, hcell⟩ := Kd.C_get (Kd.F_now hFW) (⟨#[]⟩ : ByteArray) 0 (by omega) (by have := HWL.out; omega)
  have hK2 : cc = [.string (W.getD 0 ⟨#[]⟩)] := hK
  subst hK2 eA
  have hc0 := hcell 0 _ rfl
  have e0 : ad.add (((0 : Int).toNat) * Kd.string.sz + 0) = ad := by simp [Addr.add, Kd.string, Kd.scalar]
  rw [e0] at hc0
  have hdl : decide (0 < W.length) = true := decide_eq_true HWL.out
  have hw0 : W.getD 0 ⟨#[]⟩ = W.headD ⟨#[]⟩ := by cases W <;> rfl
  rw [hw0] at hc0
  obtain ⟨wd0, hwd0⟩ : ∃ z, z = W.headD ⟨#[]⟩ := ⟨_, rfl⟩
  rw [← hwd0] at hc0 HKD
  have hwl := HWL.out
  clear hR hFW hc hcell hK e0 hw0 hb
  clear hwd0
  go_wp2_with fail
  refine (script_kind.calls k wd0 kd w1 HKD.out).mono ?_
  rintro e w2 ⟨rfl, hb⟩
  have HX := Aside0.mk (show StepAt (w2.alloc (.cells (SC { z42 with f0 := kd } (.slice none 0 0)) 42)) w2.heap.size { z42 with f0 := kd } (.slice none 0 0) from blk_new w2 _)
  have hba := hb.trans ((below_alloc (Below.refl w2.heap.size w2) (.cells (SC { z42 with f0 := kd } (.slice none 0 0)) 42)).mono hb.size)
  have HB2 := Aside0.mk (HB1.out.trans (hba.mono HB1.out.size))
  have HG2 := Aside0.mk (HG1.out.below hba)
  have HZ2 := Aside0.mk (blk_below HZ1.out hba)
  have HFW2 := Aside0.mk (Kd.F_below HFW.out hba)
  have HLE := Aside0.mk (show w1.heap.size ≤ w2.heap.size from hb.size)
  have HLZ := Aside0.mk (show w.heap.size < w2.heap.size from Nat.lt_of_lt_of_le (blk_lt HZ1.out) hb.size)
  clear hb hba hc0 HB HG HZ HB1 HG1 HZ1 HFW HW HSP HKD
  go_wp2_with fail
  refine (script_word.calls kd nm ps _ HPS.out).mono ?_
  rintro e w3 ⟨v7, rfl, hR7, hb⟩
  obtain ⟨Ap, cp, rfl, hcp, hFP⟩ := Kd.R_V (base' := 0) hR7
  have HB3 := Aside0.mk (HB2.out.trans (hb.mono HB2.out.size))
  have HG3 := Aside0.mk (HG2.out.below hb)
  have HZ3 := Aside0.mk (blk_below HZ2.out hb)
  have HFW3 := Aside0.mk (Kd.F_below HFW2.out hb)
  have HX3 := Aside0.mk (show StepAt w3 w2.heap.size { z42 with f0 := kd } (.slice none 0 0) from blk_below HX.out hb)
  have hbase := Kd.R_bound hR7
  clear hb HB2 HG2 HZ2 HFW2 HX
  have HFW4 := Aside0.mk (Kd.F_mono HFW3.out (fun k hk => (show k ≠ w2.heap.size by have := HLE.out; omega)))
  have HFP := Aside0.mk (Kd.F_mono (Kd.R_F hbase) (fun k hk => (show k ≠ w2.heap.size by have := hk.2.1; simp at this; omega)))
  have HTL := Aside0.mk (tail_F HFW4.out HWL.out HC.out)
  have HCP := Aside0.mk hcp
  have HTN := Aside0.mk (show W.length - 1 = W.tail.length from HTL.out.2.2.1)
  clear hR7 hFP hbase hcp HFW3
  obtain ⟨A4, c4, hA4, h4c, h4F⟩ : ∃ (A4 : Option Addr) (c4 : Nat), (.slice A4 W.tail.length c4 : Value) = (if c = 1 then .slice (some ad) (W.length - 1) 0 else .slice (some ⟨ad.block, ad.off + 1, none⟩) (W.length - 1) (c - 1)) ∧ W.tail.length ≤ c4 ∧ Kd.F Kd.string w3 (fun k => k ≠ w2.heap.size) A4 W.tail.length W.tail := by
    by_cases h : c = 1
    · have := HTL.out.2.2.2
      exact ⟨some ad, 0, by rw [if_pos h, HTN.out], by omega, HTL.out.1 h⟩
    · exact ⟨_, c - 1, by rw [if_neg h, HTN.out], HTL.out.2.2.2, HTL.out.2.1 h⟩
  have H4 := Aside0.mk (And.intro h4c h4F)
  have HA4 := Aside0.mk hA4
  clear h4c h4F hA4
  rcases Classical.em (c = 1) with h | h
  all_goals (
    have hA4 := HA4.out
    first | rw [if_pos h] at hA4 | rw [if_neg h] at hA4
    go_wp2_with fail
    go_loopg [4, 29] ps.length (fun n v4 v29 wr => ∃ (i : Nat) (ws : List ByteArray) (y : S42) (A' : Option Addr) (c' : Nat), v29 = .int .i64 i ∧ v4 = .slice A' ws.length c' ∧ Aside0 (n + i = ps.length) ∧ Aside0 (ws.length ≤ c' ∧ Kd.F Kd.string wr (fun k => k ≠ w2.heap.size) A' ws.length ws) ∧ Aside0 (Kd.F (Kd.int .i64) wr (fun k => k ≠ w2.heap.size) Ap ps.length ps) ∧ Aside0 (StepAt wr w2.heap.size y (.slice none 0 0)) ∧ Aside0 (StepAt wr w.heap.size z42 (.slice none 0 0)) ∧ Aside0 (Below w.heap.size w wr) ∧ Aside0 (GL wr) ∧ Aside0 (y.f9 = []) ∧ Aside0 ((if ps = [] then some (z42, false) else readGo k s.size (ps.drop i) ws y) = some (x, b)))
    case atStart => exact ⟨0, W.tail, { z42 with f0 := kd }, A4, c4, rfl, hA4.symm, ⟨by simp⟩, H4, HFP, HX3, HZ3, HB3, HG3, ⟨rfl⟩, by rw [List.drop_zero]; exact HF⟩
    case round =>
      obtain ⟨i, ws, y, A', c', rfl, rfl, HN, HWS, HPP, HY, HZ, HBW, HGW, HY9, HR⟩ := hrel
      have hlw := HLZ.out
      by_cases hi : i < ps.length
      · have hi' : decide (i < ps.length) = true := decide_eq_true hi
        have hpl : ps.length ≤ 9223372036854775807 := (Kd.F_now HPP.out).2.1
        obtain ⟨ad2, cs2, e2, _, hK2, hcell2⟩ := Kd.C_get (Kd.F_now HPP.out) (0 : Int) (i : Int) (by omega) (by omega)
        have hK3 : cs2 = [.int .i64 (ps.getD i 0)] := hK2
        subst hK3 e2
        have hpc : wr.cell? (ad2.add i) = some (.int .i64 (ps.getD i 0)) := by simpa [Kd.int, Kd.scalar] using hcell2 0 _ rfl
        have hne : ¬ ps = [] := by intro h0; rw [h0] at hi; simp at hi
        have hdr : ps.drop i = ps.getD i 0 :: ps.drop (i + 1) := by
          rw [List.drop_eq_getElem_cons hi]
          simp [List.getD_eq_getElem?_getD, List.getElem?_eq_getElem hi]
        have hr := HR.out
        rw [if_neg hne, hdr] at hr
        obtain ⟨p, hp⟩ : ∃ p, p = ps.getD i 0 := ⟨_, rfl⟩
        rw [← hp] at hr hpc
        have HNE := Aside0.mk hne
        clear hdr hcell2 hK2 hp hne
        by_cases p8 : p = 8
        · have b8 : (p == 8) = true := by simpa using p8
          rw [readGo_eight k s.size p _ ws y p8] at hr
          obtain ⟨⟨li, ok⟩, hlist, hr⟩ := Option.bind_eq_some_iff.1 hr
          simp only [Option.some.injEq] at hr
          have HLI := Aside0.mk (script_list.calls k A' c' ws li ok wr HGW.out (Kd.F_now HWS.out.2) HWS.out.1 hlist)
          clear hlist p8
          go_wp2_with fail
          refine HLI.out.mono ?_
          rintro e w5 ⟨v10, rfl, hR, hb⟩
          obtain ⟨A9, c9, rfl, hc9, _⟩ := Kd.R_V (base' := 0) hR
          have HB5 := Aside0.mk (HBW.out.trans (hb.mono HBW.out.size))
          have HZ5 := Aside0.mk (show StepAt w5 w.heap.size z42 (.slice none 0 0) from blk_below HZ.out hb)
          have HY5 := Aside0.mk (show StepAt w5 w2.heap.size y (.slice none 0 0) from blk_below HY.out hb)
          have HRR := Aside0.mk hR
          have HLY := Aside0.mk (show w2.heap.size < wr.heap.size from blk_lt HY.out)
          clear hR hb HLI hpc hc9
          cases ok with
          | false =>
            rw [if_pos (.inl rfl)] at hr
            simp only [Prod.mk.injEq] at hr
            obtain ⟨rfl, rfl⟩ := hr
            go_wp2_with (first | ((with_reducible refine gate_store (t := 42) (p := 2) rfl ?_); refine store_event (t := 42) (p := 2) (v := .tmp 47) (w1 := putS w5 w.heap.size z42 (.slice none 0 0)) rfl rfl rfl (store_step HZ5.out z42 (.slice none 0 0) rfl _ _ (.tmp 2) (.tmp 47) rfl rfl rfl) ?_; intro w9 hw9; have HS9 : StepAt w9 w.heap.size z42 (.slice none 0 0) := (by rw [hw9]; exact putS_at HZ5.out _ _); have HB9 : Below w.heap.size w w9 := (by rw [hw9]; exact putS_below HB5.out (Nat.le_refl _) _ _); clear hw9))
            refine bodyPost_ret (results_ct (fn := Tryd.f27) (p := 2) (u := 3) (ty := 42) (P := Tryd.prog) rfl _ w9 w.heap.size 42 (SC z42 (.slice none 0 0)) (0, 0) _ rfl HS9 hu rfl info42s) rfl ?_
            exact ⟨_, rfl, Kd.R_nil _ _ _ _ _, HB9⟩
          | true =>
            by_cases h2 : 240 < s.size
            · rw [if_pos (.inr h2)] at hr
              have b7 : decide ((240 : Int) < (s.size : Int)) = true := decide_eq_true (by omega)
              simp only [Prod.mk.injEq] at hr
              obtain ⟨rfl, rfl⟩ := hr
              go_wp2_with (first | ((with_reducible refine gate_store (t := 42) (p := 2) rfl ?_); refine store_event (t := 42) (p := 2) (v := .tmp 47) (w1 := putS w5 w.heap.size z42 (.slice none 0 0)) rfl rfl rfl (store_step HZ5.out z42 (.slice none 0 0) rfl _ _ (.tmp 2) (.tmp 47) rfl rfl rfl) ?_; intro w9 hw9; have HS9 : StepAt w9 w.heap.size z42 (.slice none 0 0) := (by rw [hw9]; exact putS_at HZ5.out _ _); have HB9 : Below w.heap.size w w9 := (by rw [hw9]; exact putS_below HB5.out (Nat.le_refl _) _ _); clear hw9))
              refine bodyPost_ret (results_ct (fn := Tryd.f27) (p := 2) (u := 3) (ty := 42) (P := Tryd.prog) rfl _ w9 w.heap.size 42 (SC z42 (.slice none 0 0)) (0, 0) _ rfl HS9 hu rfl info42s) rfl ?_
              exact ⟨_, rfl, Kd.R_nil _ _ _ _ _, HB9⟩
            · rw [if_neg (by simp; omega)] at hr
              have b7 : decide ((240 : Int) < (s.size : Int)) = false := decide_eq_false (by omega)
              simp only [Prod.mk.injEq] at hr
              obtain ⟨rfl, rfl⟩ := hr
              have hly := HLY.out
              have z9 := (step_cells HY5.out).2.2.2.2.2.2.2.2.2.1
              have zf := (step_cells HY5.out).2.2.2.2.2.2.2.2.2.2 9
              have HY9S := Aside0.mk (set9 HY5.out (.slice A9 li.length c9))
              have HZ9 := Aside0.mk (show StepAt (w5.setCell ⟨w2.heap.size, 9, none⟩ (.slice A9 li.length c9)) w.heap.size z42 (.slice none 0 0) from blk_far HZ5.out (by simp; omega) _)
              have HB9' := Aside0.mk (HB5.out.setCell (p := ⟨w2.heap.size, 9, none⟩) (Nat.le_of_lt HLZ.out) (.slice A9 li.length c9))
              go_wp2_with (first | ((with_reducible refine gate_dst (N := 50) rfl ?_); refine Kd.event_run rfl (load_step HY9S.out _ _ (.tmp 5) rfl rfl) ?_) | ((with_reducible refine gate_store (t := 42) (p := 2) rfl ?_); refine store_event (t := 42) (p := 2) (v := .tmp 50) (w1 := putS (w5.setCell ⟨w2.heap.size, 9, none⟩ (.slice A9 li.length c9)) w.heap.size y (.slice A9 li.length c9)) rfl rfl rfl (store_step HZ9.out y (.slice A9 li.length c9) rfl _ _ (.tmp 2) (.tmp 50) rfl rfl rfl) ?_; intro w9 hw9; have HS9 : StepAt w9 w.heap.size y (.slice A9 li.length c9) := (by rw [hw9]; exact putS_at HZ9.out _ _); have HB9 : Below w.heap.size w w9 := (by rw [hw9]; exact putS_below HB9'.out (Nat.le_refl _) _ _); have HK9 : ∀ q, wr.heap.size ≤ q → w9.heap[q]? = w5.heap[q]? := (by intro q hq; rw [hw9]; exact putS_far (by omega) (by omega)); clear hw9))
              refine bodyPost_ret (results_ct (fn := Tryd.f27) (p := 2) (u := 3) (ty := 42) (P := Tryd.prog) rfl _ w9 w.heap.size 42 (SC y (.slice A9 li.length c9)) (0, 0) _ rfl HS9 hu rfl info42s) rfl ?_
              exact ⟨_, rfl, keep_R HRR.out HBW.out.size HK9, HB9⟩
        · have b8 : (p == 8) = false := by simpa using p8
          cases ws with
          | nil =>
            rw [readGo, if_neg p8] at hr
            simp only [Option.some.injEq, Prod.mk.injEq] at hr
            obtain ⟨rfl, rfl⟩ := hr
            clear p8
            go_wp2_with (first | ((with_reducible refine gate_store (t := 42) (p := 2) rfl ?_); refine store_event (t := 42) (p := 2) (v := .tmp 62) (w1 := putS wr w.heap.size z42 (.slice none 0 0)) rfl rfl rfl (store_step HZ.out z42 (.slice none 0 0) rfl _ _ (.tmp 2) (.tmp 62) rfl rfl rfl) ?_; intro w9 hw9; have HS9 : StepAt w9 w.heap.size z42 (.slice none 0 0) := (by rw [hw9]; exact putS_at HZ.out _ _); have HB9 : Below w.heap.size w w9 := (by rw [hw9]; exact putS_below HBW.out (Nat.le_refl _) _ _); clear hw9))
            refine bodyPost_ret (results_ct (fn := Tryd.f27) (p := 2) (u := 3) (ty := 42) (P := Tryd.prog) rfl _ w9 w.heap.size 42 (SC z42 (.slice none 0 0)) (0, 0) _ rfl HS9 hu rfl info42s) rfl ?_
            exact ⟨_, rfl, Kd.R_nil _ _ _ _ _, HB9⟩
          | cons wd t =>
            rw [readGo, if_neg p8] at hr
            obtain ⟨⟨y2, b2⟩, hput, hr⟩ := Option.bind_eq_some_iff.1 hr
            simp only at hr
            obtain ⟨ad3, cs3, e3, _, hK4, hcell3⟩ := Kd.C_get (Kd.F_now HWS.out.2) (⟨#[]⟩ : ByteArray) 0 (by omega) (by simp only [List.length_cons]; omega)
            have hK5 : cs3 = [.string wd] := hK4
            subst hK5 e3
            have hwc := hcell3 0 _ rfl
            have e0 : ad3.add (((0 : Int).toNat) * Kd.string.sz + 0) = ad3 := by simp [Addr.add, Kd.string, Kd.scalar]
            rw [e0] at hwc
            have HPF := Aside0.mk hput
            have HPUT := Aside0.mk (put_calls k p wd y y2 b2 (.slice none 0 0) w2.heap.size wr HGW.out HY.out hput)
            have hl0 : ((((wd :: t).length : Nat) : Int) == 0) = false := by simp; omega
            have hl1 : decide (0 < (wd :: t).length) = true := by simp
            have HTL2 := Aside0.mk (tail_F HWS.out.2 (by simp) HWS.out.1)
            clear hK4 hcell3 e0 p8 hput
            go_wp2_with fail
            refine HPUT.out.mono ?_
            rintro e w5 ⟨rfl, hY5, hbb⟩
            have HB5 := Aside0.mk (hbb.from_ HBW.out (Nat.le_of_lt HLZ.out))
            have HZ5 := Aside0.mk (show StepAt w5 w.heap.size z42 (.slice none 0 0) from (hbb.block _ (blk_lt HZ.out) (by omega)).trans HZ.out)
            have HY5 := Aside0.mk hY5
            have HG5 := Aside0.mk (HG0.out.below HB5.out)
            have HP5 := Aside0.mk (Kd.F_step HPP.out (fun q hq hlt => hbb.block q hlt hq))
            have HT5 := Aside0.mk (show ∀ A0, Kd.F Kd.string wr (fun k => k ≠ w2.heap.size) A0 t.length t → Kd.F Kd.string w5 (fun k => k ≠ w2.heap.size) A0 t.length t from fun A0 h0 => Kd.F_step h0 (fun q hq hlt => hbb.block q hlt hq))
            clear hY5 hbb hwc hpc HPUT
            cases b2 with
            | false =>
              rw [if_pos rfl] at hr
              simp only [Option.some.injEq, Prod.mk.injEq] at hr
              obtain ⟨rfl, rfl⟩ := hr
              go_wp2_with (first | ((with_reducible refine gate_store (t := 42) (p := 2) rfl ?_); refine store_event (t := 42) (p := 2) (v := .tmp 62) (w1 := putS w5 w.heap.size z42 (.slice none 0 0)) rfl rfl rfl (store_step HZ5.out z42 (.slice none 0 0) rfl _ _ (.tmp 2) (.tmp 62) rfl rfl rfl) ?_; intro w9 hw9; have HS9 : StepAt w9 w.heap.size z42 (.slice none 0 0) := (by rw [hw9]; exact putS_at HZ5.out _ _); have HB9 : Below w.heap.size w w9 := (by rw [hw9]; exact putS_below HB5.out (Nat.le_refl _) _ _); clear hw9))
              refine bodyPost_ret (results_ct (fn := Tryd.f27) (p := 2) (u := 3) (ty := 42) (P := Tryd.prog) rfl _ w9 w.heap.size 42 (SC z42 (.slice none 0 0)) (0, 0) _ rfl HS9 hu rfl info42s) rfl ?_
              exact ⟨_, rfl, Kd.R_nil _ _ _ _ _, HB9⟩
            | true =>
              rw [if_neg (by simp)] at hr
              have hy9 : y2.f9 = [] := (put_f9 k p wd y y2 true HPF.out).trans HY9.out
              have HY92 := Aside0.mk hy9
              have HR2 := Aside0.mk (show (if ps = [] then some (z42, false) else readGo k s.size (ps.drop (i + 1)) t y2) = some (x, b) by rw [if_neg HNE.out]; exact hr)
              have hlt : t.length + 1 ≤ c' := HWS.out.1
              clear hr hy9
              rcases Classical.em (c' = 1) with hc1 | hc1
              · have HF1 := Aside0.mk (HT5.out _ (HTL2.out.1 hc1))
                have ht0 : t.length = 0 := by omega
                go_wp2
                go_roundg (gk - 1)
                case measure => have := HN.out; omega
                case rel => exact ⟨i + 1, t, y2, _, 0, by go_num, by first | rfl | (simp; omega), ⟨by have := HN.out; omega⟩, ⟨by omega, HF1.out⟩, HP5, HY5, HZ5, HB5, HG5, HY92, HR2⟩
              · have HF1 := Aside0.mk (HT5.out _ (HTL2.out.2.1 hc1))
                go_wp2
                go_roundg (gk - 1)
                case measure => have := HN.out; omega
                case rel => exact ⟨i + 1, t, y2, _, c' - 1, by go_num, by first | rfl | (simp; omega), ⟨by have := HN.out; omega⟩, ⟨by omega, HF1.out⟩, HP5, HY5, HZ5, HB5, HG5, HY92, HR2⟩
      · have hi' : decide (i < ps.length) = false := decide_eq_false hi
        have hdr : ps.drop i = [] := List.drop_eq_nil_of_le (by omega)
        have hr := HR.out
        rw [hdr] at hr
        clear hdr
        by_cases hp : ps = []
        · rw [if_pos hp] at hr
          simp only [Option.some.injEq, Prod.mk.injEq] at hr
          obtain ⟨rfl, rfl⟩ := hr
          subst hp
          go_wp2_with (first | ((with_reducible refine gate_store (t := 42) (p := 2) rfl ?_); refine store_event (t := 42) (p := 2) (v := .tmp 79) (w1 := putS wr w.heap.size z42 (.slice none 0 0)) rfl rfl rfl (store_step HZ.out z42 (.slice none 0 0) rfl _ _ (.tmp 2) (.tmp 79) rfl rfl rfl) ?_; intro w5 hw5; have HS5 : StepAt w5 w.heap.size z42 (.slice none 0 0) := (by rw [hw5]; exact putS_at HZ.out _ _); have HB5 : Below w.heap.size w w5 := (by rw [hw5]; exact putS_below HBW.out (Nat.le_refl _) _ _); clear hw5))
          refine bodyPost_ret (results_ct (fn := Tryd.f27) (p := 2) (u := 3) (ty := 42) (P := Tryd.prog) rfl _ w5 w.heap.size 42 (SC z42 (.slice none 0 0)) (0, 0) _ rfl HS5 hu rfl info42s) rfl ?_
          exact ⟨_, rfl, Kd.R_nil _ _ _ _ _, HB5⟩
        · rw [if_neg hp, readGo] at hr
          have b5 : ((ps.length : Int) == 0) = false := by
            have := List.length_pos_iff.2 hp
            simp
            intro h0
            exact hp h0
          by_cases h1 : 0 < ws.length
          · rw [if_pos (.inl h1)] at hr
            have b6 : decide (0 < ws.length) = true := decide_eq_true h1
            simp only [Option.some.injEq, Prod.mk.injEq] at hr
            obtain ⟨rfl, rfl⟩ := hr
            go_wp2_with (first | ((with_reducible refine gate_store (t := 42) (p := 2) rfl ?_); refine store_event (t := 42) (p := 2) (v := .tmp 79) (w1 := putS wr w.heap.size z42 (.slice none 0 0)) rfl rfl rfl (store_step HZ.out z42 (.slice none 0 0) rfl _ _ (.tmp 2) (.tmp 79) rfl rfl rfl) ?_; intro w5 hw5; have HS5 : StepAt w5 w.heap.size z42 (.slice none 0 0) := (by rw [hw5]; exact putS_at HZ.out _ _); have HB5 : Below w.heap.size w w5 := (by rw [hw5]; exact putS_below HBW.out (Nat.le_refl _) _ _); clear hw5))
            refine bodyPost_ret (results_ct (fn := Tryd.f27) (p := 2) (u := 3) (ty := 42) (P := Tryd.prog) rfl _ w5 w.heap.size 42 (SC z42 (.slice none 0 0)) (0, 0) _ rfl HS5 hu rfl info42s) rfl ?_
            exact ⟨_, rfl, Kd.R_nil _ _ _ _ _, HB5⟩
          · have b6 : decide (0 < ws.length) = false := decide_eq_false h1
            by_cases h2 : 240 < s.size
            · rw [if_pos (.inr h2)] at hr
              have b7 : decide ((240 : Int) < (s.size : Int)) = true := decide_eq_true (by omega)
              simp only [Option.some.injEq, Prod.mk.injEq] at hr
              obtain ⟨rfl, rfl⟩ := hr
              go_wp2_with (first | ((with_reducible refine gate_store (t := 42) (p := 2) rfl ?_); refine store_event (t := 42) (p := 2) (v := .tmp 79) (w1 := putS wr w.heap.size z42 (.slice none 0 0)) rfl rfl rfl (store_step HZ.out z42 (.slice none 0 0) rfl _ _ (.tmp 2) (.tmp 79) rfl rfl rfl) ?_; intro w5 hw5; have HS5 : StepAt w5 w.heap.size z42 (.slice none 0 0) := (by rw [hw5]; exact putS_at HZ.out _ _); have HB5 : Below w.heap.size w w5 := (by rw [hw5]; exact putS_below HBW.out (Nat.le_refl _) _ _); clear hw5))
              refine bodyPost_ret (results_ct (fn := Tryd.f27) (p := 2) (u := 3) (ty := 42) (P := Tryd.prog) rfl _ w5 w.heap.size 42 (SC z42 (.slice none 0 0)) (0, 0) _ rfl HS5 hu rfl info42s) rfl ?_
              exact ⟨_, rfl, Kd.R_nil _ _ _ _ _, HB5⟩
            · rw [if_neg (by omega)] at hr
              have b7 : decide ((240 : Int) < (s.size : Int)) = false := decide_eq_false (by omega)
              simp only [Option.some.injEq, Prod.mk.injEq] at hr
              obtain ⟨rfl, rfl⟩ := hr
              go_wp2_with (first | ((with_reducible refine gate_dst (N := 80) rfl ?_); refine Kd.event_run rfl (load_step HY.out _ _ (.tmp 5) rfl rfl) ?_) | ((with_reducible refine gate_store (t := 42) (p := 2) rfl ?_); refine store_event (t := 42) (p := 2) (v := .tmp 80) (w1 := putS wr w.heap.size y (.slice none 0 0)) rfl rfl rfl (store_step HZ.out y (.slice none 0 0) rfl _ _ (.tmp 2) (.tmp 80) rfl rfl rfl) ?_; intro w5 hw5; have HS5 : StepAt w5 w.heap.size y (.slice none 0 0) := (by rw [hw5]; exact putS_at HZ.out _ _); have HB5 : Below w.heap.size w w5 := (by rw [hw5]; exact putS_below HBW.out (Nat.le_refl _) _ _); clear hw5))
              refine bodyPost_ret (results_ct (fn := Tryd.f27) (p := 2) (u := 3) (ty := 42) (P := Tryd.prog) rfl _ w5 w.heap.size 42 (SC y (.slice none 0 0)) (0, 0) _ rfl HS5 hu rfl info42s) rfl ?_
              exact ⟨_, rfl, by rw [HY9.out]; exact Kd.R_nil _ _ _ _ _, HB5⟩)
def itoaB (n : Int) : ByteArray := ⟨(Lib.itoa n).toArray⟩
def itoasW : List Int → Option (List ByteArray)
  | [] => some []
  | n :: t => (strconv_Itoa_50.f n).bind fun q => (itoasW t).bind fun r => some (q :: r)
def partW (x : S42) (p : Int) : Option (List ByteArray) :=
  if p = 6 then (script_Quote.f x.f6).bind fun q => some [q]
  else if p = 7 then (script_Quote.f x.f8).bind fun q => some [q]
  else if p = 8 then itoasW x.f9
  else (strconv_Itoa_50.f (getN x p)).bind fun q => some [q]
def partsW (x : S42) : List Int → Option (List ByteArray)
  | [] => some []
  | p :: ps => (partW x p).bind fun a => (partsW x ps).bind fun b => some (a ++ b)
def joinB (l : List ByteArray) : ByteArray := ⟨(Lib.join (l.map (·.data.toList)) [32]).toArray⟩
def lineF (k : Nat) (x : S42) : Option (ByteArray × Int) :=
  (script_word.f x.f0).bind fun r => if r.1.size = 0 then some (⟨#[]⟩, 1) else
    (partsW x r.2).bind fun ws => if (joinB (r.1 :: ws)).size ≤ 40000000 ∧ (r.1 :: ws).length ≤ 40000000 then ((readF k (joinB (r.1 :: ws))).bind fun q =>
      if q.2 = false then some (⟨#[]⟩, 1) else
      (script_Same.f k x.f0 x.f1 x.f2 x.f3 x.f4 x.f5 x.f6 x.f7 x.f8 x.f9 q.1.f0 q.1.f1 q.1.f2 q.1.f3 q.1.f4 q.1.f5 q.1.f6 q.1.f7 q.1.f8 q.1.f9).bind fun b =>
        if b = true then some (joinB (r.1 :: ws), 0) else some (⟨#[]⟩, 1)) else none
theorem join_calls {base : Nat} {ok : Nat → Prop} (w : World) (A : Option Addr) (c : Nat) (xs : List ByteArray) (h : Kd.R Kd.string 9 w base ok (.slice A xs.length c) xs) (hn : 0 < xs.length) (hx : xs.length ≤ 40000000) (hsz : (joinB xs).size ≤ 40000000) :
    Calls Tryd.prog 52 #[.slice A xs.length c, .string ⟨#[32]⟩] w fun e w' => e = .returned (.string (joinB xs)) ∧ Below w.heap.size w w' := by
  obtain ⟨ad, c', he⟩ := Kd.R_slice1 h hn
  simp only [Value.slice.injEq, true_and] at he
  obtain ⟨rfl, rfl⟩ := he
  obtain ⟨g, rfl⟩ := Kd.R_head h
  obtain ⟨A2, c2, he2, hc2, hF⟩ := Kd.R_V (base' := 0) h
  simp only [Value.slice.injEq, true_and] at he2
  obtain ⟨rfl, rfl⟩ := he2
  have hlt := Kd.R_lt h g rfl
  refine Tryd.strings_Join g 0 c xs ⟨#[32]⟩ w ?_ hlt (by omega) hc2 ?_
  · intro j x hj
    have hjl := (List.getElem?_eq_some_iff.1 hj).1
    obtain ⟨ad, cs, e1, _, hK, hcell⟩ := Kd.C_get (Kd.F_now hF) (⟨#[]⟩ : ByteArray) (j : Int) (by omega) (by omega)
    cases e1
    have hK2 : cs = [.string (xs.getD j ⟨#[]⟩)] := hK
    subst hK2
    have := hcell 0 _ rfl
    have e2 : (⟨g, 0, none⟩ : Addr).add ((j : Int).toNat * Kd.string.sz + 0) = ⟨g, 0 + j, none⟩ := by
      unfold Addr.add
      by_cases h0 : j = 0
      · subst h0; simp [Kd.string, Kd.scalar]
      · simp [Kd.string, Kd.scalar, h0]
    rw [e2] at this
    rw [this]
    have hx2 : xs.getD j ⟨#[]⟩ = x := by rw [List.getD_eq_getElem?_getD, hj]; rfl
    rw [hx2]
  · have : (joinB xs).size = (Lib.join (xs.map (·.data.toList)) [32]).length := by simp [joinB, ByteArray.size]
    have e : ((⟨#[32]⟩ : ByteArray).data.toList) = [32] := rfl
    rw [e]; omega
set_option maxHeartbeats 8000000 in
set_option maxRecDepth 100000 in
theorem line_calls (k : Nat) (x : S42) (A9 : Option Addr) (c9 : Nat) (w : World) (s : ByteArray) (er : Int) (hG : GL w) (hr : Kd.C (Kd.int .i64) w A9 x.f9.length x.f9) (hc : x.f9.length ≤ c9) (hf : lineF k x = some (s, er)) :
    Calls Tryd.prog 25 #[.agg (SC x (.slice A9 x.f9.length c9))] w fun e w' => e = .returned (.tuple #[.string s, .int .i64 er]) ∧ Below w.heap.size w w' := by
  have hu := Tryd.underlying42
  unfold lineF at hf
  obtain ⟨⟨nm, ps⟩, hw, hf⟩ := Option.bind_eq_some_iff.1 hf
  simp only at hf
  have HX := Aside0.mk (show StepAt (w.alloc (.cells (SC x (.slice A9 x.f9.length c9)) 42)) w.heap.size x (.slice A9 x.f9.length c9) from blk_new w _)
  have HB := Aside0.mk (below_alloc (Below.refl w.heap.size w) (.cells (SC x (.slice A9 x.f9.length c9)) 42))
  have HG := Aside0.mk (hG.below HB.out)
  have HR := Aside0.mk (Kd.C_below hr HB.out)
  have HW := Aside0.mk hw
  have HF := Aside0.mk hf
  have z0 := (step_cells HX.out).1
  clear hG hr hw hf
  go_enter Tryd.func25, Tryd.ntmps25
  go_wp2_with fail
  refine (script_word.calls x.f0 nm ps _ HW.out).mono ?_
  rintro e w1 ⟨v5, rfl, hR5, hb⟩
  obtain ⟨Ap, cp, rfl, hcp, hFP⟩ := Kd.R_V (base' := 0) hR5
  have HB1 := Aside0.mk (HB.out.trans (hb.mono HB.out.size))
  have HG1 := Aside0.mk (HG.out.below hb)
  have HX1 := Aside0.mk (show StepAt w1 w.heap.size x (.slice A9 x.f9.length c9) from blk_below HX.out hb)
  have HR1 := Aside0.mk (Kd.C_below HR.out hb)
  have HP1 := Aside0.mk (Kd.F_now hFP)
  clear hb hR5 hFP HB HG HX HR z0
  by_cases c0 : nm.size = 0
  · have hf := HF.out
    rw [if_pos c0] at hf
    simp only [Option.some.injEq, Prod.mk.injEq] at hf
    obtain ⟨rfl, rfl⟩ := hf
    have b0 := empty_of nm c0
    go_wp2
    go_ret2
    exact ⟨rfl, HB1.out⟩
  · have b0 := empty_not nm c0
    go_wp2_with fail
    have HF2 := HF.out
    rw [if_neg c0] at HF2
    obtain ⟨ws, hws, HF3⟩ := Option.bind_eq_some_iff.1 HF2
    have HFR := Aside0.mk HF3
    have HWS := Aside0.mk hws
    have HLEN := Aside0.mk (show (nm :: ws).length ≤ 40000000 by
      by_cases hq : (joinB (nm :: ws)).size ≤ 40000000 ∧ (nm :: ws).length ≤ 40000000
      · exact hq.2
      · rw [if_neg hq] at HF3; cases HF3)
    have HO0 := Aside0.mk (strs_new w1 [nm] (by simp))
    have HCP := Aside0.mk hcp
    clear c0 b0 HF2 HF3 hws HF hcp
    go_loopg [6, 26] ps.length (fun n v6 v26 wr => ∃ (i : Nat) (us vs : List ByteArray), v26 = .int .i64 i ∧ Aside0 (n + i = ps.length) ∧ Aside0 (partsW x (ps.drop i) = some vs) ∧ Aside0 (us ++ vs = nm :: ws) ∧ Aside0 (Kd.R Kd.string 9 wr w1.heap.size (fun _ => True) v6 us) ∧ Aside0 (Below w1.heap.size w1 wr))
    case atStart => exact ⟨0, [nm], ws, rfl, ⟨by simp⟩, ⟨by simpa using HWS.out⟩, ⟨rfl⟩, HO0, ⟨below_alloc (Below.refl _ _) _⟩⟩
    case round =>
      obtain ⟨i, us, vs, rfl, HN, HV, HU, HO, HBW⟩ := hrel
      by_cases hi : i < ps.length
      · have hi' : decide (i < ps.length) = true := decide_eq_true hi
        have hpl : ps.length ≤ 9223372036854775807 := HP1.out.2.1
        obtain ⟨ad2, cs2, e2, _, hK2, hcell2⟩ := Kd.C_get (Kd.C_below HP1.out HBW.out) (0 : Int) (i : Int) (by omega) (by omega)
        have hK3 : cs2 = [.int .i64 (ps.getD i 0)] := hK2
        subst hK3 e2
        have hpc : wr.cell? (ad2.add i) = some (.int .i64 (ps.getD i 0)) := by simpa [Kd.int, Kd.scalar] using hcell2 0 _ rfl
        have hdr : ps.drop i = ps.getD i 0 :: ps.drop (i + 1) := by
          rw [List.drop_eq_getElem_cons hi]
          simp [List.getD_eq_getElem?_getD, List.getElem?_eq_getElem hi]
        have hv := HV.out
        rw [hdr, partsW] at hv
        obtain ⟨wa, hwa, hv⟩ := Option.bind_eq_some_iff.1 hv
        obtain ⟨wb, hwb, hv⟩ := Option.bind_eq_some_iff.1 hv
        obtain ⟨p, hp⟩ : ∃ p, p = ps.getD i 0 := ⟨_, rfl⟩
        rw [← hp] at hwa hpc
        have hv2 : wa ++ wb = vs := Option.some.inj hv
        subst hv2
        have HWB := Aside0.mk hwb
        have HU2 := Aside0.mk (show (us ++ wa) ++ wb = nm :: ws by rw [List.append_assoc]; exact HU.out)
        have HXW := Aside0.mk (show StepAt wr w.heap.size x (.slice A9 x.f9.length c9) from blk_below HX1.out HBW.out)
        clear hdr hcell2 hK2 hp hv hwb
        unfold partW at hwa
        by_cases p6 : p = 6
        · rw [if_pos p6] at hwa
          obtain ⟨q, hq, hwa⟩ := Option.bind_eq_some_iff.1 hwa
          obtain rfl : wa = [q] := (Option.some.inj hwa).symm
          have b6 : (p == 6) = true := by simpa using p6
          have x6 := (step_cells HXW.out).2.2.2.2.2.2.1
          have HQ := Aside0.mk hq
          clear hwa p6 hq
          go_wp2_with fail
          refine (script_Quote.calls x.f6 q wr HQ.out).mono ?_
          rintro e w5 ⟨rfl, hb⟩
          have HO5 := Aside0.mk (Kd.R_below HO.out hb)
          have HB5 := Aside0.mk (HBW.out.trans (hb.mono HBW.out.size))
          have hul : us.length ≤ 40000000 := by
            have h1 := congrArg List.length HU2.out
            have h2 := HLEN.out
            simp only [List.length_append] at h1
            omega
          clear hb x6 hpc
          go_wp2_with (at_builtin; refine Kd.R_append Kd.string (w0 := w1) w1.heap.size rfl (.tmp 41) (.tmp 45) 77 9 (.string ⟨#[]⟩) 16 rfl Tryd.underlying77 info9 rfl (by decide) (by decide) u6 us q [.string q] (fun _ => True) (fun _ => False) rfl rfl ?aP (fun _ hk => hk.elim) (fun _ _ => trivial) HO5.out HB5.out (below_size HB5.out) (by omega) ?_; (case aP => exact rfl); intro v7 w7 ho7 hb7 hg7 hat7)
          have HO7 := Aside0.mk ho7
          have HB7 := Aside0.mk hb7
          clear ho7 hb7 hg7 hat7
          go_wp2
          go_roundg (gk - 1)
          case measure => have := HN.out; omega
          case rel => exact ⟨i + 1, us ++ [q], wb, by go_num, ⟨by have := HN.out; omega⟩, HWB, HU2, HO7, HB7⟩
        · rw [if_neg p6] at hwa
          have b6 : (p == 6) = false := by simpa using p6
          by_cases p7 : p = 7
          · rw [if_pos p7] at hwa
            obtain ⟨q, hq, hwa⟩ := Option.bind_eq_some_iff.1 hwa
            obtain rfl : wa = [q] := (Option.some.inj hwa).symm
            have b7 : (p == 7) = true := by simpa using p7
            have x8 := (step_cells HXW.out).2.2.2.2.2.2.2.2.1
            have HQ := Aside0.mk hq
            clear hwa p7 hq
            go_wp2_with fail
            refine (script_Quote.calls x.f8 q wr HQ.out).mono ?_
            rintro e w5 ⟨rfl, hb⟩
            have HO5 := Aside0.mk (Kd.R_below HO.out hb)
            have HB5 := Aside0.mk (HBW.out.trans (hb.mono HBW.out.size))
            have hul : us.length ≤ 40000000 := by
              have h1 := congrArg List.length HU2.out
              have h2 := HLEN.out
              simp only [List.length_append] at h1
              omega
            clear hb x8 hpc
            go_wp2_with (at_builtin; refine Kd.R_append Kd.string (w0 := w1) w1.heap.size rfl (.tmp 49) (.tmp 53) 77 9 (.string ⟨#[]⟩) 16 rfl Tryd.underlying77 info9 rfl (by decide) (by decide) u6 us q [.string q] (fun _ => True) (fun _ => False) rfl rfl ?aP (fun _ hk => hk.elim) (fun _ _ => trivial) HO5.out HB5.out (below_size HB5.out) (by omega) ?_; (case aP => exact rfl); intro v7 w7 ho7 hb7 hg7 hat7)
            have HO7 := Aside0.mk ho7
            have HB7 := Aside0.mk hb7
            clear ho7 hb7 hg7 hat7
            go_wp2
            go_roundg (gk - 1)
            case measure => have := HN.out; omega
            case rel => exact ⟨i + 1, us ++ [q], wb, by go_num, ⟨by have := HN.out; omega⟩, HWB, HU2, HO7, HB7⟩
          · rw [if_neg p7] at hwa
            have b7 : (p == 7) = false := by simpa using p7
            by_cases p8 : p = 8
            · rw [if_pos p8] at hwa
              have b8 : (p == 8) = true := by simpa using p8
              have x9 := (step_cells HXW.out).2.2.2.2.2.2.2.2.2.1
              have HIW := Aside0.mk hwa
              have hfl : x.f9.length ≤ 9223372036854775807 := HR1.out.2.1
              have HFL := Aside0.mk hfl
              clear hwa p6 p7 p8 hfl
              obtain ⟨wo, rfl⟩ : ∃ wo : World, wo = wr := ⟨_, rfl⟩
              go_wp2_with fail
              clear x9 hpc
              go_loopg [6, 60] x.f9.length (fun n v6 v60 wr => ∃ (j : Nat) (us1 vs1 : List ByteArray), v60 = .int .i64 j ∧ Aside0 (n + j = x.f9.length) ∧ Aside0 (itoasW (x.f9.drop j) = some vs1) ∧ Aside0 (us1 ++ vs1 = us ++ wa) ∧ Aside0 (Kd.R Kd.string 9 wr w1.heap.size (fun _ => True) v6 us1) ∧ Aside0 (Below w1.heap.size w1 wr))
              case atStart => exact ⟨0, us, wa, rfl, ⟨by simp⟩, ⟨by simpa using HIW.out⟩, ⟨rfl⟩, HO, HBW⟩
              case round =>
                obtain ⟨j, us1, vs1, rfl, HN1, HV1, HU1, HOa, HBa⟩ := hrel
                by_cases hj : j < x.f9.length
                · have hj' : decide (j < x.f9.length) = true := decide_eq_true hj
                  have hfl := HFL.out
                  obtain ⟨ad3, cs3, e3, _, hK4, hcell4⟩ := Kd.C_get (Kd.C_below HR1.out HBa.out) (0 : Int) (j : Int) (by omega) (by omega)
                  have hK5 : cs3 = [.int .i64 (x.f9.getD j 0)] := hK4
                  subst hK5 e3
                  have hqc : wr.cell? (ad3.add j) = some (.int .i64 (x.f9.getD j 0)) := by simpa [Kd.int, Kd.scalar] using hcell4 0 _ rfl
                  have hdr : x.f9.drop j = x.f9.getD j 0 :: x.f9.drop (j + 1) := by
                    rw [List.drop_eq_getElem_cons hj]
                    simp [List.getD_eq_getElem?_getD, List.getElem?_eq_getElem hj]
                  have hv := HV1.out
                  rw [hdr, itoasW] at hv
                  obtain ⟨q, hq, hv⟩ := Option.bind_eq_some_iff.1 hv
                  obtain ⟨vs2, hvs2, hv⟩ := Option.bind_eq_some_iff.1 hv
                  obtain ⟨m, hm⟩ : ∃ m, m = x.f9.getD j 0 := ⟨_, rfl⟩
                  rw [← hm] at hq hqc
                  have hv2 : q :: vs2 = vs1 := Option.some.inj hv
                  subst hv2
                  have HQ := Aside0.mk hq
                  have HV2 := Aside0.mk hvs2
                  have HU3 := Aside0.mk (show (us1 ++ [q]) ++ vs2 = us ++ wa by rw [List.append_assoc]; exact HU1.out)
                  clear hdr hcell4 hK4 hm hv hvs2 hq
                  go_wp2_with fail
                  refine (strconv_Itoa_50.calls m q wr (HG1.out.below HBa.out) HQ.out).mono ?_
                  rintro e w5 ⟨rfl, hb⟩
                  have HO5 := Aside0.mk (Kd.R_below HOa.out hb)
                  have HB5 := Aside0.mk (HBa.out.trans (hb.mono HBa.out.size))
                  have hul : us1.length ≤ 40000000 := by
                    have h1 := congrArg List.length HU2.out
                    have h3 := congrArg List.length HU3.out
                    have h2 := HLEN.out
                    simp only [List.length_append] at h1 h3
                    omega
                  clear hb hqc
                  go_wp2_with (at_builtin; refine Kd.R_append Kd.string (w0 := w1) w1.heap.size rfl (.tmp 64) (.tmp 67) 77 9 (.string ⟨#[]⟩) 16 rfl Tryd.underlying77 info9 rfl (by decide) (by decide) u6 us1 q [.string q] (fun _ => True) (fun _ => False) rfl rfl ?aP (fun _ hk => hk.elim) (fun _ _ => trivial) HO5.out HB5.out (below_size HB5.out) (by omega) ?_; (case aP => exact rfl); intro v7 w7 ho7 hb7 hg7 hat7)
                  have HO7 := Aside0.mk ho7
                  have HB7 := Aside0.mk hb7
                  clear ho7 hb7 hg7 hat7
                  go_wp2
                  go_roundg (gk - 1)
                  case measure => have := HN1.out; omega
                  case rel => exact ⟨j + 1, us1 ++ [q], vs2, by go_num, ⟨by have := HN1.out; omega⟩, HV2, HU3, HO7, HB7⟩
                · have hj' : decide (j < x.f9.length) = false := decide_eq_false hj
                  have hdr : x.f9.drop j = [] := List.drop_eq_nil_of_le (by omega)
                  have hv := HV1.out
                  rw [hdr, itoasW] at hv
                  obtain rfl : vs1 = [] := (Option.some.inj hv).symm
                  have hu3 := HU1.out
                  rw [List.append_nil] at hu3
                  subst hu3
                  clear hdr hv
                  go_wp2
                  go_roundg (ps.length - (i + 1))
                  case measure => have := HN.out; omega
                  case rel => exact ⟨i + 1, us ++ wa, wb, by go_num, ⟨by omega⟩, HWB, HU2, HOa, HBa⟩
            · rw [if_neg p8] at hwa
              obtain ⟨q, hq, hwa⟩ := Option.bind_eq_some_iff.1 hwa
              obtain rfl : wa = [q] := (Option.some.inj hwa).symm
              have b8 : (p == 8) = false := by simpa using p8
              have xs := getN_cell x p _ wr w.heap.size HXW.out
              have HQ := Aside0.mk hq
              clear hwa p6 p7 p8 hq
              go_wp2_with fail
              refine (slot_calls p w.heap.size wr).mono ?_
              rintro e w4 ⟨rfl, rfl⟩
              go_wp2_with fail
              refine (strconv_Itoa_50.calls (getN x p) q _ (HG1.out.below HBW.out) HQ.out).mono ?_
              rintro e w5 ⟨rfl, hb⟩
              have HO5 := Aside0.mk (Kd.R_below HO.out hb)
              have HB5 := Aside0.mk (HBW.out.trans (hb.mono HBW.out.size))
              have hul : us.length ≤ 40000000 := by
                have h1 := congrArg List.length HU2.out
                have h2 := HLEN.out
                simp only [List.length_append] at h1
                omega
              clear hb xs hpc
              go_wp2_with (at_builtin; refine Kd.R_append Kd.string (w0 := w1) w1.heap.size rfl (.tmp 31) (.tmp 37) 77 9 (.string ⟨#[]⟩) 16 rfl Tryd.underlying77 info9 rfl (by decide) (by decide) u6 us q [.string q] (fun _ => True) (fun _ => False) rfl rfl ?aP (fun _ hk => hk.elim) (fun _ _ => trivial) HO5.out HB5.out (below_size HB5.out) (by omega) ?_; (case aP => exact rfl); intro v7 w7 ho7 hb7 hg7 hat7)
              have HO7 := Aside0.mk ho7
              have HB7 := Aside0.mk hb7
              clear ho7 hb7 hg7 hat7
              go_wp2
              go_roundg (gk - 1)
              case measure => have := HN.out; omega
              case rel => exact ⟨i + 1, us ++ [q], wb, by go_num, ⟨by have := HN.out; omega⟩, HWB, HU2, HO7, HB7⟩
      · have hi' : decide (i < ps.length) = false := decide_eq_false hi
        have hdr : ps.drop i = [] := List.drop_eq_nil_of_le (by omega)
        have hv := HV.out
        rw [hdr, partsW] at hv
        obtain rfl : vs = [] := (Option.some.inj hv).symm
        have hu2 := HU.out
        rw [List.append_nil] at hu2
        subst hu2
        obtain ⟨A6, c6, hv6, hc6, hF6⟩ := Kd.R_V (base' := 0) HO.out
        subst hv6
        have hfr := HFR.out
        by_cases hsz : (joinB (nm :: ws)).size ≤ 40000000 ∧ (nm :: ws).length ≤ 40000000
        · rw [if_pos hsz] at hfr
          obtain ⟨⟨y, ok⟩, hrd, hfr⟩ := Option.bind_eq_some_iff.1 hfr
          have HRD := Aside0.mk hrd
          have HFE := Aside0.mk hfr
          have HSZ := Aside0.mk hsz
          clear hrd hfr hsz
          have HBA := Aside0.mk (HB1.out.trans (HBW.out.mono HB1.out.size))
          go_wp2_with fail
          refine (join_calls wr A6 c6 (nm :: ws) HO.out (by simp) HSZ.out.2 HSZ.out.1).mono ?_
          rintro e w5 ⟨rfl, hb⟩
          have HB5 := Aside0.mk (HBA.out.trans (hb.mono HBA.out.size))
          have HG5 := Aside0.mk (HG1.out.below (HBW.out.trans (hb.mono HBW.out.size)))
          have HX5 := Aside0.mk (show StepAt w5 w.heap.size x (.slice A9 x.f9.length c9) from blk_below (blk_below HX1.out HBW.out) hb)
          have HR5 := Aside0.mk (Kd.C_below (Kd.C_below HR1.out HBW.out) hb)
          clear hb
          go_wp2_with fail
          refine (read_calls k _ w5 y ok HG5.out HSZ.out.1 HRD.out).mono ?_
          rintro e w6 ⟨v, rfl, hR6, hb⟩
          obtain ⟨Av, cv, rfl, hcv, hFv⟩ := Kd.R_V (base' := 0) hR6
          have HB6 := Aside0.mk (HB5.out.trans (hb.mono HB5.out.size))
          have HX6 := Aside0.mk (show StepAt w6 w.heap.size x (.slice A9 x.f9.length c9) from blk_below HX5.out hb)
          have HR6 := Aside0.mk (Kd.C_below HR5.out hb)
          have HV6 := Aside0.mk (And.intro (Kd.F_now hFv) hcv)
          clear hb hR6 hFv hcv
          cases ok with
          | false =>
            have hfr := HFE.out
            rw [if_pos rfl] at hfr
            simp only [Option.some.injEq, Prod.mk.injEq] at hfr
            obtain ⟨rfl, rfl⟩ := hfr
            have HZ6 := Aside0.mk (show StepAt (w6.alloc (.cells (SC z42 (.slice none 0 0)) 42)) w6.heap.size z42 (.slice none 0 0) from blk_new w6 _)
            have HB7 := Aside0.mk (below_alloc HB6.out (.cells (SC z42 (.slice none 0 0)) 42))
            go_wp2_with (first | ((with_reducible refine gate_store (t := 42) (p := 12) rfl ?_); refine store_event (t := 42) (p := 12) (v := .tmp 76) (w1 := putS (w6.alloc (.cells (SC z42 (.slice none 0 0)) 42)) w6.heap.size y (.slice Av y.f9.length cv)) rfl rfl rfl (store_step HZ6.out y (.slice Av y.f9.length cv) rfl _ _ (.tmp 12) (.tmp 76) rfl rfl rfl) ?_; intro w9 hw9; have HB9 : Below w.heap.size w w9 := (by rw [hw9]; exact putS_below HB7.out HB6.out.size _ _); clear hw9))
            go_ret2
            exact ⟨rfl, HB9⟩
          | true =>
            have hfr := HFE.out
            rw [if_neg (by simp)] at hfr
            obtain ⟨b, hsm, hfr⟩ := Option.bind_eq_some_iff.1 hfr
            have HZ6 := Aside0.mk (show StepAt (w6.alloc (.cells (SC z42 (.slice none 0 0)) 42)) w6.heap.size z42 (.slice none 0 0) from blk_new w6 _)
            have HB7 := Aside0.mk (below_alloc (Below.refl w6.heap.size w6) (.cells (SC z42 (.slice none 0 0)) 42))
            obtain ⟨w9, hw9⟩ : ∃ w9, w9 = putS (w6.alloc (.cells (SC z42 (.slice none 0 0)) 42)) w6.heap.size y (.slice Av y.f9.length cv) := ⟨_, rfl⟩
            have HBB := Aside0.mk (show Below w6.heap.size w6 w9 by rw [hw9]; exact putS_below HB7.out (Nat.le_refl _) _ _)
            have HX9 := Aside0.mk (show StepAt w9 w.heap.size x (.slice A9 x.f9.length c9) from blk_below HX6.out HBB.out)
            have HY9 := Aside0.mk (show StepAt w9 w6.heap.size y (.slice Av y.f9.length cv) by rw [hw9]; exact putS_at HZ6.out _ _)
            have HSM := Aside0.mk (script_Same.calls k x.f0 x.f1 x.f2 x.f3 x.f4 x.f5 x.f6 x.f7 x.f8 A9 c9 x.f9 y.f0 y.f1 y.f2 y.f3 y.f4 y.f5 y.f6 y.f7 y.f8 Av cv y.f9 b w9 (Kd.C_below HR6.out HBB.out) hc (Kd.C_below HV6.out.1 HBB.out) HV6.out.2 hsm)
            have HFB := Aside0.mk hfr
            have HEQ := Aside0.mk hw9
            obtain ⟨x0, x1, x2, x3, x4, x5, x6, x7, x8, x9, _⟩ := step_cells HX9.out
            obtain ⟨y0, y1, y2, y3, y4, y5, y6, y7, y8, y9, _⟩ := step_cells HY9.out
            clear hfr hsm hw9
            go_wp2_with (first | ((with_reducible refine gate_store (t := 42) (p := 12) rfl ?_); refine store_event (t := 42) (p := 12) (v := .tmp 76) (w1 := w9) rfl rfl rfl (by rw [HEQ.out]; exact store_step HZ6.out y (.slice Av y.f9.length cv) rfl _ _ (.tmp 12) (.tmp 76) rfl rfl rfl) ?_; intro w10 hw10; subst hw10))
            refine HSM.out.mono ?_
            rintro e w10 ⟨rfl, hb⟩
            have HB10 := Aside0.mk (HB6.out.trans ((HBB.out.trans (hb.mono HBB.out.size)).mono HB6.out.size))
            clear hb x0 x1 x2 x3 x4 x5 x6 x7 x8 x9 y0 y1 y2 y3 y4 y5 y6 y7 y8 y9
            cases b with
            | false =>
              have hfr := HFB.out
              rw [if_neg (by simp)] at hfr
              simp only [Option.some.injEq, Prod.mk.injEq] at hfr
              obtain ⟨rfl, rfl⟩ := hfr
              go_wp2
              go_ret2
              exact ⟨rfl, HB10.out⟩
            | true =>
              have hfr := HFB.out
              rw [if_pos rfl] at hfr
              simp only [Option.some.injEq, Prod.mk.injEq] at hfr
              obtain ⟨rfl, rfl⟩ := hfr
              go_wp2
              go_ret2
              exact ⟨rfl, HB10.out⟩
        · rw [if_neg hsz] at hfr; cases hfr
end Go.Proofs.YtcgkmomhjincgaaDoor.LibQ.Scr
