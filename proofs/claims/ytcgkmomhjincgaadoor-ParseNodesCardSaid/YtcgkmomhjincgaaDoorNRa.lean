/- The reader of parse and its laws, part Ra: contracts by hand. -/
import Derived.Test.YtcgkmomhjincgaaDoorNLib0
import Derived.Test.YtcgkmomhjincgaaDoorNLib7
namespace Go.Proofs.YtcgkmomhjincgaaDoor.Lib.Scr
open Go.RowKit Go.Proofs.YtcgkmomhjincgaaDoor.Lib Go.Proofs.YtcgkmomhjincgaaDoorW.PrintWords Go.Proofs.YtcgkmomhjincgaaDoorW.PrintLast Go.Proofs.YtcgkmomhjincgaaDoorW.PrintMore
set_option linter.unusedVariables false
set_option linter.unusedSimpArgs false
attribute [local go_sem] max2_int min2_int max_two min_two max_three min_three max_four min_four
structure PSt where
  at_ : Nat
  deep : Nat
  err : Int
structure BelowBut (g : Nat) (w w' : World) : Prop where
  os : w'.os = w.os
  tape : w'.tape = w.tape
  output : w'.output = w.output
  size : w.heap.size ≤ w'.heap.size
  block : ∀ k, k < w.heap.size → k ≠ g → w'.heap[k]? = w.heap[k]?
theorem BelowBut.refl (g : Nat) (w : World) : BelowBut g w w := ⟨rfl, rfl, rfl, Nat.le_refl _, fun _ _ _ => rfl⟩
theorem BelowBut.trans {g : Nat} {a b c : World} (h : BelowBut g a b) (k : BelowBut g b c) : BelowBut g a c :=
  ⟨k.os.trans h.os, k.tape.trans h.tape, k.output.trans h.output, Nat.le_trans h.size k.size, fun i hi hg => (k.block i (Nat.lt_of_lt_of_le hi h.size) hg).trans (h.block i hi hg)⟩
theorem BelowBut.below {g : Nat} {w w' : World} (h : Below w.heap.size w w') : BelowBut g w w' := ⟨h.os, h.tape, h.output, h.size, fun k hk _ => h.block k hk⟩
theorem BelowBut.then_ {g : Nat} {w w1 w2 : World} (h : BelowBut g w w1) (k : Below w1.heap.size w1 w2) : BelowBut g w w2 := h.trans (.below k)
theorem BelowBut.alloc {g : Nat} {w w1 : World} (h : BelowBut g w w1) (o : Obj) : BelowBut g w (w1.alloc o) := h.then_ (below_alloc (Below.refl _ _) o)
theorem BelowBut.drewN {g : Nat} {w w1 : World} (h : BelowBut g w w1) (n : Nat) : BelowBut g w (w1.drewN n) := h.then_ (pw_below_drewN (Below.refl _ _) n)
theorem BelowBut.drew {g : Nat} {w w1 : World} (h : BelowBut g w w1) : BelowBut g w w1.drew := h.then_ (below_drew (Below.refl _ _))
theorem BelowBut.set {g : Nat} {w w1 : World} (h : BelowBut g w w1) (j : Nat) (v : Value) : BelowBut g w (w1.setCell ⟨g, j, none⟩ v) :=
  h.trans ⟨rfl, rfl, rfl, by simp [World.setCell], fun k _ hk => Below.heap_setCell w1 ⟨g, j, none⟩ v k hk⟩
theorem BelowBut.new {g : Nat} {w w1 : World} (h : BelowBut g w w1) {p : Addr} (hp : w.heap.size ≤ p.block) (v : Value) : BelowBut g w (w1.setCell p v) :=
  ⟨h.os, h.tape, h.output, by simp [World.setCell]; exact h.size, fun k hk hkg => (Below.heap_setCell w1 p v k (by omega)).trans (h.block k hk hkg)⟩
def stCells (s : ByteArray) (st : PSt) : Array Value := #[.string s, .int .i64 (st.at_ : Int), .int .i64 (st.deep : Int), .int .i64 st.err]
structure RS (w0 w : World) (g : Nat) (s : ByteArray) (st : PSt) : Prop where
  gl : GL w0
  below : Below w0.heap.size w0 w
  ge : w0.heap.size ≤ g
  blk : w.heap[g]? = some (.cells (stCells s st) 60 (0, 0))
  le : st.at_ ≤ s.size
  sz : s.size ≤ 120
  dp : st.deep ≤ 1000
theorem RS.glw {w0 w : World} {g : Nat} {s : ByteArray} {st : PSt} (h : RS w0 w g s st) : GL w := h.gl.below h.below
theorem RS.lt {w0 w : World} {g : Nat} {s : ByteArray} {st : PSt} (h : RS w0 w g s st) : g < w.heap.size := blk_lt h.blk
theorem RS.c0 {w0 w : World} {g : Nat} {s : ByteArray} {st : PSt} (h : RS w0 w g s st) : w.cell? ⟨g, 0, none⟩ = some (.string s) := (blk_cell h.blk 0).trans rfl
theorem RS.c1 {w0 w : World} {g : Nat} {s : ByteArray} {st : PSt} (h : RS w0 w g s st) : w.cell? ⟨g, 1, none⟩ = some (.int .i64 (st.at_ : Int)) := (blk_cell h.blk 1).trans rfl
theorem RS.c2 {w0 w : World} {g : Nat} {s : ByteArray} {st : PSt} (h : RS w0 w g s st) : w.cell? ⟨g, 2, none⟩ = some (.int .i64 (st.deep : Int)) := (blk_cell h.blk 2).trans rfl
theorem RS.c3 {w0 w : World} {g : Nat} {s : ByteArray} {st : PSt} (h : RS w0 w g s st) : w.cell? ⟨g, 3, none⟩ = some (.int .i64 st.err) := (blk_cell h.blk 3).trans rfl
theorem RS.fr {w0 w : World} {g : Nat} {s : ByteArray} {st : PSt} (h : RS w0 w g s st) (j : Nat) : w.frozen? ⟨g, j, none⟩ = false := blk_frozen h.blk j
theorem RS.then_ {w0 w w1 : World} {g : Nat} {s : ByteArray} {st : PSt} (h : RS w0 w g s st) (hb : Below w.heap.size w w1) : RS w0 w1 g s st :=
  ⟨h.gl, h.below.trans (hb.mono h.below.size), h.ge, blk_below h.blk hb, h.le, h.sz, h.dp⟩
theorem RS.alloc {w0 w : World} {g : Nat} {s : ByteArray} {st : PSt} (h : RS w0 w g s st) (o : Obj) : RS w0 (w.alloc o) g s st := h.then_ (below_alloc (Below.refl _ _) o)
theorem RS.drewN {w0 w : World} {g : Nat} {s : ByteArray} {st : PSt} (h : RS w0 w g s st) (n : Nat) : RS w0 (w.drewN n) g s st := h.then_ (pw_below_drewN (Below.refl _ _) n)
theorem RS.drew {w0 w : World} {g : Nat} {s : ByteArray} {st : PSt} (h : RS w0 w g s st) : RS w0 w.drew g s st := h.then_ (below_drew (Below.refl _ _))
theorem RS.at {w0 w : World} {g : Nat} {s : ByteArray} {st : PSt} (h : RS w0 w g s st) (n : Nat) (hn : n ≤ s.size) (v : Value) (hv : v = .int .i64 (n : Int)) : RS w0 (w.setCell ⟨g, 1, none⟩ v) g s { st with at_ := n } := by
  subst hv
  exact ⟨h.gl, h.below.setCell h.ge _, h.ge, by simpa [stCells] using blk_set h.blk 1 (.int .i64 (n : Int)), hn, h.sz, h.dp⟩
theorem RS.deepen {w0 w : World} {g : Nat} {s : ByteArray} {st : PSt} (h : RS w0 w g s st) (n : Nat) (hn : n ≤ 1000) (v : Value) (hv : v = .int .i64 (n : Int)) : RS w0 (w.setCell ⟨g, 2, none⟩ v) g s { st with deep := n } := by
  subst hv
  exact ⟨h.gl, h.below.setCell h.ge _, h.ge, by simpa [stCells] using blk_set h.blk 2 (.int .i64 (n : Int)), h.le, h.sz, hn⟩
theorem RS.fails {w0 w : World} {g : Nat} {s : ByteArray} {st : PSt} (h : RS w0 w g s st) (e : Int) : RS w0 (w.setCell ⟨g, 3, none⟩ (.int .i64 e)) g s { st with err := e } :=
  ⟨h.gl, h.below.setCell h.ge _, h.ge, by simpa [stCells] using blk_set h.blk 3 (.int .i64 e), h.le, h.sz, h.dp⟩
theorem RS.far {w0 w : World} {g : Nat} {s : ByteArray} {st : PSt} (h : RS w0 w g s st) {p : Addr} (hp : g ≠ p.block) (hp2 : w0.heap.size ≤ p.block) (v : Value) : RS w0 (w.setCell p v) g s st :=
  ⟨h.gl, h.below.setCell hp2 _, h.ge, blk_far h.blk hp v, h.le, h.sz, h.dp⟩
theorem RS.keep {w0 w w1 : World} {g : Nat} {s : ByteArray} {st : PSt} (h : RS w0 w g s st) (hb : BelowBut g w w1) : Below w0.heap.size w0 w1 :=
  ⟨hb.os.trans h.below.os, hb.tape.trans h.below.tape, hb.output.trans h.below.output, Nat.le_trans h.below.size hb.size, fun k hk => (hb.block k (Nat.lt_of_lt_of_le hk h.below.size) (by have := h.ge; omega)).trans (h.below.block k hk)⟩
def byteAt (s : ByteArray) (i : Nat) : Int := bt s (i : Int)
def skipGo (s : ByteArray) : Nat → Nat → Nat
  | 0, i => i
  | n + 1, i => if i < s.size ∧ byteAt s i = 32 then skipGo s n (i + 1) else i
def skipB (s : ByteArray) (i : Nat) : Nat := skipGo s (s.size - i) i
def peekF (s : ByteArray) (st : PSt) : Int × PSt := (if skipB s st.at_ < s.size then byteAt s (skipB s st.at_) else -1, { st with at_ := skipB s st.at_ })
def takeF (s : ByteArray) (st : PSt) (c : Int) : Bool × PSt := if st.at_ < s.size ∧ byteAt s st.at_ = c then (true, { st with at_ := st.at_ + 1 }) else (false, st)
def failF (s : ByteArray) (st : PSt) (e : Int) : PSt := if st.err = 0 then { st with err := e, at_ := s.size } else st
theorem skipGo_le (s : ByteArray) : ∀ n i, i ≤ s.size → skipGo s n i ≤ s.size
  | 0, i, h => h
  | n + 1, i, h => by
    unfold skipGo
    split
    · exact skipGo_le s n (i + 1) (by omega)
    · exact h
theorem byte_get (s : ByteArray) (i : Nat) (h : i < s.size) : ((s[i]'h).toNat : Int) = byteAt s i := bt_at s (i : Int) (by simpa using h)
theorem ret_i {k : IntKind} {a b : Int} (h : a = b) : Ending.returned (.int k a) = .returned (.int k b) := by rw [h]
set_option maxHeartbeats 4000000 in
set_option maxRecDepth 100000 in
theorem peek_calls (w0 w : World) (g : Nat) (s : ByteArray) (st : PSt) (h : RS w0 w g s st) :
    Calls Tryd.prog 37 #[.pointer (some ⟨g, 0, none⟩)] w fun e w' => e = .returned (.int .i64 (peekF s st).1) ∧ RS w0 w' g s (peekF s st).2 ∧ BelowBut g w w' := by
  have HS := Aside0.mk h
  have hsz := h.sz
  clear h
  go_enter Tryd.func37, Tryd.ntmps37
  go_wp2_with fail
  go_loopg [] (s.size - st.at_) (fun n wr => ∃ i : Nat, Aside0 (n = s.size - i) ∧ Aside0 (skipGo s n i = skipB s st.at_) ∧ Aside0 (RS w0 wr g s { st with at_ := i }) ∧ Aside0 (BelowBut g w wr))
  case atStart => exact ⟨st.at_, ⟨rfl⟩, ⟨rfl⟩, HS, ⟨BelowBut.refl _ _⟩⟩
  case round =>
    obtain ⟨i, HN, HK, HR, HB⟩ := hrel
    have hc0 := HR.out.c0
    have hc1 := HR.out.c1
    have hfr := HR.out.fr 1
    have hle := HR.out.le
    simp only at hc1 hle
    by_cases hi : i < s.size
    · have hb := byte_get s i hi
      obtain ⟨hr0, hr1⟩ : 0 ≤ byteAt s i ∧ byteAt s i ≤ 255 := bt_range s i
      have b1 : decide ((i : Int) < (s.size : Int)) = true := by simpa using hi
      by_cases c : byteAt s i = 32
      · have b2 : (byteAt s i == 32) = true := by simpa using c
        have HK2 := Aside0.mk (show skipGo s (gk - 1) (i + 1) = skipB s st.at_ by
          have h1 := HK.out
          have h2 := HN.out
          obtain ⟨m, hm⟩ : ∃ m, gk = m + 1 := ⟨gk - 1, by omega⟩
          rw [hm] at h1 ⊢
          simp only [skipGo] at h1
          rw [if_pos ⟨hi, c⟩] at h1
          simpa using h1)
        clear c HK
        go_wp2
        go_quiet (fail)
        go_wp2
        go_roundg (gk - 1)
        case measure => have := HN.out; omega
        case rel => exact ⟨i + 1, ⟨by have := HN.out; omega⟩, HK2, ⟨(HR.out.drewN _).at (i + 1) hi _ (by simp)⟩, ⟨(HB.out.drewN _).set 1 _⟩⟩
      · have b2 : (byteAt s i == 32) = false := by simpa using c
        have HK2 := Aside0.mk (show i = skipB s st.at_ by
          have h1 := HK.out
          have h2 := HN.out
          obtain ⟨m, hm⟩ : ∃ m, gk = m + 1 := ⟨gk - 1, by omega⟩
          rw [hm] at h1
          simp only [skipGo] at h1
          rw [if_neg (fun hh => c hh.2)] at h1
          exact h1)
        have HE := Aside0.mk (show (if skipB s st.at_ < s.size then byteAt s (skipB s st.at_) else -1) = byteAt s i by rw [← HK2.out, if_pos hi])
        have b3 : ((i : Int) == (s.size : Int)) = false := by simp; omega
        clear c HK
        go_wp2
        go_quiet (fail)
        go_wp2
        go_quiet (fail)
        go_wp2
        go_quiet (fail)
        go_wp2
        go_ret
        exact ⟨ret_i HE.out.symm, (by have h1 := HR.out; rw [HK2.out] at h1; repeat (first | exact h1 | apply RS.drewN | apply RS.drew)), (by repeat (first | exact HB.out | apply BelowBut.drewN | apply BelowBut.drew))⟩
    · have HK2 := Aside0.mk (show i = skipB s st.at_ by
        have h1 := HK.out
        have h2 := HN.out
        have h3 : gk = 0 := by omega
        rw [h3] at h1
        exact h1)
      have HE := Aside0.mk (show (if skipB s st.at_ < s.size then byteAt s (skipB s st.at_) else -1) = -1 by rw [← HK2.out, if_neg hi])
      have b1 : decide (i < s.size) = false := by simpa using hi
      have b3 : ((i : Int) == (s.size : Int)) = true := by simp; omega
      clear hi HK
      go_wp2
      go_quiet (fail)
      go_wp2
      go_quiet (fail)
      go_wp2
      go_ret
      exact ⟨ret_i HE.out.symm, (by have h1 := HR.out; rw [HK2.out] at h1; repeat (first | exact h1 | apply RS.drewN | apply RS.drew)), (by repeat (first | exact HB.out | apply BelowBut.drewN | apply BelowBut.drew))⟩
theorem ret_b {a b : Bool} (h : a = b) : Ending.returned (.bool a) = .returned (.bool b) := by rw [h]
set_option maxHeartbeats 4000000 in
set_option maxRecDepth 100000 in
theorem take_calls (w0 w : World) (g : Nat) (s : ByteArray) (st : PSt) (c : Int) (h : RS w0 w g s st) :
    Calls Tryd.prog 96 #[.pointer (some ⟨g, 0, none⟩), .int .u8 c] w fun e w' => e = .returned (.bool (takeF s st c).1) ∧ RS w0 w' g s (takeF s st c).2 ∧ BelowBut g w w' := by
  have HS := Aside0.mk h
  have hsz := h.sz
  have hc0 := h.c0
  have hc1 := h.c1
  have hfr := h.fr 1
  have hle := h.le
  clear h
  by_cases hi : st.at_ < s.size
  · have hb := byte_get s st.at_ hi
    have b1 : decide (st.at_ < s.size) = true := by simpa using hi
    by_cases c1 : byteAt s st.at_ = c
    · have HE := Aside0.mk (show takeF s st c = (true, { st with at_ := st.at_ + 1 }) by unfold takeF; rw [if_pos ⟨hi, c1⟩])
      have b2 : (byteAt s st.at_ == c) = true := by simpa using c1
      clear c1
      go_enter Tryd.func96, Tryd.ntmps96
      go_wp2
      go_quiet (fail)
      go_wp2
      go_ret
      exact ⟨ret_b (by rw [HE.out]), by rw [HE.out]; exact (HS.out.drewN _).at (st.at_ + 1) hi _ (by simp), ((BelowBut.refl _ _).drewN _).set 1 _⟩
    · have HE := Aside0.mk (show takeF s st c = (false, st) by unfold takeF; rw [if_neg (fun hh => c1 hh.2)])
      have b2 : (byteAt s st.at_ == c) = false := by simpa using c1
      clear c1
      go_enter Tryd.func96, Tryd.ntmps96
      go_wp2
      go_quiet (fail)
      go_wp2
      go_ret
      exact ⟨ret_b (by rw [HE.out]), by rw [HE.out]; exact HS.out.drewN _, (BelowBut.refl _ _).drewN _⟩
  · have b1 : decide (st.at_ < s.size) = false := by simpa using hi
    have HE := Aside0.mk (show takeF s st c = (false, st) by unfold takeF; rw [if_neg (fun hh => hi hh.1)])
    clear hi
    go_enter Tryd.func96, Tryd.ntmps96
    go_wp2
    go_quiet (fail)
    go_wp2
    go_ret
    exact ⟨ret_b (by rw [HE.out]), by rw [HE.out]; exact HS.out.drewN _, (BelowBut.refl _ _).drewN _⟩
set_option maxHeartbeats 4000000 in
set_option maxRecDepth 100000 in
theorem fail_calls (w0 w : World) (g : Nat) (s : ByteArray) (st : PSt) (e0 : Int) (h : RS w0 w g s st) :
    Calls Tryd.prog 38 #[.pointer (some ⟨g, 0, none⟩), .int .i64 e0] w fun e w' => e = .returned (.agg #[.int .i64 0, .int .i64 0, .slice none 0 0, .slice none 0 0]) ∧ RS w0 w' g s (failF s st e0) ∧ BelowBut g w w' := by
  have HS := Aside0.mk h
  have hsz := h.sz
  have hc0 := h.c0
  have hc1 := h.c1
  have hc3 := h.c3
  have hfr := h.fr 1
  have hfr3 := h.fr 3
  have hle := h.le
  have hlt := h.lt
  have hne : ¬ (g = w.heap.size) := by omega
  have hbl := h.below.size
  have hu := Tryd.underlying26
  clear h
  by_cases hi : st.err = 0
  · have HE := Aside0.mk (show failF s st e0 = { st with err := e0, at_ := s.size } by unfold failF; rw [if_pos hi])
    have b1 : (st.err == 0) = true := by simpa using hi
    clear hi
    go_enter Tryd.func38, Tryd.ntmps38
    go_wp2
    refine bodyPost_ret (v := .agg #[.int .i64 0, .int .i64 0, .slice none 0 0, .slice none 0 0]) (by simp [results, Tryd.results38, go_sem, hu]) rfl ⟨rfl, ?_, ?_⟩
    · rw [HE.out]
      exact ((HS.out.fails e0).at s.size (Nat.le_refl _) _ rfl).alloc _
    · exact (((BelowBut.refl g w).set 3 _).set 1 _).alloc _
  · have HE := Aside0.mk (show failF s st e0 = st by unfold failF; rw [if_neg hi])
    have b1 : (st.err == 0) = false := by simpa using hi
    clear hi
    go_enter Tryd.func38, Tryd.ntmps38
    go_wp2
    refine bodyPost_ret (v := .agg #[.int .i64 0, .int .i64 0, .slice none 0 0, .slice none 0 0]) (by simp [results, Tryd.results38, go_sem, hu]) rfl ⟨rfl, ?_, ?_⟩
    · rw [HE.out]
      exact HS.out.alloc _
    · exact (BelowBut.refl g w).alloc _
def wordGo : Nat → ByteArray → Nat → Option Nat
  | 0, _, _ => none
  | k + 1, s, i => (utf_Next.f s (i : Int)).bind fun t => if t.1 < 0 then some i else (fold_Word.f k t.1).bind fun b => if b = true then (if i + t.2.toNat ≤ s.size ∧ 0 ≤ t.2 then wordGo k s (i + t.2.toNat) else none) else some i
theorem wordGo_le (s : ByteArray) : ∀ k i j, i ≤ s.size → wordGo k s i = some j → i ≤ j ∧ j ≤ s.size
  | 0, i, j, hi, h => by simp [wordGo] at h
  | k + 1, i, j, hi, h => by
    unfold wordGo at h
    obtain ⟨t, _, h⟩ := Option.bind_eq_some_iff.1 h
    by_cases c : t.1 < 0
    · rw [if_pos c] at h; cases h; omega
    · rw [if_neg c] at h
      obtain ⟨b, _, h⟩ := Option.bind_eq_some_iff.1 h
      cases b with
      | false => simp at h; omega
      | true =>
        rw [if_pos rfl] at h
        by_cases c2 : i + t.2.toNat ≤ s.size ∧ 0 ≤ t.2
        · rw [if_pos c2] at h
          have := wordGo_le s k _ j c2.1 h
          omega
        · rw [if_neg c2] at h; cases h
theorem bcell {w w1 : World} (hb : Below w.heap.size w w1) {b o : Nat} {v : Value} (h : w.cell? ⟨b, o, none⟩ = some v) : w1.cell? ⟨b, o, none⟩ = some v := pw_cell_below hb h
set_option maxHeartbeats 4000000 in
set_option maxRecDepth 100000 in
theorem word_calls (k : Nat) (w0 w : World) (g : Nat) (s : ByteArray) (st : PSt) (j : Nat) (h : RS w0 w g s st) (hf : wordGo k s st.at_ = some j) :
    Calls Tryd.prog 111 #[.pointer (some ⟨g, 0, none⟩)] w fun e w' => e = .returned (.string (s.extract st.at_ j)) ∧ RS w0 w' g s { st with at_ := j } ∧ BelowBut g w w' := by
  have HS := Aside0.mk h
  have hsz := h.sz
  have hc0 := h.c0
  have hc1 := h.c1
  have hj := wordGo_le s k st.at_ j h.le hf
  have HF := Aside0.mk hf
  clear h hf
  go_enter Tryd.func111, Tryd.ntmps111
  go_wp2
  clear hc0 hc1
  go_loopg [] k (fun n wr => ∃ i : Nat, Aside0 (st.at_ ≤ i) ∧ Aside0 (wordGo n s i = some j) ∧ Aside0 (RS w0 wr g s { st with at_ := i }) ∧ Aside0 (BelowBut g w wr))
  case atStart => exact ⟨st.at_, ⟨Nat.le_refl _⟩, HF, HS, ⟨BelowBut.refl _ _⟩⟩
  case round =>
    obtain ⟨i, HI, HK, HR, HB⟩ := hrel
    have hc0 := HR.out.c0
    have hc1 := HR.out.c1
    have hle := HR.out.le
    simp only at hc1 hle
    cases gk with
    | zero => exact absurd HK.out (by simp [wordGo])
    | succ k1 =>
      have hk := HK.out
      unfold wordGo at hk
      obtain ⟨⟨x, n⟩, hn, hk⟩ := Option.bind_eq_some_iff.1 hk
      simp only at hk
      have HN := Aside0.mk hn
      clear HK hn HF
      go_wp2_with fail
      go_region_held3 (fun w' => w'.cell? ⟨g, 0, none⟩ = some (.string s) ∧ w'.cell? ⟨g, 1, none⟩ = some (.int .i64 (i : Int))) (go_keep) ((go_at_call 71; refine (utf_Next.calls _ _ x n _ HN.out).mono ?_; rintro e w1 ⟨rfl, hb⟩; have hc0' := bcell hb hc0; have hc1' := bcell hb hc1))
      have HR1 := Aside0.mk ((HR.out.drew).then_ hb)
      have HB1 := Aside0.mk ((HB.out.drew).then_ hb)
      have hfr := HR1.out.fr 1
      clear hb hc0 hc1 HR HB
      by_cases c1 : x < 0
      · rw [if_pos c1] at hk
        have HE := Aside0.mk (Option.some.inj hk)
        have b1 : decide (x < 0) = true := by simpa using c1
        have hij := HI.out
        clear c1 hk
        go_wp2
        go_quiet (fail)
        go_wp2
        go_ret
        exact ⟨ret_str (by rw [HE.out]), by rw [← HE.out]; exact HR1.out.drewN _, HB1.out.drewN _⟩
      · rw [if_neg c1] at hk
        obtain ⟨b, hw, hk⟩ := Option.bind_eq_some_iff.1 hk
        have HW := Aside0.mk hw
        have b1 : decide (x < 0) = false := by simpa using c1
        clear c1 hw
        cases b with
        | false =>
          have HE := Aside0.mk (show i = j by simpa using hk)
          have hij := HI.out
          clear hk
          go_wp2_with (go_at_call 128; refine (fold_Word.calls k1 x false _ HW.out).mono ?_; rintro e w' ⟨rfl, ⟨nd, rfl⟩⟩)
          go_quiet (fail)
          go_wp2
          go_ret
          exact ⟨ret_str (by rw [HE.out]), by rw [← HE.out]; repeat (first | exact HR1.out | apply RS.drewN), by repeat (first | exact HB1.out | apply BelowBut.drewN)⟩
        | true =>
          rw [if_pos rfl] at hk
          by_cases c2 : i + n.toNat ≤ s.size ∧ 0 ≤ n
          · rw [if_pos c2] at hk
            obtain ⟨m, rfl⟩ := Int.eq_ofNat_of_zero_le c2.2
            have hm : i + m ≤ s.size := by simpa using c2.1
            have HK2 := Aside0.mk hk
            have hij := HI.out
            clear hk c2
            go_wp2_with (go_at_call 128; refine (fold_Word.calls k1 x true _ HW.out).mono ?_; rintro e w' ⟨rfl, ⟨nd, rfl⟩⟩)
            go_roundg k1
            case measure => omega
            case rel => exact ⟨i + m, ⟨by omega⟩, ⟨by simpa using HK2.out⟩, ⟨(HR1.out.drewN _).at (i + m) hm _ (by simp)⟩, ⟨(HB1.out.drewN _).set 1 _⟩⟩
          · rw [if_neg c2] at hk; cases hk
def NodeAt (w : World) (b : Nat) (x : S26) (A2 : Option Addr) (c2 : Nat) (A3 : Option Addr) (c3 : Nat) : Prop :=
  Kd.FK k26 w (fun k => b ≤ k) x [.int .i64 x.f0, .int .i64 x.f1, .slice A2 x.f2.length c2, .slice A3 x.f3.length c3]
theorem NodeAt.then_ {w w1 : World} {b : Nat} {x : S26} {A2 A3 : Option Addr} {c2 c3 : Nat} (h : NodeAt w b x A2 c2 A3 c3) (hb : Below w.heap.size w w1) : NodeAt w1 b x A2 c2 A3 c3 := Kd.FK_below h hb
theorem NodeAt.from_ {w : World} {b b' : Nat} {x : S26} {A2 A3 : Option Addr} {c2 c3 : Nat} (h : NodeAt w b x A2 c2 A3 c3) (hb : b' ≤ b) : NodeAt w b' x A2 c2 A3 c3 := Kd.FK_mono h (fun _ hk => Nat.le_trans hb hk)
theorem NodeAt.set {w : World} {b : Nat} {x : S26} {A2 A3 : Option Addr} {c2 c3 : Nat} (h : NodeAt w b x A2 c2 A3 c3) {p : Addr} (hp : p.block < b) (v : Value) : NodeAt (w.setCell p v) b x A2 c2 A3 c3 :=
  Kd.FK_step h (fun k hk _ => Below.heap_setCell w p v k (by omega))
theorem NodeAt.but {w w1 : World} {g b : Nat} {x : S26} {A2 A3 : Option Addr} {c2 c3 : Nat} (h : NodeAt w b x A2 c2 A3 c3) (hb : BelowBut g w w1) (hg : g < b) : NodeAt w1 b x A2 c2 A3 c3 :=
  Kd.FK_step h (fun k hk hlt => hb.block k hlt (by omega))
def zN : S26 := ⟨0, 0, [], []⟩
theorem NodeAt.zero (w : World) (b : Nat) : NodeAt w b zN none 0 none 0 := k26_mkF w _ zN (Nat.le_refl _) (Kd.F_nil _ _ _) (Nat.le_refl _) (Kd.F_nil _ _ _)
theorem putN_blk {W : World} {b : Nat} {a0 a1 a2 a3 : Value} (h : W.heap[b]? = some (.cells #[a0, a1, a2, a3] 26 (0, 0))) (v0 v1 v2 v3 : Value) :
    ((((W.setCell ⟨b, 0, none⟩ v0).setCell ⟨b, 1, none⟩ v1).setCell ⟨b, 2, none⟩ v2).setCell ⟨b, 3, none⟩ v3).heap[b]? = some (.cells #[v0, v1, v2, v3] 26 (0, 0)) := by
  have h1 := blk_set h 0 v0
  have h2 := blk_set h1 1 v1
  have h3 := blk_set h2 2 v2
  have h4 := blk_set h3 3 v3
  simpa using h4
theorem BelowBut.putN {g : Nat} {w W : World} {b : Nat} (h : BelowBut g w W) (hb : w.heap.size ≤ b) (v0 v1 v2 v3 : Value) : BelowBut g w ((((W.setCell ⟨b, 0, none⟩ v0).setCell ⟨b, 1, none⟩ v1).setCell ⟨b, 2, none⟩ v2).setCell ⟨b, 3, none⟩ v3) :=
  (((h.new hb _).new hb _).new hb _).new hb _
theorem NodeAt.putN {W : World} {b b' : Nat} {x : S26} {A2 A3 : Option Addr} {c2 c3 : Nat} (h : NodeAt W b' x A2 c2 A3 c3) (hb : b < b') (v0 v1 v2 v3 : Value) : NodeAt ((((W.setCell ⟨b, 0, none⟩ v0).setCell ⟨b, 1, none⟩ v1).setCell ⟨b, 2, none⟩ v2).setCell ⟨b, 3, none⟩ v3) b' x A2 c2 A3 c3 :=
  (((h.set (p := ⟨b, 0, none⟩) hb _).set (p := ⟨b, 1, none⟩) hb _).set (p := ⟨b, 2, none⟩) hb _).set (p := ⟨b, 3, none⟩) hb _
theorem RS.putN {w0 W : World} {g : Nat} {s : ByteArray} {st : PSt} {b : Nat} (h : RS w0 W g s st) (hg : g ≠ b) (hb : w0.heap.size ≤ b) (v0 v1 v2 v3 : Value) : RS w0 ((((W.setCell ⟨b, 0, none⟩ v0).setCell ⟨b, 1, none⟩ v1).setCell ⟨b, 2, none⟩ v2).setCell ⟨b, 3, none⟩ v3) g s st :=
  (((h.far (p := ⟨b, 0, none⟩) hg hb _).far (p := ⟨b, 1, none⟩) hg hb _).far (p := ⟨b, 2, none⟩) hg hb _).far (p := ⟨b, 3, none⟩) hg hb _
theorem leaf_calls (k : Nat) (A0 : Option Addr) (c0 : Nat) (l0 : List S57) (x : S26) (w : World) (hr0 : Kd.C k57 w A0 l0.length l0) (hc0 : l0.length ≤ c0) (h : parse_leaf.f k l0 = some (x.f0, x.f1, x.f2, x.f3)) :
    Calls Tryd.prog 115 #[.slice A0 l0.length c0] w fun e w' => ∃ A2 c2 A3 c3, e = .returned (.agg #[.int .i64 x.f0, .int .i64 x.f1, .slice A2 x.f2.length c2, .slice A3 x.f3.length c3]) ∧ NodeAt w' w.heap.size x A2 c2 A3 c3 ∧ Below w.heap.size w w' := by
  refine (parse_leaf.calls k A0 c0 l0 x.f0 x.f1 x.f2 x.f3 w hr0 hc0 h).mono ?_
  rintro e w' ⟨v2, v3, rfl, h2, h3, hb⟩
  have hM := Kd.FK_mono (Kd.FK_of_M (k26.M_bound (k26_mkM w' w.heap.size (fun _ => True) x h2 (Kd.R_mono h3 (fun _ _ => trivial))))) (ok' := fun k => w.heap.size ≤ k) (fun k hk => hk.2.1)
  obtain ⟨A2, c2, rfl⟩ := Kd.R_slice h2
  obtain ⟨A3, c3, rfl⟩ := Kd.R_slice h3
  exact ⟨A2, c2, A3, c3, rfl, hM, hb⟩
theorem text_calls (k : Nat) (s : ByteArray) (l : List S57) (w : World) (hG : GL w) (h : terms_Text.f k s = some l) :
    Calls Tryd.prog 116 #[.string s] w fun e w' => ∃ A c, e = .returned (.slice A l.length c) ∧ l.length ≤ c ∧ Kd.C k57 w' A l.length l ∧ Below w.heap.size w w' := by
  refine (terms_Text.calls k s l w hG h).mono ?_
  rintro e w' ⟨v, rfl, h1, hb⟩
  obtain ⟨A, c, rfl, hc, hC⟩ := Kd.R_reads h1
  exact ⟨A, c, rfl, hc, hC, hb⟩
def phraseF (k : Nat) (s : ByteArray) (st : PSt) : Option (S26 × PSt) :=
  if Lib.indexByte (s.extract st.at_ s.size).data.toList 34 < 0 then some (zN, failF s st 13)
  else (terms_Text.f k ((s.extract st.at_ s.size).extract 0 (Lib.indexByte (s.extract st.at_ s.size).data.toList 34).toNat)).bind fun l =>
    (parse_leaf.f k l).bind fun r => if st.at_ + (Lib.indexByte (s.extract st.at_ s.size).data.toList 34).toNat + 1 ≤ s.size then some (⟨r.1, r.2.1, r.2.2.1, r.2.2.2⟩, { st with at_ := st.at_ + (Lib.indexByte (s.extract st.at_ s.size).data.toList 34).toNat + 1 }) else none
set_option maxHeartbeats 4000000 in
set_option maxRecDepth 100000 in
theorem phrase_calls (k : Nat) (w0 w : World) (g : Nat) (s : ByteArray) (st st' : PSt) (x : S26) (h : RS w0 w g s st) (hf : phraseF k s st = some (x, st')) :
    Calls Tryd.prog 110 #[.pointer (some ⟨g, 0, none⟩)] w fun e w' => ∃ A2 c2 A3 c3, e = .returned (.agg #[.int .i64 x.f0, .int .i64 x.f1, .slice A2 x.f2.length c2, .slice A3 x.f3.length c3]) ∧ NodeAt w' w.heap.size x A2 c2 A3 c3 ∧ RS w0 w' g s st' ∧ BelowBut g w w' := by
  have HS := Aside0.mk h
  have hsz := h.sz
  have hc0 := h.c0
  have hc1 := h.c1
  have hle := h.le
  have hlt := h.lt
  have hne : ¬ (g = w.heap.size) := by omega
  have hu := Tryd.underlying26
  clear h
  obtain ⟨rest, hrest⟩ : ∃ r, r = s.extract st.at_ s.size := ⟨_, rfl⟩
  unfold phraseF at hf
  rw [← hrest] at hf
  obtain ⟨i, hi⟩ : ∃ i, i = Lib.indexByte rest.data.toList 34 := ⟨_, rfl⟩
  rw [← hi] at hf
  have HREST := Aside0.mk hrest
  have HI := Aside0.mk hi
  clear hrest hi
  by_cases c1 : i < 0
  · rw [if_pos c1] at hf
    simp only [Option.some.injEq, Prod.mk.injEq] at hf
    obtain ⟨rfl, rfl⟩ := hf
    have b1 : decide (i < 0) = true := by simpa using c1
    clear c1
    go_enter Tryd.func110, Tryd.ntmps110
    go_wp2
    go_quiet (fail)
    go_wp2_with fail
    refine (strings_IndexByte.calls _ 34 i _ (by show some _ = some _; rw [← HREST.out]; exact congrArg some HI.out.symm)).mono ?_; rintro e w' ⟨rfl, ⟨nd, rfl⟩⟩
    go_wp2_with fail
    have HRS2 : Aside0 (∀ o m, RS w0 ((w.alloc o).drewN m) g s st) := ⟨fun o m => (HS.out.alloc o).drewN m⟩
    refine (fail_calls w0 _ g s st 13 (HRS2.out _ _)).mono ?_
    rintro e w2 ⟨rfl, hrs, hbb⟩
    have HRS := Aside0.mk hrs
    have HBB := Aside0.mk hbb
    have HBOX : Aside0 (w2.heap[w.heap.size]? = some (.cells #[.int .i64 0, .int .i64 0, .slice none 0 0, .slice none 0 0] 26 (0, 0))) := ⟨(hbb.block _ (by simp) (by omega)).trans (blk_drewN (heap_alloc_new w _) _)⟩
    have hcl0 := blk_cell HBOX.out 0
    have hcl1 := blk_cell HBOX.out 1
    have hcl2 := blk_cell HBOX.out 2
    have hcl3 := blk_cell HBOX.out 3
    have hfz := blk_frozen HBOX.out
    simp only [List.getElem?_toArray, List.getElem?_cons_zero, List.getElem?_cons_succ] at hcl0 hcl1 hcl2 hcl3
    clear hrs hbb
    go_wp2
    refine bodyPost_ret (results_cell_row rfl _ _ w.heap.size 26 _ (0, 0) _ rfl (putN_blk HBOX.out _ _ _ _) hu rfl (by kernel_rfl)) rfl ⟨none, 0, none, 0, rfl, ?_, ?_, ?_⟩
    · exact NodeAt.zero _ _
    · exact HRS.out.putN hne HS.out.below.size _ _ _ _
    · exact ((((BelowBut.refl g w).alloc _).drewN _).trans HBB.out).putN (Nat.le_refl _) _ _ _ _
  · rw [if_neg c1] at hf
    obtain ⟨n, rfl⟩ := Int.eq_ofNat_of_zero_le (show 0 ≤ i by omega)
    obtain ⟨l, hl, hf⟩ := Option.bind_eq_some_iff.1 hf
    obtain ⟨⟨r1, r2, r3, r4⟩, hr, hf⟩ := Option.bind_eq_some_iff.1 hf
    simp only [Int.toNat_natCast] at hl hf
    by_cases c2 : st.at_ + n + 1 ≤ s.size
    · rw [if_pos c2] at hf
      simp only [Option.some.injEq, Prod.mk.injEq] at hf
      obtain ⟨rfl, rfl⟩ := hf
      have HL := Aside0.mk hl
      have HR := Aside0.mk hr
      have b1 : decide ((n : Int) < 0) = false := by simp
      clear hl hr c1
      go_enter Tryd.func110, Tryd.ntmps110
      go_wp2
      go_quiet (fail)
      go_wp2_with fail
      refine (strings_IndexByte.calls _ 34 (n : Int) _ (by show some _ = some _; rw [← HREST.out]; exact congrArg some HI.out.symm)).mono ?_; rintro e w' ⟨rfl, ⟨nd, rfl⟩⟩
      have hfr := HS.out.fr 1
      have hrs : (s.extract st.at_ s.size).size = s.size - st.at_ := by first | (simp; done) | (simp; omega)
      have HRSZ := Aside0.mk hrs
      have hrs2 : n ≤ (s.extract st.at_ s.size).size := by omega
      clear hrs
      go_wp2_with fail
      have hv : (Value.int .i64 ((st.at_ : Int) + ((n : Int) + 1))) = .int .i64 ((st.at_ + n + 1 : Nat) : Int) := congrArg (Value.int .i64) (by omega)
      have HV := Aside0.mk hv
      clear hv
      have HRS2 : Aside0 (∀ o m, RS w0 (((w.alloc o).drewN m).setCell ⟨g, 1, none⟩ (.int .i64 ((st.at_ : Int) + ((n : Int) + 1)))) g s { st with at_ := st.at_ + n + 1 }) := ⟨fun o m => ((HS.out.alloc o).drewN m).at (st.at_ + n + 1) c2 _ HV.out⟩
      refine (text_calls k _ l _ (HRS2.out _ _).glw (by rw [← HREST.out]; exact HL.out)).mono ?_
      rintro e w1 ⟨A, c, rfl, hlc, hC, hb1⟩
      have HB1 := Aside0.mk hb1
      have hbox1 : w1.heap[w.heap.size]? = some (.cells #[.int .i64 0, .int .i64 0, .slice none 0 0, .slice none 0 0] 26 (0, 0)) := blk_below (blk_far (blk_drewN (heap_alloc_new w _) _) (by first | (simp; done) | (simp; omega)) _) hb1
      have HBOX1 := Aside0.mk hbox1
      have HC := Aside0.mk hC
      have HLC := Aside0.mk hlc
      have hz1 : w.heap.size < w1.heap.size := blk_lt hbox1
      clear hb1 hbox1 hC hlc
      go_wp2_with fail
      refine (leaf_calls k A c l ⟨r1, r2, r3, r4⟩ w1 HC.out HLC.out HR.out).mono ?_
      rintro e w2 ⟨A2, c2', A3, c3', rfl, hN, hb2⟩
      have HB2 := Aside0.mk hb2
      have HN := Aside0.mk hN
      have HBOX := Aside0.mk (blk_below HBOX1.out hb2)
      have hcl0 := blk_cell HBOX.out 0
      have hcl1 := blk_cell HBOX.out 1
      have hcl2 := blk_cell HBOX.out 2
      have hcl3 := blk_cell HBOX.out 3
      have hfz := blk_frozen HBOX.out
      simp only [List.getElem?_toArray, List.getElem?_cons_zero, List.getElem?_cons_succ] at hcl0 hcl1 hcl2 hcl3
      clear hb2 hN
      go_wp2
      refine bodyPost_ret (results_cell_row rfl _ _ w.heap.size 26 _ (0, 0) _ rfl (putN_blk HBOX.out _ _ _ _) hu rfl (by kernel_rfl)) rfl ⟨A2, c2', A3, c3', rfl, ?_, ?_, ?_⟩
      · exact (HN.out.putN hz1 _ _ _ _).from_ (Nat.le_of_lt hz1)
      · exact (((HRS2.out _ _).then_ HB1.out).then_ HB2.out).putN hne HS.out.below.size _ _ _ _
      · exact ((((((BelowBut.refl g w).alloc _).drewN _).set 1 _).then_ HB1.out).then_ HB2.out).putN (Nat.le_refl _) _ _ _ _
    · rw [if_neg c2] at hf; cases hf
mutual
def withinF (f : Int) : S26 → S26
  | ⟨k, fd, ts, kids⟩ => ⟨k, if fd = 0 ∧ 0 < (ts.length : Int) then f else fd, ts, withinL f kids⟩
def withinL (f : Int) : List S26 → List S26
  | [] => []
  | x :: t => withinF f x :: withinL f t
end
theorem withinL_snoc (f : Int) (l : List S26) (x : S26) : withinL f (l ++ [x]) = withinL f l ++ [withinF f x] := by
  induction l with
  | nil => simp [withinL]
  | cons y t ih => simp [withinL, ih]
theorem withinL_length (f : Int) (l : List S26) : (withinL f l).length = l.length := by
  induction l with
  | nil => simp [withinL]
  | cons y t ih => simp [withinL, ih]
theorem node_info : (Tryd.prog.info? 26).map (fun i => (i.zero, i.size, i.bytes)) = some (some (.agg #[(.int .i64 0), (.int .i64 0), (.slice none 0 0), (.slice none 0 0)]), k26.sz, 64) := by kernel_rfl
theorem node_at {W : World} {ok : Nat → Prop} {A : Option Addr} {xs : List S26} (h : Kd.F k26 W ok A xs.length xs) (i : Nat) (hi : i < xs.length) :
    ∃ ad A2 c2 A3 c3, A = some ad ∧ Kd.FK k26 W ok xs[i] [.int .i64 xs[i].f0, .int .i64 xs[i].f1, .slice A2 xs[i].f2.length c2, .slice A3 xs[i].f3.length c3] ∧
      W.cell? (ad.add (i * 4)) = some (.int .i64 xs[i].f0) ∧ W.cell? ⟨(ad.add (i * 4)).block, (ad.add (i * 4)).off + 1, none⟩ = some (.int .i64 xs[i].f1) ∧
      W.cell? ⟨(ad.add (i * 4)).block, (ad.add (i * 4)).off + 2, none⟩ = some (.slice A2 xs[i].f2.length c2) ∧ W.cell? ⟨(ad.add (i * 4)).block, (ad.add (i * 4)).off + 3, none⟩ = some (.slice A3 xs[i].f3.length c3) := by
  obtain ⟨ad, c, rfl, hcl, hF, hcc, _⟩ := Kd.F_get h z26 (i : Int) (by omega) (by omega)
  have hx : xs.getD ((i : Int)).toNat z26 = xs[i] := by simp [List.getD_eq_getElem?_getD, List.getElem?_eq_getElem hi]
  rw [hx] at hF
  obtain ⟨A2, c2, A3, c3, rfl, _⟩ := k26_openF hF
  have h0 : ∀ j u, ([.int .i64 xs[i].f0, .int .i64 xs[i].f1, .slice A2 xs[i].f2.length c2, .slice A3 xs[i].f3.length c3] : List Value)[j]? = some u → W.cell? (ad.add (i * 4 + j)) = some u := by
    intro j u hu
    have := hcc j u hu
    rw [show ((i : Int)).toNat = i by simp, show k26.sz = 4 from rfl] at this
    exact this
  exact ⟨ad, A2, c2, A3, c3, rfl, hF, h0 0 _ rfl, by rw [← add_field _ _ 1 (by omega)]; exact h0 1 _ rfl, by rw [← add_field _ _ 2 (by omega)]; exact h0 2 _ rfl, by rw [← add_field _ _ 3 (by omega)]; exact h0 3 _ rfl⟩
def OKX (w : World) (ok : Nat → Prop) : Nat → Prop := fun k => (ok k ∧ k < w.heap.size) ∨ w.heap.size ≤ k
theorem within0 (f : Int) (x : S26) : (withinF f x).f0 = x.f0 := by cases x; rfl
theorem within2 (f : Int) (x : S26) : (withinF f x).f2 = x.f2 := by cases x; rfl
theorem within3 (f : Int) (x : S26) : (withinF f x).f3 = withinL f x.f3 := by cases x; simp [withinF]
theorem within_made (f : Int) (x : S26) {fd : Int} {W : World} (ok : Nat → Prop) {A2 A3 : Option Addr} {c2 c3 : Nat} (hfd : (withinF f x).f1 = fd) (h2 : x.f2.length ≤ c2) (hF2 : Kd.F k57 W ok A2 x.f2.length x.f2) (h3 : (withinL f x.f3).length ≤ c3) (hF3 : Kd.F k26 W ok A3 (withinL f x.f3).length (withinL f x.f3)) :
    Kd.FK k26 W ok (withinF f x) [.int .i64 (withinF f x).f0, .int .i64 fd, .slice A2 (withinF f x).f2.length c2, .slice A3 (withinF f x).f3.length c3] := by
  have h := k26_mkF W ok (withinF f x) (c2 := c2) (A2 := A2) (c3 := c3) (A3 := A3) (by rw [within2]; exact h2) (by rw [within2]; exact hF2) (by rw [within3]; exact h3) (by rw [within3]; exact hF3)
  rw [hfd] at h
  exact h
theorem within_stepF {α : Type} {d : Kd α} {w wr : World} {b : Nat} {ok : Nat → Prop} {A : Option Addr} {n : Nat} {xs : List α} (h : Kd.F d w ok A n xs) (hb : Below w.heap.size w wr) (hok : ∀ k, ok k → k ≠ b ∧ k ≠ b + 1) {v v0 v1 v2 v3 : Value} :
    Kd.F d (((((wr.setCell ⟨b, 3, none⟩ v).setCell ⟨b + 1, 0, none⟩ v0).setCell ⟨b + 1, 1, none⟩ v1).setCell ⟨b + 1, 2, none⟩ v2).setCell ⟨b + 1, 3, none⟩ v3) ok A n xs :=
  Kd.F_step (Kd.F_below h hb) (fun k hk _ => by
    have := hok k hk
    rw [Below.heap_setCell _ ⟨b + 1, 3, none⟩ _ k this.2, Below.heap_setCell _ ⟨b + 1, 2, none⟩ _ k this.2, Below.heap_setCell _ ⟨b + 1, 1, none⟩ _ k this.2, Below.heap_setCell _ ⟨b + 1, 0, none⟩ _ k this.2, Below.heap_setCell _ ⟨b, 3, none⟩ _ k this.1])
mutual
/-- The most kids that a node has, of all that lie in it. -/
def maxKids : S26 → Nat
  | ⟨_, _, _, kids⟩ => max kids.length (maxKidsL kids)
def maxKidsL : List S26 → Nat
  | [] => 0
  | x :: t => max (maxKids x) (maxKidsL t)
end
theorem maxKidsL_get (l : List S26) (i : Nat) (hi : i < l.length) : maxKids l[i] ≤ maxKidsL l := by
  induction l generalizing i with
  | nil => simp at hi
  | cons x t ih =>
    simp only [maxKidsL]
    cases i with
    | zero => simp; omega
    | succ i =>
      have := ih i (by simpa using hi)
      simp only [List.getElem_cons_succ]
      omega
theorem maxKids_eq (x : S26) : maxKids x = max x.f3.length (maxKidsL x.f3) := by cases x; simp [maxKids]
def OKY (w : World) (ok : Nat → Prop) : Nat → Prop := fun k => (ok k ∧ k < w.heap.size) ∨ w.heap.size + 2 ≤ k
def WithinP (f : Int) (x : S26) : Prop := ∀ (w : World) (ok : Nat → Prop) (A2 : Option Addr) (c2 : Nat) (A3 : Option Addr) (c3 : Nat),
  Kd.FK k26 w ok x [.int .i64 x.f0, .int .i64 x.f1, .slice A2 x.f2.length c2, .slice A3 x.f3.length c3] → maxKids x ≤ 1000000 →
  Calls Tryd.prog 114 #[.agg #[.int .i64 x.f0, .int .i64 x.f1, .slice A2 x.f2.length c2, .slice A3 x.f3.length c3], .int .i64 f] w fun e w' => ∃ B2 d2 B3 d3, e = .returned (.agg #[.int .i64 (withinF f x).f0, .int .i64 (withinF f x).f1, .slice B2 (withinF f x).f2.length d2, .slice B3 (withinF f x).f3.length d3]) ∧
    Kd.FK k26 w' (OKX w ok) (withinF f x) [.int .i64 (withinF f x).f0, .int .i64 (withinF f x).f1, .slice B2 (withinF f x).f2.length d2, .slice B3 (withinF f x).f3.length d3] ∧ Below w.heap.size w w'
set_option maxHeartbeats 4000000 in
set_option maxRecDepth 100000 in
theorem within_step (f : Int) (x : S26) (ih : ∀ (i : Nat) (h : i < x.f3.length), WithinP f (x.f3[i]'h)) : WithinP f x := by
  intro w ok A2 c2 A3 c3 hx hm
  obtain ⟨B2, d2, B3, d3, he, hl2, hF2, hl3, hF3⟩ := k26_openF hx
  simp only [List.cons.injEq, Value.slice.injEq, true_and, and_true] at he
  obtain ⟨⟨rfl, rfl⟩, rfl, rfl⟩ := he
  rw [maxKids_eq] at hm
  have hm3 : x.f3.length ≤ 1000000 := by omega
  have hmk : maxKidsL x.f3 ≤ 1000000 := by omega
  have IH := Aside0.mk ih
  have HF2 := Aside0.mk hF2
  have HF3 := Aside0.mk hF3
  have hu := Tryd.underlying26
  clear hx ih hF2 hF3 hm
  by_cases c1 : x.f1 = 0
  · by_cases c2 : 0 < (x.f2.length : Int)
    · have b1 : (x.f1 == 0) = true := by simpa using c1
      have b2 : decide (0 < x.f2.length) = true := by simpa using c2
      have HFD := Aside0.mk (show (withinF f x).f1 = f by cases x; simp only [withinF]; rw [if_pos ⟨c1, c2⟩])
      clear c1 c2
      go_enter Tryd.func114, Tryd.ntmps114
      go_wp2
      go_loopg [5, 22] x.f3.length (fun n v5 v22 wr => ∃ i : Nat, v22 = .int .i64 i ∧ Aside0 (n + i = x.f3.length) ∧ Aside0 (Kd.N k26 26 wr (w.heap.size + 2) (OKY w ok) v5 (withinL f (x.f3.take i))) ∧ Aside0 (Below w.heap.size w wr) ∧ Aside0 (wr.heap[w.heap.size]? = some (.cells #[.int .i64 x.f0, .int .i64 f, .slice A2 x.f2.length c2, .slice A3 x.f3.length c3] 26 (0, 0))) ∧ Aside0 (wr.heap[w.heap.size + 1]? = some (.cells #[.int .i64 0, .int .i64 0, .slice none 0 0, .slice none 0 0] 26 (0, 0))))
      case atStart => exact ⟨0, rfl, ⟨rfl⟩, ⟨Kd.N_nil _ _ _ _ _⟩, ⟨below_alloc (below_alloc (Below.refl _ _) _) _⟩, ⟨blk_alloc (blk_new w _) _⟩, ⟨by simpa using heap_alloc2_new w _ _⟩⟩
      case round =>
        obtain ⟨i, rfl, HN, HO, HB, HX, HY⟩ := hrel
        obtain ⟨A5, c5, hv5⟩ := Kd.N_slice HO.out
        have hz : w.heap.size + 1 < wr.heap.size := blk_lt HY.out
        by_cases hi : i < x.f3.length
        · subst hv5
          have hb' : decide (i < x.f3.length) = true := by simpa using hi
          have HLN := Aside0.mk (show (withinL f (x.f3.take i)).length ≤ x.f3.length by rw [withinL_length, List.length_take]; omega)
          obtain ⟨ad, K2, e2, K3, e3, rfl, hK, q0, q1, q2, q3⟩ := node_at (Kd.F_below (Kd.F_bound HF3.out) (HB.out)) i hi
          have HK := Aside0.mk hK
          have IHI := Aside0.mk (IH.out i hi)
          have HMK := Aside0.mk (Nat.le_trans (maxKidsL_get x.f3 i hi) hmk)
          have HSN := Aside0.mk (show withinL f (x.f3.take i) ++ [withinF f x.f3[i]] = withinL f (x.f3.take (i + 1)) by rw [List.take_add_one, List.getElem?_eq_getElem hi, Option.toList_some, withinL_snoc])
          obtain ⟨xi, hxi⟩ : ∃ xi, xi = x.f3[i] := ⟨_, rfl⟩
          rw [← hxi] at HK IHI HMK HSN q0 q1 q2 q3
          clear hK hxi
          go_wp2_with fail
          refine (IHI.out (wr.alloc _) _ K2 e2 K3 e3 (Kd.FK_below HK.out (below_alloc (Below.refl _ _) _)) HMK.out).mono ?_
          rintro e w1 ⟨B2, d2, B3, d3, rfl, hK1, hb1⟩
          have HK1 := Aside0.mk hK1
          have HB1 := Aside0.mk (show Below wr.heap.size wr w1 from (below_alloc (Below.refl _ _) _).trans (hb1.mono (by simp)))
          have HO1 := Aside0.mk (Kd.N_below HO.out HB1.out)
          have HOWN : Aside0 (∀ k, OKX (wr.alloc (.cells #[.int .i64 xi.f0, .int .i64 xi.f1, .slice K2 xi.f2.length e2, .slice K3 xi.f3.length e3] 26 (0, 0))) (fun k => ok k ∧ k < w.heap.size) k → OKY w ok k ∧ some k ≠ (Value.slice A5 (withinL f (x.f3.take i)).length c5).ownBlock) := ⟨fun k hk => by
            rcases hk with hk | hk
            · exact ⟨.inl hk.1, fun he => by have := Kd.N_base HO.out k he.symm; have := hk.1.2; omega⟩
            · have h1 : wr.heap.size + 1 ≤ k := by simpa using hk
              exact ⟨.inr (by omega), fun he => by have := Kd.N_lt HO.out k he.symm; omega⟩⟩
          have HFR : Aside0 (∀ k, w1.heap.size ≤ k → OKY w ok k) := ⟨fun k hk => .inr (by have := HB1.out.size; omega)⟩
          have HBB := Aside0.mk (HB1.out.mono (show w.heap.size + 2 ≤ wr.heap.size by omega))
          have HSZ := Aside0.mk (show w.heap.size + 2 ≤ w1.heap.size by have := HB1.out.size; omega)
          have HLM := Aside0.mk (show ((withinL f (x.f3.take i)).length + 1) * 64 ≤ 140737488355328 by have := HLN.out; omega)
          clear hK1 hb1
          go_wp2_with (at_builtin; refine Kd.N_append k26 (w0 := wr) (w.heap.size + 2) ?g1 (.tmp 26) (.tmp 30) 24 26 (.agg #[(.int .i64 0), (.int .i64 0), (.slice none 0 0), (.slice none 0 0)]) 64 ?g2 Tryd.underlying24 node_info ?g3 (Nat.succ_pos 3) (Nat.succ_pos 63) (.slice A5 (withinL f (x.f3.take i)).length c5) (withinL f (x.f3.take i)) (withinF f xi) [.int .i64 (withinF f xi).f0, .int .i64 (withinF f xi).f1, .slice B2 (withinF f xi).f2.length d2, .slice B3 (withinF f xi).f3.length d3] (OKY w ok) ?qk ?g4 ?g5 ?aP ?aK ?aF ?aO ?aB ?aS ?aL ?_; (case g1 => rfl); (case g2 => rfl); (case g3 => rfl); (case g4 => rfl); (case g5 => rfl); (case aP => exact HK1.out); (case aK => exact HOWN.out); (case aF => exact HFR.out); (case aO => exact HO1.out); (case aB => exact HBB.out); (case aS => exact HSZ.out); (case aL => exact HLM.out); intro v31 w2 ho hb hg hat)
          have HO2 := Aside0.mk ho
          have HB2 := Aside0.mk hb
          clear ho hb hg hat
          go_roundg (gk - 1)
          case measure => have := HN.out; omega
          case rel => exact ⟨i + 1, rfl, ⟨by have := HN.out; omega⟩, ⟨by have := HO2.out; rw [HSN.out] at this; exact this⟩, ⟨HB.out.trans (HB2.out.mono (by omega))⟩, ⟨(HB2.out.block _ (by omega)).trans HX.out⟩, ⟨(HB2.out.block _ (by omega)).trans HY.out⟩⟩
        · have e : i = x.f3.length := by have := HN.out; omega
          subst hv5
          have hb' : decide (i < x.f3.length) = false := by simpa using hi
          have HLN := Aside0.mk (withinL_length f (x.f3.take i))
          have HO2 := Aside0.mk (show Kd.N k26 26 wr (w.heap.size + 2) (OKY w ok) (.slice A5 (withinL f (x.f3.take i)).length c5) (withinL f x.f3) by have := HO.out; rw [e, List.take_length] at this; rw [e, List.take_length]; exact this)
          have hcl0 := blk_cell HX.out 0
          have hcl1 := blk_cell HX.out 1
          have hcl2 := blk_cell HX.out 2
          have hcl3 := blk_cell HX.out 3
          have hfz := blk_frozen HX.out
          have hdl0 := blk_cell HY.out 0
          have hdl1 := blk_cell HY.out 1
          have hdl2 := blk_cell HY.out 2
          have hdl3 := blk_cell HY.out 3
          have hdz := blk_frozen HY.out
          simp only [List.getElem?_toArray, List.getElem?_cons_zero, List.getElem?_cons_succ] at hcl0 hcl1 hcl2 hcl3 hdl0 hdl1 hdl2 hdl3
          have HLL := Aside0.mk (show (withinL f (x.f3.take i)).length = (withinL f x.f3).length by rw [e, List.take_length])
          clear hi e HO
          go_wp2
          refine bodyPost_ret (results_cell_row rfl _ _ (w.heap.size + 1) 26 _ (0, 0) _ rfl (putN_blk (blk_far HY.out (p := ⟨w.heap.size, 3, none⟩) (by simp) _) _ _ _ _) hu rfl (by kernel_rfl)) rfl ⟨A2, c2, A5, c5, ?_, ?_, ?_⟩
          · rw [within0, HFD.out, within2, within3, ← HLL.out]
          · rw [HLL.out]
            refine within_made f x _ rfl hl2 (Kd.F_mono (within_stepF (Kd.F_bound HF2.out) (HB.out) (fun k hk => by have := hk.2; exact ⟨by omega, by omega⟩)) (fun k hk => .inl hk)) (by have := (Kd.N_reads' HO2.out).2.1; rw [HLL.out] at this; exact this) ?_
            have hh := Kd.N_F HO2.out
            rw [HLL.out] at hh
            exact Kd.F_mono (within_stepF hh (Below.refl _ _) (fun k hk => by rcases hk with hk | hk <;> exact ⟨by omega, by omega⟩)) (fun k hk => by rcases hk with hk | hk; exact .inl hk; exact .inr (by omega))
          · exact ((((HB.out.setCell (p := ⟨w.heap.size, 3, none⟩) (Nat.le_refl _) _).setCell (p := ⟨w.heap.size + 1, 0, none⟩) (Nat.le_succ _) _).setCell (p := ⟨w.heap.size + 1, 1, none⟩) (Nat.le_succ _) _).setCell (p := ⟨w.heap.size + 1, 2, none⟩) (Nat.le_succ _) _).setCell (p := ⟨w.heap.size + 1, 3, none⟩) (Nat.le_succ _) _
    · have b1 : (x.f1 == 0) = true := by simpa using c1
      have b2 : decide (0 < x.f2.length) = false := by simpa using c2
      have HFD := Aside0.mk (show (withinF f x).f1 = x.f1 by cases x; simp only [withinF]; rw [if_neg (fun h => c2 h.2)])
      clear c1 c2
      go_enter Tryd.func114, Tryd.ntmps114
      go_wp2
      go_loopg [5, 22] x.f3.length (fun n v5 v22 wr => ∃ i : Nat, v22 = .int .i64 i ∧ Aside0 (n + i = x.f3.length) ∧ Aside0 (Kd.N k26 26 wr (w.heap.size + 2) (OKY w ok) v5 (withinL f (x.f3.take i))) ∧ Aside0 (Below w.heap.size w wr) ∧ Aside0 (wr.heap[w.heap.size]? = some (.cells #[.int .i64 x.f0, .int .i64 x.f1, .slice A2 x.f2.length c2, .slice A3 x.f3.length c3] 26 (0, 0))) ∧ Aside0 (wr.heap[w.heap.size + 1]? = some (.cells #[.int .i64 0, .int .i64 0, .slice none 0 0, .slice none 0 0] 26 (0, 0))))
      case atStart => exact ⟨0, rfl, ⟨rfl⟩, ⟨Kd.N_nil _ _ _ _ _⟩, ⟨below_alloc (below_alloc (Below.refl _ _) _) _⟩, ⟨blk_alloc (blk_new w _) _⟩, ⟨by simpa using heap_alloc2_new w _ _⟩⟩
      case round =>
        obtain ⟨i, rfl, HN, HO, HB, HX, HY⟩ := hrel
        obtain ⟨A5, c5, hv5⟩ := Kd.N_slice HO.out
        have hz : w.heap.size + 1 < wr.heap.size := blk_lt HY.out
        by_cases hi : i < x.f3.length
        · subst hv5
          have hb' : decide (i < x.f3.length) = true := by simpa using hi
          have HLN := Aside0.mk (show (withinL f (x.f3.take i)).length ≤ x.f3.length by rw [withinL_length, List.length_take]; omega)
          obtain ⟨ad, K2, e2, K3, e3, rfl, hK, q0, q1, q2, q3⟩ := node_at (Kd.F_below (Kd.F_bound HF3.out) (HB.out)) i hi
          have HK := Aside0.mk hK
          have IHI := Aside0.mk (IH.out i hi)
          have HMK := Aside0.mk (Nat.le_trans (maxKidsL_get x.f3 i hi) hmk)
          have HSN := Aside0.mk (show withinL f (x.f3.take i) ++ [withinF f x.f3[i]] = withinL f (x.f3.take (i + 1)) by rw [List.take_add_one, List.getElem?_eq_getElem hi, Option.toList_some, withinL_snoc])
          obtain ⟨xi, hxi⟩ : ∃ xi, xi = x.f3[i] := ⟨_, rfl⟩
          rw [← hxi] at HK IHI HMK HSN q0 q1 q2 q3
          clear hK hxi
          go_wp2_with fail
          refine (IHI.out (wr.alloc _) _ K2 e2 K3 e3 (Kd.FK_below HK.out (below_alloc (Below.refl _ _) _)) HMK.out).mono ?_
          rintro e w1 ⟨B2, d2, B3, d3, rfl, hK1, hb1⟩
          have HK1 := Aside0.mk hK1
          have HB1 := Aside0.mk (show Below wr.heap.size wr w1 from (below_alloc (Below.refl _ _) _).trans (hb1.mono (by simp)))
          have HO1 := Aside0.mk (Kd.N_below HO.out HB1.out)
          have HOWN : Aside0 (∀ k, OKX (wr.alloc (.cells #[.int .i64 xi.f0, .int .i64 xi.f1, .slice K2 xi.f2.length e2, .slice K3 xi.f3.length e3] 26 (0, 0))) (fun k => ok k ∧ k < w.heap.size) k → OKY w ok k ∧ some k ≠ (Value.slice A5 (withinL f (x.f3.take i)).length c5).ownBlock) := ⟨fun k hk => by
            rcases hk with hk | hk
            · exact ⟨.inl hk.1, fun he => by have := Kd.N_base HO.out k he.symm; have := hk.1.2; omega⟩
            · have h1 : wr.heap.size + 1 ≤ k := by simpa using hk
              exact ⟨.inr (by omega), fun he => by have := Kd.N_lt HO.out k he.symm; omega⟩⟩
          have HFR : Aside0 (∀ k, w1.heap.size ≤ k → OKY w ok k) := ⟨fun k hk => .inr (by have := HB1.out.size; omega)⟩
          have HBB := Aside0.mk (HB1.out.mono (show w.heap.size + 2 ≤ wr.heap.size by omega))
          have HSZ := Aside0.mk (show w.heap.size + 2 ≤ w1.heap.size by have := HB1.out.size; omega)
          have HLM := Aside0.mk (show ((withinL f (x.f3.take i)).length + 1) * 64 ≤ 140737488355328 by have := HLN.out; omega)
          clear hK1 hb1
          go_wp2_with (at_builtin; refine Kd.N_append k26 (w0 := wr) (w.heap.size + 2) ?g1x2 (.tmp 26) (.tmp 30) 24 26 (.agg #[(.int .i64 0), (.int .i64 0), (.slice none 0 0), (.slice none 0 0)]) 64 ?g2x2 Tryd.underlying24 node_info ?g3x2 (Nat.succ_pos 3) (Nat.succ_pos 63) (.slice A5 (withinL f (x.f3.take i)).length c5) (withinL f (x.f3.take i)) (withinF f xi) [.int .i64 (withinF f xi).f0, .int .i64 (withinF f xi).f1, .slice B2 (withinF f xi).f2.length d2, .slice B3 (withinF f xi).f3.length d3] (OKY w ok) ?qkx2 ?g4x2 ?g5x2 ?aPx2 ?aKx2 ?aFx2 ?aOx2 ?aBx2 ?aSx2 ?aLx2 ?_; (case g1x2 => rfl); (case g2x2 => rfl); (case g3x2 => rfl); (case g4x2 => rfl); (case g5x2 => rfl); (case aPx2 => exact HK1.out); (case aKx2 => exact HOWN.out); (case aFx2 => exact HFR.out); (case aOx2 => exact HO1.out); (case aBx2 => exact HBB.out); (case aSx2 => exact HSZ.out); (case aLx2 => exact HLM.out); intro v31 w2 ho hb hg hat)
          have HO2 := Aside0.mk ho
          have HB2 := Aside0.mk hb
          clear ho hb hg hat
          go_roundg (gk - 1)
          case measure => have := HN.out; omega
          case rel => exact ⟨i + 1, rfl, ⟨by have := HN.out; omega⟩, ⟨by have := HO2.out; rw [HSN.out] at this; exact this⟩, ⟨HB.out.trans (HB2.out.mono (by omega))⟩, ⟨(HB2.out.block _ (by omega)).trans HX.out⟩, ⟨(HB2.out.block _ (by omega)).trans HY.out⟩⟩
        · have e : i = x.f3.length := by have := HN.out; omega
          subst hv5
          have hb' : decide (i < x.f3.length) = false := by simpa using hi
          have HLN := Aside0.mk (withinL_length f (x.f3.take i))
          have HO2 := Aside0.mk (show Kd.N k26 26 wr (w.heap.size + 2) (OKY w ok) (.slice A5 (withinL f (x.f3.take i)).length c5) (withinL f x.f3) by have := HO.out; rw [e, List.take_length] at this; rw [e, List.take_length]; exact this)
          have hcl0 := blk_cell HX.out 0
          have hcl1 := blk_cell HX.out 1
          have hcl2 := blk_cell HX.out 2
          have hcl3 := blk_cell HX.out 3
          have hfz := blk_frozen HX.out
          have hdl0 := blk_cell HY.out 0
          have hdl1 := blk_cell HY.out 1
          have hdl2 := blk_cell HY.out 2
          have hdl3 := blk_cell HY.out 3
          have hdz := blk_frozen HY.out
          simp only [List.getElem?_toArray, List.getElem?_cons_zero, List.getElem?_cons_succ] at hcl0 hcl1 hcl2 hcl3 hdl0 hdl1 hdl2 hdl3
          have HLL := Aside0.mk (show (withinL f (x.f3.take i)).length = (withinL f x.f3).length by rw [e, List.take_length])
          clear hi e HO
          go_wp2
          refine bodyPost_ret (results_cell_row rfl _ _ (w.heap.size + 1) 26 _ (0, 0) _ rfl (putN_blk (blk_far HY.out (p := ⟨w.heap.size, 3, none⟩) (by simp) _) _ _ _ _) hu rfl (by kernel_rfl)) rfl ⟨A2, c2, A5, c5, ?_, ?_, ?_⟩
          · rw [within0, HFD.out, within2, within3, ← HLL.out]
          · rw [HLL.out]
            refine within_made f x _ rfl hl2 (Kd.F_mono (within_stepF (Kd.F_bound HF2.out) (HB.out) (fun k hk => by have := hk.2; exact ⟨by omega, by omega⟩)) (fun k hk => .inl hk)) (by have := (Kd.N_reads' HO2.out).2.1; rw [HLL.out] at this; exact this) ?_
            have hh := Kd.N_F HO2.out
            rw [HLL.out] at hh
            exact Kd.F_mono (within_stepF hh (Below.refl _ _) (fun k hk => by rcases hk with hk | hk <;> exact ⟨by omega, by omega⟩)) (fun k hk => by rcases hk with hk | hk; exact .inl hk; exact .inr (by omega))
          · exact ((((HB.out.setCell (p := ⟨w.heap.size, 3, none⟩) (Nat.le_refl _) _).setCell (p := ⟨w.heap.size + 1, 0, none⟩) (Nat.le_succ _) _).setCell (p := ⟨w.heap.size + 1, 1, none⟩) (Nat.le_succ _) _).setCell (p := ⟨w.heap.size + 1, 2, none⟩) (Nat.le_succ _) _).setCell (p := ⟨w.heap.size + 1, 3, none⟩) (Nat.le_succ _) _
  · have b1 : (x.f1 == 0) = false := by simpa using c1
    have HFD := Aside0.mk (show (withinF f x).f1 = x.f1 by cases x; simp only [withinF]; rw [if_neg (fun h => c1 h.1)])
    clear c1
    go_enter Tryd.func114, Tryd.ntmps114
    go_wp2
    go_loopg [5, 22] x.f3.length (fun n v5 v22 wr => ∃ i : Nat, v22 = .int .i64 i ∧ Aside0 (n + i = x.f3.length) ∧ Aside0 (Kd.N k26 26 wr (w.heap.size + 2) (OKY w ok) v5 (withinL f (x.f3.take i))) ∧ Aside0 (Below w.heap.size w wr) ∧ Aside0 (wr.heap[w.heap.size]? = some (.cells #[.int .i64 x.f0, .int .i64 x.f1, .slice A2 x.f2.length c2, .slice A3 x.f3.length c3] 26 (0, 0))) ∧ Aside0 (wr.heap[w.heap.size + 1]? = some (.cells #[.int .i64 0, .int .i64 0, .slice none 0 0, .slice none 0 0] 26 (0, 0))))
    case atStart => exact ⟨0, rfl, ⟨rfl⟩, ⟨Kd.N_nil _ _ _ _ _⟩, ⟨below_alloc (below_alloc (Below.refl _ _) _) _⟩, ⟨blk_alloc (blk_new w _) _⟩, ⟨by simpa using heap_alloc2_new w _ _⟩⟩
    case round =>
      obtain ⟨i, rfl, HN, HO, HB, HX, HY⟩ := hrel
      obtain ⟨A5, c5, hv5⟩ := Kd.N_slice HO.out
      have hz : w.heap.size + 1 < wr.heap.size := blk_lt HY.out
      by_cases hi : i < x.f3.length
      · subst hv5
        have hb' : decide (i < x.f3.length) = true := by simpa using hi
        have HLN := Aside0.mk (show (withinL f (x.f3.take i)).length ≤ x.f3.length by rw [withinL_length, List.length_take]; omega)
        obtain ⟨ad, K2, e2, K3, e3, rfl, hK, q0, q1, q2, q3⟩ := node_at (Kd.F_below (Kd.F_bound HF3.out) (HB.out)) i hi
        have HK := Aside0.mk hK
        have IHI := Aside0.mk (IH.out i hi)
        have HMK := Aside0.mk (Nat.le_trans (maxKidsL_get x.f3 i hi) hmk)
        have HSN := Aside0.mk (show withinL f (x.f3.take i) ++ [withinF f x.f3[i]] = withinL f (x.f3.take (i + 1)) by rw [List.take_add_one, List.getElem?_eq_getElem hi, Option.toList_some, withinL_snoc])
        obtain ⟨xi, hxi⟩ : ∃ xi, xi = x.f3[i] := ⟨_, rfl⟩
        rw [← hxi] at HK IHI HMK HSN q0 q1 q2 q3
        clear hK hxi
        go_wp2_with fail
        refine (IHI.out (wr.alloc _) _ K2 e2 K3 e3 (Kd.FK_below HK.out (below_alloc (Below.refl _ _) _)) HMK.out).mono ?_
        rintro e w1 ⟨B2, d2, B3, d3, rfl, hK1, hb1⟩
        have HK1 := Aside0.mk hK1
        have HB1 := Aside0.mk (show Below wr.heap.size wr w1 from (below_alloc (Below.refl _ _) _).trans (hb1.mono (by simp)))
        have HO1 := Aside0.mk (Kd.N_below HO.out HB1.out)
        have HOWN : Aside0 (∀ k, OKX (wr.alloc (.cells #[.int .i64 xi.f0, .int .i64 xi.f1, .slice K2 xi.f2.length e2, .slice K3 xi.f3.length e3] 26 (0, 0))) (fun k => ok k ∧ k < w.heap.size) k → OKY w ok k ∧ some k ≠ (Value.slice A5 (withinL f (x.f3.take i)).length c5).ownBlock) := ⟨fun k hk => by
          rcases hk with hk | hk
          · exact ⟨.inl hk.1, fun he => by have := Kd.N_base HO.out k he.symm; have := hk.1.2; omega⟩
          · have h1 : wr.heap.size + 1 ≤ k := by simpa using hk
            exact ⟨.inr (by omega), fun he => by have := Kd.N_lt HO.out k he.symm; omega⟩⟩
        have HFR : Aside0 (∀ k, w1.heap.size ≤ k → OKY w ok k) := ⟨fun k hk => .inr (by have := HB1.out.size; omega)⟩
        have HBB := Aside0.mk (HB1.out.mono (show w.heap.size + 2 ≤ wr.heap.size by omega))
        have HSZ := Aside0.mk (show w.heap.size + 2 ≤ w1.heap.size by have := HB1.out.size; omega)
        have HLM := Aside0.mk (show ((withinL f (x.f3.take i)).length + 1) * 64 ≤ 140737488355328 by have := HLN.out; omega)
        clear hK1 hb1
        go_wp2_with (at_builtin; refine Kd.N_append k26 (w0 := wr) (w.heap.size + 2) ?g1x3 (.tmp 26) (.tmp 30) 24 26 (.agg #[(.int .i64 0), (.int .i64 0), (.slice none 0 0), (.slice none 0 0)]) 64 ?g2x3 Tryd.underlying24 node_info ?g3x3 (Nat.succ_pos 3) (Nat.succ_pos 63) (.slice A5 (withinL f (x.f3.take i)).length c5) (withinL f (x.f3.take i)) (withinF f xi) [.int .i64 (withinF f xi).f0, .int .i64 (withinF f xi).f1, .slice B2 (withinF f xi).f2.length d2, .slice B3 (withinF f xi).f3.length d3] (OKY w ok) ?qkx3 ?g4x3 ?g5x3 ?aPx3 ?aKx3 ?aFx3 ?aOx3 ?aBx3 ?aSx3 ?aLx3 ?_; (case g1x3 => rfl); (case g2x3 => rfl); (case g3x3 => rfl); (case g4x3 => rfl); (case g5x3 => rfl); (case aPx3 => exact HK1.out); (case aKx3 => exact HOWN.out); (case aFx3 => exact HFR.out); (case aOx3 => exact HO1.out); (case aBx3 => exact HBB.out); (case aSx3 => exact HSZ.out); (case aLx3 => exact HLM.out); intro v31 w2 ho hb hg hat)
        have HO2 := Aside0.mk ho
        have HB2 := Aside0.mk hb
        clear ho hb hg hat
        go_roundg (gk - 1)
        case measure => have := HN.out; omega
        case rel => exact ⟨i + 1, rfl, ⟨by have := HN.out; omega⟩, ⟨by have := HO2.out; rw [HSN.out] at this; exact this⟩, ⟨HB.out.trans (HB2.out.mono (by omega))⟩, ⟨(HB2.out.block _ (by omega)).trans HX.out⟩, ⟨(HB2.out.block _ (by omega)).trans HY.out⟩⟩
      · have e : i = x.f3.length := by have := HN.out; omega
        subst hv5
        have hb' : decide (i < x.f3.length) = false := by simpa using hi
        have HLN := Aside0.mk (withinL_length f (x.f3.take i))
        have HO2 := Aside0.mk (show Kd.N k26 26 wr (w.heap.size + 2) (OKY w ok) (.slice A5 (withinL f (x.f3.take i)).length c5) (withinL f x.f3) by have := HO.out; rw [e, List.take_length] at this; rw [e, List.take_length]; exact this)
        have hcl0 := blk_cell HX.out 0
        have hcl1 := blk_cell HX.out 1
        have hcl2 := blk_cell HX.out 2
        have hcl3 := blk_cell HX.out 3
        have hfz := blk_frozen HX.out
        have hdl0 := blk_cell HY.out 0
        have hdl1 := blk_cell HY.out 1
        have hdl2 := blk_cell HY.out 2
        have hdl3 := blk_cell HY.out 3
        have hdz := blk_frozen HY.out
        simp only [List.getElem?_toArray, List.getElem?_cons_zero, List.getElem?_cons_succ] at hcl0 hcl1 hcl2 hcl3 hdl0 hdl1 hdl2 hdl3
        have HLL := Aside0.mk (show (withinL f (x.f3.take i)).length = (withinL f x.f3).length by rw [e, List.take_length])
        clear hi e HO
        go_wp2
        refine bodyPost_ret (results_cell_row rfl _ _ (w.heap.size + 1) 26 _ (0, 0) _ rfl (putN_blk (blk_far HY.out (p := ⟨w.heap.size, 3, none⟩) (by simp) _) _ _ _ _) hu rfl (by kernel_rfl)) rfl ⟨A2, c2, A5, c5, ?_, ?_, ?_⟩
        · rw [within0, HFD.out, within2, within3, ← HLL.out]
        · rw [HLL.out]
          refine within_made f x _ rfl hl2 (Kd.F_mono (within_stepF (Kd.F_bound HF2.out) (HB.out) (fun k hk => by have := hk.2; exact ⟨by omega, by omega⟩)) (fun k hk => .inl hk)) (by have := (Kd.N_reads' HO2.out).2.1; rw [HLL.out] at this; exact this) ?_
          have hh := Kd.N_F HO2.out
          rw [HLL.out] at hh
          exact Kd.F_mono (within_stepF hh (Below.refl _ _) (fun k hk => by rcases hk with hk | hk <;> exact ⟨by omega, by omega⟩)) (fun k hk => by rcases hk with hk | hk; exact .inl hk; exact .inr (by omega))
        · exact ((((HB.out.setCell (p := ⟨w.heap.size, 3, none⟩) (Nat.le_refl _) _).setCell (p := ⟨w.heap.size + 1, 0, none⟩) (Nat.le_succ _) _).setCell (p := ⟨w.heap.size + 1, 1, none⟩) (Nat.le_succ _) _).setCell (p := ⟨w.heap.size + 1, 2, none⟩) (Nat.le_succ _) _).setCell (p := ⟨w.heap.size + 1, 3, none⟩) (Nat.le_succ _) _
theorem within_calls (f : Int) : ∀ x : S26, WithinP f x
  | ⟨k, fd, ts, kids⟩ => within_step f ⟨k, fd, ts, kids⟩ (fun i h => within_calls f kids[i])
termination_by x => SizeOf.sizeOf x
decreasing_by
  have := List.sizeOf_lt_of_mem (List.getElem_mem h)
  simp only at this ⊢
  simp
  omega
def joinF (kind : Int) (l : List S26) : S26 := match l with
  | [x] => x
  | l => ⟨kind, 0, [], l⟩
theorem joinF_one (kind : Int) (l : List S26) (h : l.length = 1) : joinF kind l = l[0]'(by omega) := by
  match l, h with
  | [x], _ => rfl
theorem joinF_more (kind : Int) (l : List S26) (h : ¬ l.length = 1) : joinF kind l = ⟨kind, 0, [], l⟩ := by
  match l, h with
  | [], _ => rfl
  | _ :: _ :: _, _ => rfl
  | [x], h => exact absurd rfl h
theorem below_putN {n : Nat} {w W : World} {b : Nat} (h : Below n w W) (hb : n ≤ b) (v0 v1 v2 v3 : Value) : Below n w ((((W.setCell ⟨b, 0, none⟩ v0).setCell ⟨b, 1, none⟩ v1).setCell ⟨b, 2, none⟩ v2).setCell ⟨b, 3, none⟩ v3) :=
  (((h.setCell (p := ⟨b, 0, none⟩) hb _).setCell (p := ⟨b, 1, none⟩) hb _).setCell (p := ⟨b, 2, none⟩) hb _).setCell (p := ⟨b, 3, none⟩) hb _
set_option maxHeartbeats 4000000 in
set_option maxRecDepth 100000 in
theorem join_calls (kind : Int) (l : List S26) (w : World) (ok : Nat → Prop) (A : Option Addr) (c : Nat) (hF : Kd.F k26 w ok A l.length l) (hc : l.length ≤ c) :
    Calls Tryd.prog 73 #[.int .i64 kind, .slice A l.length c] w fun e w' => ∃ A2 c2 A3 c3, e = .returned (.agg #[.int .i64 (joinF kind l).f0, .int .i64 (joinF kind l).f1, .slice A2 (joinF kind l).f2.length c2, .slice A3 (joinF kind l).f3.length c3]) ∧
      Kd.FK k26 w' ok (joinF kind l) [.int .i64 (joinF kind l).f0, .int .i64 (joinF kind l).f1, .slice A2 (joinF kind l).f2.length c2, .slice A3 (joinF kind l).f3.length c3] ∧ Below w.heap.size w w' := by
  have HF := Aside0.mk hF
  have hu := Tryd.underlying26
  clear hF
  by_cases c1 : l.length = 1
  · have b1 : ((l.length : Int) == 1) = true := by simp; omega
    obtain ⟨ad, K2, e2, K3, e3, rfl, hK, q0, q1, q2, q3⟩ := node_at HF.out 0 (by omega)
    have HK := Aside0.mk hK
    rw [joinF_one kind l c1]
    obtain ⟨x, hx⟩ : ∃ x, x = l[0] := ⟨_, rfl⟩
    rw [← hx] at HK q0 q1 q2 q3 ⊢
    have e0 : ad.add (0 * 4) = ad := by cases ad; simp [Addr.add]
    rw [e0] at q0 q1 q2 q3
    have hl : 0 < l.length := by omega
    have up : ∀ {q : Addr} {v : Value}, w.cell? q = some v → (w.alloc (.cells #[.int .i64 0, .int .i64 0, .slice none 0 0, .slice none 0 0] 26)).cell? q = some v := fun h => (World.cell?_alloc_lt _ _ _ (World.block_lt_of_cell? _ _ h)).trans h
    replace q0 := up q0
    replace q1 := up q1
    replace q2 := up q2
    replace q3 := up q3
    clear hK hx c1 up
    go_enter Tryd.func73, Tryd.ntmps73
    go_wp2
    refine bodyPost_ret (results_cell_row rfl _ _ w.heap.size 26 _ (0, 0) _ rfl (blk_new w _) hu rfl (by kernel_rfl)) rfl ⟨K2, e2, K3, e3, rfl, ?_, ?_⟩
    · exact Kd.FK_below HK.out (below_alloc (Below.refl _ _) _)
    · exact below_alloc (Below.refl _ _) _
  · have b1 : ((l.length : Int) == 1) = false := by simp; omega
    rw [joinF_more kind l c1]
    clear c1
    go_enter Tryd.func73, Tryd.ntmps73
    go_wp2
    refine bodyPost_ret (results_cell_row rfl _ _ w.heap.size 26 _ (0, 0) _ rfl (blk_new w _) hu rfl (by kernel_rfl)) rfl ⟨none, 0, A, c, rfl, ?_, ?_⟩
    · exact Kd.FK_below (k26_mkF w ok ⟨kind, 0, [], l⟩ (A2 := none) (c2 := 0) (Nat.le_refl _) (Kd.F_nil _ _ _) hc HF.out) (below_alloc (Below.refl _ _) _)
    · exact below_alloc (Below.refl _ _) _
theorem N_one {α : Type} {d : Kd α} {W : World} {base e : Nat} {ok okp : Nat → Prop} {p : α} {cs : List Value} (hp : Kd.FK d W okp p cs) (hok : ∀ k, okp k → ok k) (hfresh : ok W.heap.size) (hbase : base ≤ W.heap.size) :
    Kd.N d e (W.alloc (.cells cs.toArray e)) base ok (.slice (some ⟨W.heap.size, 0, none⟩) 1 1) [p] := by
  have hlen := d.K_len (Kd.FK_now hp)
  refine Kd.N_made (W := W) (rows := [cs]) (okp := okp) ⟨fun k hk => by simpa [Value.ownBlock] using hk.symm, cs, ?_, ?_⟩ (World.grownBy_alloc W _ none) ⟨W.heap.size, by simp [Value.ownBlock], Nat.le_refl _⟩ rfl (fun j x c hx hc => ?_) hok hfresh
  · have h2 := World.ownsRow_lit (base := base) (e := e) (size := d.sz) W cs.toArray 1 hbase (by simp [maxLen]) (by simpa using hlen)
    simp only [List.toList_toArray] at h2
    exact h2
  · refine ⟨by simp only [List.length_singleton, Nat.one_mul]; exact hlen, fun j p hj => ?_⟩
    rcases j with _ | j
    · simp only [List.getElem?_cons_zero, Option.some.injEq] at hj
      subst hj
      have h0 : ((cs.drop (0 * (Kd.raw d.sz).sz)).take (Kd.raw d.sz).sz) = cs := by rw [Nat.zero_mul, List.drop_zero]; exact List.take_of_length_le (Nat.le_of_eq hlen)
      rw [h0]
      exact Kd.FK_raw hp
    · simp at hj
  · rcases j with _ | j
    · simp only [List.getElem?_cons_zero, Option.some.injEq] at hx hc
      rw [← hx, ← hc]; exact hp
    · simp at hx
end Go.Proofs.YtcgkmomhjincgaaDoor.Lib.Scr
