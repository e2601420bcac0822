/- The lines of script and their laws, part Qh: contracts by hand. -/
import Derived.Test.YtcgkmomhjincgaaDoorBLibQ0
import Derived.Test.YtcgkmomhjincgaaDoorBQf
import Derived.RangeFuncNested
import Derived.RangeFuncBound
import Derived.RangeFuncCalls
import Derived.RangeFuncLeaves
import Derived.WalkKit
import Derived.OwnWalkIn
import Derived.TacticsInMore
import Derived.LoopNIn
import Derived.LoopIn
import Derived.Shelf.RegionOpen
import Derived.IntWalk
import Derived.Lib.Hide
import Derived.Maps.AppendAt
import Derived.Lib.AppendStr
import Derived.Lib.UnsafeStr
import Derived.Lib.Builder
import Derived.Laws.Externs
import Derived.HandedShaped
import Derived.Shelf.Vars
import Derived.Deep.DeepHandedRow
import Derived.Carry
import Derived.ProofKit
import Derived.OpenShut
import Derived.ShutString
import Derived.ChangeOld
import Derived.SizedLaws
import Derived.LaidMore
import Derived.Lay
import Derived.SevenTiedAt
import Derived.Stop.Joined
namespace Go.Proofs.YtcgkmomhjincgaaDoor.LibQ.Scr
open Go.RowKit Go.Proofs.YtcgkmomhjincgaaDoor.LibQ Go.Proofs.YtcgkmomhjincgaaDoorW.PrintWords Go.Proofs.YtcgkmomhjincgaaDoorW.PrintLast Go.Proofs.YtcgkmomhjincgaaDoorW.PrintMore
set_option linter.unusedVariables false
set_option linter.unusedSimpArgs false
attribute [local go_sem] max2_int min2_int max_two min_two max_three min_three max_four min_four
def noDefer (o : Oper) : Bool := match o.op with | .defer _ => false | _ => true
theorem noDefer_ne {o : Oper} (h : noDefer o = true) : ∀ c, o.op ≠ .defer c := by
  intro c hc
  unfold noDefer at h
  rw [hc] at h
  cases h
theorem oper_up {P : Program} {o : Oper} {a : Act} {w : World} {next : Act → World → Prop} {Q : Exit → Act → World → Prop} (l n : Nat) (hd : noDefer o = true) (h : o.wp P a w next Q) : o.wpIn (Fence.wide.inRound l) n P a w next Q := by
  refine ⟨fun _ _ => trivial, ?_⟩
  rw [show (Fence.wide.inRound l).round = some l from rfl, Oper.semAt_some l a.eval o (noDefer_ne hd)]
  unfold Oper.wp at h
  revert h
  cases (execOp a.eval o).run P w with
  | ok x w' =>
    cases x with
    | value v => exact fun h => h
    | skip => exact fun h => h
    | defer d => exact fun h => h
    | enter f args => exact fun h => ⟨fun e => (by cases e), CallsIn.inRound l (callsIn_wide.2 h)⟩
    | row r args => exact fun h => ⟨fun e => (by cases e), fun c cs _ => let ⟨v, w2, r2, s2⟩ := h c cs; ⟨v, w2, r2, stepsIn_wide.2 s2⟩⟩
    | _ => exact fun h => h.elim
  | halt x w' => cases x <;> first | exact fun h => h | exact fun h => h.elim
theorem list_up {P : Program} {ops : Array Oper} {Q : Exit → Act → World → Prop} (l n : Nat) : ∀ (os : List Oper), os.all noDefer = true → ∀ (a : Act) (w : World), (∀ a w, ¬ Q .outgrown a w) → wpList P ops Q os a w → wpListIn (Fence.wide.inRound l) n P ops Q os a w := by
  intro os
  induction os with
  | nil => intro _ a w _ h; exact h
  | cons o rest ih =>
    intro hd a w hq h
    rw [List.all_cons, Bool.and_eq_true] at hd
    unfold wpList at h
    unfold wpListIn
    split
    · rename_i c
      rw [if_pos c] at h
      rcases h with h | ⟨_, a1, w1, h1⟩
      · refine oper_up l n hd.1 ?_
        exact Oper.wp_mono (fun a w h => ih hd.2 a w hq h) h
      · exact (hq _ _ h1).elim
    · rename_i c
      rw [if_neg c] at h
      exact ⟨fun _ _ => trivial, ih hd.2 _ _ hq h⟩
theorem region_up {P : Program} {Q : Exit → Act → World → Prop} {a : Act} {w : World} {l n id : Nat} {os : List Oper} (hd : os.all noDefer = true) (hq : ∀ a w, ¬ Q .outgrown a w) (h : wpList P os.toArray Q os a w) : (Code.region id os.toArray false).wpIn (Fence.wide.inRound l) n P Q a w :=
  wpIn_region_lit (list_up l n os hd a w hq h)
def SeqCell {α : Type} (n : Nat) (P : Program) (g : Nat) (lb : Array Value) (encs : α → Array Value) (B : Nat) (Kp : World → World → Prop) (Rd : List α → α → Prop) (S Sp : List α → Prop) (w : World) : Prop :=
  ∀ (l : Nat) (J Jx : List α → World → Prop) (W : World), Below w.heap.size w W →
    (∀ pre A v, J pre A → J pre (A.setCell ⟨B, 0, none⟩ v)) → (∀ pre A, J pre A → J pre A.drew) →
    (∀ pre x W1, J pre W1 → Rd pre x → YieldAt Fence.wide (n - 1) P l (encs x) W1 fun e W' =>
      (e = .returned (.bool true) ∧ J (pre ++ [x]) W' ∧ Kp W1 W') ∨ (e = .returned (.bool false) ∧ Jx (pre ++ [x]) W')) →
    J [] W →
    CallsIn Fence.wide n P g (#[.func (.yield l) #[] #[]] ++ lb) W fun e W' => (∃ v, e = .returned v) ∧ ((∃ xs, S xs ∧ J xs W') ∨ (∃ pre, Sp pre ∧ Jx pre W'))
def postCell {α : Type} (D : Nat) (Kp : World → World → Prop) (I Ix : List α → World → Prop) (xs : List α) (W : World) : Exit → Act → World → Prop
  | .normal, _, W' => W'.heap[D]? = W.heap[D]? ∧ W'.heap[D + 1]? = W.heap[D + 1]? ∧ Kp W W' ∧ I xs W'
  | .ret, _, W' => W'.heap[D]? = W.heap[D]? ∧ W'.heap[D + 1]? = W.heap[D + 1]? ∧ Ix xs W'
  | _, _, _ => False
theorem range_cell {α : Type} {n : Nat} {P : Program} {g : Operand} {ps : Array Tmp} {assign body : Code} {Q : Exit → Act → World → Prop} {a : Act} {w : World}
    {gf : Nat} {lb : Array Value} (hg : a.eval g = .func (.func gf) #[] lb) (eg : ∀ args w, (callFunc gf args).run P w = .ok (.enter gf args) w)
    {encs : α → Array Value} {B : Nat} {Kp : World → World → Prop} {Rd : List α → α → Prop} {S Sp : List α → Prop} (hseq : SeqCell (n - 1) P gf lb encs B Kp Rd S Sp w) (hB : B < w.heap.size)
    (hKt : ∀ {X Y Z : World}, Kp X Y → Kp Y Z → Kp X Z) (hKb : ∀ (W : World) (o : Obj), Kp W (W.putObj (w.heap.size + 1) o)) (hps : ∀ x, (encs x).size = ps.size)
    (I Ix : List α → World → Prop) (hI : ∀ pre W o, I pre W → I pre (W.putObj (w.heap.size + 1) o)) (hIx : ∀ pre W o, Ix pre W → Ix pre (W.putObj (w.heap.size + 1) o))
    (hIB : ∀ pre A v, I pre A → I pre (A.setCell ⟨B, 0, none⟩ v)) (hId : ∀ pre A, I pre A → I pre A.drew)
    (h0 : ∀ o1 o2, I [] ((w.alloc o1).alloc o2)) (a₁ : α → Act)
    (hassign : ∀ (x : α) (W : World) (K : Act → World → Prop), K (a₁ x) W → assign.wpIn (Fence.wide.inRound (w.heap.size + 1)) (n - 1 - 1) P (Exit.then K (fun _ _ _ => False)) { tmps := (ps.zip (encs x)).foldl (fun t (p, v) => t.setIfInBounds p v) a.tmps, defers := [] } W)
    (hbody : ∀ (pre : List α) (x : α) (W : World), I pre W → Rd pre x → w.heap.size + 1 < W.heap.size → body.wpIn (Fence.wide.inRound (w.heap.size + 1)) (n - 1 - 1) P (postCell w.heap.size Kp I Ix (pre ++ [x]) W) (a₁ x) W)
    (hdone : ∀ (xs : List α) (W : World), S xs → I xs W → W.heap[w.heap.size]? = some (.deferred (some [])) → Q .normal { a with defers := { target := .collected w.heap.size, args := #[] } :: a.defers } W)
    (hstop : ∀ (pre : List α) (W : World), Sp pre → Ix pre W → W.heap[w.heap.size]? = some (.deferred (some [])) → Q .ret { a with defers := { target := .collected w.heap.size, args := #[] } :: a.defers } W) :
    (Code.rangeFunc g ps assign body).wpIn Fence.wide n P Q a w := by
  refine wpIn_rangeFunc ?_
  intro fn hfn
  obtain ⟨rec, hrec⟩ : ∃ rec : LoopState → Option Code → Loop, rec = fun st pe => { state := st, pending := pe, fn, tmps := a.tmps, params := ps, assign, body, defers := w.heap.size } := ⟨_, rfl⟩
  obtain ⟨W1, hW1⟩ : ∃ W1, (w.alloc (.deferred (some []))).alloc (.loop (rec .ready none)) = W1 := ⟨_, rfl⟩
  have hI1 : I [] W1 := by rw [← hW1]; exact h0 _ _
  have hL1 : W1.heap[w.heap.size + 1]? = some (.loop (rec .ready none)) := by
    rw [← hW1]
    have := World.alloc_heap_new (w.alloc (.deferred (some []))) (.loop (rec .ready none))
    rwa [World.size_alloc] at this
  have hD1 : W1.heap[w.heap.size]? = some (.deferred (some [])) := by
    rw [← hW1]
    exact (Below.heap_alloc _ _ _ (by simp)).trans (World.alloc_heap_new w _)
  have hb1 : Below w.heap.size w W1 := by
    rw [← hW1]
    exact (((Below.refl _ w).alloc (Nat.le_refl _) _).alloc (by simp) _)
  refine ⟨w.heap.size + 1, [{ target := .collected w.heap.size, args := #[] }], W1, { target := .fn (.func gf) lb, args := #[.func (.yield (w.heap.size + 1)) #[] #[]] }, W1, gf,
    #[.func (.yield (w.heap.size + 1)) #[] #[]] ++ lb, W1, ?_, ?_, fun _ _ => trivial, ?_, fun e => (by cases e), ?_⟩
  · rw [← hW1, hrec]; exact run_enterLoop_outer _ _ _ _ _
  · simp only [resolve, hg]
    simp [go_sem]
  · simp [invoke, go_sem, eg]
  · have ne1 : ∀ (A : World) (v : Value) (k : Nat), w.heap.size ≤ k → (A.setCell ⟨B, 0, none⟩ v).heap[k]? = A.heap[k]? := fun A v k hk => Below.heap_setCell A ⟨B, 0, none⟩ v k (by show k ≠ B; omega)
    have neD : ∀ (A : World) (o : Obj), (A.putObj (w.heap.size + 1) o).heap[w.heap.size]? = A.heap[w.heap.size]? := fun A o => World.putObj_heap_other (by omega)
    refine (hseq (w.heap.size + 1)
      (fun pre W => I pre W ∧ W.heap[w.heap.size + 1]? = some (.loop (rec .ready none)) ∧ W.heap[w.heap.size]? = some (.deferred (some [])))
      (fun pre W => Ix pre W ∧ W.heap[w.heap.size + 1]? = some (.loop (rec .done (some .ret))) ∧ W.heap[w.heap.size]? = some (.deferred (some [])))
      W1 hb1
      (fun pre A v h => ⟨hIB pre A v h.1, (ne1 A v _ (by omega)).trans h.2.1, (ne1 A v _ (Nat.le_refl _)).trans h.2.2⟩)
      (fun pre A h => ⟨hId pre A h.1, h.2.1, h.2.2⟩) ?_ ⟨hI1, hL1, hD1⟩).mono ?_
    · rintro pre x W ⟨hi, hl, hk⟩ hrd
      have hlt : w.heap.size + 1 < W.heap.size := (Array.getElem?_eq_some_iff.1 hl).1
      have hy := run_yield (P := P) (args := encs x) hl (by rw [hrec]; exact hps x)
      rw [hrec] at hy
      refine ⟨fn, _, assign, body, hy, roundIn_of_wpIn hfn (hassign x W _ ?_)⟩
      clear hy
      refine ⟨_, run_beginRound hl (by rw [hrec]), ?_⟩
      have hl2 : (W.putObj (w.heap.size + 1) (.loop { rec .ready none with state := .busy })).heap[w.heap.size + 1]? = some (.loop { rec .ready none with state := .busy }) := World.putObj_heap_same hlt
      have hk2 := (neD W (.loop { rec .ready none with state := .busy })).trans hk
      refine wpIn_mono (hbody pre x _ (hI pre W _ hi) hrd (by simpa using hlt)) ?_
      rintro e a3 W3 hp
      cases e with
      | normal =>
        obtain ⟨e1, e2, hkp, hi3⟩ := hp
        have hl3 := e2.trans hl2
        have hlt3 := (Array.getElem?_eq_some_iff.1 hl3).1
        refine ⟨_, _, run_endRound none hl3, .inl ⟨rfl, ⟨hI _ W3 _ hi3, ?_, ?_⟩, hKt (hKb W _) (hKt hkp (hKb W3 _))⟩⟩
        · rw [World.putObj_heap_same hlt3, hrec]; rfl
        · exact (neD W3 _).trans (e1.trans hk2)
      | ret =>
        obtain ⟨e1, e2, hi3⟩ := hp
        have hl3 := e2.trans hl2
        have hlt3 := (Array.getElem?_eq_some_iff.1 hl3).1
        refine ⟨_, _, run_endRound (some .ret) hl3, .inr ⟨rfl, hIx _ W3 _ hi3, ?_, ?_⟩⟩
        · rw [World.putObj_heap_same hlt3, hrec]; rfl
        · exact (neD W3 _).trans (e1.trans hk2)
      | exit id => exact hp.elim
      | goto t => exact hp.elim
      | panic ch => exact hp.elim
      | outgrown => exact hp.elim
    · rintro e W2 ⟨⟨v, rfl⟩, (⟨xs, hS, hi, hl, hk⟩ | ⟨pre, hSp, hi, hl, hk⟩)⟩
      · have := run_endLoop (P := P) hl (by rw [hrec]; simp)
        rw [hrec] at this
        exact ⟨none, _, this, hdone xs _ hS (hI _ W2 _ hi) ((neD W2 _).trans hk)⟩
      · have := run_endLoop (P := P) hl (by rw [hrec]; simp)
        rw [hrec] at this
        exact ⟨some .ret, _, this, wpIn_ret (hstop pre _ hSp (hIx _ W2 _ hi) ((neD W2 _).trans hk))⟩
attribute [local go_sem] Oper.semAt_some
def nextLine (s : ByteArray) : ByteArray × ByteArray :=
  if 0 ≤ Lib.indexByte s.data.toList 10 then (s.extract 0 (Lib.indexByte s.data.toList 10 + 1).toNat, s.extract (Lib.indexByte s.data.toList 10 + 1).toNat s.size) else (s, ⟨#[]⟩)
def linesF : Nat → ByteArray → List ByteArray
  | 0, _ => []
  | d + 1, s => if s.size = 0 then [] else (nextLine s).1 :: linesF d (nextLine s).2
theorem idx10_lt : ∀ l : List UInt8, Lib.indexByte l 10 < l.length ∨ Lib.indexByte l 10 = -1 := by
  intro l
  induction l with
  | nil => exact .inr rfl
  | cons b l ih =>
    unfold Lib.indexByte
    split
    · left; simp only [List.length_cons]; omega
    · split
      · exact .inr rfl
      · rename_i h1 h2
        have : ¬ Lib.indexByte l 10 = -1 := by simpa using h2
        left
        simp only [List.length_cons]
        rcases ih with ih | ih
        · omega
        · exact absurd ih this
theorem nextLine_size (s : ByteArray) (h : 0 < s.size) : (nextLine s).2.size < s.size := by
  unfold nextLine
  split
  · show (s.extract _ s.size).size < s.size
    rw [ByteArray.size_extract]
    omega
  · exact h
theorem idx10 (s : ByteArray) (w : World) : Calls Tryd.prog 80 #[.string s, .int .u8 10] w fun e w' => e = .returned (.int .i64 (Lib.indexByte s.data.toList 10)) ∧ w' = w := Tryd.strings_IndexByte s 10 w
theorem linesF_more : ∀ (s : ByteArray) (a b : Nat), s.size < a → s.size < b → linesF a s = linesF b s := by
  have key : ∀ (d : Nat) (s : ByteArray) (a b : Nat), s.size ≤ d → s.size < a → s.size < b → linesF a s = linesF b s := by
    intro d
    induction d with
    | zero =>
      intro s a b h ha hb
      obtain ⟨a, rfl⟩ : ∃ z, a = z + 1 := ⟨a - 1, by omega⟩
      obtain ⟨b, rfl⟩ : ∃ z, b = z + 1 := ⟨b - 1, by omega⟩
      rw [linesF, linesF, if_pos (by omega), if_pos (by omega)]
    | succ d ih =>
      intro s a b h ha hb
      obtain ⟨a, rfl⟩ : ∃ z, a = z + 1 := ⟨a - 1, by omega⟩
      obtain ⟨b, rfl⟩ : ∃ z, b = z + 1 := ⟨b - 1, by omega⟩
      rw [linesF, linesF]
      by_cases c : s.size = 0
      · rw [if_pos c, if_pos c]
      · rw [if_neg c, if_neg c]
        have := nextLine_size s (by omega)
        rw [ih (nextLine s).2 a b (by omega) (by omega) (by omega)]
  exact fun s a b => key s.size s a b (Nat.le_refl _)
def cellSize (B : Nat) (W : World) : Nat := match W.cell? ⟨B, 0, none⟩ with | some (.string r) => r.size | _ => 0
theorem cellSize_eq {B : Nat} {W : World} {r : ByteArray} (h : W.cell? ⟨B, 0, none⟩ = some (.string r)) : cellSize B W = r.size := by unfold cellSize; rw [h]
set_option maxHeartbeats 4000000 in
set_option maxRecDepth 100000 in
theorem lines_stops (n : Nat) (w : World) (B : Nat) (s : ByteArray) (hs : s.size ≤ 1000000000) (hB : w.heap[B]? = some (.cells #[.string s] 9 (0, 0))) :
    SeqCell n Tryd.prog 79 #[.pointer (some ⟨B, 0, none⟩)] (fun x : ByteArray => #[.string x]) B (fun W W' => W'.heap[B]? = W.heap[B]?) (fun pre x => ∃ rest, linesF (s.size + 1) s = pre ++ x :: rest) (fun ys => ys = linesF (s.size + 1) s) (fun pre => ∃ rest, linesF (s.size + 1) s = pre ++ rest) w := by
  intro l J Jx W hW hJs hJd hY h0
  have hBW : W.heap[B]? = some (.cells #[.string s] 9 (0, 0)) := gl_block hW hB
  clear hB hW
  refine callsIn_of_wp Tryd.func79 rfl trivial ?_ rfl
  simp only [Tryd.ntmps79, List.size_toArray, List.length_cons, List.length_nil, Nat.reduceAdd, Nat.reduceSub, Array.replicate_succ, Array.replicate_zero, List.push_toArray, List.append_toArray, List.nil_append, List.cons_append]
  gi_wp2_with fail
  gi_loopw [3] (fun v3 wr => ∃ (pre : List ByteArray) (rest : ByteArray), wr.heap[B]? = some (.cells #[.string rest] 9 (0, 0)) ∧ rest.size ≤ 1000000000 ∧ linesF (s.size + 1) s = pre ++ linesF (rest.size + 1) rest ∧ J pre wr)
    (fun _ wr => cellSize B wr)
  case atStart => exact ⟨[], s, hBW, hs, rfl, h0⟩
  case round =>
    obtain ⟨pre, rest, hb, hr, hx, hj⟩ := hrel
    have hc : wr.cell? ⟨B, 0, none⟩ = some (.string rest) := (blk_cell hb 0).trans rfl
    have hf : wr.frozen? ⟨B, 0, none⟩ = false := blk_frozen hb 0
    by_cases hz : rest.size = 0
    · have z1 : decide ((0 : Int) < (rest.size : Int)) = false := decide_eq_false (by omega)
      have z2 : decide (0 < rest.size) = false := decide_eq_false (by omega)
      gi_wp2_with fail
      go_end0
      exact ⟨⟨_, rfl⟩, .inl ⟨pre, by rw [hx]; simp [linesF, hz], hj⟩⟩
    · have z1 : decide ((0 : Int) < (rest.size : Int)) = true := decide_eq_true (by omega)
      have z2 : decide (0 < rest.size) = true := decide_eq_true (by omega)
      by_cases hi : 0 ≤ Lib.indexByte rest.data.toList 10
      · obtain ⟨i, hI⟩ : ∃ i, i = Lib.indexByte rest.data.toList 10 := ⟨_, rfl⟩
        have hil := idx10_lt rest.data.toList
        rw [Array.length_toList, ← hI] at hil
        rw [← hI] at hi
        have HI := Lib.hid hI
        have HL := Lib.hid (show i < (rest.size : Int) by
          have e : rest.data.size = rest.size := rfl
          rcases hil with h | h
          · rw [e] at h; exact h
          · omega)
        clear hI hil
        have i1 : decide (0 ≤ i) = true := decide_eq_true hi
        have i2 : i + 1 ≤ (rest.size : Int) := by have := HL.out; omega
        have i3 : i ≤ 1000000000 := by omega
        gi_wp2_with fail
        refine ⟨trivial, fun e => (by cases e), ?_⟩
        refine (callsIn_wide.2 (idx10 rest _)).mono ?_
        rintro e w' ⟨rfl, rfl⟩
        rw [← HI.out]
        gi_wp2_with fail
        refine wpIn_wide.2 ?_
        have j1 : IntKind.i64.wrap (i + 1) = i + 1 := IntWalk.i64_in _ (by omega)
        have j2 : 0 ≤ i + 1 := by omega
        go_region
        obtain ⟨x, hxx⟩ : ∃ x, x = rest.extract 0 (i + 1).toNat := ⟨_, rfl⟩
        obtain ⟨r2, hr2⟩ : ∃ r, r = rest.extract (i + 1).toNat rest.size := ⟨_, rfl⟩
        rw [← hxx, ← hr2]
        have hb2 : (w'.setCell ⟨B, 0, none⟩ (.string r2)).drew.heap[B]? = some (.cells #[.string r2] 9 (0, 0)) := blk_set hb 0 (.string r2)
        have hn : nextLine rest = (x, r2) := by unfold nextLine; rw [← HI.out, if_pos hi, hxx, hr2]
        have hlt2 := nextLine_size rest (by omega)
        rw [hn] at hlt2
        simp only at hlt2
        have hx2 : linesF (s.size + 1) s = pre ++ x :: linesF (r2.size + 1) r2 := by
          rw [hx, linesF, if_neg hz, hn]
          rw [linesF_more r2 rest.size (r2.size + 1) (by omega) (by omega)]
        obtain ⟨fn, tmps, assign, body, hy, hR⟩ := hY pre x ((w'.setCell ⟨B, 0, none⟩ (.string r2)).drew) (hJd _ _ (hJs _ _ _ hj)) ⟨_, hx2⟩
        have HY := Lib.hid hy
        have HLT := Lib.hid hlt2
        have HX2 := Lib.hid hx2
        have HB2 := Lib.hid hb2
        clear hy hxx hr2 hn hlt2 hx2 hb2 j1 j2 HI i1
        gi_wp2_with fail
        rw [HY.out, Oper.uponIn_round]
        refine ⟨fun e => (by cases e), ?_⟩
        refine hR.mono ?_
        rintro e W3 (⟨rfl, hJ3, hk3⟩ | ⟨rfl, hJx3⟩)
        · have HK3 := Lib.hid hk3
          clear hk3
          gi_wp2_with fail
          go_roundw
          case rel => exact ⟨pre ++ [x], r2, by rw [HK3.out]; exact HB2.out, by have := HLT.out; omega, by rw [HX2.out]; simp, hJ3⟩
          case measure =>
            rw [cellSize_eq hc, cellSize_eq (r := r2) ((blk_cell (HK3.out.trans HB2.out) 0).trans rfl)]
            exact HLT.out
        · gi_wp2_with fail
          refine bodyPost_ret (results_none rfl _ _ _) rfl ?_
          exact ⟨⟨_, rfl⟩, .inr ⟨pre ++ [x], ⟨linesF (r2.size + 1) r2, by rw [HX2.out]; simp⟩, hJx3⟩⟩
      · have i1 : decide (0 ≤ Lib.indexByte rest.data.toList 10) = false := decide_eq_false hi
        have HN := Lib.hid (show nextLine rest = (rest, ⟨#[]⟩) by unfold nextLine; rw [if_neg hi])
        have hx2 : linesF (s.size + 1) s = pre ++ rest :: linesF ((⟨#[]⟩ : ByteArray).size + 1) ⟨#[]⟩ := by
          rw [hx, linesF, if_neg hz, HN.out]
          obtain ⟨z, hz'⟩ : ∃ z, rest.size = z + 1 := ⟨rest.size - 1, by omega⟩
          rw [hz']
          rfl
        obtain ⟨fn, tmps, assign, body, hy, hR⟩ := hY pre rest (wr.setCell ⟨B, 0, none⟩ (.string ⟨#[]⟩)) (hJs _ _ _ hj) ⟨_, hx2⟩
        have HX2 := Lib.hid hx2
        clear hx2
        have HY := Lib.hid hy
        clear hy
        gi_wp2_with fail
        refine ⟨trivial, fun e => (by cases e), ?_⟩
        refine (callsIn_wide.2 (idx10 rest _)).mono ?_
        rintro e w' ⟨rfl, rfl⟩
        gi_wp2_with fail
        rw [HY.out, Oper.uponIn_round]
        refine ⟨fun e => (by cases e), ?_⟩
        have hb2 : (w'.setCell ⟨B, 0, none⟩ (.string ⟨#[]⟩)).heap[B]? = some (.cells #[.string ⟨#[]⟩] 9 (0, 0)) := blk_set hb 0 (.string ⟨#[]⟩)
        have hx2 := HX2.out
        refine hR.mono ?_
        rintro e W3 (⟨rfl, hJ3, hk3⟩ | ⟨rfl, hJx3⟩)
        · gi_wp2_with fail
          go_roundw
          case rel => exact ⟨pre ++ [rest], ⟨#[]⟩, by rw [hk3]; exact hb2, by decide, by rw [hx2]; simp, hJ3⟩
          case measure =>
            rw [cellSize_eq hc, cellSize_eq (r := ⟨#[]⟩) ((blk_cell (hk3.trans hb2) 0).trans rfl)]
            show 0 < rest.size
            omega
        · gi_wp2_with fail
          refine bodyPost_ret (results_none rfl _ _ _) rfl ?_
          exact ⟨⟨_, rfl⟩, .inr ⟨pre ++ [rest], ⟨linesF ((⟨#[]⟩ : ByteArray).size + 1) ⟨#[]⟩, by rw [hx2]; simp⟩, hJx3⟩⟩
attribute [local go_sem] Oper.semAt_some
def trimB (s : ByteArray) : ByteArray := ⟨(Lib.trimSuffix s.data.toList [10]).toArray⟩
def goOn : List ByteArray → List S42 → Option (List S42)
  | [], xs => some xs
  | x :: t, xs => if (trimB x).size = 0 then goOn t xs else if (readS (trimB x)).2 = true then goOn t (xs ++ [(readS (trimB x)).1]) else none
def parseGo : List ByteArray → List S42 → Int → List S42 × Int × Int
  | [], xs, n => (xs, n, 0)
  | x :: t, xs, n => if (trimB x).size = 0 then parseGo t xs (n + 1) else if (readS (trimB x)).2 = true then parseGo t (xs ++ [(readS (trimB x)).1]) (n + 1) else (xs, n, 17)
def parseS (s : ByteArray) : List S42 × Int × Int := if 32768 < s.size then ([], 0, 5) else parseGo (linesF (s.size + 1) s) [] 0
theorem goOn_snoc : ∀ (l : List ByteArray) (xs : List S42) (x : ByteArray), goOn (l ++ [x]) xs = (goOn l xs).bind fun ys => if (trimB x).size = 0 then some ys else if (readS (trimB x)).2 = true then some (ys ++ [(readS (trimB x)).1]) else none
  | [], xs, x => by
    simp only [List.nil_append, goOn, Option.bind_some]
  | y :: t, xs, x => by
    simp only [List.cons_append, goOn]
    split
    · exact goOn_snoc t xs x
    · split
      · exact goOn_snoc t _ x
      · rfl
theorem parseGo_on : ∀ (l t : List ByteArray) (xs ys : List S42) (n : Int), goOn l xs = some ys → parseGo (l ++ t) xs n = parseGo t ys (n + l.length)
  | [], t, xs, ys, n, h => by
    obtain rfl := Option.some.inj h
    simp
  | y :: l, t, xs, ys, n, h => by
    simp only [goOn] at h
    simp only [List.cons_append, parseGo]
    split
    · rename_i c
      rw [if_pos c] at h
      rw [parseGo_on l t xs ys (n + 1) h]
      congr 1
      simp only [List.length_cons]
      omega
    · rename_i c
      rw [if_neg c] at h
      split
      · rename_i c2
        rw [if_pos c2] at h
        rw [parseGo_on l t _ ys (n + 1) h]
        congr 1
        simp only [List.length_cons]
        omega
      · rename_i c2
        rw [if_neg c2] at h
        cases h
theorem goOn_len : ∀ (l : List ByteArray) (xs ys : List S42), goOn l xs = some ys → ys.length ≤ xs.length + l.length
  | [], xs, ys, h => by obtain rfl := Option.some.inj h; simp
  | y :: l, xs, ys, h => by
    simp only [goOn] at h
    split at h
    · have := goOn_len l _ _ h
      simp only [List.length_cons]
      omega
    · split at h
      · have := goOn_len l _ _ h
        simp only [List.length_append, List.length_cons, List.length_nil] at this ⊢
        omega
      · cases h
theorem linesF_len : ∀ (d : Nat) (s : ByteArray), (linesF d s).length ≤ s.size := by
  intro d
  induction d with
  | zero => intro s; simp [linesF]
  | succ d ih =>
    intro s
    rw [linesF]
    split
    · simp
    · have := nextLine_size s (by omega)
      have h2 := ih (nextLine s).2
      simp only [List.length_cons]
      omega
theorem nextLine_first (s : ByteArray) : (nextLine s).1.size ≤ s.size := by
  unfold nextLine
  split
  · show (s.extract 0 _).size ≤ s.size
    rw [ByteArray.size_extract]
    omega
  · exact Nat.le_refl _
theorem linesF_mem : ∀ (d : Nat) (s x : ByteArray), x ∈ linesF d s → x.size ≤ s.size := by
  intro d
  induction d with
  | zero => intro s x h; cases h
  | succ d ih =>
    intro s x h
    rw [linesF] at h
    split at h
    · cases h
    · rcases List.mem_cons.1 h with rfl | h
      · exact nextLine_first s
      · have := ih _ x h
        have := nextLine_size s (by omega)
        omega
theorem trimB_size (s : ByteArray) : (trimB s).size ≤ s.size := by
  show (Lib.trimSuffix s.data.toList [10]).toArray.size ≤ s.data.size
  rw [List.size_toArray]
  unfold Lib.trimSuffix
  split
  · rw [List.length_take, Array.length_toList]; omega
  · simp
set_option maxHeartbeats 1000000 in
theorem strLines_calls (s : ByteArray) (w : World) :
    Calls Tryd.prog 65 #[.string s] w fun e w' => e = .returned (.func (.func 79) #[] #[.pointer (some ⟨w.heap.size, 0, none⟩)]) ∧ w' = w.alloc (.cells #[.string s] 9) := by
  go_enter Tryd.func65, Tryd.ntmps65
  go_wp2
  go_ret
  exact ⟨rfl, rfl⟩
theorem S_lt {α : Type} {d : Kd α} {e : Nat} {w w1 : World} {base : Nat} {ok : Nat → Prop} {v : Value} {xs : List α} (h : Kd.S d e w base ok v xs) (hk : ∀ q, base ≤ q → q < w.heap.size → w1.heap[q]? = w.heap[q]?) : Kd.S d e w1 base ok v xs := by
  obtain ⟨f, h⟩ := h
  exact ⟨f, R_lt h hk⟩
attribute [local go_sem] Oper.semAt_some
structure PI (b : Nat) (w : World) (pre : List ByteArray) (W : World) (q0 q1 q2 v : Value) (xs : List S42) : Prop where
  r0 : W.heap[b]? = some (.cells #[q0] 44 (0, 0))
  r1 : W.heap[b + 1]? = some (.cells #[q1] 3 (0, 0))
  r2 : W.heap[b + 2]? = some (.cells #[q2] 27 (0, 0))
  bl : W.heap[b + 3]? = some (.cells #[v] 44 (0, 0))
  bn : W.heap[b + 4]? = some (.cells #[.int .i64 (pre.length : Int)] 3 (0, 0))
  own : Kd.S k42 42 W (b + 8) (fun _ => True) v xs
  below : Below b w W
  on : goOn pre [] = some xs
theorem PI.keep {b : Nat} {w : World} {pre : List ByteArray} {W W1 : World} {q0 q1 q2 v : Value} {xs : List S42} (h : PI b w pre W q0 q1 q2 v xs) (hb : Below b W W1) (h1 : ∀ k, b ≤ k → k < b + 5 → W1.heap[k]? = W.heap[k]?) (h2 : ∀ k, b + 8 ≤ k → k < W.heap.size → W1.heap[k]? = W.heap[k]?) : PI b w pre W1 q0 q1 q2 v xs :=
  ⟨(h1 b (by omega) (by omega)).trans h.r0, (h1 _ (by omega) (by omega)).trans h.r1, (h1 _ (by omega) (by omega)).trans h.r2, (h1 _ (by omega) (by omega)).trans h.bl, (h1 _ (by omega) (by omega)).trans h.bn, S_lt h.own h2, h.below.trans hb, h.on⟩
def PIn (b : Nat) (w : World) (pre : List ByteArray) (W : World) : Prop := ∃ v xs, PI b w pre W (.slice none 0 0) (.int .i64 0) (.int .i64 0) v xs
def PIx (b : Nat) (w : World) (pre : List ByteArray) (W : World) : Prop := ∃ (p : List ByteArray) (x : ByteArray) (v : Value) (xs : List S42), pre = p ++ [x] ∧ (trimB x).size ≠ 0 ∧ (readS (trimB x)).2 = false ∧ PI b w p W v (.int .i64 (p.length : Int)) (.int .i64 17) v xs
theorem below_put {b l : Nat} {A : World} {o : Obj} (h : b ≤ l) : Below b A (A.putObj l o) :=
  ⟨rfl, rfl, rfl, by simp, fun k hk => World.putObj_heap_other (by omega)⟩
theorem PI.put {b : Nat} {w : World} {pre : List ByteArray} {W : World} {q0 q1 q2 v : Value} {xs : List S42} (h : PI b w pre W q0 q1 q2 v xs) (o : Obj) : PI b w pre (W.putObj (b + 7) o) q0 q1 q2 v xs :=
  h.keep (below_put (by omega)) (fun k _ h2 => World.putObj_heap_other (by omega)) (fun k h2 _ => World.putObj_heap_other (by omega))
theorem PI.cell {b : Nat} {w : World} {pre : List ByteArray} {W : World} {q0 q1 q2 v : Value} {xs : List S42} (h : PI b w pre W q0 q1 q2 v xs) (u : Value) : PI b w pre (W.setCell ⟨b + 5, 0, none⟩ u) q0 q1 q2 v xs :=
  h.keep ((Below.refl b W).setCell (p := ⟨b + 5, 0, none⟩) (by show b ≤ b + 5; omega) _) (fun k _ h2 => Below.heap_setCell W ⟨b + 5, 0, none⟩ u k (by show k ≠ b + 5; omega)) (fun k h2 _ => Below.heap_setCell W ⟨b + 5, 0, none⟩ u k (by show k ≠ b + 5; omega))
theorem PI.drew {b : Nat} {w : World} {pre : List ByteArray} {W : World} {q0 q1 q2 v : Value} {xs : List S42} (h : PI b w pre W q0 q1 q2 v xs) : PI b w pre W.drew q0 q1 q2 v xs :=
  h.keep (below_drew (Below.refl b W)) (fun _ _ _ => rfl) (fun _ _ _ => rfl)
def W6 (s : ByteArray) (w : World) : World := (((((w.alloc (.cells #[.slice none 0 0] 44)).alloc (.cells #[.int .i64 0] 3)).alloc (.cells #[.int .i64 0] 27)).alloc (.cells #[.slice none 0 0] 44)).alloc (.cells #[.int .i64 0] 3)).alloc (.cells #[.string s] 9)
theorem W6_size (s : ByteArray) (w : World) : (W6 s w).heap.size = w.heap.size + 6 := by simp [W6]
theorem PI_zero (s : ByteArray) (w : World) (o1 o2 : Obj) : PI w.heap.size w [] (((W6 s w).alloc o1).alloc o2) (.slice none 0 0) (.int .i64 0) (.int .i64 0) (.slice none 0 0) [] := by
  have g : ∀ (A : World) (o : Obj) (k : Nat) (z : Obj), A.heap[k]? = some z → (A.alloc o).heap[k]? = some z := fun A o k z h => (Below.heap_alloc A o k (Array.getElem?_eq_some_iff.1 h).1).trans h
  have n : ∀ (A : World) (o : Obj) (k : Nat), A.heap.size = k → (A.alloc o).heap[k]? = some o := fun A o k h => by subst h; exact World.alloc_heap_new A o
  refine ⟨?_, ?_, ?_, ?_, ?_, Kd.S_nil _ _ _ _ _, ?_, rfl⟩
  · refine g _ _ _ _ (g _ _ _ _ (g _ _ _ _ (g _ _ _ _ (g _ _ _ _ (g _ _ _ _ (g _ _ _ _ (n _ _ _ ?_)))))))
    rfl
  · refine g _ _ _ _ (g _ _ _ _ (g _ _ _ _ (g _ _ _ _ (g _ _ _ _ (g _ _ _ _ (n _ _ _ ?_))))))
    simp
  · refine g _ _ _ _ (g _ _ _ _ (g _ _ _ _ (g _ _ _ _ (g _ _ _ _ (n _ _ _ ?_)))))
    simp
  · refine g _ _ _ _ (g _ _ _ _ (g _ _ _ _ (g _ _ _ _ (n _ _ _ ?_))))
    simp
  · refine g _ _ _ _ (g _ _ _ _ (g _ _ _ _ (n _ _ _ ?_)))
    simp
  · unfold W6
    exact ((((((((Below.refl _ w).alloc (Nat.le_refl _) _).alloc (by simp) _).alloc (by simp; omega) _).alloc (by simp; omega) _).alloc (by simp; omega) _).alloc (by simp; omega) _).alloc (by simp; omega) _).alloc (by simp; omega) _
theorem W6_five (s : ByteArray) (w : World) : (W6 s w).heap[w.heap.size + 5]? = some (.cells #[.string s] 9 (0, 0)) := by
  have n : ∀ (A : World) (o : Obj) (k : Nat), A.heap.size = k → (A.alloc o).heap[k]? = some o := fun A o k h => by subst h; exact World.alloc_heap_new A o
  exact n _ _ _ (by simp)
theorem info42b : (Tryd.prog.info? 42).map (fun i => (i.zero, i.size, i.bytes)) = some (some (.agg #[(.int .i64 0), (.int .i64 0), (.int .i64 0), (.int .i64 0), (.int .i64 0), (.int .i64 0), (.string ⟨#[]⟩), (.int .i64 0), (.string ⟨#[]⟩), (.slice none 0 0)]), 10, 112) := by kernel_rfl
theorem PI.next {b : Nat} {w : World} {pre : List ByteArray} {W w1 : World} {q0 q1 q2 v v1 : Value} {xs ys : List S42} {x : ByteArray} (h : PI b w pre W q0 q1 q2 v xs) (hb : Below (b + 8) W w1) (hz : b + 7 < W.heap.size) (hS : Kd.S k42 42 w1 (b + 8) (fun _ => True) v1 ys) (hon : goOn (pre ++ [x]) [] = some ys) :
    PI b w (pre ++ [x]) ((w1.setCell ⟨b + 3, 0, none⟩ v1).setCell ⟨b + 4, 0, none⟩ (.int .i64 ((pre.length : Int) + 1))) q0 q1 q2 v1 ys ∧
    (∀ k, b + 5 ≤ k → k < b + 8 → ((w1.setCell ⟨b + 3, 0, none⟩ v1).setCell ⟨b + 4, 0, none⟩ (.int .i64 ((pre.length : Int) + 1))).heap[k]? = W.heap[k]?) := by
  have far : ∀ (A : World) (j k : Nat) (u : Value), k ≠ j → (A.setCell ⟨j, 0, none⟩ u).heap[k]? = A.heap[k]? := fun A j k u hk => Below.heap_setCell A ⟨j, 0, none⟩ u k hk
  have b3 : (w1.setCell ⟨b + 3, 0, none⟩ v1).heap[b + 3]? = some (.cells #[v1] 44 (0, 0)) := blk_set ((hb.block (b + 3) (by omega)).trans h.bl) 0 v1
  have b4 : (w1.setCell ⟨b + 3, 0, none⟩ v1).heap[b + 4]? = some (.cells #[.int .i64 (pre.length : Int)] 3 (0, 0)) := (far _ _ _ _ (by omega)).trans ((hb.block (b + 4) (by omega)).trans h.bn)
  have b5 := blk_set b4 0 (.int .i64 ((pre.length : Int) + 1))
  refine ⟨⟨?_, ?_, ?_, ?_, ?_, ?_, ?_, hon⟩, ?_⟩
  · rw [far _ _ _ _ (by omega), far _ _ _ _ (by omega), hb.block b (by omega)]; exact h.r0
  · rw [far _ _ _ _ (by omega), far _ _ _ _ (by omega), hb.block (b + 1) (by omega)]; exact h.r1
  · rw [far _ _ _ _ (by omega), far _ _ _ _ (by omega), hb.block (b + 2) (by omega)]; exact h.r2
  · rw [far _ _ _ _ (by omega)]; exact b3
  · rw [b5]
    simp
  · exact S_lt hS (fun q hq _ => by rw [far _ _ _ _ (by omega), far _ _ _ _ (by omega)])
  · refine h.below.trans ?_
    have : Below b W w1 := ⟨hb.os, hb.tape, hb.output, hb.size, fun k hk => hb.block k (by omega)⟩
    exact (this.setCell (p := ⟨b + 3, 0, none⟩) (by show b ≤ b + 3; omega) _).setCell (p := ⟨b + 4, 0, none⟩) (by show b ≤ b + 4; omega) _
  · intro k h1 h2
    rw [far _ _ _ _ (by omega), far _ _ _ _ (by omega), hb.block k (by omega)]
theorem PI.skip {b : Nat} {w : World} {pre : List ByteArray} {W : World} {q0 q1 q2 v : Value} {xs : List S42} {x : ByteArray} (h : PI b w pre W q0 q1 q2 v xs) (hon : goOn (pre ++ [x]) [] = some xs) :
    PI b w (pre ++ [x]) (W.setCell ⟨b + 4, 0, none⟩ (.int .i64 ((pre.length : Int) + 1))) q0 q1 q2 v xs ∧
    (∀ k, b + 5 ≤ k → (W.setCell ⟨b + 4, 0, none⟩ (.int .i64 ((pre.length : Int) + 1))).heap[k]? = W.heap[k]?) := by
  have far : ∀ (A : World) (j k : Nat) (u : Value), k ≠ j → (A.setCell ⟨j, 0, none⟩ u).heap[k]? = A.heap[k]? := fun A j k u hk => Below.heap_setCell A ⟨j, 0, none⟩ u k hk
  have b5 := blk_set h.bn 0 (.int .i64 ((pre.length : Int) + 1))
  refine ⟨⟨?_, ?_, ?_, ?_, ?_, ?_, ?_, hon⟩, ?_⟩
  · rw [far _ _ _ _ (by omega)]; exact h.r0
  · rw [far _ _ _ _ (by omega)]; exact h.r1
  · rw [far _ _ _ _ (by omega)]; exact h.r2
  · rw [far _ _ _ _ (by omega)]; exact h.bl
  · rw [b5]
    simp
  · exact S_lt h.own (fun q hq _ => by rw [far _ _ _ _ (by omega)])
  · exact h.below.trans ((Below.refl b W).setCell (p := ⟨b + 4, 0, none⟩) (by show b ≤ b + 4; omega) _)
  · intro k h1
    rw [far _ _ _ _ (by omega)]
theorem empty_yes {y : ByteArray} (h : y.size = 0) : y.toList.isEmpty = true := by
  rw [ByteArray.toList_eq, List.isEmpty_iff, ← List.length_eq_zero_iff, Array.length_toList]
  exact h
theorem empty_no {y : ByteArray} (h : ¬ y.size = 0) : y.toList.isEmpty = false := by
  refine Bool.eq_false_iff.2 (fun e => h ?_)
  rw [ByteArray.toList_eq, List.isEmpty_iff, ← List.length_eq_zero_iff, Array.length_toList] at e
  exact e
theorem PI.stopped {b : Nat} {w : World} {pre : List ByteArray} {W w5 : World} {q0 q1 q2 v : Value} {xs : List S42} (h : PI b w pre W q0 q1 q2 v xs) (h8 : ∀ k, k < b + 8 → w5.heap[k]? = W.heap[k]?) (hr : ∀ k, b + 8 ≤ k → k < W.heap.size → w5.heap[k]? = W.heap[k]?) (h5 : Below b W w5) (u1 u2 : Value) :
    PI b w pre ((((w5.setCell ⟨b, 0, none⟩ v).setCell ⟨b + 1, 0, none⟩ u1).setCell ⟨b + 2, 0, none⟩ u2).drew) v u1 u2 v xs ∧
    (∀ k, b + 5 ≤ k → k < b + 8 → ((((w5.setCell ⟨b, 0, none⟩ v).setCell ⟨b + 1, 0, none⟩ u1).setCell ⟨b + 2, 0, none⟩ u2).drew).heap[k]? = W.heap[k]?) := by
  have far : ∀ (A : World) (j k : Nat) (u : Value), k ≠ j → (A.setCell ⟨j, 0, none⟩ u).heap[k]? = A.heap[k]? := fun A j k u hk => Below.heap_setCell A ⟨j, 0, none⟩ u k hk
  have dr : ∀ (A : World) (k : Nat), A.drew.heap[k]? = A.heap[k]? := fun _ _ => rfl
  have c0 := blk_set ((h8 b (by omega)).trans h.r0) 0 v
  have c1 := blk_set ((far w5 b (b + 1) v (by omega)).trans ((h8 (b + 1) (by omega)).trans h.r1)) 0 u1
  have c2 := blk_set ((far _ (b + 1) (b + 2) u1 (by omega)).trans ((far w5 b (b + 2) v (by omega)).trans ((h8 (b + 2) (by omega)).trans h.r2))) 0 u2
  refine ⟨⟨?_, ?_, ?_, ?_, ?_, ?_, ?_, h.on⟩, ?_⟩
  · rw [dr, far _ _ _ _ (by omega), far _ _ _ _ (by omega)]; exact c0
  · rw [dr, far _ _ _ _ (by omega)]; exact c1
  · rw [dr]; exact c2
  · rw [dr, far _ _ _ _ (by omega), far _ _ _ _ (by omega), far _ _ _ _ (by omega), h8 (b + 3) (by omega)]; exact h.bl
  · rw [dr, far _ _ _ _ (by omega), far _ _ _ _ (by omega), far _ _ _ _ (by omega), h8 (b + 4) (by omega)]; exact h.bn
  · exact S_lt h.own (fun q hq hl => by rw [dr, far _ _ _ _ (by omega), far _ _ _ _ (by omega), far _ _ _ _ (by omega), hr q hq hl])
  · refine h.below.trans ?_
    exact below_drew (((h5.setCell (p := ⟨b, 0, none⟩) (Nat.le_refl b) _).setCell (p := ⟨b + 1, 0, none⟩) (by show b ≤ b + 1; omega) _).setCell (p := ⟨b + 2, 0, none⟩) (by show b ≤ b + 2; omega) _)
  · intro k h1 h2
    rw [dr, far _ _ _ _ (by omega), far _ _ _ _ (by omega), far _ _ _ _ (by omega), h8 k h2]
theorem PI.stop {b : Nat} {w : World} {pre : List ByteArray} {W w5 : World} {q0 q1 q2 v : Value} {xs : List S42} (h : PI b w pre W q0 q1 q2 v xs) (hb : Below W.heap.size W w5) (hz : b + 7 < W.heap.size) (u1 u2 : Value) :
    PI b w pre ((((w5.setCell ⟨b, 0, none⟩ v).setCell ⟨b + 1, 0, none⟩ u1).setCell ⟨b + 2, 0, none⟩ u2).drew) v u1 u2 v xs ∧
    (∀ k, b + 5 ≤ k → k < b + 8 → ((((w5.setCell ⟨b, 0, none⟩ v).setCell ⟨b + 1, 0, none⟩ u1).setCell ⟨b + 2, 0, none⟩ u2).drew).heap[k]? = W.heap[k]?) :=
  h.stopped (fun k hk => hb.block k (by omega)) (fun k _ hl => hb.block k hl) ⟨hb.os, hb.tape, hb.output, hb.size, fun k hk => hb.block k (by omega)⟩ u1 u2
theorem PI.put6 {b : Nat} {w : World} {pre : List ByteArray} {W : World} {q0 q1 q2 v : Value} {xs : List S42} (h : PI b w pre W q0 q1 q2 v xs) (o : Obj) : PI b w pre (W.putObj (b + 6) o) q0 q1 q2 v xs :=
  h.keep (below_put (by omega)) (fun k _ h2 => World.putObj_heap_other (by omega)) (fun k h2 _ => World.putObj_heap_other (by omega))
theorem load_step' {W : World} {g : Nat} {x : S42} {v : Value} (h : StepAt W g x v) (ev : Operand → Value) (o : Oper) (p : Operand) (ho : o.op = .load 42 p) (hp : ev p = .pointer (some ⟨g, 0, none⟩)) :
    (execOp ev o).run Tryd.prog W = .ok (.value (.agg #[.int .i64 x.f0, .int .i64 x.f1, .int .i64 x.f2, .int .i64 x.f3, .int .i64 x.f4, .int .i64 x.f5, .string x.f6, .int .i64 x.f7, .string x.f8, v])) W := load_step h ev o p ho hp
theorem S_low {α : Type} {d : Kd α} {e base base' : Nat} {w : World} {ok : Nat → Prop} {v : Value} {xs : List α} (h : Kd.S d e w base ok v xs) (hb : base' ≤ base) : Kd.S d e w base' ok v xs := by
  obtain ⟨f, h⟩ := h
  exact ⟨f, Kd.R_lower h hb⟩
end Go.Proofs.YtcgkmomhjincgaaDoor.LibQ.Scr
