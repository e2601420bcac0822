/- The lines of script and their laws, part Qk: contracts by hand. -/
import Derived.Test.YtcgkmomhjincgaaDoorBLibQ0
import Derived.Test.YtcgkmomhjincgaaDoorBQi
import Derived.Test.YtcgkmomhjincgaaDoorBQj
import Derived.RangeFuncNested
import Derived.RangeFuncBound
import Derived.RangeFuncCalls
import Derived.RangeFuncLeaves
import Derived.WalkKit
import Derived.OwnWalkIn
import Derived.TacticsInMore
import Derived.LoopNIn
import Derived.LoopIn
import Derived.Shelf.RegionOpen
import Derived.IntWalk
import Derived.Lib.Hide
import Derived.Maps.AppendAt
import Derived.Lib.AppendStr
import Derived.Lib.UnsafeStr
import Derived.Lib.Builder
import Derived.Laws.Externs
import Derived.HandedShaped
import Derived.Shelf.Vars
import Derived.Deep.DeepHandedRow
import Derived.Carry
import Derived.ProofKit
import Derived.OpenShut
import Derived.ShutString
import Derived.ChangeOld
import Derived.SizedLaws
import Derived.LaidMore
import Derived.Lay
import Derived.SevenTiedAt
import Derived.Stop.Joined
namespace Go.Proofs.YtcgkmomhjincgaaDoor.LibQ.Scr
open Go.RowKit Go.Proofs.YtcgkmomhjincgaaDoor.LibQ Go.Proofs.YtcgkmomhjincgaaDoorW.PrintWords Go.Proofs.YtcgkmomhjincgaaDoorW.PrintLast Go.Proofs.YtcgkmomhjincgaaDoorW.PrintMore
set_option linter.unusedVariables false
set_option linter.unusedSimpArgs false
attribute [local go_sem] max2_int min2_int max_two min_two max_three min_three max_four min_four
def cutGo : List UInt8 → List UInt8 → List (List UInt8)
  | [], cur => if cur = [] then [] else [cur]
  | b :: t, cur => if b = 10 then cur :: cutGo t [] else cutGo t (cur ++ [b])
def toB (l : List UInt8) : ByteArray := ⟨l.toArray⟩
theorem toB_list (s : ByteArray) : toB s.data.toList = s := by
  cases s with | mk d => simp [toB]
theorem toB_ext (s : ByteArray) (a b : Nat) : s.extract a b = toB ((s.data.toList.take b).drop a) := by
  rw [← toB_list (s.extract a b), ByteArray.data_extract, Array.toList_extract, List.extract_eq_take_drop, List.drop_take]
theorem cutGo_hit : ∀ (pre post cur : List UInt8), (∀ b ∈ pre, b ≠ 10) → cutGo (pre ++ 10 :: post) cur = (cur ++ pre) :: cutGo post []
  | [], post, cur, _ => by simp [cutGo]
  | b :: t, post, cur, h => by
    rw [List.cons_append, cutGo, if_neg (h b (by simp)), cutGo_hit t post (cur ++ [b]) (fun x hx => h x (by simp [hx]))]
    simp
theorem cutGo_miss : ∀ (l cur : List UInt8), (∀ b ∈ l, b ≠ 10) → cutGo l cur = if cur ++ l = [] then [] else [cur ++ l]
  | [], cur, _ => by simp [cutGo]
  | b :: t, cur, h => by
    rw [cutGo, if_neg (h b (by simp)), cutGo_miss t (cur ++ [b]) (fun x hx => h x (by simp [hx]))]
    simp
theorem idx_split : ∀ (l : List UInt8), (Lib.indexByte l 10 = -1 ∧ ∀ b ∈ l, b ≠ 10) ∨ (∃ (i : Nat) (post : List UInt8), Lib.indexByte l 10 = i ∧ l = l.take i ++ 10 :: post ∧ l.drop (i + 1) = post ∧ ∀ b ∈ l.take i, b ≠ 10)
  | [] => .inl ⟨rfl, by simp⟩
  | b :: t => by
    by_cases hb : b = 10
    · subst hb
      exact .inr ⟨0, t, by simp [Lib.indexByte], by simp, by simp, by simp⟩
    · have hb2 : (b == 10) = false := by simpa using hb
      rcases idx_split t with ⟨h1, h2⟩ | ⟨i, post, h1, h2, h3, h4⟩
      · left
        refine ⟨?_, ?_⟩
        · simp only [Lib.indexByte, hb2, h1]; rfl
        · intro x hx
          rcases List.mem_cons.1 hx with rfl | hx
          · exact hb
          · exact h2 x hx
      · right
        refine ⟨i + 1, post, ?_, ?_, ?_, ?_⟩
        · simp only [Lib.indexByte, hb2, h1]
          have : ((i : Int) == -1) = false := by simp
          rw [this]
          simp
        · simp only [List.take_succ_cons, List.cons_append, ← h2]
        · rw [List.drop_succ_cons]; exact h3
        · intro x hx
          rw [List.take_succ_cons] at hx
          rcases List.mem_cons.1 hx with rfl | hx
          · exact hb
          · exact h4 x hx
theorem trim_hit (pre : List UInt8) : trimB (toB (pre ++ [10])) = toB pre := by
  unfold trimB toB
  have e : Lib.trimSuffix (pre ++ [10]) [10] = pre := by
    unfold Lib.trimSuffix Lib.hasSuffix
    simp
  simp only [e]
theorem trim_miss (l : List UInt8) (h : ∀ b ∈ l, b ≠ 10) : trimB (toB l) = toB l := by
  unfold trimB toB
  have e : Lib.trimSuffix l [10] = l := by
    unfold Lib.trimSuffix Lib.hasSuffix
    split
    · rename_i c
      exfalso
      have h2 : ([10] : List UInt8) <:+ l := by simpa using c
      obtain ⟨t, rfl⟩ := h2
      exact h 10 (by simp) rfl
    · rfl
  simp only [e]
theorem lines_cut : ∀ (d : Nat) (s : ByteArray), s.size < d → (linesF d s).map trimB = (cutGo s.data.toList []).map toB := by
  intro d
  induction d with
  | zero => intro s h; omega
  | succ d ih =>
    intro s h
    have hl : s.data.toList.length = s.size := by rw [Array.length_toList]; rfl
    rw [linesF]
    by_cases hz : s.size = 0
    · rw [if_pos hz]
      have e : s.data.toList = [] := List.eq_nil_of_length_eq_zero (by omega)
      rw [e]
      simp [cutGo]
    · rw [if_neg hz]
      have hns := nextLine_size s (by omega)
      rw [List.map_cons, ih _ (by omega)]
      rcases idx_split s.data.toList with ⟨h1, h2⟩ | ⟨i, post, h1, h2, h3, h4⟩
      · have hn : nextLine s = (s, ⟨#[]⟩) := by unfold nextLine; rw [if_neg (by rw [h1]; decide)]
        rw [hn, cutGo_miss _ [] h2, List.nil_append, if_neg (by intro e; rw [e] at hl; simp at hl; omega)]
        simp only
        rw [← toB_list s, trim_miss _ h2]
        simp [cutGo, toB]
      · have hi : i + 1 ≤ s.size := by
          have := congrArg List.length h2
          rw [List.length_append, List.length_cons, List.length_take] at this
          omega
        have hn : nextLine s = (toB (s.data.toList.take i ++ [10]), toB post) := by
          unfold nextLine
          rw [if_pos (by omega), h1]
          have e1 : ((i : Int) + 1).toNat = i + 1 := by omega
          rw [e1, toB_ext, toB_ext]
          congr 1
          · congr 1
            rw [List.drop_zero]
            conv => lhs; rw [h2]
            rw [List.take_append]
            have : (s.data.toList.take i).length = i := by rw [List.length_take]; omega
            rw [this, List.take_of_length_le (by omega), show i + 1 - i = 1 by omega]
            rfl
          · congr 1
            rw [← h3, List.take_of_length_le (by omega)]
        rw [hn]
        simp only
        rw [trim_hit]
        conv => rhs; rw [h2, cutGo_hit _ _ _ h4, List.nil_append, List.map_cons]
        rfl
theorem parse_calls (s : ByteArray) (w : World) (hG : GL w) (hs : s.size ≤ 32768) :
    Calls Tryd.prog 31 #[.string s] w fun e w' => ∃ v, e = .returned (.tuple #[v, .int .i64 (parseS s).2.1, .int .i64 (parseS s).2.2]) ∧ Kd.S k42 42 w' w.heap.size (fun _ => True) v (parseS s).1 ∧ Below w.heap.size w w' := by
  have := parse_short s w hG (by omega)
  unfold parseS
  rw [if_neg (by omega)]
  exact this
theorem rows_of_S {W : World} {base : Nat} {ok : Nat → Prop} {A : Option Addr} {c : Nat} {xs : List S42} (h : Kd.S k42 42 W base ok (.slice A xs.length c) xs) : Kd.C k42 W A xs.length xs ∧ xs.length ≤ c :=
  have h1 := Kd.R_reads' (Kd.S_R h)
  ⟨h1.2.2, h1.2.1⟩
end Go.Proofs.YtcgkmomhjincgaaDoor.LibQ.Scr
