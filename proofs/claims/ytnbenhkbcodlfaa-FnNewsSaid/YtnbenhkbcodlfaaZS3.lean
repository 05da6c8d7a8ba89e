/- The laws' choices out of bytes; a new cluster of a size that is none; what the law News draws (own work). -/
import Derived.Test.YtnbenhkbcodlfaaZS2
import Derived.Test.YtnbenhkbcodlfaaZS1
import Derived.Test.YtnbenhkbcodlfaaZJ
set_option linter.unusedVariables false
set_option linter.unusedSimpArgs false
namespace Go.Proofs.Ytnbenhkbcodlfaa
open Go Go.RowKit Mk
theorem opensCode : Opens Try.prog (slice 5 kU8) 33 := opens_slice (e := 5) _ (by kernel_rfl) (by kernel_rfl) (opens_u8 (by kernel_rfl))
/-- A choice: below n. -/
def Choice (n : Int) (w : World) (r : Ending) (w' : World) : Prop := ∃ v : Int, r = .returned (.int .i64 v) ∧ 0 ≤ v ∧ v < n ∧ Below w.heap.size w w'
set_option maxRecDepth 100000 in
set_option maxHeartbeats 4000000 in
theorem lwAt_c (code : List (Fin 256)) (A : Option Addr) (c i : Nat) (n : Int) (w : World) (hr : RdS kU8 w A c code) (hi : i ≤ 1000) (hn : 1 ≤ n) (hn2 : n ≤ 200) :
    Calls Try.prog 20 #[.slice A code.length c, .int .i64 i, .int .i64 n] w fun r w' => Choice n w r w' := by
  have hln := hr.le63
  by_cases h1 : n ≤ 1
  · have hd : decide (n ≤ 1) = true := decide_eq_true h1
    go_enter Try.func20, Try.ntmps20
    go_wp2_with fail
    go_ret
    exact ⟨0, rfl, by omega, by omega, Below.refl _ _⟩
  have hd : decide (n ≤ 1) = false := decide_eq_false h1
  have hnz : n ≠ 0 := by omega
  by_cases hl : code.length = 0
  · have he : ((code.length : Int) == 0) = true := beq_iff_eq.2 (by omega)
    go_enter Try.func20, Try.ntmps20
    go_wp2_with fail
    go_ret
    exact ⟨(i : Int) * 7 % n, rfl, Int.emod_nonneg _ hnz, Int.emod_lt_of_pos _ (by omega), Below.refl _ _⟩
  have he : ((code.length : Int) == 0) = false := beq_eq_false_iff_ne.2 (by omega)
  have hlp : 0 < code.length := by omega
  have hj : i % code.length < code.length := Nat.mod_lt _ hlp
  have hmod : (i : Int) % (code.length : Int) = ((i % code.length : Nat) : Int) := by simp
  have hq1 : i / code.length ≤ i := Nat.div_le_self _ _
  have hdiv : (i : Int) / (code.length : Int) = ((i / code.length : Nat) : Int) := by simp
  obtain ⟨a, ea, hx⟩ := hr.at_ hj
  subst ea
  simp only [show kU8.sz = 1 from rfl, Nat.mul_one] at hx
  obtain ⟨cs, hl1, hcs⟩ := hx
  obtain rfl : cs = [Value.int .u8 (code[i % code.length].val : Int)] := hcs
  have q0 := hl1.c0
  have x0 := code[i % code.length].isLt
  generalize code[i % code.length].val = X at q0 x0
  generalize i % code.length = J at q0 hmod hj
  generalize i / code.length = D at hdiv hq1
  clear hl1
  have hd2 : decide (200 < n) = false := decide_eq_false (by omega)
  go_enter Try.func20, Try.ntmps20
  go_wp2_with fail
  go_quiet (fail)
  go_wp2_with fail
  go_ret
  exact ⟨_, rfl, Int.emod_nonneg _ hnz, Int.emod_lt_of_pos _ (by omega), by repeat (first | (with_reducible assumption) | (with_reducible exact Below.refl _ _) | (with_reducible apply below_alloc) | (with_reducible apply below_drewN) | (with_reducible apply Below.drew) | (with_reducible refine below_set ?_ (by dsimp only; omega) _) | (with_reducible refine below_trans ?_ (by assumption)))⟩
theorem lwBig_c (n c : Nat) (A : Option Addr) (w : World) (hn : n ≤ 9223372036854775807) : Calls Try.prog 14 #[.slice A n c] w fun r w' => r = .returned (.bool (decide (1048576 < (n : Int)))) ∧ w' = w := by
  go_enter Try.func14, Try.ntmps14
  go_wp2_with fail
  go_ret
  exact ⟨rfl, rfl⟩
/-- A size drawn: -1 to 6. -/
def SizeDrawn (w : World) (r : Ending) (w' : World) : Prop := ∃ v : Int, r = .returned (.int .i64 v) ∧ -1 ≤ v ∧ v ≤ 6 ∧ Below w.heap.size w w'
set_option maxRecDepth 100000 in
set_option maxHeartbeats 4000000 in
theorem drawNewCluster_c (code : List (Fin 256)) (A : Option Addr) (c : Nat) (w : World) (hr : RdS kU8 w A c code) :
    Calls Try.prog 15 #[.slice A code.length c] w fun r w' => SizeDrawn w r w' := by
  go_enter Try.func15, Try.ntmps15
  go_wp2_with fail
  refine (l1Source_c code A c w).mono ?_
  rintro e w1 ⟨rfl, hs, hb, hl⟩
  go_wp2_with fail
  refine (l1Next_c w w.heap.size code A c 0 8 w1 hs hr (by omega) (by omega) (by omega)).mono ?_
  rintro e w2 ⟨v, rfl, h0, h1, -, hs2, hT⟩
  have h7 := h1 (by omega)
  have bw : Below w.heap.size w w2 := hs2.2.2
  clear hs hs2 hT h1
  go_wp2_with fail
  go_ret
  exact ⟨v - 1, rfl, by omega, by omega, bw⟩
set_option maxRecDepth 100000 in
set_option maxHeartbeats 4000000 in
theorem iNewCluster_bad (s : Int) (w : World) (h : wi s 1 5 = false) :
    Calls Try.prog 16 #[.int .i64 s] w fun r w' => r = .returned (.agg #[.int .i64 3, .slice none 0 0, .slice none 0 0, .slice none 0 0]) ∧ Below w.heap.size w w' := by
  go_enter Try.func16, Try.ntmps16
  go_wp2_with (go_at_call 29; (with_reducible refine (within_c _ _ _ _).mono ?_); rintro e w' ⟨rfl, rfl⟩)
  exact bodyPost_ret (v := .agg #[.int .i64 3, .slice none 0 0, .slice none 0 0, .slice none 0 0]) (by simp [results, Try.results16, go_sem]) rfl ⟨rfl, by repeat (first | (with_reducible assumption) | (with_reducible exact Below.refl _ _) | (with_reducible apply below_alloc) | (with_reducible apply below_drewN) | (with_reducible apply Below.drew) | (with_reducible refine below_set ?_ (by dsimp only; omega) _) | (with_reducible refine below_trans ?_ (by assumption)))⟩
set_option maxRecDepth 100000 in
set_option maxHeartbeats 4000000 in
theorem sNewCluster_bad (s : Int) (w : World) (h : wi s 1 5 = false) :
    Calls Try.prog 17 #[.int .i64 s] w fun r w' => r = .returned (.agg #[.int .i64 3, .slice none 0 0, .slice none 0 0, .slice none 0 0]) ∧ Below w.heap.size w w' := by
  go_enter Try.func17, Try.ntmps17
  go_wp2_with (go_at_call 37; (with_reducible refine (l1In_c _ _ _ _).mono ?_); rintro e w' ⟨rfl, rfl⟩)
  refine (l11Bad_c 3 _).mono ?_
  rintro e w1 ⟨rfl, hb1⟩
  have zB := (blk_alloc w [.int .i64 0, .slice none 0 0, .slice none 0 0, .slice none 0 0] 42).below hb1
  have l1 := zB.lt
  have r0 := zB.cell (j := 0) rfl
  have y0 := zB.frozen 0
  have r1 := zB.cell (j := 1) rfl
  have y1 := zB.frozen 1
  have r2 := zB.cell (j := 2) rfl
  have y2 := zB.frozen 2
  have r3 := zB.cell (j := 3) rfl
  have y3 := zB.frozen 3
  have bw : Below w.heap.size w w1 := by repeat (first | (with_reducible assumption) | (with_reducible exact Below.refl _ _) | (with_reducible apply below_alloc) | (with_reducible apply below_drewN) | (with_reducible apply Below.drew) | (with_reducible refine below_set ?_ (by dsimp only; omega) _) | (with_reducible refine below_trans ?_ (by assumption)))
  clear zB hb1
  go_wp2_with fail
  refine bodyPost_ret (v := .agg #[.int .i64 3, .slice none 0 0, .slice none 0 0, .slice none 0 0]) (by simp [results, Try.results17, go_sem, r0, r1, r2, r3]) rfl ⟨rfl, by repeat (first | (with_reducible assumption) | (with_reducible exact Below.refl _ _) | (with_reducible apply below_alloc) | (with_reducible apply below_drewN) | (with_reducible apply Below.drew) | (with_reducible refine below_set ?_ (by dsimp only; omega) _) | (with_reducible refine below_trans ?_ (by assumption)))⟩
end Go.Proofs.Ytnbenhkbcodlfaa
