/- Draws of numbers: l1Source, l1Next (own work). -/
import Derived.Test.YtfblopmploohkaaGreatDoorZS0
set_option linter.unusedVariables false
set_option linter.unusedSimpArgs false
namespace Go.Proofs.YtfblopmploohkaaGreatDoor
open Go Go.RowKit Mk
theorem src_turn {w0 : World} {g : Nat} {A : Option Addr} {n c m : Nat} {w w' : World} {fq : List Nat} (h : SrcBox w0 g A n c m w) (t : Turn fq w w') (hf : ∀ b ∈ fq, w0.heap.size ≤ b) (hg : g ∉ fq) : SrcBox w0 g A n c m w' :=
  ⟨h.1, h.2.1.turn t hg, h.2.2.trans (t.below hf h.2.2.size)⟩
theorem src_below {w0 : World} {g : Nat} {A : Option Addr} {n c m : Nat} {w w' : World} (h : SrcBox w0 g A n c m w) (hb : Below w.heap.size w w') : SrcBox w0 g A n c m w' :=
  ⟨h.1, h.2.1.below hb, below_trans h.2.2 hb⟩
theorem l1Source_c (code : List (Fin 256)) (A : Option Addr) (c : Nat) (w : World) :
    Calls Tryz.prog 12 #[.slice A code.length c] w fun e w' => e = .returned (.pointer (some ⟨w.heap.size, 0, none⟩)) ∧ SrcBox w w.heap.size A code.length c 0 w' ∧ Below w.heap.size w w' ∧ w.heap.size < w'.heap.size := by
  go_enter Tryz.func12, Tryz.ntmps12
  go_wp2_with fail
  go_ret
  exact ⟨rfl, ⟨Nat.le_refl _, blk_alloc w [.slice A code.length c, .int .i64 0] _, below_alloc (Below.refl _ _) _⟩, below_alloc (Below.refl _ _) _, by rw [Deep.nblk_alloc]; omega⟩
/-- A number drawn: at least 0, below n (0 if n is below 1). -/
def Drawn (w0 : World) (g : Nat) (A : Option Addr) (len c m : Nat) (n : Int) (w : World) (r : Ending) (w' : World) : Prop :=
  ∃ v : Int, r = .returned (.int .i64 v) ∧ 0 ≤ v ∧ (1 ≤ n → v < n) ∧ (n < 1 → v = 0) ∧ SrcBox w0 g A len c (m + 1) w' ∧ Turn [g] w w'
set_option maxRecDepth 100000 in
set_option maxHeartbeats 4000000 in
theorem l1Next_c (w0 : World) (g : Nat) (code : List (Fin 256)) (A : Option Addr) (c m : Nat) (n : Int) (w : World) (hs : SrcBox w0 g A code.length c m w) (hr : RdS kU8 w0 A c code) (hm : m ≤ 1000000000) (hn : n ≤ 1000000000) (hn0 : -1000000000 ≤ n) :
    Calls Tryz.prog 25 #[.pointer (some ⟨g, 0, none⟩), .int .i64 n] w fun r w' => Drawn w0 g A code.length c m n w r w' := by
  obtain ⟨hg, hB, hb⟩ := hs
  have hln := hr.le63
  have v1 := hB.cell (j := 1) rfl
  have z1 := hB.frozen 1
  have lg := hB.lt
  go_enter Tryz.func25, Tryz.ntmps25
  go_upto_region 2 with fail
  refine at_world (fun W => Blk W g 69 [.slice A code.length c, .int .i64 ((m + 1 : Nat) : Int)] ∧ Below w0.heap.size w0 W ∧ Turn [g] w W) ⟨by have := hB.set0 1 (.int .i64 ((m + 1 : Nat) : Int)); simpa [List.set_cons_succ, List.set_cons_zero] using this, below_set hb (by exact hg) _, (Turn.refl [g] w).set (p := ⟨g, 1, none⟩) (by simp) _⟩ ?_
  rintro W ⟨hB1, hb1, hT⟩
  clear v1 z1 hB hb
  have v0 := hB1.cell (j := 0) rfl
  have v1 := hB1.cell (j := 1) rfl
  by_cases h1 : n < 1
  · have hd : decide (n < 1) = true := decide_eq_true h1
    go_wp2_with fail
    go_ret
    exact ⟨0, rfl, by omega, by omega, fun _ => rfl, ⟨hg, hB1, hb1⟩, hT⟩
  have hd : decide (n < 1) = false := decide_eq_false h1
  have hn1 : 1 ≤ n := by omega
  have hnz : n ≠ 0 := by omega
  by_cases hl : code.length = 0
  · have he : ((code.length : Int) == 0) = true := beq_iff_eq.2 (by omega)
    go_wp2_with fail
    go_ret
    have hB2 := hB1
    rw [hl] at hB2
    exact ⟨(m : Int) * 7 % n, rfl, Int.emod_nonneg _ hnz, fun _ => Int.emod_lt_of_pos _ (by omega), fun h => by omega, ⟨hg, by first | exact hB1 | exact hB2, hb1⟩, hT⟩
  have he : ((code.length : Int) == 0) = false := beq_eq_false_iff_ne.2 (by omega)
  have hlp : 0 < code.length := by omega
  have hj : m % code.length < code.length := Nat.mod_lt _ hlp
  have hmod : (m : Int) % (code.length : Int) = ((m % code.length : Nat) : Int) := by simp
  have hq1 : m / code.length ≤ m := Nat.div_le_self _ _
  have hdiv : (m : Int) / (code.length : Int) = ((m / code.length : Nat) : Int) := by simp
  have hj2 : (m + 1) % code.length < code.length := Nat.mod_lt _ hlp
  have hmod2 : ((m : Int) + 1) % (code.length : Int) = (((m + 1) % code.length : Nat) : Int) := by simp
  obtain ⟨a, ea, hx⟩ := (hr.below hb1).at_ hj
  obtain ⟨a', ea', hx'⟩ := (hr.below hb1).at_ hj2
  subst ea
  obtain rfl : a = a' := by injection ea'
  simp only [show kU8.sz = 1 from rfl, Nat.mul_one] at hx hx'
  obtain ⟨cs, hl1, hcs⟩ := hx
  obtain rfl : cs = [Value.int .u8 (code[m % code.length].val : Int)] := hcs
  obtain ⟨cs, hl2, hcs⟩ := hx'
  obtain rfl : cs = [Value.int .u8 (code[(m + 1) % code.length].val : Int)] := hcs
  have q0 := hl1.c0
  have q1 := hl2.c0
  have x0 := code[m % code.length].isLt
  have x1 := code[(m + 1) % code.length].isLt
  generalize code[m % code.length].val = X at q0 x0
  generalize code[(m + 1) % code.length].val = Y at q1 x1
  generalize m % code.length = J at q0 hmod hj
  generalize (m + 1) % code.length = J2 at q1 hmod2 hj2
  generalize m / code.length = D at hdiv hq1
  clear hl1 hl2 ea'
  go_wp2_with fail
  go_quiet (fail)
  by_cases h200 : 200 < n
  · have hd2 : decide (200 < n) = true := decide_eq_true h200
    go_wp2_with fail
    go_quiet (fail)
    go_wp2_with fail
    go_ret
    exact ⟨_, rfl, Int.emod_nonneg _ hnz, fun _ => Int.emod_lt_of_pos _ (by omega), fun h => by omega, ⟨hg, hB1.below (by repeat (first | (with_reducible assumption) | (with_reducible exact Below.refl _ _) | (with_reducible apply below_alloc) | (with_reducible apply below_drewN) | (with_reducible apply Below.drew) | (with_reducible refine below_set ?_ (by dsimp only; omega) _) | (with_reducible refine below_trans ?_ (by assumption)))), below_trans hb1 (by repeat (first | (with_reducible assumption) | (with_reducible exact Below.refl _ _) | (with_reducible apply below_alloc) | (with_reducible apply below_drewN) | (with_reducible apply Below.drew) | (with_reducible refine below_set ?_ (by dsimp only; omega) _) | (with_reducible refine below_trans ?_ (by assumption))))⟩, hT.trans (Turn.of_below (by repeat (first | (with_reducible assumption) | (with_reducible exact Below.refl _ _) | (with_reducible apply below_alloc) | (with_reducible apply below_drewN) | (with_reducible apply Below.drew) | (with_reducible refine below_set ?_ (by dsimp only; omega) _) | (with_reducible refine below_trans ?_ (by assumption)))))⟩
  · have hd2 : decide (200 < n) = false := decide_eq_false h200
    go_wp2_with fail
    go_ret
    exact ⟨_, rfl, Int.emod_nonneg _ hnz, fun _ => Int.emod_lt_of_pos _ (by omega), fun h => by omega, ⟨hg, hB1.below (by repeat (first | (with_reducible assumption) | (with_reducible exact Below.refl _ _) | (with_reducible apply below_alloc) | (with_reducible apply below_drewN) | (with_reducible apply Below.drew) | (with_reducible refine below_set ?_ (by dsimp only; omega) _) | (with_reducible refine below_trans ?_ (by assumption)))), below_trans hb1 (by repeat (first | (with_reducible assumption) | (with_reducible exact Below.refl _ _) | (with_reducible apply below_alloc) | (with_reducible apply below_drewN) | (with_reducible apply Below.drew) | (with_reducible refine below_set ?_ (by dsimp only; omega) _) | (with_reducible refine below_trans ?_ (by assumption))))⟩, hT.trans (Turn.of_below (by repeat (first | (with_reducible assumption) | (with_reducible exact Below.refl _ _) | (with_reducible apply below_alloc) | (with_reducible apply below_drewN) | (with_reducible apply Below.drew) | (with_reducible refine below_set ?_ (by dsimp only; omega) _) | (with_reducible refine below_trans ?_ (by assumption)))))⟩
end Go.Proofs.YtfblopmploohkaaGreatDoor
