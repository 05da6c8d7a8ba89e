/- The program's prepare: a mail with the entry at a place (written by gN3.py, own work). -/
import Derived.Test.YtfblopmploohkaaGreatDoorZN
set_option linter.unusedVariables false
set_option linter.unusedSimpArgs false
namespace Go.Proofs.YtfblopmploohkaaGreatDoor
open Go Go.RowKit Mk
def prepM (i v cm : Int) (logs : List SEntry) (tt at' : Int) : SMail :=
  if at' < logs.length then ⟨1, i, tt, v, at', true, logs.getD at'.toNat zEntry, 0, [], cm⟩ else ⟨1, i, tt, v, at', false, zEntry, 0, [], cm⟩
set_option maxRecDepth 100000 in
set_option maxHeartbeats 2000000 in
theorem prepare_c (i v cm tt : Int) (at' : Nat) (logs : List SEntry) (A5 : Option Addr) (c5 : Nat) (p : Addr) (w : World) (h0 : w.cell? p = some (.int .i64 i)) (h2 : w.cell? ⟨p.block, p.off + 2, none⟩ = some (.int .i64 v)) (h5 : w.cell? ⟨p.block, p.off + 5, none⟩ = some (.slice A5 logs.length c5)) (h6 : w.cell? ⟨p.block, p.off + 6, none⟩ = some (.int .i64 cm)) (r5 : RdS kEntry w A5 c5 logs) :
    Calls Tryz.prog 103 #[.pointer (some p), .int .i64 tt, .int .i64 (at' : Int)] w fun r w' => LaidMail (prepM i v cm logs tt at') w r w' := by
  have k0 := World.block_lt_of_cell? w _ h0
  have hll := r5.le63
  have ba : ∀ ob, Below w.heap.size w (w.alloc ob) := fun ob => below_alloc (Below.refl _ _) ob
  go_enter Tryz.func103, Tryz.ntmps103
  go_wp2_with fail
  refine (mail_c _ p i v 1 tt (cell_below (ba _) h0) (cell_below (ba _) h2)).mono ?_
  rintro r w1 ⟨A13, c13, fm, rfl, om, nm, hb1⟩
  have zB := (blk_alloc w [.int .i64 0, .int .i64 0, .int .i64 0, .int .i64 0, .int .i64 0, .bool false, .int .i64 0, .int .i64 0, .int .i64 0, .int .i64 0, .int .i64 0, .int .i64 0, .int .i64 0, .slice none 0 0, .int .i64 0] 75).below hb1
  have lo1 : w.heap.size + 1 ≤ w1.heap.size := by have := hb1.size; simp only [Deep.nblk_alloc] at this; omega
  have im : ∀ b ∈ fm, w.heap.size + 1 ≤ b ∧ b < w1.heap.size := fun b hb => by have := om.in b hb; simp only [Deep.nblk_alloc] at this; omega
  have bw1 : Below w.heap.size w w1 := below_trans (ba _) hb1
  replace om : OwnS kEntry 46 (w.heap.size + 1) w1 fm (.slice A13 0 c13) [] := om.lift (fun b hb => (im b hb).1)
  clear hb1 ba
  go_upto_region 2 with fail
  refine at_world (fun W => Blk W w1.heap.size 75 [.int .i64 1, .int .i64 i, .int .i64 tt, .int .i64 v, .int .i64 0, .bool false, .int .i64 0, .int .i64 0, .int .i64 0, .int .i64 0, .int .i64 0, .int .i64 0, .int .i64 0, .slice A13 0 c13, .int .i64 0] ∧ Below w1.heap.size w1 W ∧ w1.heap.size < W.heap.size) ⟨blk_alloc w1 [.int .i64 1, .int .i64 i, .int .i64 tt, .int .i64 v, .int .i64 0, .bool false, .int .i64 0, .int .i64 0, .int .i64 0, .int .i64 0, .int .i64 0, .int .i64 0, .int .i64 0, .slice A13 0 c13, .int .i64 0] _, below_alloc (Below.refl _ _) _, by rw [Deep.nblk_alloc]; omega⟩ ?_
  rintro W2 ⟨mB, b2, l2⟩
  replace zB := zB.below b2
  replace om := OwnS.bel' om b2
  have bw2 := below_trans bw1 b2
  have a6 := cell_below bw2 h6
  have H5 := Lib.hid h5
  clear b2 bw1 h0 h2 h5 h6
  have u4 := mB.cell (j := 4) rfl
  have z4 := mB.frozen 4
  have u14 := mB.cell (j := 14) rfl
  have z14 := mB.frozen 14
  go_upto_region 4 with fail
  have mB2 := (mB.set0 4 (.int .i64 (at' : Int))).set0 14 (.int .i64 cm)
  simp only [List.set_cons_zero, List.set_cons_succ] at mB2
  refine at_world (fun W => Blk W w1.heap.size 75 [.int .i64 1, .int .i64 i, .int .i64 tt, .int .i64 v, .int .i64 at', .bool false, .int .i64 0, .int .i64 0, .int .i64 0, .int .i64 0, .int .i64 0, .int .i64 0, .int .i64 0, .slice A13 0 c13, .int .i64 cm] ∧ Turn [w1.heap.size] W2 W) ⟨mB2, ((Turn.refl _ _).set (by simp) _).set (by simp) _⟩ ?_
  rintro W3 ⟨nB, t3⟩
  clear mB mB2 u4 z4 u14 z14
  replace zB := zB.turn t3 (by simp; omega)
  replace om := OwnS.turn om t3 (fun b hb hm => by simp at hm; have := im b hb; omega)
  have bw3 : Below w.heap.size w W3 := bw2.trans (t3.below (by simp; omega) (by omega))
  have a5 := cell_below bw3 H5.out
  have g5 := r5.below bw3
  have s3 := t3.size
  by_cases hlt : at' < logs.length
  · have hd1 : decide (at' < logs.length) = true := decide_eq_true hlt
    have eM : prepM i v cm logs tt at' = ⟨1, i, tt, v, at', true, logs[at'], 0, [], cm⟩ := by
      unfold prepM; rw [if_pos (by omega)]; simp [List.getElem?_eq_getElem hlt]
    have HE := Lib.hid eM
    clear eM
    have hlt' : (at' : Int) < (logs.length : Int) := by omega
    clear g5
    have u5 := nB.cell (j := 5) rfl
    have z5 := nB.frozen 5
    have RL := Lib.hid r5
    clear r5
    go_upto_region 6 with ((go_at_call 57; (with_reducible refine (many_c _ _ _ _).mono ?_); rintro e w' ⟨rfl, rfl⟩))
    have nB4 := nB.set0 5 (.bool true)
    simp only [List.set_cons_zero, List.set_cons_succ] at nB4
    refine at_world (fun W => Blk W w1.heap.size 75 [.int .i64 1, .int .i64 i, .int .i64 tt, .int .i64 v, .int .i64 at', .bool true, .int .i64 0, .int .i64 0, .int .i64 0, .int .i64 0, .int .i64 0, .int .i64 0, .int .i64 0, .slice A13 0 c13, .int .i64 cm] ∧ Turn [w1.heap.size] W3 W) ⟨nB4, (Turn.refl _ _).set (by simp) _⟩ ?_
    rintro W4 ⟨nB4, t4⟩
    clear nB u5 z5 a5 a6
    replace zB := zB.turn t4 (by simp; omega)
    replace om := OwnS.turn om t4 (fun b hb hm => by simp at hm; have := im b hb; omega)
    have bw4 : Below w.heap.size w W4 := bw3.trans (t4.below (by simp; omega) (by omega))
    have s4 := t4.size
    have a5 := cell_below bw4 H5.out
    obtain ⟨a, ea, hx⟩ := (RL.out.below bw4).at_ hlt
    generalize logs[at'] = x at hx HE
    subst ea
    simp only [show kEntry.sz = 6 from rfl] at hx
    obtain ⟨q0, q1, q2, q3, q4, q5⟩ := atEntry hx
    clear hx
    have u6 := nB4.cell (j := 6) rfl
    have z6 := nB4.frozen 6
    have u7 := nB4.cell (j := 7) rfl
    have z7 := nB4.frozen 7
    have u8 := nB4.cell (j := 8) rfl
    have z8 := nB4.frozen 8
    have u9 := nB4.cell (j := 9) rfl
    have z9 := nB4.frozen 9
    have u10 := nB4.cell (j := 10) rfl
    have z10 := nB4.frozen 10
    have u11 := nB4.cell (j := 11) rfl
    have z11 := nB4.frozen 11
    go_upto_region 7 with fail
    have nB5 := ((((((nB4.set0 6 (.int .i64 x.Client)).set0 7 (.int .i64 x.Seq)).set0 8 (.int .i64 x.Op.Kind)).set0 9 (.int .i64 x.Op.Vol)).set0 10 (.int .i64 x.Op.At)).set0 11 (.int .i64 x.Op.Value))
    simp only [List.set_cons_zero, List.set_cons_succ] at nB5
    refine at_world (fun W => Blk W w1.heap.size 75 [.int .i64 1, .int .i64 i, .int .i64 tt, .int .i64 v, .int .i64 at', .bool true, .int .i64 x.Client, .int .i64 x.Seq, .int .i64 x.Op.Kind, .int .i64 x.Op.Vol, .int .i64 x.Op.At, .int .i64 x.Op.Value, .int .i64 0, .slice A13 0 c13, .int .i64 cm] ∧ Turn [w1.heap.size] W4 W) ⟨nB5, ((((((Turn.refl _ _).set (by simp) _).set (by simp) _).set (by simp) _).set (by simp) _).set (by simp) _).set (by simp) _⟩ ?_
    rintro W5 ⟨nB, t5⟩
    clear nB4 nB5 a5 q0 q1 q2 q3 q4 q5 u6 z6 u7 z7 u8 z8 u9 z9 u10 z10 u11 z11
    replace zB := zB.turn t5 (by simp; omega)
    replace om := OwnS.turn om t5 (fun b hb hm => by simp at hm; have := im b hb; omega)
    have bw5 : Below w.heap.size w W5 := bw4.trans (t5.below (by simp; omega) (by omega))
    have u0 := nB.cell (j := 0) rfl
    have r0 := zB.cell (j := 0) rfl
    have y0 := zB.frozen 0
    have u1 := nB.cell (j := 1) rfl
    have r1 := zB.cell (j := 1) rfl
    have y1 := zB.frozen 1
    have u2 := nB.cell (j := 2) rfl
    have r2 := zB.cell (j := 2) rfl
    have y2 := zB.frozen 2
    have u3 := nB.cell (j := 3) rfl
    have r3 := zB.cell (j := 3) rfl
    have y3 := zB.frozen 3
    have u4 := nB.cell (j := 4) rfl
    have r4 := zB.cell (j := 4) rfl
    have y4 := zB.frozen 4
    have u5 := nB.cell (j := 5) rfl
    have r5 := zB.cell (j := 5) rfl
    have y5 := zB.frozen 5
    have u6 := nB.cell (j := 6) rfl
    have r6 := zB.cell (j := 6) rfl
    have y6 := zB.frozen 6
    have u7 := nB.cell (j := 7) rfl
    have r7 := zB.cell (j := 7) rfl
    have y7 := zB.frozen 7
    have u8 := nB.cell (j := 8) rfl
    have r8 := zB.cell (j := 8) rfl
    have y8 := zB.frozen 8
    have u9 := nB.cell (j := 9) rfl
    have r9 := zB.cell (j := 9) rfl
    have y9 := zB.frozen 9
    have u10 := nB.cell (j := 10) rfl
    have r10 := zB.cell (j := 10) rfl
    have y10 := zB.frozen 10
    have u11 := nB.cell (j := 11) rfl
    have r11 := zB.cell (j := 11) rfl
    have y11 := zB.frozen 11
    have u12 := nB.cell (j := 12) rfl
    have r12 := zB.cell (j := 12) rfl
    have y12 := zB.frozen 12
    have u13 := nB.cell (j := 13) rfl
    have r13 := zB.cell (j := 13) rfl
    have y13 := zB.frozen 13
    have u14 := nB.cell (j := 14) rfl
    have r14 := zB.cell (j := 14) rfl
    have y14 := zB.frozen 14
    go_wp2_with fail
    refine bodyPost_ret (v := .agg #[.int .i64 1, .int .i64 i, .int .i64 tt, .int .i64 v, .int .i64 at', .bool true, .int .i64 x.Client, .int .i64 x.Seq, .int .i64 x.Op.Kind, .int .i64 x.Op.Vol, .int .i64 x.Op.At, .int .i64 x.Op.Value, .int .i64 0, .slice A13 0 c13, .int .i64 cm]) (by simp [results, Tryz.results103, go_sem, r0, r1, r2, r3, r4, r5, r6, r7, r8, r9, r10, r11, r12, r13, r14]) rfl ?_
    rw [HE.out]
    refine ⟨A13, c13, fm, rfl, ?_, nm, ?_⟩
    · refine OwnS.past (lo := w.heap.size + 1) (w := W5) om ?_ (by omega) (by omega)
      repeat (first | (with_reducible exact Past.refl _ _) | (with_reducible refine Past.set ?_ (by omega) _))
    · repeat (first | (with_reducible assumption) | (with_reducible exact Below.refl _ _) | (with_reducible apply below_alloc) | (with_reducible apply below_drewN) | (with_reducible apply Below.drew) | (with_reducible refine below_set ?_ (by dsimp only; omega) _) | (with_reducible refine below_trans ?_ (by assumption)))
  · have hd1 : decide (at' < logs.length) = false := decide_eq_false hlt
    have eM : prepM i v cm logs tt at' = ⟨1, i, tt, v, at', false, zEntry, 0, [], cm⟩ := by
      unfold prepM; rw [if_neg (by omega)]
    have HE := Lib.hid eM
    clear eM g5 r5
    have u0 := nB.cell (j := 0) rfl
    have r0 := zB.cell (j := 0) rfl
    have y0 := zB.frozen 0
    have u1 := nB.cell (j := 1) rfl
    have r1 := zB.cell (j := 1) rfl
    have y1 := zB.frozen 1
    have u2 := nB.cell (j := 2) rfl
    have r2 := zB.cell (j := 2) rfl
    have y2 := zB.frozen 2
    have u3 := nB.cell (j := 3) rfl
    have r3 := zB.cell (j := 3) rfl
    have y3 := zB.frozen 3
    have u4 := nB.cell (j := 4) rfl
    have r4 := zB.cell (j := 4) rfl
    have y4 := zB.frozen 4
    have u5 := nB.cell (j := 5) rfl
    have r5 := zB.cell (j := 5) rfl
    have y5 := zB.frozen 5
    have u6 := nB.cell (j := 6) rfl
    have r6 := zB.cell (j := 6) rfl
    have y6 := zB.frozen 6
    have u7 := nB.cell (j := 7) rfl
    have r7 := zB.cell (j := 7) rfl
    have y7 := zB.frozen 7
    have u8 := nB.cell (j := 8) rfl
    have r8 := zB.cell (j := 8) rfl
    have y8 := zB.frozen 8
    have u9 := nB.cell (j := 9) rfl
    have r9 := zB.cell (j := 9) rfl
    have y9 := zB.frozen 9
    have u10 := nB.cell (j := 10) rfl
    have r10 := zB.cell (j := 10) rfl
    have y10 := zB.frozen 10
    have u11 := nB.cell (j := 11) rfl
    have r11 := zB.cell (j := 11) rfl
    have y11 := zB.frozen 11
    have u12 := nB.cell (j := 12) rfl
    have r12 := zB.cell (j := 12) rfl
    have y12 := zB.frozen 12
    have u13 := nB.cell (j := 13) rfl
    have r13 := zB.cell (j := 13) rfl
    have y13 := zB.frozen 13
    have u14 := nB.cell (j := 14) rfl
    have r14 := zB.cell (j := 14) rfl
    have y14 := zB.frozen 14
    go_wp2_with ((go_at_call 57; (with_reducible refine (many_c _ _ _ _).mono ?_); rintro e w' ⟨rfl, rfl⟩))
    refine bodyPost_ret (v := .agg #[.int .i64 1, .int .i64 i, .int .i64 tt, .int .i64 v, .int .i64 at', .bool false, .int .i64 0, .int .i64 0, .int .i64 0, .int .i64 0, .int .i64 0, .int .i64 0, .int .i64 0, .slice A13 0 c13, .int .i64 cm]) (by simp [results, Tryz.results103, go_sem, r0, r1, r2, r3, r4, r5, r6, r7, r8, r9, r10, r11, r12, r13, r14]) rfl ?_
    rw [HE.out]
    refine ⟨A13, c13, fm, rfl, ?_, nm, ?_⟩
    · refine OwnS.past (lo := w.heap.size + 1) (w := W3) om ?_ (by omega) (by omega)
      repeat (first | (with_reducible exact Past.refl _ _) | (with_reducible refine Past.set ?_ (by omega) _))
    · repeat (first | (with_reducible assumption) | (with_reducible exact Below.refl _ _) | (with_reducible apply below_alloc) | (with_reducible apply below_drewN) | (with_reducible apply Below.drew) | (with_reducible refine below_set ?_ (by dsimp only; omega) _) | (with_reducible refine below_trans ?_ (by assumption)))
end Go.Proofs.YtfblopmploohkaaGreatDoor

/- The program's add: a normal primary is asked (written by gN4.py, own work). -/
set_option linter.unusedVariables false
set_option linter.unusedSimpArgs false
namespace Go.Proofs.YtfblopmploohkaaGreatDoor
open Go Go.RowKit Mk
theorem blk_at {w : World} {b : Nat} {n : SReplica} (A5 : Option Addr) (c5 : Nat) (A7 : Option Addr) (c7 : Nat) (A8 : Option Addr) (c8 : Nat) (A9 : Option Addr) (c9 : Nat) (hB : Blk w b 60 [.int .i64 n.Id, .int .i64 n.Size, .int .i64 n.View, .bool n.Normal, .int .i64 n.Last, .slice A5 n.Log.length c5, .int .i64 n.Commit, .slice A7 n.Oks.length c7, .slice A8 n.Asks.length c8, .slice A9 n.Doers.length c9]) (h5 : RdS kEntry w A5 c5 n.Log) (h7 : RdS kInt w A7 c7 n.Oks) (h8 : RdS kBool w A8 c8 n.Asks) (h9 : RdS kDoer w A9 c9 n.Doers) : At kReplica w ⟨b, 0, none⟩ n := ⟨_, hB.lies, kReplica_mk w n h5 h7 h8 h9⟩
def addM (n : SReplica) (i s v : Nat) : List SMail := allTo (fun k => prepM i v n.Commit n.Log k (n.Log.length - 1 : Nat)) i s
def addR (n : SReplica) (x : SEntry) (i : Nat) : SReplica := { n with Log := n.Log ++ [x], Commit := max n.Commit (agreedN n.Oks i (n.Log.length + 1)) }
set_option maxRecDepth 100000 in
set_option maxHeartbeats 4000000 in
theorem add1_c (w : World) (p q q2 : Addr) (i v cm tt : Int) (at' : Nat) (logs : List SEntry) (A5 : Option Addr) (c5 : Nat) (hq : w.cell? q = some (.pointer (some p))) (hq2 : w.cell? q2 = some (.int .i64 (at' : Int))) (h0 : w.cell? p = some (.int .i64 i)) (h2 : w.cell? ⟨p.block, p.off + 2, none⟩ = some (.int .i64 v)) (h5 : w.cell? ⟨p.block, p.off + 5, none⟩ = some (.slice A5 logs.length c5)) (h6 : w.cell? ⟨p.block, p.off + 6, none⟩ = some (.int .i64 cm)) (r5 : RdS kEntry w A5 c5 logs) :
    Calls Tryz.prog 102 #[.int .i64 tt, .pointer (some q), .pointer (some q2)] w fun r w' => LaidMail (prepM i v cm logs tt at') w r w' := by
  have ba : Below w.heap.size w (w.alloc (.cells #[.int .i64 0, .int .i64 0, .int .i64 0, .int .i64 0, .int .i64 0, .bool false, .int .i64 0, .int .i64 0, .int .i64 0, .int .i64 0, .int .i64 0, .int .i64 0, .int .i64 0, .slice none 0 0, .int .i64 0] 75)) := below_alloc (Below.refl _ _) _
  have HP := Lib.hid (prepare_c i v cm tt at' logs A5 c5 p _ (cell_below ba h0) (cell_below ba h2) (cell_below ba h5) (cell_below ba h6) (r5.below ba))
  have fq := cell_below ba hq
  have fq2 := cell_below ba hq2
  generalize prepM i v cm logs tt at' = m at HP ⊢
  clear hq hq2 h0 h2 h5 h6 r5 ba
  go_enter Tryz.func102, Tryz.ntmps102
  go_wp2_with fail
  refine HP.out.mono ?_
  rintro r w1 ⟨A13, c13, fm, rfl, om, nm, hb1⟩
  have zB := (blk_alloc w [.int .i64 0, .int .i64 0, .int .i64 0, .int .i64 0, .int .i64 0, .bool false, .int .i64 0, .int .i64 0, .int .i64 0, .int .i64 0, .int .i64 0, .int .i64 0, .int .i64 0, .slice none 0 0, .int .i64 0] 75).below hb1
  have lo : w.heap.size + 1 ≤ w1.heap.size := by have := hb1.size; simp only [Deep.nblk_alloc] at this; omega
  clear fq fq2 HP
  have r0 := zB.cell (j := 0) rfl
  have y0 := zB.frozen 0
  have r1 := zB.cell (j := 1) rfl
  have y1 := zB.frozen 1
  have r2 := zB.cell (j := 2) rfl
  have y2 := zB.frozen 2
  have r3 := zB.cell (j := 3) rfl
  have y3 := zB.frozen 3
  have r4 := zB.cell (j := 4) rfl
  have y4 := zB.frozen 4
  have r5 := zB.cell (j := 5) rfl
  have y5 := zB.frozen 5
  have r6 := zB.cell (j := 6) rfl
  have y6 := zB.frozen 6
  have r7 := zB.cell (j := 7) rfl
  have y7 := zB.frozen 7
  have r8 := zB.cell (j := 8) rfl
  have y8 := zB.frozen 8
  have r9 := zB.cell (j := 9) rfl
  have y9 := zB.frozen 9
  have r10 := zB.cell (j := 10) rfl
  have y10 := zB.frozen 10
  have r11 := zB.cell (j := 11) rfl
  have y11 := zB.frozen 11
  have r12 := zB.cell (j := 12) rfl
  have y12 := zB.frozen 12
  have r13 := zB.cell (j := 13) rfl
  have y13 := zB.frozen 13
  have r14 := zB.cell (j := 14) rfl
  have y14 := zB.frozen 14
  go_wp2_with fail
  refine bodyPost_ret (v := .agg #[.int .i64 m.Kind, .int .i64 m.From, .int .i64 m.To, .int .i64 m.View, .int .i64 m.At, .bool m.Has, .int .i64 m.Entry.Client, .int .i64 m.Entry.Seq, .int .i64 m.Entry.Op.Kind, .int .i64 m.Entry.Op.Vol, .int .i64 m.Entry.Op.At, .int .i64 m.Entry.Op.Value, .int .i64 m.Last, .slice A13 m.Log.length c13, .int .i64 m.Commit]) (by simp [results, Tryz.results102, go_sem, r0, r1, r2, r3, r4, r5, r6, r7, r8, r9, r10, r11, r12, r13, r14]) rfl ⟨A13, c13, fm, rfl, ?_, nm, ?_⟩
  · refine OwnS.past (lo := w.heap.size + 1) (w := w1) om ?_ (by rw [Deep.nblk_alloc]; omega) (by rw [Deep.nblk_alloc]; omega)
    repeat (first | (with_reducible exact Past.refl _ _) | (with_reducible refine Past.set ?_ (by omega) _))
  · repeat (first | (with_reducible assumption) | (with_reducible exact Below.refl _ _) | (with_reducible apply below_alloc) | (with_reducible apply below_drewN) | (with_reducible apply Below.drew) | (with_reducible refine below_set ?_ (by dsimp only; omega) _) | (with_reducible refine below_trans ?_ (by assumption)))
set_option maxRecDepth 100000 in
set_option maxHeartbeats 4000000 in
theorem add_idle (b : Nat) (n : SReplica) (x : SEntry) (A5 : Option Addr) (c5 : Nat) (A7 : Option Addr) (c7 : Nat) (A8 : Option Addr) (c8 : Nat) (A9 : Option Addr) (c9 : Nat) (f5 f7 f8 f9 : List Nat) (B : Nat) (w : World) (hB : Blk w b 60 [.int .i64 n.Id, .int .i64 n.Size, .int .i64 n.View, .bool n.Normal, .int .i64 n.Last, .slice A5 n.Log.length c5, .int .i64 n.Commit, .slice A7 n.Oks.length c7, .slice A8 n.Asks.length c8, .slice A9 n.Doers.length c9]) (hn : HasReplica B w n A5 c5 A7 c7 A8 c8 A9 c9 f5 f7 f8 f9) (hb : b ∉ f5 ++ (f7 ++ (f8 ++ f9))) (hBw : B ≤ w.heap.size) (hf : (repF n != 0) = false) (q : leadsB n = false) :
    Calls Tryz.prog 73 #[.pointer (some ⟨b, 0, none⟩), .agg #[.int .i64 x.Client, .int .i64 x.Seq, .int .i64 x.Op.Kind, .int .i64 x.Op.Vol, .int .i64 x.Op.At, .int .i64 x.Op.Value]] w fun r w' => DidBox b n [] 10 (f5 ++ (f7 ++ (f8 ++ f9))) B w r w' := by
  have hN := repF_nums hf
  obtain ⟨e1, e2, e3, l1, l2, l3, l4, l5, l6, l7, l8⟩ := hN
  have hat := blk_at _ _ _ _ _ _ _ _ hB (ownS_rds hn.1).1 (ownS_rds hn.2.1).1 (ownS_rds hn.2.2.1).1 (ownS_rds hn.2.2.2.1).1
  have HL := Lib.hid (fun (W : World) (hW : Below w.heap.size w W) => leads_c n ⟨b, 0, none⟩ W (hat.below hW) (by omega) (by omega) (by omega))
  clear hat
  rw [q] at HL
  clear e1 e2 e3 l1 l2 l3 l4 l5 l6 l7 l8
  go_enter Tryz.func73, Tryz.ntmps73
  go_wp2_with fail
  refine (HL.out _ (by repeat (first | (with_reducible assumption) | (with_reducible exact Below.refl _ _) | (with_reducible apply below_alloc) | (with_reducible apply below_drewN) | (with_reducible apply Below.drew) | (with_reducible refine below_set ?_ (by dsimp only; omega) _) | (with_reducible refine below_trans ?_ (by assumption))))).mono ?_
  rintro r w1 ⟨rfl, hw1⟩
  have xB : Blk w1 (w.heap.size + 1) 46 [.int .i64 x.Client, .int .i64 x.Seq, .int .i64 x.Op.Kind, .int .i64 x.Op.Vol, .int .i64 x.Op.At, .int .i64 x.Op.Value] := by
    have := (blk_alloc (w.alloc (.cells #[.pointer (some ⟨b, 0, none⟩)] 101)) [.int .i64 x.Client, .int .i64 x.Seq, .int .i64 x.Op.Kind, .int .i64 x.Op.Vol, .int .i64 x.Op.At, .int .i64 x.Op.Value] 46).below hw1
    rwa [Deep.nblk_alloc] at this
  have pB : Blk w1 w.heap.size 101 [.pointer (some ⟨b, 0, none⟩)] := ((blk_alloc w [.pointer (some ⟨b, 0, none⟩)] 101).below (below_alloc (Below.refl _ _) _)).below hw1
  have bw1 : Below w.heap.size w w1 := by repeat (first | (with_reducible assumption) | (with_reducible exact Below.refl _ _) | (with_reducible apply below_alloc) | (with_reducible apply below_drewN) | (with_reducible apply Below.drew) | (with_reducible refine below_set ?_ (by dsimp only; omega) _) | (with_reducible refine below_trans ?_ (by assumption)))
  have lo1 : w.heap.size + 2 ≤ w1.heap.size := by have := hw1.size; simp only [Deep.nblk_alloc] at this; omega
  clear hw1
  go_wp2_with fail
  refine bodyPost_ret (v := .tuple #[.slice none 0 0, .int .i64 10]) (by simp [results, Tryz.results73, go_sem]) rfl ?_
  exact ⟨A5, c5, A7, c7, A8, c8, A9, c9, f5, f7, f8, f9, none, 0, [], rfl, hB.below bw1, ⟨OwnS.bel' hn.1 bw1, OwnS.bel' hn.2.1 bw1, OwnS.bel' hn.2.2.1 bw1, OwnS.bel' hn.2.2.2.1 bw1, hn.2.2.2.2⟩, ownS_nil _ _ _, by simpa using hn.2.2.2.2, by simpa using hb, Turn.of_below bw1, fun y hy => .inl (by simpa using hy)⟩
set_option maxRecDepth 100000 in
set_option maxHeartbeats 4000000 in
theorem add_wrong (b : Nat) (n : SReplica) (x : SEntry) (A5 : Option Addr) (c5 : Nat) (A7 : Option Addr) (c7 : Nat) (A8 : Option Addr) (c8 : Nat) (A9 : Option Addr) (c9 : Nat) (f5 f7 f8 f9 : List Nat) (B : Nat) (w : World) (hB : Blk w b 60 [.int .i64 n.Id, .int .i64 n.Size, .int .i64 n.View, .bool n.Normal, .int .i64 n.Last, .slice A5 n.Log.length c5, .int .i64 n.Commit, .slice A7 n.Oks.length c7, .slice A8 n.Asks.length c8, .slice A9 n.Doers.length c9]) (hn : HasReplica B w n A5 c5 A7 c7 A8 c8 A9 c9 f5 f7 f8 f9) (hb : b ∉ f5 ++ (f7 ++ (f8 ++ f9))) (hBw : B ≤ w.heap.size) (hf : (repF n != 0) = false) (q : leadsB n = true) (q2 : (entryF x != 0) = true) :
    Calls Tryz.prog 73 #[.pointer (some ⟨b, 0, none⟩), .agg #[.int .i64 x.Client, .int .i64 x.Seq, .int .i64 x.Op.Kind, .int .i64 x.Op.Vol, .int .i64 x.Op.At, .int .i64 x.Op.Value]] w fun r w' => DidBox b n [] (entryF x) (f5 ++ (f7 ++ (f8 ++ f9))) B w r w' := by
  have hN := repF_nums hf
  obtain ⟨e1, e2, e3, l1, l2, l3, l4, l5, l6, l7, l8⟩ := hN
  have hat := blk_at _ _ _ _ _ _ _ _ hB (ownS_rds hn.1).1 (ownS_rds hn.2.1).1 (ownS_rds hn.2.2.1).1 (ownS_rds hn.2.2.2.1).1
  have HL := Lib.hid (fun (W : World) (hW : Below w.heap.size w W) => leads_c n ⟨b, 0, none⟩ W (hat.below hW) (by omega) (by omega) (by omega))
  clear hat
  rw [q] at HL
  clear e1 e2 e3 l1 l2 l3 l4 l5 l6 l7 l8
  go_enter Tryz.func73, Tryz.ntmps73
  go_wp2_with fail
  refine (HL.out _ (by repeat (first | (with_reducible assumption) | (with_reducible exact Below.refl _ _) | (with_reducible apply below_alloc) | (with_reducible apply below_drewN) | (with_reducible apply Below.drew) | (with_reducible refine below_set ?_ (by dsimp only; omega) _) | (with_reducible refine below_trans ?_ (by assumption))))).mono ?_
  rintro r w1 ⟨rfl, hw1⟩
  have xB : Blk w1 (w.heap.size + 1) 46 [.int .i64 x.Client, .int .i64 x.Seq, .int .i64 x.Op.Kind, .int .i64 x.Op.Vol, .int .i64 x.Op.At, .int .i64 x.Op.Value] := by
    have := (blk_alloc (w.alloc (.cells #[.pointer (some ⟨b, 0, none⟩)] 101)) [.int .i64 x.Client, .int .i64 x.Seq, .int .i64 x.Op.Kind, .int .i64 x.Op.Vol, .int .i64 x.Op.At, .int .i64 x.Op.Value] 46).below hw1
    rwa [Deep.nblk_alloc] at this
  have pB : Blk w1 w.heap.size 101 [.pointer (some ⟨b, 0, none⟩)] := ((blk_alloc w [.pointer (some ⟨b, 0, none⟩)] 101).below (below_alloc (Below.refl _ _) _)).below hw1
  have bw1 : Below w.heap.size w w1 := by repeat (first | (with_reducible assumption) | (with_reducible exact Below.refl _ _) | (with_reducible apply below_alloc) | (with_reducible apply below_drewN) | (with_reducible apply Below.drew) | (with_reducible refine below_set ?_ (by dsimp only; omega) _) | (with_reducible refine below_trans ?_ (by assumption)))
  have lo1 : w.heap.size + 2 ≤ w1.heap.size := by have := hw1.size; simp only [Deep.nblk_alloc] at this; omega
  clear hw1
  have x0 := xB.cell (j := 0) rfl
  have x1 := xB.cell (j := 1) rfl
  have x2 := xB.cell (j := 2) rfl
  have x3 := xB.cell (j := 3) rfl
  have x4 := xB.cell (j := 4) rfl
  have x5 := xB.cell (j := 5) rfl
  go_wp2_with fail
  refine (entryFault_c x w1).mono ?_
  rintro r w2 ⟨rfl, hw2⟩
  have bw2 : Below w.heap.size w w2 := below_trans bw1 hw2
  go_wp2_with fail
  refine bodyPost_ret (v := .tuple #[.slice none 0 0, .int .i64 (entryF x)]) (by simp [results, Tryz.results73, go_sem]) rfl ?_
  exact ⟨A5, c5, A7, c7, A8, c8, A9, c9, f5, f7, f8, f9, none, 0, [], rfl, hB.below bw2, ⟨OwnS.bel' hn.1 bw2, OwnS.bel' hn.2.1 bw2, OwnS.bel' hn.2.2.1 bw2, OwnS.bel' hn.2.2.2.1 bw2, hn.2.2.2.2⟩, ownS_nil _ _ _, by simpa using hn.2.2.2.2, by simpa using hb, Turn.of_below bw2, fun y hy => .inl (by simpa using hy)⟩
set_option maxRecDepth 100000 in
set_option maxHeartbeats 4000000 in
theorem add_full (b : Nat) (n : SReplica) (x : SEntry) (A5 : Option Addr) (c5 : Nat) (A7 : Option Addr) (c7 : Nat) (A8 : Option Addr) (c8 : Nat) (A9 : Option Addr) (c9 : Nat) (f5 f7 f8 f9 : List Nat) (B : Nat) (w : World) (hB : Blk w b 60 [.int .i64 n.Id, .int .i64 n.Size, .int .i64 n.View, .bool n.Normal, .int .i64 n.Last, .slice A5 n.Log.length c5, .int .i64 n.Commit, .slice A7 n.Oks.length c7, .slice A8 n.Asks.length c8, .slice A9 n.Doers.length c9]) (hn : HasReplica B w n A5 c5 A7 c7 A8 c8 A9 c9 f5 f7 f8 f9) (hb : b ∉ f5 ++ (f7 ++ (f8 ++ f9))) (hBw : B ≤ w.heap.size) (hf : (repF n != 0) = false) (q : leadsB n = true) (q2 : (entryF x != 0) = false) (q3 : n.Log.length = 40) :
    Calls Tryz.prog 73 #[.pointer (some ⟨b, 0, none⟩), .agg #[.int .i64 x.Client, .int .i64 x.Seq, .int .i64 x.Op.Kind, .int .i64 x.Op.Vol, .int .i64 x.Op.At, .int .i64 x.Op.Value]] w fun r w' => DidBox b n [] 2 (f5 ++ (f7 ++ (f8 ++ f9))) B w r w' := by
  have hN := repF_nums hf
  obtain ⟨e1, e2, e3, l1, l2, l3, l4, l5, l6, l7, l8⟩ := hN
  have hat := blk_at _ _ _ _ _ _ _ _ hB (ownS_rds hn.1).1 (ownS_rds hn.2.1).1 (ownS_rds hn.2.2.1).1 (ownS_rds hn.2.2.2.1).1
  have HL := Lib.hid (fun (W : World) (hW : Below w.heap.size w W) => leads_c n ⟨b, 0, none⟩ W (hat.below hW) (by omega) (by omega) (by omega))
  clear hat
  rw [q] at HL
  clear e1 e2 e3 l1 l2 l3 l4 l5 l6 l7 l8
  go_enter Tryz.func73, Tryz.ntmps73
  go_wp2_with fail
  refine (HL.out _ (by repeat (first | (with_reducible assumption) | (with_reducible exact Below.refl _ _) | (with_reducible apply below_alloc) | (with_reducible apply below_drewN) | (with_reducible apply Below.drew) | (with_reducible refine below_set ?_ (by dsimp only; omega) _) | (with_reducible refine below_trans ?_ (by assumption))))).mono ?_
  rintro r w1 ⟨rfl, hw1⟩
  have xB : Blk w1 (w.heap.size + 1) 46 [.int .i64 x.Client, .int .i64 x.Seq, .int .i64 x.Op.Kind, .int .i64 x.Op.Vol, .int .i64 x.Op.At, .int .i64 x.Op.Value] := by
    have := (blk_alloc (w.alloc (.cells #[.pointer (some ⟨b, 0, none⟩)] 101)) [.int .i64 x.Client, .int .i64 x.Seq, .int .i64 x.Op.Kind, .int .i64 x.Op.Vol, .int .i64 x.Op.At, .int .i64 x.Op.Value] 46).below hw1
    rwa [Deep.nblk_alloc] at this
  have pB : Blk w1 w.heap.size 101 [.pointer (some ⟨b, 0, none⟩)] := ((blk_alloc w [.pointer (some ⟨b, 0, none⟩)] 101).below (below_alloc (Below.refl _ _) _)).below hw1
  have bw1 : Below w.heap.size w w1 := by repeat (first | (with_reducible assumption) | (with_reducible exact Below.refl _ _) | (with_reducible apply below_alloc) | (with_reducible apply below_drewN) | (with_reducible apply Below.drew) | (with_reducible refine below_set ?_ (by dsimp only; omega) _) | (with_reducible refine below_trans ?_ (by assumption)))
  have lo1 : w.heap.size + 2 ≤ w1.heap.size := by have := hw1.size; simp only [Deep.nblk_alloc] at this; omega
  clear hw1
  have x0 := xB.cell (j := 0) rfl
  have x1 := xB.cell (j := 1) rfl
  have x2 := xB.cell (j := 2) rfl
  have x3 := xB.cell (j := 3) rfl
  have x4 := xB.cell (j := 4) rfl
  have x5 := xB.cell (j := 5) rfl
  go_wp2_with fail
  refine (entryFault_c x w1).mono ?_
  rintro r w2 ⟨rfl, hw2⟩
  have bw2 : Below w.heap.size w w2 := below_trans bw1 hw2
  have B2 := hB.below bw2
  have b5 := B2.cell (j := 5) rfl
  have pB2 := pB.below hw2
  have xB2 := xB.below hw2
  have p0 := pB2.cell (j := 0) rfl
  rw [q3] at b5
  have HM := Lib.hid (fun (W : World) => many_c n.Log A5 c5 W)
  rw [q3] at HM
  have Q3 := Lib.hid q3
  clear q3
  go_wp2_with ((go_at_call 57; (with_reducible refine (HM.out _).mono ?_); rintro e w' ⟨rfl, rfl⟩))
  have bw3 : Below w.heap.size w (w2.alloc (.cells #[.int .i64 ((40 : Nat) : Int)] 2)) := below_alloc bw2 _
  refine bodyPost_ret (v := .tuple #[.slice none 0 0, .int .i64 2]) (by simp [results, Tryz.results73, go_sem]) rfl ?_
  exact ⟨A5, c5, A7, c7, A8, c8, A9, c9, f5, f7, f8, f9, none, 0, [], rfl, hB.below bw3, ⟨OwnS.bel' hn.1 bw3, OwnS.bel' hn.2.1 bw3, OwnS.bel' hn.2.2.1 bw3, OwnS.bel' hn.2.2.2.1 bw3, hn.2.2.2.2⟩, ownS_nil _ _ _, by simpa using hn.2.2.2.2, by simpa using hb, Turn.of_below bw3, fun y hy => .inl (by simpa using hy)⟩
set_option maxRecDepth 100000 in
set_option maxHeartbeats 4000000 in
theorem add_ok (b : Nat) (n : SReplica) (x : SEntry) (i s v : Nat) (A5 : Option Addr) (c5 : Nat) (A7 : Option Addr) (c7 : Nat) (A8 : Option Addr) (c8 : Nat) (A9 : Option Addr) (c9 : Nat) (f5 f7 f8 f9 : List Nat) (B : Nat) (w : World) (hB : Blk w b 60 [.int .i64 n.Id, .int .i64 n.Size, .int .i64 n.View, .bool n.Normal, .int .i64 n.Last, .slice A5 n.Log.length c5, .int .i64 n.Commit, .slice A7 n.Oks.length c7, .slice A8 n.Asks.length c8, .slice A9 n.Doers.length c9]) (hn : HasReplica B w n A5 c5 A7 c7 A8 c8 A9 c9 f5 f7 f8 f9) (hb : b ∉ f5 ++ (f7 ++ (f8 ++ f9))) (hBw : B ≤ w.heap.size) (hN : NumsRep n i s v) (hoks : n.Oks.length = s) (hbo : ∀ k ∈ n.Oks, 0 ≤ k ∧ k ≤ n.Log.length) (q : leadsB n = true) (q2 : (entryF x != 0) = false) (q3 : n.Log.length < 40) :
    Calls Tryz.prog 73 #[.pointer (some ⟨b, 0, none⟩), .agg #[.int .i64 x.Client, .int .i64 x.Seq, .int .i64 x.Op.Kind, .int .i64 x.Op.Vol, .int .i64 x.Op.At, .int .i64 x.Op.Value]] w fun r w' => DidBox b (addR n x i) (addM (addR n x i) i s v) 0 (f5 ++ (f7 ++ (f8 ++ f9))) B w r w' := by
  have hat := blk_at _ _ _ _ _ _ _ _ hB (ownS_rds hn.1).1 (ownS_rds hn.2.1).1 (ownS_rds hn.2.2.1).1 (ownS_rds hn.2.2.2.1).1
  obtain ⟨e1, e2, e3, l1, l2, l3, l4, l5, l6, l7, l8⟩ := hN
  have HL := Lib.hid (fun (W : World) (hW : Below w.heap.size w W) => leads_c n ⟨b, 0, none⟩ W (hat.below hW) (by omega) (by omega) (by omega))
  rw [q] at HL
  have hlogs : ∀ k ∈ n.Oks, 0 ≤ k ∧ k ≤ ((n.Log ++ [x]).length : Int) := fun k hk => by have := hbo k hk; simp; omega
  have HOK := Lib.hid hoks
  have HLG := Lib.hid hlogs
  obtain ⟨h5, h7, h8, h9, nd⟩ := hn
  have i5 := h5.in
  have i7 := h7.in
  have i8 := h8.in
  have i9 := h9.in
  have lbw := hB.lt
  rw [e1, e2, e3] at hB
  have E1 := Lib.hid e1
  have E2 := Lib.hid e2
  have E3 := Lib.hid e3
  clear hat e1 e2 e3 l4 l5 l6 l8 hoks hlogs hbo
  go_enter Tryz.func73, Tryz.ntmps73
  go_wp2_with fail
  refine (HL.out _ (by repeat (first | (with_reducible assumption) | (with_reducible exact Below.refl _ _) | (with_reducible apply below_alloc) | (with_reducible apply below_drewN) | (with_reducible apply Below.drew) | (with_reducible refine below_set ?_ (by dsimp only; omega) _) | (with_reducible refine below_trans ?_ (by assumption))))).mono ?_
  rintro r w1 ⟨rfl, hw1⟩
  have xB : Blk w1 (w.heap.size + 1) 46 [.int .i64 x.Client, .int .i64 x.Seq, .int .i64 x.Op.Kind, .int .i64 x.Op.Vol, .int .i64 x.Op.At, .int .i64 x.Op.Value] := by
    have := (blk_alloc (w.alloc (.cells #[.pointer (some ⟨b, 0, none⟩)] 101)) [.int .i64 x.Client, .int .i64 x.Seq, .int .i64 x.Op.Kind, .int .i64 x.Op.Vol, .int .i64 x.Op.At, .int .i64 x.Op.Value] 46).below hw1
    rwa [Deep.nblk_alloc] at this
  have pB : Blk w1 w.heap.size 101 [.pointer (some ⟨b, 0, none⟩)] := ((blk_alloc w [.pointer (some ⟨b, 0, none⟩)] 101).below (below_alloc (Below.refl _ _) _)).below hw1
  have bw1 : Below w.heap.size w w1 := by repeat (first | (with_reducible assumption) | (with_reducible exact Below.refl _ _) | (with_reducible apply below_alloc) | (with_reducible apply below_drewN) | (with_reducible apply Below.drew) | (with_reducible refine below_set ?_ (by dsimp only; omega) _) | (with_reducible refine below_trans ?_ (by assumption)))
  have lo1 : w.heap.size + 2 ≤ w1.heap.size := by have := hw1.size; simp only [Deep.nblk_alloc] at this; omega
  clear hw1
  have x0 := xB.cell (j := 0) rfl
  have x1 := xB.cell (j := 1) rfl
  have x2 := xB.cell (j := 2) rfl
  have x3 := xB.cell (j := 3) rfl
  have x4 := xB.cell (j := 4) rfl
  have x5 := xB.cell (j := 5) rfl
  go_wp2_with fail
  refine (entryFault_c x w1).mono ?_
  rintro r w2 ⟨rfl, hw2⟩
  have bw2 : Below w.heap.size w w2 := below_trans bw1 hw2
  replace pB := pB.below hw2
  replace xB := xB.below hw2
  have b5 := (hB.below bw2).cell (j := 5) rfl
  have p0 := pB.cell (j := 0) rfl
  have s2 := hw2.size
  have hq3 : ((n.Log.length : Int) == 40) = false := beq_eq_false_iff_ne.2 (by omega)
  clear hw2 x0 x1 x2 x3 x4 x5
  go_upto_region 9 with ((go_at_call 57; (with_reducible refine (many_c _ _ _ _).mono ?_); rintro e w' ⟨rfl, rfl⟩))
  clear b5 p0 hq3
  refine at_world (fun W => Blk W w2.heap.size 2 [.int .i64 (n.Log.length : Int)] ∧ Below w2.heap.size w2 W ∧ w2.heap.size < W.heap.size) ⟨blk_alloc w2 [.int .i64 (n.Log.length : Int)] _, below_alloc (Below.refl _ _) _, by rw [Deep.nblk_alloc]; omega⟩ ?_
  rintro W3 ⟨aB, b3, s3⟩
  replace pB := pB.below b3
  replace xB := xB.below b3
  have bw3 := below_trans bw2 b3
  have sw3 := bw3.size
  have B3 := hB.below bw3
  have o5 := OwnS.bel' h5 bw3
  clear b3 bw2 bw1
  have p0 := pB.cell (j := 0) rfl
  have b5 := B3.cell (j := 5) rfl
  have z5 := B3.frozen 5
  have x0 := xB.cell (j := 0) rfl
  have x1 := xB.cell (j := 1) rfl
  have x2 := xB.cell (j := 2) rfl
  have x3 := xB.cell (j := 3) rfl
  have x4 := xB.cell (j := 4) rfl
  have x5 := xB.cell (j := 5) rfl
  simp only [List.mem_append, not_or] at hb
  obtain ⟨nb5, nb7, nb8, nb9⟩ := hb
  obtain ⟨nd5, ndr, d5r⟩ := List.nodup_append.1 nd
  have y7 : Blk (W3.alloc (.cells #[.int .i64 x.Client, .int .i64 x.Seq, .int .i64 x.Op.Kind, .int .i64 x.Op.Vol, .int .i64 x.Op.At, .int .i64 x.Op.Value] 46)).drew b 60 [.int .i64 i, .int .i64 s, .int .i64 v, .bool n.Normal, .int .i64 n.Last, .slice A5 n.Log.length c5, .int .i64 n.Commit, .slice A7 n.Oks.length c7, .slice A8 n.Asks.length c8, .slice A9 n.Doers.length c9] := B3.below (below_alloc (Below.refl _ _) _).drew
  have p7 : Blk (W3.alloc (.cells #[.int .i64 x.Client, .int .i64 x.Seq, .int .i64 x.Op.Kind, .int .i64 x.Op.Vol, .int .i64 x.Op.At, .int .i64 x.Op.Value] 46)).drew w.heap.size 101 [.pointer (some ⟨b, 0, none⟩)] := pB.below (below_alloc (Below.refl _ _) _).drew
  have np5 : w.heap.size ∉ f5 := fun h => by have := i5 _ h; omega
  have OW := Lib.hid (OwnS.keep (w' := (W3.alloc (.cells #[.int .i64 x.Client, .int .i64 x.Seq, .int .i64 x.Op.Kind, .int .i64 x.Op.Vol, .int .i64 x.Op.At, .int .i64 x.Op.Value] 46)).drew) o5 (fun y hy => Below.heap_alloc W3 (.cells #[.int .i64 x.Client, .int .i64 x.Seq, .int .i64 x.Op.Kind, .int .i64 x.Op.Vol, .int .i64 x.Op.At, .int .i64 x.Op.Value] 46) _ (o5.in y hy).2))
  have oL : kEntry.Own B (W3.alloc (.cells #[.int .i64 x.Client, .int .i64 x.Seq, .int .i64 x.Op.Kind, .int .i64 x.Op.Vol, .int .i64 x.Op.At, .int .i64 x.Op.Value] 46)).drew [] [.int .i64 x.Client, .int .i64 x.Seq, .int .i64 x.Op.Kind, .int .i64 x.Op.Vol, .int .i64 x.Op.At, .int .i64 x.Op.Value] x := kEntry_ownmk x
  have hl6 := lies_alloc W3 #[.int .i64 x.Client, .int .i64 x.Seq, .int .i64 x.Op.Kind, .int .i64 x.Op.Vol, .int .i64 x.Op.At, .int .i64 x.Op.Value] 46
  have l3 := B3.lt
  have lp3 := pB.lt
  have lx3 := xB.lt
  clear o5
  go_cut [27] (fun _ W => ∃ AA cA fp', OwnS kEntry 46 B W fp' (.slice AA (n.Log.length + 1) cA) (n.Log ++ [x]) ∧ fp'.Nodup ∧ Blk W b 60 [.int .i64 i, .int .i64 s, .int .i64 v, .bool n.Normal, .int .i64 n.Last, .slice AA (n.Log.length + 1) cA, .int .i64 n.Commit, .slice A7 n.Oks.length c7, .slice A8 n.Asks.length c8, .slice A9 n.Doers.length c9] ∧ Turn (b :: f5) W3 W ∧ b ∉ fp' ∧ ∀ y ∈ fp', y ∈ f5 ∨ W3.heap.size ≤ y)
  case first =>
    go_region_law (refine step_app (d := kEntry) (zs := [x]) (ys := n.Log) (fp := f5) (fs := []) (v := .slice A5 n.Log.length c5) (x := .slice (some ⟨W3.heap.size, 0, none⟩) 1 1) (ce := [.int .i64 x.Client, .int .i64 x.Seq, .int .i64 x.Op.Kind, .int .i64 x.Op.Vol, .int .i64 x.Op.At, .int .i64 x.Op.Value]) (B := B) rfl (.tmp 27) (.tmp 29) 32 46 rfl (by kernel_rfl) (by kernel_rfl) (by simp [Act.eval, Act.put]) (by simp [Act.eval, Act.put]) OW.out nd5 (Src.ofSlice (P := Tryz.prog) (e' := 46) _ (by kernel_rfl) ⟨W3.heap.size, 0, none⟩ 1 1 _ rfl hl6 (kEntry.rd_one (kEntry.own_rd oL))) (OwnL.single oL) List.nodup_nil (fun _ _ hm => by cases hm) (by simp; omega) (by show _ ≤ (W3.alloc _).heap.size; rw [Deep.nblk_alloc]; omega) ?_; intro v' w' fp' hgr; obtain ⟨r1, r2, r3, r4⟩ := hgr; obtain ⟨AA, cA, rfl, _⟩ := r1.form; have yA := y7.keep (w' := w') (r3.block b y7.lt nb5); have qA := yA.cell (j := 5) rfl; have fA := yA.frozen 5; have pA := p7.keep (w' := w') (r3.block _ p7.lt np5); have qP := pA.cell (j := 0) rfl)
    all_goals (go_wp2_with fail)
    all_goals (go_meet)
    all_goals
      have hfr' : ∀ y ∈ fp', y ∈ f5 ∨ W3.heap.size ≤ y := fun y hy => by
        rcases r4 y hy with h | h | h
        · exact .inl h
        · cases h
        · right; refine Nat.le_trans ?_ h; show _ ≤ (W3.alloc _).heap.size; rw [Deep.nblk_alloc]; omega
      have hbp : b ∉ fp' := fun h => by
        rcases hfr' b h with h | h
        · exact nb5 h
        · omega
      have hT : Turn (b :: f5) W3 w' := ((Turn.refl _ _).alloc _).drew.trans (r3.mono (fun y hy => by simp [hy]))
      rw [show (n.Log ++ [x]).length = n.Log.length + 1 by simp] at r1
      exact ⟨AA, cA, fp', OwnS.turn r1 ((Turn.refl [b] w').set (p := ⟨b, 5, none⟩) (by simp) _) (fun y hy hm => hbp (by simp at hm; exact hm ▸ hy)), r2, by simpa using yA.set0 5 (.slice AA (n.Log.length + 1) cA), hT.set (p := ⟨b, 5, none⟩) (by simp) _, hbp, hfr'⟩
  case rest =>
    obtain ⟨AA, cA, fp', o5, nd5', B4, t4, nbp, fr5⟩ := hcut
    clear y7 p7 OW oL hl6 B3 p0 b5 z5 x0 x1 x2 x3 x4 x5
    have s4 := t4.size
    have hsm : ∀ y, y < W3.heap.size → w.heap.size ≤ y → y ∉ b :: f5 := fun y _ hy h => by
      rcases List.mem_cons.1 h with h | h
      · omega
      · have := i5 y h; omega
    replace pB := pB.turn t4 (hsm _ pB.lt (Nat.le_refl _))
    replace aB := aB.turn t4 (hsm _ aB.lt (by omega))
    have p0 := pB.cell (j := 0) rfl
    have hk : ∀ (f : List Nat), (∀ y ∈ f, y < w.heap.size ∧ y ≠ b ∧ y ∉ f5) → ∀ y ∈ f, wc.heap[y]? = w.heap[y]? := fun f hf y hy => (t4.block y (by have := (hf y hy).1; omega) (by simp only [List.mem_cons, not_or]; exact (hf y hy).2)).trans (bw3.block y (hf y hy).1)
    have g7 := OwnS.keep (w' := wc) h7 (hk f7 (fun y hy => ⟨(i7 y hy).2, fun e => nb7 (e ▸ hy), fun h => d5r y h y (by simp [hy]) rfl⟩))
    have g8 := OwnS.keep (w' := wc) h8 (hk f8 (fun y hy => ⟨(i8 y hy).2, fun e => nb8 (e ▸ hy), fun h => d5r y h y (by simp [hy]) rfl⟩))
    have g9 := OwnS.keep (w' := wc) h9 (hk f9 (fun y hy => ⟨(i9 y hy).2, fun e => nb9 (e ▸ hy), fun h => d5r y h y (by simp [hy]) rfl⟩))
    have hag := agree_c b i s n.Commit (.int .i64 v) (.bool n.Normal) (.int .i64 n.Last) (.slice A8 n.Asks.length c8) (.slice A9 n.Doers.length c9) n.Oks (n.Log ++ [x]) AA cA A7 c7 60 wc (by simpa using B4) (ownS_rds g7).1 HOK.out l1 l2 (by simp; omega) HLG.out
    simp only [List.length_append, List.length_singleton] at hag
    have HAG := Lib.hid hag
    clear hag hk
    go_wp2_with fail
    refine HAG.out.mono ?_
    rintro r w5 ⟨rfl, B5, t5⟩
    clear HAG B4
    have s5 := t5.size
    replace pB := pB.turn t5 (by simp; omega)
    replace aB := aB.turn t5 (by simp; omega)
    replace o5 := OwnS.turn o5 t5 (fun y hy h => by simp at h; exact nbp (h ▸ hy))
    replace g7 := OwnS.turn g7 t5 (fun y hy h => by simp at h; exact nb7 (h ▸ hy))
    replace g8 := OwnS.turn g8 t5 (fun y hy h => by simp at h; exact nb8 (h ▸ hy))
    replace g9 := OwnS.turn g9 t5 (fun y hy h => by simp at h; exact nb9 (h ▸ hy))
    clear p0
    have p0 := pB.cell (j := 0) rfl
    have a0 := aB.cell (j := 0) rfl
    have k0 := B5.cell (j := 0) rfl
    have k1 := B5.cell (j := 1) rfl
    have k2 := B5.cell (j := 2) rfl
    have k5 := B5.cell (j := 5) rfl
    have k6 := B5.cell (j := 6) rfl
    have hta := toAll_c 102 #[.pointer (some ⟨w.heap.size, 0, none⟩), .pointer (some ⟨w2.heap.size, 0, none⟩)] (Go.Proofs.enters_of Tryz.func102 (by kernel_rfl) rfl) (fun k => prepM i v (max n.Commit (agreedN n.Oks i (n.Log.length + 1))) (n.Log ++ [x]) k (n.Log.length : Nat)) i s ⟨b, 0, none⟩ w5 k0 (by simpa using k1) l2
      (fun W k hW hk => add1_c W ⟨b, 0, none⟩ ⟨w.heap.size, 0, none⟩ ⟨w2.heap.size, 0, none⟩ i v _ k n.Log.length (n.Log ++ [x]) AA cA (cell_below hW p0) (cell_below hW a0) (cell_below hW k0) (by simpa using cell_below hW k2) (by simpa using cell_below hW k5) (by simpa using cell_below hW k6) ((ownS_rds (by simpa using o5)).1.below hW))
    have HTA := Lib.hid hta
    clear hta a0 k0 k1 k2 k5 k6
    go_wp2_with fail
    refine HTA.out.mono ?_
    rintro r w6 ⟨As, cs, fs, rfl, om, nm, hb6⟩
    have im := om.in
    go_wp2_with fail
    have bT : Turn (b :: (f5 ++ (f7 ++ (f8 ++ f9)))) w w6 := (((Turn.of_below bw3).trans (t4.mono (fun y hy => by simp only [List.mem_cons, List.mem_append] at hy ⊢; grind))).trans (t5.mono (fun y hy => by simp at hy; simp [hy]))).trans (Turn.of_below hb6)
    have eM : addM (addR n x i) i s v = allTo (fun k => prepM i v (max n.Commit (agreedN n.Oks i (n.Log.length + 1))) (n.Log ++ [x]) k (n.Log.length : Nat)) i s := by simp [addM, addR]
    have hrest : ∀ z ∈ f7 ++ (f8 ++ f9), z < w.heap.size := fun z hz => by
      simp only [List.mem_append] at hz
      rcases hz with h | h | h
      · exact (i7 z h).2
      · exact (i8 z h).2
      · exact (i9 z h).2
    have k5 := o5.in
    have ndn : (fp' ++ (f7 ++ (f8 ++ f9))).Nodup := List.nodup_append.2 ⟨nd5', ndr, fun y hy z hz e => by
      rcases fr5 y hy with h | h
      · exact d5r y h z hz e
      · have := hrest z hz; omega⟩
    have hall : ∀ z ∈ fp' ++ (f7 ++ (f8 ++ f9)), z < w5.heap.size ∧ z ≠ b ∧ (z ∈ f5 ++ (f7 ++ (f8 ++ f9)) ∨ w.heap.size ≤ z) := fun z hz => by
      rcases List.mem_append.1 hz with h | h
      · refine ⟨(k5 z h).2, fun e => nbp (e ▸ h), ?_⟩
        rcases fr5 z h with h | h
        · left; simp [h]
        · right; omega
      · refine ⟨by have := hrest z h; omega, fun e => ?_, .inl (List.mem_append_right _ h)⟩
        subst e
        simp only [List.mem_append] at h
        rcases h with h | h | h
        · exact nb7 h
        · exact nb8 h
        · exact nb9 h
    refine bodyPost_ret (v := .tuple #[.slice As (allTo (fun k => prepM i v (max n.Commit (agreedN n.Oks i (n.Log.length + 1))) (n.Log ++ [x]) k (n.Log.length : Nat)) i s).length cs, .int .i64 0]) (by simp [results, Tryz.results73, go_sem]) rfl ?_
    rw [eM]
    refine ⟨AA, cA, A7, c7, A8, c8, A9, c9, fp', f7, f8, f9, As, cs, fs, rfl, ?_, ⟨?_, OwnS.bel' g7 hb6, OwnS.bel' g8 hb6, OwnS.bel' g9 hb6, ndn⟩, om.lift (fun y hy => by have := (im y hy).1; omega), ?_, ?_, bT, ?_⟩
    · have hh := B5.below hb6
      simp only [addR, E1.out, E2.out, E3.out, List.length_append, List.length_singleton]
      exact hh
    · have hh := OwnS.bel' o5 hb6
      simpa [addR] using hh
    · exact List.nodup_append.2 ⟨nm, ndn, fun y hy z hz e => by have := (im y hy).1; have := (hall z hz).1; omega⟩
    · rw [List.mem_append, not_or]
      exact ⟨fun h => by have := (im b h).1; omega, fun h => (hall b h).2.1 rfl⟩
    · intro y hy
      rcases List.mem_append.1 hy with h | h
      · right; have := (im y h).1; omega
      · exact (hall y h).2.2
end Go.Proofs.YtfblopmploohkaaGreatDoor
