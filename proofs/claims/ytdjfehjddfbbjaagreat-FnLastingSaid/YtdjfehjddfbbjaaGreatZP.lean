/- The program's prepare: a mail with the entry at a place (written by gN3.py, own work). -/
import Derived.Test.YtdjfehjddfbbjaaGreatZN
set_option linter.unusedVariables false
set_option linter.unusedSimpArgs false
namespace Go.Proofs.YtdjfehjddfbbjaaGreat
open Go Go.RowKit Mk
def prepM (i v cm : Int) (logs : List SEntry) (tt at' : Int) : SMail :=
  if at' < logs.length then ⟨1, i, tt, v, at', true, logs.getD at'.toNat zEntry, 0, [], cm⟩ else ⟨1, i, tt, v, at', false, zEntry, 0, [], cm⟩
set_option maxRecDepth 100000 in
set_option maxHeartbeats 2000000 in
theorem prepare_c (i v cm tt : Int) (at' : Nat) (logs : List SEntry) (A5 : Option Addr) (c5 : Nat) (p : Addr) (w : World) (h0 : w.cell? p = some (.int .i64 i)) (h2 : w.cell? ⟨p.block, p.off + 2, none⟩ = some (.int .i64 v)) (h5 : w.cell? ⟨p.block, p.off + 5, none⟩ = some (.slice A5 logs.length c5)) (h6 : w.cell? ⟨p.block, p.off + 6, none⟩ = some (.int .i64 cm)) (r5 : RdS kEntry w A5 c5 logs) :
    Calls Tryz.prog 94 #[.pointer (some p), .int .i64 tt, .int .i64 (at' : Int)] w fun r w' => LaidMail (prepM i v cm logs tt at') w r w' := by
  have k0 := World.block_lt_of_cell? w _ h0
  have hll := r5.le63
  have ba : ∀ ob, Below w.heap.size w (w.alloc ob) := fun ob => below_alloc (Below.refl _ _) ob
  go_enter Tryz.func94, Tryz.ntmps94
  go_wp2_with fail
  refine (mail_c _ p i v 1 tt (cell_below (ba _) h0) (cell_below (ba _) h2)).mono ?_
  rintro r w1 ⟨A13, c13, fm, rfl, om, nm, hb1⟩
  have zB := (blk_alloc w [.int .i64 0, .int .i64 0, .int .i64 0, .int .i64 0, .int .i64 0, .bool false, .int .i64 0, .int .i64 0, .int .i64 0, .int .i64 0, .int .i64 0, .int .i64 0, .int .i64 0, .slice none 0 0, .int .i64 0] 51).below hb1
  have lo1 : w.heap.size + 1 ≤ w1.heap.size := by have := hb1.size; simp only [Deep.nblk_alloc] at this; omega
  have im : ∀ b ∈ fm, w.heap.size + 1 ≤ b ∧ b < w1.heap.size := fun b hb => by have := om.in b hb; simp only [Deep.nblk_alloc] at this; omega
  have bw1 : Below w.heap.size w w1 := below_trans (ba _) hb1
  replace om : OwnS kEntry 49 (w.heap.size + 1) w1 fm (.slice A13 0 c13) [] := om.lift (fun b hb => (im b hb).1)
  clear hb1 ba
  go_upto_region 2 with fail
  refine at_world (fun W => Blk W w1.heap.size 51 [.int .i64 1, .int .i64 i, .int .i64 tt, .int .i64 v, .int .i64 0, .bool false, .int .i64 0, .int .i64 0, .int .i64 0, .int .i64 0, .int .i64 0, .int .i64 0, .int .i64 0, .slice A13 0 c13, .int .i64 0] ∧ Below w1.heap.size w1 W ∧ w1.heap.size < W.heap.size) ⟨blk_alloc w1 [.int .i64 1, .int .i64 i, .int .i64 tt, .int .i64 v, .int .i64 0, .bool false, .int .i64 0, .int .i64 0, .int .i64 0, .int .i64 0, .int .i64 0, .int .i64 0, .int .i64 0, .slice A13 0 c13, .int .i64 0] _, below_alloc (Below.refl _ _) _, by rw [Deep.nblk_alloc]; omega⟩ ?_
  rintro W2 ⟨mB, b2, l2⟩
  replace zB := zB.below b2
  replace om := OwnS.bel' om b2
  have bw2 := below_trans bw1 b2
  have a6 := cell_below bw2 h6
  have H5 := Lib.hid h5
  clear b2 bw1 h0 h2 h5 h6
  have u4 := mB.cell (j := 4) rfl
  have z4 := mB.frozen 4
  have u14 := mB.cell (j := 14) rfl
  have z14 := mB.frozen 14
  go_upto_region 4 with fail
  have mB2 := (mB.set0 4 (.int .i64 (at' : Int))).set0 14 (.int .i64 cm)
  simp only [List.set_cons_zero, List.set_cons_succ] at mB2
  refine at_world (fun W => Blk W w1.heap.size 51 [.int .i64 1, .int .i64 i, .int .i64 tt, .int .i64 v, .int .i64 at', .bool false, .int .i64 0, .int .i64 0, .int .i64 0, .int .i64 0, .int .i64 0, .int .i64 0, .int .i64 0, .slice A13 0 c13, .int .i64 cm] ∧ Turn [w1.heap.size] W2 W) ⟨mB2, ((Turn.refl _ _).set (by simp) _).set (by simp) _⟩ ?_
  rintro W3 ⟨nB, t3⟩
  clear mB mB2 u4 z4 u14 z14
  replace zB := zB.turn t3 (by simp; omega)
  replace om := OwnS.turn om t3 (fun b hb hm => by simp at hm; have := im b hb; omega)
  have bw3 : Below w.heap.size w W3 := bw2.trans (t3.below (by simp; omega) (by omega))
  have a5 := cell_below bw3 H5.out
  have g5 := r5.below bw3
  have s3 := t3.size
  by_cases hlt : at' < logs.length
  · have hd1 : decide (at' < logs.length) = true := decide_eq_true hlt
    have eM : prepM i v cm logs tt at' = ⟨1, i, tt, v, at', true, logs[at'], 0, [], cm⟩ := by
      unfold prepM; rw [if_pos (by omega)]; simp [List.getElem?_eq_getElem hlt]
    have HE := Lib.hid eM
    clear eM
    have hlt' : (at' : Int) < (logs.length : Int) := by omega
    clear g5
    have u5 := nB.cell (j := 5) rfl
    have z5 := nB.frozen 5
    have RL := Lib.hid r5
    clear r5
    go_upto_region 6 with ((go_at_call 39; (with_reducible refine (many_c _ _ _ _).mono ?_); rintro e w' ⟨rfl, rfl⟩))
    have nB4 := nB.set0 5 (.bool true)
    simp only [List.set_cons_zero, List.set_cons_succ] at nB4
    refine at_world (fun W => Blk W w1.heap.size 51 [.int .i64 1, .int .i64 i, .int .i64 tt, .int .i64 v, .int .i64 at', .bool true, .int .i64 0, .int .i64 0, .int .i64 0, .int .i64 0, .int .i64 0, .int .i64 0, .int .i64 0, .slice A13 0 c13, .int .i64 cm] ∧ Turn [w1.heap.size] W3 W) ⟨nB4, (Turn.refl _ _).set (by simp) _⟩ ?_
    rintro W4 ⟨nB4, t4⟩
    clear nB u5 z5 a5 a6
    replace zB := zB.turn t4 (by simp; omega)
    replace om := OwnS.turn om t4 (fun b hb hm => by simp at hm; have := im b hb; omega)
    have bw4 : Below w.heap.size w W4 := bw3.trans (t4.below (by simp; omega) (by omega))
    have s4 := t4.size
    have a5 := cell_below bw4 H5.out
    obtain ⟨a, ea, hx⟩ := (RL.out.below bw4).at_ hlt
    generalize logs[at'] = x at hx HE
    subst ea
    simp only [show kEntry.sz = 6 from rfl] at hx
    obtain ⟨q0, q1, q2, q3, q4, q5⟩ := atEntry hx
    clear hx
    have u6 := nB4.cell (j := 6) rfl
    have z6 := nB4.frozen 6
    have u7 := nB4.cell (j := 7) rfl
    have z7 := nB4.frozen 7
    have u8 := nB4.cell (j := 8) rfl
    have z8 := nB4.frozen 8
    have u9 := nB4.cell (j := 9) rfl
    have z9 := nB4.frozen 9
    have u10 := nB4.cell (j := 10) rfl
    have z10 := nB4.frozen 10
    have u11 := nB4.cell (j := 11) rfl
    have z11 := nB4.frozen 11
    go_upto_region 7 with fail
    have nB5 := ((((((nB4.set0 6 (.int .i64 x.Client)).set0 7 (.int .i64 x.Seq)).set0 8 (.int .i64 x.Op.Kind)).set0 9 (.int .i64 x.Op.Vol)).set0 10 (.int .i64 x.Op.At)).set0 11 (.int .i64 x.Op.Value))
    simp only [List.set_cons_zero, List.set_cons_succ] at nB5
    refine at_world (fun W => Blk W w1.heap.size 51 [.int .i64 1, .int .i64 i, .int .i64 tt, .int .i64 v, .int .i64 at', .bool true, .int .i64 x.Client, .int .i64 x.Seq, .int .i64 x.Op.Kind, .int .i64 x.Op.Vol, .int .i64 x.Op.At, .int .i64 x.Op.Value, .int .i64 0, .slice A13 0 c13, .int .i64 cm] ∧ Turn [w1.heap.size] W4 W) ⟨nB5, ((((((Turn.refl _ _).set (by simp) _).set (by simp) _).set (by simp) _).set (by simp) _).set (by simp) _).set (by simp) _⟩ ?_
    rintro W5 ⟨nB, t5⟩
    clear nB4 nB5 a5 q0 q1 q2 q3 q4 q5 u6 z6 u7 z7 u8 z8 u9 z9 u10 z10 u11 z11
    replace zB := zB.turn t5 (by simp; omega)
    replace om := OwnS.turn om t5 (fun b hb hm => by simp at hm; have := im b hb; omega)
    have bw5 : Below w.heap.size w W5 := bw4.trans (t5.below (by simp; omega) (by omega))
    have u0 := nB.cell (j := 0) rfl
    have r0 := zB.cell (j := 0) rfl
    have y0 := zB.frozen 0
    have u1 := nB.cell (j := 1) rfl
    have r1 := zB.cell (j := 1) rfl
    have y1 := zB.frozen 1
    have u2 := nB.cell (j := 2) rfl
    have r2 := zB.cell (j := 2) rfl
    have y2 := zB.frozen 2
    have u3 := nB.cell (j := 3) rfl
    have r3 := zB.cell (j := 3) rfl
    have y3 := zB.frozen 3
    have u4 := nB.cell (j := 4) rfl
    have r4 := zB.cell (j := 4) rfl
    have y4 := zB.frozen 4
    have u5 := nB.cell (j := 5) rfl
    have r5 := zB.cell (j := 5) rfl
    have y5 := zB.frozen 5
    have u6 := nB.cell (j := 6) rfl
    have r6 := zB.cell (j := 6) rfl
    have y6 := zB.frozen 6
    have u7 := nB.cell (j := 7) rfl
    have r7 := zB.cell (j := 7) rfl
    have y7 := zB.frozen 7
    have u8 := nB.cell (j := 8) rfl
    have r8 := zB.cell (j := 8) rfl
    have y8 := zB.frozen 8
    have u9 := nB.cell (j := 9) rfl
    have r9 := zB.cell (j := 9) rfl
    have y9 := zB.frozen 9
    have u10 := nB.cell (j := 10) rfl
    have r10 := zB.cell (j := 10) rfl
    have y10 := zB.frozen 10
    have u11 := nB.cell (j := 11) rfl
    have r11 := zB.cell (j := 11) rfl
    have y11 := zB.frozen 11
    have u12 := nB.cell (j := 12) rfl
    have r12 := zB.cell (j := 12) rfl
    have y12 := zB.frozen 12
    have u13 := nB.cell (j := 13) rfl
    have r13 := zB.cell (j := 13) rfl
    have y13 := zB.frozen 13
    have u14 := nB.cell (j := 14) rfl
    have r14 := zB.cell (j := 14) rfl
    have y14 := zB.frozen 14
    go_wp2_with fail
    refine bodyPost_ret (v := .agg #[.int .i64 1, .int .i64 i, .int .i64 tt, .int .i64 v, .int .i64 at', .bool true, .int .i64 x.Client, .int .i64 x.Seq, .int .i64 x.Op.Kind, .int .i64 x.Op.Vol, .int .i64 x.Op.At, .int .i64 x.Op.Value, .int .i64 0, .slice A13 0 c13, .int .i64 cm]) (by simp [results, Tryz.results94, go_sem, r0, r1, r2, r3, r4, r5, r6, r7, r8, r9, r10, r11, r12, r13, r14]) rfl ?_
    rw [HE.out]
    refine ⟨A13, c13, fm, rfl, ?_, nm, ?_⟩
    · refine OwnS.past (lo := w.heap.size + 1) (w := W5) om ?_ (by omega) (by omega)
      repeat (first | (with_reducible exact Past.refl _ _) | (with_reducible refine Past.set ?_ (by omega) _))
    · repeat (first | (with_reducible assumption) | (with_reducible exact Below.refl _ _) | (with_reducible apply below_alloc) | (with_reducible apply below_drewN) | (with_reducible apply Below.drew) | (with_reducible refine below_set ?_ (by dsimp only; omega) _) | (with_reducible refine below_trans ?_ (by assumption)))
  · have hd1 : decide (at' < logs.length) = false := decide_eq_false hlt
    have eM : prepM i v cm logs tt at' = ⟨1, i, tt, v, at', false, zEntry, 0, [], cm⟩ := by
      unfold prepM; rw [if_neg (by omega)]
    have HE := Lib.hid eM
    clear eM g5 r5
    have u0 := nB.cell (j := 0) rfl
    have r0 := zB.cell (j := 0) rfl
    have y0 := zB.frozen 0
    have u1 := nB.cell (j := 1) rfl
    have r1 := zB.cell (j := 1) rfl
    have y1 := zB.frozen 1
    have u2 := nB.cell (j := 2) rfl
    have r2 := zB.cell (j := 2) rfl
    have y2 := zB.frozen 2
    have u3 := nB.cell (j := 3) rfl
    have r3 := zB.cell (j := 3) rfl
    have y3 := zB.frozen 3
    have u4 := nB.cell (j := 4) rfl
    have r4 := zB.cell (j := 4) rfl
    have y4 := zB.frozen 4
    have u5 := nB.cell (j := 5) rfl
    have r5 := zB.cell (j := 5) rfl
    have y5 := zB.frozen 5
    have u6 := nB.cell (j := 6) rfl
    have r6 := zB.cell (j := 6) rfl
    have y6 := zB.frozen 6
    have u7 := nB.cell (j := 7) rfl
    have r7 := zB.cell (j := 7) rfl
    have y7 := zB.frozen 7
    have u8 := nB.cell (j := 8) rfl
    have r8 := zB.cell (j := 8) rfl
    have y8 := zB.frozen 8
    have u9 := nB.cell (j := 9) rfl
    have r9 := zB.cell (j := 9) rfl
    have y9 := zB.frozen 9
    have u10 := nB.cell (j := 10) rfl
    have r10 := zB.cell (j := 10) rfl
    have y10 := zB.frozen 10
    have u11 := nB.cell (j := 11) rfl
    have r11 := zB.cell (j := 11) rfl
    have y11 := zB.frozen 11
    have u12 := nB.cell (j := 12) rfl
    have r12 := zB.cell (j := 12) rfl
    have y12 := zB.frozen 12
    have u13 := nB.cell (j := 13) rfl
    have r13 := zB.cell (j := 13) rfl
    have y13 := zB.frozen 13
    have u14 := nB.cell (j := 14) rfl
    have r14 := zB.cell (j := 14) rfl
    have y14 := zB.frozen 14
    go_wp2_with ((go_at_call 39; (with_reducible refine (many_c _ _ _ _).mono ?_); rintro e w' ⟨rfl, rfl⟩))
    refine bodyPost_ret (v := .agg #[.int .i64 1, .int .i64 i, .int .i64 tt, .int .i64 v, .int .i64 at', .bool false, .int .i64 0, .int .i64 0, .int .i64 0, .int .i64 0, .int .i64 0, .int .i64 0, .int .i64 0, .slice A13 0 c13, .int .i64 cm]) (by simp [results, Tryz.results94, go_sem, r0, r1, r2, r3, r4, r5, r6, r7, r8, r9, r10, r11, r12, r13, r14]) rfl ?_
    rw [HE.out]
    refine ⟨A13, c13, fm, rfl, ?_, nm, ?_⟩
    · refine OwnS.past (lo := w.heap.size + 1) (w := W3) om ?_ (by omega) (by omega)
      repeat (first | (with_reducible exact Past.refl _ _) | (with_reducible refine Past.set ?_ (by omega) _))
    · repeat (first | (with_reducible assumption) | (with_reducible exact Below.refl _ _) | (with_reducible apply below_alloc) | (with_reducible apply below_drewN) | (with_reducible apply Below.drew) | (with_reducible refine below_set ?_ (by dsimp only; omega) _) | (with_reducible refine below_trans ?_ (by assumption)))
end Go.Proofs.YtdjfehjddfbbjaaGreat

/- The program's add: a normal primary is asked (written by gN4.py, own work). -/
set_option linter.unusedVariables false
set_option linter.unusedSimpArgs false
namespace Go.Proofs.YtdjfehjddfbbjaaGreat
open Go Go.RowKit Mk
theorem blk_at {w : World} {b : Nat} {n : SReplica} (A5 : Option Addr) (c5 : Nat) (A7 : Option Addr) (c7 : Nat) (A8 : Option Addr) (c8 : Nat) (A9 : Option Addr) (c9 : Nat) (hB : Blk w b 29 [.int .i64 n.Id, .int .i64 n.Size, .int .i64 n.View, .bool n.Normal, .int .i64 n.Last, .slice A5 n.Log.length c5, .int .i64 n.Commit, .slice A7 n.Oks.length c7, .slice A8 n.Asks.length c8, .slice A9 n.Doers.length c9]) (h5 : RdS kEntry w A5 c5 n.Log) (h7 : RdS kInt w A7 c7 n.Oks) (h8 : RdS kBool w A8 c8 n.Asks) (h9 : RdS kDoer w A9 c9 n.Doers) : At kReplica w ⟨b, 0, none⟩ n := ⟨_, hB.lies, kReplica_mk w n h5 h7 h8 h9⟩
def addM (n : SReplica) (i s v : Nat) : List SMail := allTo (fun k => prepM i v n.Commit n.Log k (n.Log.length - 1 : Nat)) i s
def addR (n : SReplica) (x : SEntry) (i : Nat) : SReplica := { n with Log := n.Log ++ [x], Commit := max n.Commit (agreedN n.Oks i (n.Log.length + 1)) }
end Go.Proofs.YtdjfehjddfbbjaaGreat
