/- The law FnOpTexts, walked (written by gQOpTexts.py, own work). -/
import Derived.Test.YtfblopmploohkaaGreatDoorZY7
set_option linter.unusedVariables false
set_option linter.unusedSimpArgs false
namespace Go.Proofs.YtfblopmploohkaaGreatDoor
open Go Go.RowKit Mk
theorem eqE78 (d : Nat) (o : SOp) (W : World) : (Op.equalIn (d + 3) 46 (.agg #[.int .i64 7, .int .i64 8, .int .i64 o.Kind, .int .i64 o.Vol, .int .i64 o.At, .int .i64 o.Value]) (.agg #[.int .i64 7, .int .i64 8, .int .i64 o.Kind, .int .i64 o.Vol, .int .i64 o.At, .int .i64 o.Value])).run Tryz.prog W = .ok true W := by
  have := eqEntry_at d W ⟨7, 8, o⟩ ⟨7, 8, o⟩
  dsimp only at this
  rw [this, show eqE ⟨7, 8, o⟩ ⟨7, 8, o⟩ = true by simp [eqE, eqO]]
attribute [local go_sem high] eqE78
set_option maxRecDepth 100000 in
set_option maxHeartbeats 8000000 in
theorem law_OpTexts (code : List (Fin 256)) (A : Option Addr) (c : Nat) (w : World) (hr : RdS kU8 w A c code) (htab : Lib.TabIs Tryz.prog w "internal/strconv.uint64pow10" .u64 Lib.pow10Tab) (hsh : w.ShapedOpen Tryz.prog) :
    Calls Tryz.prog 3 #[.slice A code.length c] w fun e w' => e = .returned (.bool true) ∧ Below w.heap.size w w' := by
  have hln := hr.le63
  by_cases hbig : 1048576 < code.length
  · have hd : decide ((1048576 : Int) < (code.length : Int)) = true := decide_eq_true (by omega)
    go_enter Tryz.func3, Tryz.ntmps3
    go_wp2_with fail
    refine (lwBigL_c code.length c A w hln).mono ?_
    rintro e w1 ⟨rfl, rfl⟩
    go_wp2_with fail
    go_ret
    exact ⟨rfl, Below.refl _ _⟩
  have hd : decide ((1048576 : Int) < (code.length : Int)) = false := decide_eq_false (by omega)
  go_enter Tryz.func3, Tryz.ntmps3
  go_wp2_with fail
  refine (lwBigL_c code.length c A w hln).mono ?_
  rintro e w1 ⟨rfl, rfl⟩
  go_wp2_with fail
  refine (drawOpText_c code A c w1 hr).mono ?_
  rintro e w2 ⟨o, rfl, b2⟩
  go_upto_region 4 with fail
  refine at_world (fun W => Blk W w2.heap.size 25 [.int .i64 o.Kind, .int .i64 o.Vol, .int .i64 o.At, .int .i64 o.Value] ∧ Below w2.heap.size w2 W) ⟨blk_alloc w2 [.int .i64 o.Kind, .int .i64 o.Vol, .int .i64 o.At, .int .i64 o.Value] _, below_alloc (Below.refl _ _) _⟩ ?_
  rintro w3 ⟨oB, b3⟩
  have bw3 := below_trans b2 b3
  have o0 := oB.cell (j := 0) rfl
  have o1 := oB.cell (j := 1) rfl
  have o2 := oB.cell (j := 2) rfl
  have o3 := oB.cell (j := 3) rfl
  go_wp2_with fail
  refine (iOpText_c o w3 (tab_below htab bw3)).mono ?_
  rintro e w4 ⟨rfl, hb4⟩
  have bw4 := below_trans bw3 hb4
  replace oB := oB.below hb4
  clear o0 o1 o2 o3 b2 b3 hb4 bw3
  go_upto_region 5 with fail
  refine at_world (fun W => Blk W w4.heap.size 28 [.int .i64 (opX o).1, .string (opX o).2] ∧ Below w4.heap.size w4 W) ⟨blk_alloc w4 [.int .i64 (opX o).1, .string (opX o).2] _, below_alloc (Below.refl _ _) _⟩ ?_
  rintro w5 ⟨tB, b5⟩
  have bw5 := below_trans bw4 b5
  replace oB := oB.below b5
  clear b5 bw4
  have o0 := oB.cell (j := 0) rfl
  have o1 := oB.cell (j := 1) rfl
  have o2 := oB.cell (j := 2) rfl
  have o3 := oB.cell (j := 3) rfl
  by_cases h : opF o = 0
  · have hX : opX o = (0, textB o) := by unfold opX; rw [if_pos h]
    obtain ⟨⟨k1, k6⟩, -, -, -⟩ := opF_zero h
    obtain ⟨nm1, nm2, nm3⟩ := nameB_ok k1 k6
    obtain ⟨m1, m3⟩ := opNs_len o
    have hwl := words_line (nameB o.Kind) (opNs o) nm1 nm2
    rw [← textB_line] at hwl
    have hw2 : 2 ≤ (wordsB (textB o)).length := by rw [hwl]; simp; omega
    have hns : ∀ n ∈ opNs o, n ≤ 1000 := by
      obtain ⟨-, ⟨v1, v9⟩, -, -⟩ := opF_zero h
      intro n hn
      rcases List.mem_cons.1 hn with rfl | hn
      · omega
      · exact (fields_le h).1 n hn
    have hsz : (textB o).size ≤ 10000 := by
      have a1 := line_size (nameB o.Kind) (opNs o) hns
      have a2 := nameB_size o.Kind
      rw [← textB_line] at a1
      omega
    rw [hX] at tB
    have HN := Lib.hid (fun (W : World) => iNewCluster_c 1 W (by omega) (by omega))
    rw [show ((1 : Nat) : Int) = 1 from rfl] at HN
    have HS := Lib.hid (fun (W : World) (hW : Below w1.heap.size w1 W) (P1 : Option Addr) (p1 : Nat) (P2 : Option Addr) (p2 : Nat) (P3 : Option Addr) (p3 : Nat) a1 a2 a3 => stepScript_c o h P1 p1 P2 p2 P3 p3 W a1 a2 a3 (tab_below htab hW) (shaped_below hsh hW))
    have HW := Lib.hid (fun (W : World) (hW : Below w1.heap.size w1 W) => iWordsOf_c (textB o) W (by omega) (shaped_below hsh hW))
    have qw : decide ((1 : Int) < ((wordsB (textB o)).length : Int)) = true := decide_eq_true (by omega)
    clear hwl hns nm1 nm2 nm3 m1 m3 k1 k6 hX htab hsh hr hw2
    generalize hws : wordsB (textB o) = ws at HW qw
    clear hws
    have hask : ∀ tx : ByteArray, askP ++ tx = ⟨#[97, 115, 107, 32, 48, 32, 55, 32, 56, 32]⟩ ++ tx := fun _ => rfl
    rw [hask] at HS
    have hcat : ¬ (9223372036854775807 : Nat) < 10 + (textB o).size := by omega
    clear hask hsz
    generalize textB o = tx at HS HW tB hcat
    have t0 := tB.cell (j := 0) rfl
    have t1 := tB.cell (j := 1) rfl
    go_wp2_with fail
    refine (HN.out w5).mono ?_
    rintro e w6 ⟨P1, p1, P2, p2, P3, p3, f1, f2, f3, rfl, ⟨r1, r2, r3, -⟩, hb6⟩
    replace r1 := (ownS_rds r1).1
    replace r2 := (ownS_rds r2).1
    replace r3 := (ownS_rds r3).1
    have bw6 := below_trans bw5 hb6
    replace oB := oB.below hb6
    replace tB := tB.below hb6
    have hFc := field_cr
    clear t0 t1 o0 o1 o2 o3 HN bw5 hb6
    go_upto_region 8 with fail
    refine at_world (fun W => Blk W w6.heap.size 34 [.slice P1 oneC.Nodes.length p1, .slice P2 oneC.Mails.length p2, .slice P3 oneC.Sealed.length p3] ∧ Below w6.heap.size w6 W) ⟨blk_alloc w6 [.slice P1 oneC.Nodes.length p1, .slice P2 oneC.Mails.length p2, .slice P3 oneC.Sealed.length p3] _, below_alloc (Below.refl _ _) _⟩ ?_
    rintro w7 ⟨cB, b7⟩
    clear hFc
    have bw7 := below_trans bw6 b7
    replace oB := oB.below b7
    replace tB := tB.below b7
    replace r1 : RdS kReplica w7 P1 p1 oneC.Nodes := r1.below b7
    replace r2 : RdS kMail w7 P2 p2 oneC.Mails := r2.below b7
    replace r3 : RdS kEntry w7 P3 p3 oneC.Sealed := r3.below b7
    clear bw6 b7
    have t1 := tB.cell (j := 1) rfl
    have x0 := cB.cell (j := 0) rfl
    have x1 := cB.cell (j := 1) rfl
    have x2 := cB.cell (j := 2) rfl
    go_wp2_with fail
    refine (HS.out w7 bw7 P1 p1 P2 p2 P3 p3 r1 r2 r3).mono ?_
    rintro e w8 ⟨D0, d0, D1, d1, D2, d2, rfl, ⟨g3, oE⟩, hb8⟩
    have rE := (ownS_rds oE).1
    have bw8 := below_trans bw7 hb8
    replace oB := oB.below hb8
    replace tB := tB.below hb8
    clear t1 x0 x1 x2 cB HS r1 r2 r3 oE hb8 bw7 hcat
    go_upto_region 9 with fail
    refine at_world (fun W => Blk W w8.heap.size 39 [.int .i64 0, .slice D0 1 d0, .slice D1 0 d1, .slice D2 1 d2, .string ⟨#[111, 107]⟩] ∧ Below w8.heap.size w8 W) ⟨blk_alloc w8 [.int .i64 0, .slice D0 1 d0, .slice D1 0 d1, .slice D2 1 d2, .string ⟨#[111, 107]⟩] _, below_alloc (Below.refl _ _) _⟩ ?_
    rintro w9 ⟨sB, b9⟩
    have bw9 := below_trans bw8 b9
    replace oB := oB.below b9
    replace tB := tB.below b9
    replace rE := rE.below b9
    clear b9 bw8
    have t1 := tB.cell (j := 1) rfl
    have s0 := sB.cell (j := 0) rfl
    have s1 := sB.cell (j := 1) rfl
    have s2 := sB.cell (j := 2) rfl
    have s3 := sB.cell (j := 3) rfl
    have s4 := sB.cell (j := 4) rfl
    go_wp2_with fail
    refine (HW.out w9 bw9).mono ?_
    rintro e w10 ⟨WA, wc, wf, rfl, -, -, hb10⟩
    have bw10 := below_trans bw9 hb10
    replace oB := oB.below hb10
    replace sB := sB.below hb10
    replace rE := rE.below hb10
    have hFw := field_wr
    clear t1 s0 s1 s2 s3 s4 HW tB hb10 bw9
    obtain ⟨a, rfl, hx⟩ := rE.at_ (k := 0) (by simp)
    rw [show a.add (0 * kEntry.sz) = a from by cases a; rfl] at hx
    obtain ⟨q0, q1, q2, q3, q4, q5⟩ := atEntry hx
    dsimp only [List.getElem_cons_zero] at q0 q1 q2 q3 q4 q5
    have eOk : (⟨#[111, 107]⟩ : ByteArray).toList = [111, 107] := by rw [Lib.toList_data]
    clear rE hx
    have o0 := oB.cell (j := 0) rfl
    have o1 := oB.cell (j := 1) rfl
    have o2 := oB.cell (j := 2) rfl
    have o3 := oB.cell (j := 3) rfl
    have s0 := sB.cell (j := 0) rfl
    have s1 := sB.cell (j := 1) rfl
    have s2 := sB.cell (j := 2) rfl
    have s3 := sB.cell (j := 3) rfl
    have s4 := sB.cell (j := 4) rfl
    go_wp2_with fail
    go_quiet (fail)
    go_wp2_with fail
    go_ret
    exact ⟨rfl, by repeat (first | (with_reducible assumption) | (with_reducible exact Below.refl _ _) | (with_reducible apply below_alloc) | (with_reducible apply below_drewN) | (with_reducible apply Below.drew) | (with_reducible refine below_set ?_ (by dsimp only; omega) _) | (with_reducible refine below_trans ?_ (by assumption)))⟩
  · have hX : opX o = (opF o, ⟨#[]⟩) := by unfold opX; rw [if_neg h]
    have HS := Lib.hid (fun W => sOpText_c o W)
    rw [hX] at HS tB
    have he : ((opF o) != 0) = true := by simpa using h
    dsimp only at HS tB
    generalize opF o = cd at HS tB he
    have t0 := tB.cell (j := 0) rfl
    have hFt := field_tr
    clear h hX htab hsh hr oB tB
    go_upto_region 6 with fail
    go_region_held3 (fun U => U.cell? ⟨w2.heap.size, 0, none⟩ = some (.int .i64 o.Kind) ∧ U.cell? ⟨w2.heap.size, 1, none⟩ = some (.int .i64 o.Vol) ∧ U.cell? ⟨w2.heap.size, 2, none⟩ = some (.int .i64 o.At) ∧ U.cell? ⟨w2.heap.size, 3, none⟩ = some (.int .i64 o.Value) ∧ U.cell? ⟨w4.heap.size, 0, none⟩ = some (.int .i64 cd)) (first | (with_reducible exact ⟨o0, o1, o2, o3, t0⟩) | (refine ⟨cell_below (show Below w5.heap.size w5 _ from ?_) o0, cell_below (show Below w5.heap.size w5 _ from ?_) o1, cell_below (show Below w5.heap.size w5 _ from ?_) o2, cell_below (show Below w5.heap.size w5 _ from ?_) o3, cell_below (show Below w5.heap.size w5 _ from ?_) t0⟩ <;> ((repeat (first | (with_reducible assumption) | (with_reducible exact Below.refl _ _) | (with_reducible apply below_alloc) | (with_reducible apply below_drewN) | (with_reducible apply Below.drew) | (with_reducible refine below_set ?_ (by dsimp only; omega) _) | (with_reducible refine below_trans ?_ (by assumption)))); done)) | go_keep) (first | (go_at_call 7; refine (HS.out _).mono ?_; rintro e wc ⟨rfl, hbc⟩))
    all_goals (go_wp2_with fail)
    all_goals (go_ret)
    all_goals (exact ⟨rfl, by repeat (first | (with_reducible assumption) | (with_reducible exact Below.refl _ _) | (with_reducible apply below_alloc) | (with_reducible apply below_drewN) | (with_reducible apply Below.drew) | (with_reducible refine below_set ?_ (by dsimp only; omega) _) | (with_reducible refine below_trans ?_ (by assumption)))⟩)
end Go.Proofs.YtfblopmploohkaaGreatDoor
