/- The line that asks, done on a new cluster of one node: the program's said, step, StepScript (own work). -/
import Derived.Test.YtfblopmploohkaaGreatDoorZY
import Derived.Test.YtfblopmploohkaaGreatDoorZY3
import Derived.Test.YtfblopmploohkaaGreatDoorZN7
import Derived.Test.YtfblopmploohkaaGreatDoorZT
import Derived.Test.YtfblopmploohkaaGreatDoorZCn
import Derived.Deep.RegionHeld3
set_option linter.unusedVariables false
set_option linter.unusedSimpArgs false
namespace Go.Proofs.YtfblopmploohkaaGreatDoor
open Go Go.RowKit Mk
theorem indexByte_not (c : UInt8) : ∀ l : List UInt8, c ∉ l → Lib.indexByte l c = -1
  | [], _ => rfl
  | b :: l, h => by
    have hb : (b == c) = false := by
      rw [beq_eq_false_iff_ne]
      exact fun e => h (by simp [e])
    have ih := indexByte_not c l (fun e => h (by simp [e]))
    rw [Lib.indexByte, hb, ih]
    rfl
theorem cont10 (s : ByteArray) (w : World) (h : (10 : UInt8) ∉ s.data.toList) : Calls Tryz.prog 42 #[.string s, .string ⟨#[10]⟩] w fun e w' => e = .returned (.bool false) ∧ w' = w := by
  have H := Any.strings_Contains_one contL s 10 w
  rw [indexByte_not 10 _ h] at H
  exact H
theorem nameB_ok {k : Int} (h1 : 1 ≤ k) (h6 : k ≤ 6) : (nameB k).data.toList ≠ [] ∧ (32 : UInt8) ∉ (nameB k).data.toList ∧ (10 : UInt8) ∉ (nameB k).data.toList := by
  have : k = 1 ∨ k = 2 ∨ k = 3 ∨ k = 4 ∨ k = 5 ∨ k = 6 := by omega
  rcases this with rfl | rfl | rfl | rfl | rfl | rfl <;> decide
theorem textB_line (o : SOp) : textB o = lineB (nameB o.Kind) (opNs o) := rfl
theorem opNs_len (o : SOp) : 1 ≤ (opNs o).length ∧ (opNs o).length ≤ 3 := by
  unfold opNs fieldsO
  repeat' split
  all_goals simp
set_option maxRecDepth 100000 in
set_option maxHeartbeats 4000000 in
theorem said_ok (A0 : Option Addr) (n0 c0 : Nat) (A1 : Option Addr) (n1 c1 : Nat) (A2 : Option Addr) (n2 c2 : Nat) (w : World) :
    Calls Tryz.prog 48 #[.int .i64 0, .agg #[.slice A0 n0 c0, .slice A1 n1 c1, .slice A2 n2 c2]] w fun r w' => r = .returned (.agg #[.int .i64 0, .slice A0 n0 c0, .slice A1 n1 c1, .slice A2 n2 c2, .string ⟨#[111, 107]⟩]) ∧ Below w.heap.size w w' := by
  go_enter Tryz.func48, Tryz.ntmps48
  go_wp2_with fail
  exact bodyPost_ret (v := .agg #[.int .i64 0, .slice A0 n0 c0, .slice A1 n1 c1, .slice A2 n2 c2, .string ⟨#[111, 107]⟩]) (by simp [results, Tryz.results48, go_sem]) rfl ⟨rfl, by repeat (first | (with_reducible assumption) | (with_reducible exact Below.refl _ _) | (with_reducible apply below_alloc) | (with_reducible apply below_drewN) | (with_reducible apply Below.drew) | (with_reducible refine below_set ?_ (by dsimp only; omega) _) | (with_reducible refine below_trans ?_ (by assumption)))⟩
/-- What the line comes to. -/
def AskedOne (e : SEntry) (w : World) (r : Ending) (w' : World) : Prop := ∃ A0 c0 A1 c1 A2 c2, r = .returned (.agg #[.int .i64 0, .slice A0 1 c0, .slice A1 0 c1, .slice A2 1 c2, .string ⟨#[111, 107]⟩]) ∧ (∃ f, OwnS kEntry 46 w.heap.size w' f (.slice A2 1 c2) [e]) ∧ Below w.heap.size w w'
theorem iAskOne_c (e : SEntry) (he : entryF e = 0) (A0 : Option Addr) (c0 : Nat) (A1 : Option Addr) (c1 : Nat) (A2 : Option Addr) (c2 : Nat) (w : World) (h0 : RdS kReplica w A0 c0 oneC.Nodes) (h1 : RdS kMail w A1 c1 oneC.Mails) (h2 : RdS kEntry w A2 c2 oneC.Sealed) :
    Calls Tryz.prog 47 #[.agg #[.slice A0 oneC.Nodes.length c0, .slice A1 oneC.Mails.length c1, .slice A2 oneC.Sealed.length c2], .int .i64 0, .agg #[.int .i64 e.Client, .int .i64 e.Seq, .int .i64 e.Op.Kind, .int .i64 e.Op.Vol, .int .i64 e.Op.At, .int .i64 e.Op.Value]] w fun r w' => ∃ A0 c0 A1 c1 A2 c2, r = .returned (.agg #[.int .i64 0, .slice A0 1 c0, .slice A1 0 c1, .slice A2 1 c2]) ∧ (∃ f, OwnS kEntry 46 w.heap.size w' f (.slice A2 1 c2) [e]) ∧ Below w.heap.size w w' := by
  refine (iAskAt_c oneC 0 e A0 c0 A1 c1 A2 c2 w h0 h1 h2).mono ?_
  rw [ask_one e he]
  rintro r w' ⟨A1, c1, A2, c2, A3, c3, f1, f2, f3, rfl, ⟨-, -, o3, -⟩, hb⟩
  exact ⟨A1, c1, A2, c2, A3, c3, rfl, ⟨f3, o3⟩, hb⟩
set_option maxRecDepth 100000 in
set_option maxHeartbeats 8000000 in
theorem step_c (o : SOp) (h : opF o = 0) (A0 : Option Addr) (c0 : Nat) (A1 : Option Addr) (c1 : Nat) (A2 : Option Addr) (c2 : Nat) (w : World) (h0 : RdS kReplica w A0 c0 oneC.Nodes) (h1 : RdS kMail w A1 c1 oneC.Mails) (h2 : RdS kEntry w A2 c2 oneC.Sealed) (htab : Lib.TabIs Tryz.prog w "internal/strconv.uint64pow10" .u64 Lib.pow10Tab) (hsh : w.ShapedOpen Tryz.prog) :
    Calls Tryz.prog 22 #[.agg #[.slice A0 oneC.Nodes.length c0, .slice A1 oneC.Mails.length c1, .slice A2 oneC.Sealed.length c2], .string (askP ++ textB o)] w fun r w' => AskedOne ⟨7, 8, o⟩ w r w' := by
  obtain ⟨⟨k1, k6⟩, -, -, -⟩ := opF_zero h
  obtain ⟨nm1, nm2, nm3⟩ := nameB_ok k1 k6
  obtain ⟨m1, m3⟩ := opNs_len o
  have hfl := (fields_le h).1
  have hns : ∀ n ∈ opNs o, n ≤ 1000 := by
    obtain ⟨-, ⟨v1, v9⟩, -, -⟩ := opF_zero h
    intro n hn
    rcases List.mem_cons.1 hn with rfl | hn
    · omega
    · exact hfl n hn
  have hle : entryF ⟨7, 8, o⟩ = 0 := by unfold entryF; simp [wi, h]
  have hsz := line_size (nameB o.Kind) (opNs o) hns
  have hnz := nameB_size o.Kind
  have hw := words_ask (nameB o.Kind) (opNs o) nm1 nm2
  have h10 := line_no10 (nameB o.Kind) (opNs o) nm3
  have hR := fun (a : Addr) (c : Nat) (W : World) (hW : Lib.TabIs Tryz.prog W "internal/strconv.uint64pow10" .u64 Lib.pow10Tab) (hr : RdS kStr W (some a) c (nameB o.Kind :: (opNs o).map numS)) => readOp_c o h a c W hW hr
  have hs : (askP ++ lineB (nameB o.Kind) (opNs o)).size ≤ 1048576 := by
    rw [ByteArray.size_append, show askP.size = 10 from rfl]; omega
  have hlen : (wordsB (askP ++ lineB (nameB o.Kind) (opNs o))).length = (opNs o).length + 5 := by rw [hw]; simp
  rw [textB_line]
  generalize askP ++ lineB (nameB o.Kind) (opNs o) = line at hw h10 hs hlen
  have HP := Lib.hid (fun (W : World) (hW : Below w.heap.size w W) => pieces_c line W hs (shaped_below hsh hW))
  have HC := Lib.hid (fun (W : World) => cont10 line W h10)
  have hA := fun (W : World) (hW : Below w.heap.size w W) => iAskOne_c ⟨7, 8, o⟩ hle A0 c0 A1 c1 A2 c2 W (h0.below hW) (h1.below hW) (h2.below hW)
  dsimp only at hA
  have HA := Lib.hid hA
  clear hA hfl hns hsz hnz nm1 nm2 nm3 h10 hs hle h0 h1 h2 hsh
  go_enter Tryz.func22, Tryz.ntmps22
  go_upto_region 1 with fail
  refine at_world (fun W => Blk W w.heap.size 34 [.slice A0 oneC.Nodes.length c0, .slice A1 oneC.Mails.length c1, .slice A2 oneC.Sealed.length c2] ∧ Blk W (w.heap.size + 1) 39 [.int .i64 0, .slice none 0 0, .slice none 0 0, .slice none 0 0, .string ⟨#[]⟩] ∧ Below w.heap.size w W) ⟨(blk_alloc w [.slice A0 oneC.Nodes.length c0, .slice A1 oneC.Mails.length c1, .slice A2 oneC.Sealed.length c2] _).below (below_alloc (Below.refl _ _) _), blk_alloc1 w _ [.int .i64 0, .slice none 0 0, .slice none 0 0, .slice none 0 0, .string ⟨#[]⟩] _, by repeat (first | (with_reducible assumption) | (with_reducible exact Below.refl _ _) | (with_reducible apply below_alloc) | (with_reducible apply below_drewN) | (with_reducible apply Below.drew) | (with_reducible refine below_set ?_ (by dsimp only; omega) _) | (with_reducible refine below_trans ?_ (by assumption)))⟩ ?_
  rintro w1 ⟨xB, zB, b1⟩
  go_wp2_with fail
  refine (HP.out w1 b1).mono ?_
  rintro r w2 ⟨WA, wc, f, rfl, oW, nW, hb2⟩
  have hrW := ownS_rdsT oW
  rw [hlen]
  obtain ⟨a, rfl, hx⟩ := hrW.at_ (k := 0) (by rw [hlen]; omega)
  have hcap : (opNs o).length + 5 ≤ wc := by rw [← hlen]; exact hrW.1
  have hcap2 : wc ≤ 9223372036854775807 := by have := hrW.2.1; unfold maxLen at this; omega
  have e0 : w2.cell? a = some (.string askW) := by
    have := atStr hx
    rw [show a.add (0 * kStr.sz) = a from by cases a; rfl] at this
    simpa [hw] using this
  have r3 : RdS kStr w2 (some (a.add 1)) (wc - 1) (([0, 7, 8] : List Nat).map numS) := by
    have := (hrW.drop 1 (by rw [hlen]; omega)).take 3
    rw [show 1 * kStr.sz = 1 from rfl, hw] at this
    exact this
  have r4 : RdS kStr w2 (some (a.add 4)) (wc - 4) (nameB o.Kind :: (opNs o).map numS) := by
    have := hrW.drop 4 (by rw [hlen]; omega)
    rw [show 4 * kStr.sz = 4 from rfl, hw] at this
    exact this
  have b12 := below_trans b1 hb2
  have HN := Lib.hid (fun (W : World) (hW : Below w2.heap.size w2 W) => numbersOf_c [0, 7, 8] (by simp) (some (a.add 1)) (wc - 1) W (r3.below hW) (by simp))
  have HR := Lib.hid (fun (W : World) (hW : Below w2.heap.size w2 W) => hR (a.add 4) (wc - 4) W (tab_below htab (below_trans b12 hW)) (r4.below hW))
  have htw := tab_below htab b12
  obtain ⟨n, hn⟩ : ∃ n, n = (opNs o).length + 5 := ⟨_, rfl⟩
  rw [show (opNs o).length + 1 = n - 4 by omega] at HR
  rw [← hn] at hcap ⊢
  have n5 : 6 ≤ n ∧ n ≤ 8 := by omega
  have q0 : ((n : Int) == 0) = false := beq_eq_false_iff_ne.2 (by omega)
  have q1 : ((n : Int) == 1) = false := beq_eq_false_iff_ne.2 (by omega)
  have q4 : decide ((4 : Int) < (n : Int)) = true := decide_eq_true (by omega)
  have qz : (0 : Int) < (n : Int) := by omega
  have u4 : 4 ≤ n := by omega
  have u5 : (4 : Int) ≤ (n : Int) := by omega
  have u6 : 4 ≤ wc := by omega
  have u7 : (4 : Int) ≤ (wc : Int) := by omega
  have u8 : n ≤ wc := by omega
  have u9 : (n : Int) ≤ (wc : Int) := by omega
  have eAsk : askW.toList = [97, 115, 107] := by rw [Lib.toList_data]; rfl
  replace xB := xB.below hb2
  replace zB := zB.below hb2
  clear hrW hw hlen hn hx oW nW r3 r4 htab b1 hb2 m1 m3 hR
  go_upto_region 3 with fail
  refine at_world (fun W => Below w2.heap.size w2 W) (below_alloc (Below.refl _ _) _) ?_
  intro w3 b3
  replace xB := xB.below b3
  replace zB := zB.below b3
  replace e0 := cell_below b3 e0
  have b13 := below_trans b12 b3
  have x0 := xB.cell (j := 0) rfl
  have x1 := xB.cell (j := 1) rfl
  have x2 := xB.cell (j := 2) rfl
  go_wp2_with fail
  refine (HC.out _).mono ?_
  rintro e w4 ⟨rfl, rfl⟩
  go_wp2_with fail
  refine (HN.out _ b3).mono ?_
  rintro e w5 ⟨G, y, fp, rfl, ow, nd, hb5⟩
  obtain ⟨a2, rfl, hcl⟩ := cell_num ow (by simp)
  have b5 := below_trans b3 hb5
  go_wp2_with fail
  refine (HR.out _ b5).mono ?_
  rintro e w6 ⟨rfl, hb6⟩
  go_upto_region 13 with fail
  refine at_world (fun W => Blk W w6.heap.size 25 [.int .i64 o.Kind, .int .i64 o.Vol, .int .i64 o.At, .int .i64 o.Value] ∧ Below w6.heap.size w6 W) ⟨blk_alloc w6 [.int .i64 o.Kind, .int .i64 o.Vol, .int .i64 o.At, .int .i64 o.Value] _, below_alloc (Below.refl _ _) _⟩ ?_
  rintro W7 ⟨oB, b7⟩
  have b67 := below_trans hb6 b7
  have p0 : W7.cell? a2 = some (.int .i64 0) := cell_below b67 (by have := hcl 0 (by simp); rw [show a2.add 0 = a2 from by cases a2; rfl] at this; exact this)
  have p1 : W7.cell? ⟨a2.block, a2.off + 1, none⟩ = some (.int .i64 7) := cell_below b67 (by have := hcl 1 (by simp); exact this)
  have p2 : W7.cell? ⟨a2.block, a2.off + 2, none⟩ = some (.int .i64 8) := cell_below b67 (by have := hcl 2 (by simp); exact this)
  have b37 := below_trans hb5 b67
  have bw7 := below_trans b13 b37
  clear x0 x1 x2
  replace xB := xB.below b37
  replace zB := zB.below b37
  have x0 := xB.cell (j := 0) rfl
  have x1 := xB.cell (j := 1) rfl
  have x2 := xB.cell (j := 2) rfl
  have o0 := oB.cell (j := 0) rfl
  have o1 := oB.cell (j := 1) rfl
  have o2 := oB.cell (j := 2) rfl
  have o3 := oB.cell (j := 3) rfl
  have hz7 := zB.lt
  clear HP HC HN HR hcl ow nd e0 htw b3 b5 b12 b13 hb5 hb6 b7 b67 b37 xB oB
  have hv : Blk (W7.alloc (.cells #[.int .i64 0, .slice none 0 0, .slice none 0 0, .slice none 0 0] 36)).drew W7.heap.size 36 [.int .i64 0, .slice none 0 0, .slice none 0 0, .slice none 0 0] := Blk.keep (blk_alloc W7 [.int .i64 0, .slice none 0 0, .slice none 0 0, .slice none 0 0] _) rfl
  go_region_held3 (fun U => U.cell? ⟨w.heap.size, 0, none⟩ = some (.slice A0 oneC.Nodes.length c0) ∧ U.cell? ⟨w.heap.size, 1, none⟩ = some (.slice A1 oneC.Mails.length c1) ∧ U.cell? ⟨w.heap.size, 2, none⟩ = some (.slice A2 oneC.Sealed.length c2) ∧ U.cell? a2 = some (.int .i64 0) ∧ U.cell? ⟨a2.block, a2.off + 1, none⟩ = some (.int .i64 7) ∧ U.cell? ⟨a2.block, a2.off + 2, none⟩ = some (.int .i64 8) ∧ U.cell? ⟨w6.heap.size, 0, none⟩ = some (.int .i64 o.Kind) ∧ U.cell? ⟨w6.heap.size, 1, none⟩ = some (.int .i64 o.Vol) ∧ U.cell? ⟨w6.heap.size, 2, none⟩ = some (.int .i64 o.At) ∧ U.cell? ⟨w6.heap.size, 3, none⟩ = some (.int .i64 o.Value)) (first | (with_reducible exact ⟨x0, x1, x2, p0, p1, p2, o0, o1, o2, o3⟩) | (refine ⟨cell_below (show Below W7.heap.size W7 _ from ?_) x0, cell_below (show Below W7.heap.size W7 _ from ?_) x1, cell_below (show Below W7.heap.size W7 _ from ?_) x2, cell_below (show Below W7.heap.size W7 _ from ?_) p0, cell_below (show Below W7.heap.size W7 _ from ?_) p1, cell_below (show Below W7.heap.size W7 _ from ?_) p2, cell_below (show Below W7.heap.size W7 _ from ?_) o0, cell_below (show Below W7.heap.size W7 _ from ?_) o1, cell_below (show Below W7.heap.size W7 _ from ?_) o2, cell_below (show Below W7.heap.size W7 _ from ?_) o3⟩ <;> ((repeat (first | (with_reducible assumption) | (with_reducible exact Below.refl _ _) | (with_reducible apply below_alloc) | (with_reducible apply below_drewN) | (with_reducible apply Below.drew) | (with_reducible refine below_set ?_ (by dsimp only; omega) _) | (with_reducible refine below_trans ?_ (by assumption)))); done)) | go_keep) (first | (go_at_call 47; refine (HA.out _ ?_).mono ?_; (focus ((repeat (first | (with_reducible assumption) | (with_reducible exact Below.refl _ _) | (with_reducible apply below_alloc) | (with_reducible apply below_drewN) | (with_reducible apply Below.drew) | (with_reducible refine below_set ?_ (by dsimp only; omega) _) | (with_reducible refine below_trans ?_ (by assumption)))); done)); rintro e wa ⟨D0, d0, D1, d1, D2, d2, rfl, ⟨f3, oE⟩, hba⟩; have hbs : W7.heap.size ≤ wa.heap.size := (by have := hba.size; (first | exact this | (simp only [Deep.nblk_alloc] at this; omega) | (have h2 : ∀ ob, ((W7.alloc ob).drew).heap.size = W7.heap.size + 1 := fun ob => Deep.nblk_alloc _ _; rw [h2] at this; omega))); (first | (have tB := Blk.below hv (by with_reducible exact hba); have t0 := tB.cell (j := 0) rfl; have t1 := tB.cell (j := 1) rfl; have t2 := tB.cell (j := 2) rfl; have t3 := tB.cell (j := 3) rfl; have g0 := tB.frozen 0; have g1 := tB.frozen 1; have g2 := tB.frozen 2; have g3 := tB.frozen 3; have tl := tB.lt) | skip)))
  · go_upto_region 14 with fail
    have oG : OwnS kEntry 46 W7.heap.size wa f3 (.slice D2 1 d2) [⟨7, 8, o⟩] := oE
    have b7a : Below W7.heap.size W7 wa := by repeat (first | (with_reducible assumption) | (with_reducible exact Below.refl _ _) | (with_reducible apply below_alloc) | (with_reducible apply below_drewN) | (with_reducible apply Below.drew) | (with_reducible refine below_set ?_ (by dsimp only; omega) _) | (with_reducible refine below_trans ?_ (by assumption)))
    refine at_world (fun W => Blk W wa.heap.size 36 [.int .i64 0, .slice D0 1 d0, .slice D1 0 d1, .slice D2 1 d2] ∧ Blk W (w.heap.size + 1) 39 [.int .i64 0, .slice none 0 0, .slice none 0 0, .slice none 0 0, .string ⟨#[]⟩] ∧ OwnS kEntry 46 W7.heap.size W f3 (.slice D2 1 d2) [⟨7, 8, o⟩] ∧ Below w.heap.size w W) ⟨blk_alloc wa [.int .i64 0, .slice D0 1 d0, .slice D1 0 d1, .slice D2 1 d2] _, (zB.below b7a).below (below_alloc (Below.refl _ _) _), Go.Proofs.YtfblopmploohkaaGreatDoor.OwnS.belT oG (below_alloc (Below.refl _ _) _), by repeat (first | (with_reducible assumption) | (with_reducible exact Below.refl _ _) | (with_reducible apply below_alloc) | (with_reducible apply below_drewN) | (with_reducible apply Below.drew) | (with_reducible refine below_set ?_ (by dsimp only; omega) _) | (with_reducible refine below_trans ?_ (by assumption)))⟩ ?_
    clear zB oE oG hba hbs HA
    rintro W8 ⟨tB, zB, oE, bw8⟩
    have t0 := tB.cell (j := 0) rfl
    have t1 := tB.cell (j := 1) rfl
    have t2 := tB.cell (j := 2) rfl
    have t3 := tB.cell (j := 3) rfl
    go_wp2_with fail
    refine (said_ok D0 1 d0 D1 0 d1 D2 1 d2 W8).mono ?_
    rintro e ws ⟨rfl, hbs2⟩
    replace zB := zB.below hbs2
    have oF := Go.Proofs.YtfblopmploohkaaGreatDoor.OwnS.belT oE hbs2
    have bws := below_trans bw8 hbs2
    have lz := zB.lt
    have r0 := zB.cell (j := 0) rfl
    have y0 := zB.frozen 0
    have r1 := zB.cell (j := 1) rfl
    have y1 := zB.frozen 1
    have r2 := zB.cell (j := 2) rfl
    have y2 := zB.frozen 2
    have r3 := zB.cell (j := 3) rfl
    have y3 := zB.frozen 3
    have r4 := zB.cell (j := 4) rfl
    have y4 := zB.frozen 4
    clear tB t0 t1 t2 t3 oE bw8 hbs2
    go_wp2_with fail
    exact bodyPost_ret (v := .agg #[.int .i64 0, .slice D0 1 d0, .slice D1 0 d1, .slice D2 1 d2, .string ⟨#[111, 107]⟩]) (by simp [results, Tryz.results22, go_sem, r0, r1, r2, r3, r4]) rfl ⟨D0, d0, D1, d1, D2, d2, rfl, ⟨f3, (oF.turn (fq := [w.heap.size + 1]) (by repeat (first | (with_reducible exact Turn.refl _ _) | (with_reducible refine Turn.set ?_ (by simp) _))) (fun y hy hm => by have := (oF.in y hy).1; simp at hm; omega)).lift (fun y hy => by have := (oF.in y hy).1; omega)⟩, by repeat (first | (with_reducible assumption) | (with_reducible exact Below.refl _ _) | (with_reducible apply below_alloc) | (with_reducible apply below_drewN) | (with_reducible apply Below.drew) | (with_reducible refine below_set ?_ (by dsimp only; omega) _) | (with_reducible refine below_trans ?_ (by assumption)))⟩
  · go_upto_region 14 with fail
    have hz8 : ((W7.alloc (.cells #[.int .i64 0, .slice none 0 0, .slice none 0 0, .slice none 0 0] 36)).drew).heap.size = W7.heap.size + 1 := Deep.nblk_alloc _ _
    have oG := oE
    rw [hz8] at oG
    have b7a : Below W7.heap.size W7 wa := by repeat (first | (with_reducible assumption) | (with_reducible exact Below.refl _ _) | (with_reducible apply below_alloc) | (with_reducible apply below_drewN) | (with_reducible apply Below.drew) | (with_reducible refine below_set ?_ (by dsimp only; omega) _) | (with_reducible refine below_trans ?_ (by assumption)))
    refine at_world (fun W => Blk W W7.heap.size 36 [.int .i64 0, .slice D0 1 d0, .slice D1 0 d1, .slice D2 1 d2] ∧ Blk W (w.heap.size + 1) 39 [.int .i64 0, .slice none 0 0, .slice none 0 0, .slice none 0 0, .string ⟨#[]⟩] ∧ OwnS kEntry 46 W7.heap.size W f3 (.slice D2 1 d2) [⟨7, 8, o⟩] ∧ Below w.heap.size w W) ⟨(((tB.set0 0 _).set0 1 _).set0 2 _).set0 3 _, ((((zB.below b7a).set_ne (a := ⟨W7.heap.size, 0, none⟩) (by show W7.heap.size ≠ _; omega) _).set_ne (a := ⟨W7.heap.size, 1, none⟩) (by show W7.heap.size ≠ _; omega) _).set_ne (a := ⟨W7.heap.size, 2, none⟩) (by show W7.heap.size ≠ _; omega) _).set_ne (a := ⟨W7.heap.size, 3, none⟩) (by show W7.heap.size ≠ _; omega) _, (oG.turn (fq := [W7.heap.size]) (by repeat (first | (with_reducible exact Turn.refl _ _) | (with_reducible refine Turn.set ?_ (by simp) _))) (fun y hy hm => by have := (oG.in y hy).1; simp at hm; omega)).lift (fun y hy => by have := (oG.in y hy).1; omega), by repeat (first | (with_reducible assumption) | (with_reducible exact Below.refl _ _) | (with_reducible apply below_alloc) | (with_reducible apply below_drewN) | (with_reducible apply Below.drew) | (with_reducible refine below_set ?_ (by dsimp only; omega) _) | (with_reducible refine below_trans ?_ (by assumption)))⟩ ?_
    clear zB oE oG tB t0 t1 t2 t3 g0 g1 g2 g3 tl hba hbs HA hv hz8
    rintro W8 ⟨tB, zB, oE, bw8⟩
    have t0 := tB.cell (j := 0) rfl
    have t1 := tB.cell (j := 1) rfl
    have t2 := tB.cell (j := 2) rfl
    have t3 := tB.cell (j := 3) rfl
    go_wp2_with fail
    refine (said_ok D0 1 d0 D1 0 d1 D2 1 d2 W8).mono ?_
    rintro e ws ⟨rfl, hbs2⟩
    replace zB := zB.below hbs2
    have oF := Go.Proofs.YtfblopmploohkaaGreatDoor.OwnS.belT oE hbs2
    have bws := below_trans bw8 hbs2
    have lz := zB.lt
    have r0 := zB.cell (j := 0) rfl
    have y0 := zB.frozen 0
    have r1 := zB.cell (j := 1) rfl
    have y1 := zB.frozen 1
    have r2 := zB.cell (j := 2) rfl
    have y2 := zB.frozen 2
    have r3 := zB.cell (j := 3) rfl
    have y3 := zB.frozen 3
    have r4 := zB.cell (j := 4) rfl
    have y4 := zB.frozen 4
    clear tB t0 t1 t2 t3 oE bw8 hbs2
    go_wp2_with fail
    exact bodyPost_ret (v := .agg #[.int .i64 0, .slice D0 1 d0, .slice D1 0 d1, .slice D2 1 d2, .string ⟨#[111, 107]⟩]) (by simp [results, Tryz.results22, go_sem, r0, r1, r2, r3, r4]) rfl ⟨D0, d0, D1, d1, D2, d2, rfl, ⟨f3, (oF.turn (fq := [w.heap.size + 1]) (by repeat (first | (with_reducible exact Turn.refl _ _) | (with_reducible refine Turn.set ?_ (by simp) _))) (fun y hy hm => by have := (oF.in y hy).1; simp at hm; omega)).lift (fun y hy => by have := (oF.in y hy).1; omega)⟩, by repeat (first | (with_reducible assumption) | (with_reducible exact Below.refl _ _) | (with_reducible apply below_alloc) | (with_reducible apply below_drewN) | (with_reducible apply Below.drew) | (with_reducible refine below_set ?_ (by dsimp only; omega) _) | (with_reducible refine below_trans ?_ (by assumption)))⟩
end Go.Proofs.YtfblopmploohkaaGreatDoor
