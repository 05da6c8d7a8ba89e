/- The law FnOpTexts, walked (own work). -/
import Derived.Test.YtfblopmploohkaaGreatDoorZY6
import Derived.Test.YtfblopmploohkaaGreatDoorZY4
import Derived.Test.YtfblopmploohkaaGreatDoorZU
import Derived.Test.YtfblopmploohkaaGreatDoorZF
set_option linter.unusedVariables false
set_option linter.unusedSimpArgs false
namespace Go.Proofs.YtfblopmploohkaaGreatDoor
open Go Go.RowKit Mk
set_option maxRecDepth 100000 in
set_option maxHeartbeats 4000000 in
theorem stepScript_c (o : SOp) (h : opF o = 0) (A0 : Option Addr) (c0 : Nat) (A1 : Option Addr) (c1 : Nat) (A2 : Option Addr) (c2 : Nat) (w : World) (h0 : RdS kReplica w A0 c0 oneC.Nodes) (h1 : RdS kMail w A1 c1 oneC.Mails) (h2 : RdS kEntry w A2 c2 oneC.Sealed) (htab : Lib.TabIs Tryz.prog w "internal/strconv.uint64pow10" .u64 Lib.pow10Tab) (hsh : w.ShapedOpen Tryz.prog) :
    Calls Tryz.prog 9 #[.agg #[.slice A0 oneC.Nodes.length c0, .slice A1 oneC.Mails.length c1, .slice A2 oneC.Sealed.length c2], .string (askP ++ textB o)] w fun r w' => AskedOne ⟨7, 8, o⟩ w r w' := by
  have HF := Lib.hid (fun (W : World) (hW : Below w.heap.size w W) => clusterFault_c oneC A0 c0 A1 c1 A2 c2 W (h0.below hW) (h1.below hW) (h2.below hW))
  rw [oneC_fine] at HF
  have HS := Lib.hid (fun (W : World) (hW : Below w.heap.size w W) => step_c o h A0 c0 A1 c1 A2 c2 W (h0.below hW) (h1.below hW) (h2.below hW) (tab_below htab hW) (shaped_below hsh hW))
  generalize askP ++ textB o = line at HS
  clear h0 h1 h2 htab hsh
  go_enter Tryz.func9, Tryz.ntmps9
  go_upto_region 1 with fail
  refine at_world (fun W => Blk W w.heap.size 34 [.slice A0 oneC.Nodes.length c0, .slice A1 oneC.Mails.length c1, .slice A2 oneC.Sealed.length c2] ∧ Blk W (w.heap.size + 1) 39 [.int .i64 0, .slice none 0 0, .slice none 0 0, .slice none 0 0, .string ⟨#[]⟩] ∧ Below w.heap.size w W) ⟨(blk_alloc w [.slice A0 oneC.Nodes.length c0, .slice A1 oneC.Mails.length c1, .slice A2 oneC.Sealed.length c2] _).below (below_alloc (Below.refl _ _) _), blk_alloc1 w _ [.int .i64 0, .slice none 0 0, .slice none 0 0, .slice none 0 0, .string ⟨#[]⟩] _, by repeat (first | (with_reducible assumption) | (with_reducible exact Below.refl _ _) | (with_reducible apply below_alloc) | (with_reducible apply below_drewN) | (with_reducible apply Below.drew) | (with_reducible refine below_set ?_ (by dsimp only; omega) _) | (with_reducible refine below_trans ?_ (by assumption)))⟩ ?_
  rintro w1 ⟨xB, zB, b1⟩
  have x0 := xB.cell (j := 0) rfl
  have x1 := xB.cell (j := 1) rfl
  have x2 := xB.cell (j := 2) rfl
  go_wp2_with fail
  refine (HF.out w1 b1).mono ?_
  rintro e w2 ⟨rfl, hb2⟩
  have b12 := below_trans b1 hb2
  clear x0 x1 x2
  replace xB := xB.below hb2
  replace zB := zB.below hb2
  have x0 := xB.cell (j := 0) rfl
  have x1 := xB.cell (j := 1) rfl
  have x2 := xB.cell (j := 2) rfl
  have hz2 := zB.lt
  go_wp2_with fail
  refine (HS.out w2 b12).mono ?_
  rintro e w3 ⟨D0, d0, D1, d1, D2, d2, rfl, ⟨f3, oE⟩, hb3⟩
  have b13 := below_trans b12 hb3
  clear x0 x1 x2 xB
  replace zB := zB.below hb3
  have lz := zB.lt
  have r0 := zB.cell (j := 0) rfl
  have y0 := zB.frozen 0
  have r1 := zB.cell (j := 1) rfl
  have y1 := zB.frozen 1
  have r2 := zB.cell (j := 2) rfl
  have y2 := zB.frozen 2
  have r3 := zB.cell (j := 3) rfl
  have y3 := zB.frozen 3
  have r4 := zB.cell (j := 4) rfl
  have y4 := zB.frozen 4
  clear HF HS
  go_wp2_with fail
  exact bodyPost_ret (v := .agg #[.int .i64 0, .slice D0 1 d0, .slice D1 0 d1, .slice D2 1 d2, .string ⟨#[111, 107]⟩]) (by simp [results, Tryz.results9, go_sem, r0, r1, r2, r3, r4]) rfl ⟨D0, d0, D1, d1, D2, d2, rfl, ⟨f3, (oE.turn (fq := [w.heap.size + 1]) (by repeat (first | (with_reducible exact Turn.refl _ _) | (with_reducible refine Turn.set ?_ (by simp) _))) (fun y hy hm => by have := (oE.in y hy).1; simp at hm; omega)).lift (fun y hy => by have := (oE.in y hy).1; omega)⟩, by repeat (first | (with_reducible assumption) | (with_reducible exact Below.refl _ _) | (with_reducible apply below_alloc) | (with_reducible apply below_drewN) | (with_reducible apply Below.drew) | (with_reducible refine below_set ?_ (by dsimp only; omega) _) | (with_reducible refine below_trans ?_ (by assumption)))⟩
theorem lwBigL_c (n c : Nat) (A : Option Addr) (w : World) (hn : n ≤ 9223372036854775807) : Calls Tryz.prog 4 #[.slice A n c] w fun r w' => r = .returned (.bool (decide (1048576 < (n : Int)))) ∧ w' = w := by
  go_enter Tryz.func4, Tryz.ntmps4
  go_wp2_with fail
  go_ret
  exact ⟨rfl, rfl⟩
theorem opensCode : Opens Tryz.prog (slice 5 kU8) 22 := opens_slice (e := 5) _ (by kernel_rfl) (by kernel_rfl) (opens_u8 (by kernel_rfl))
theorem field_tr (v0 v1 : Value) (W : World) : (Instr.field 28 (.agg #[v0, v1]) 0).run Tryz.prog W = .ok v0 W := by kernel_rfl
theorem field_cr (v0 v1 v2 v3 : Value) (W : World) : (Instr.field 36 (.agg #[v0, v1, v2, v3]) 1).run Tryz.prog W = .ok (.agg #[v1, v2, v3]) W := by kernel_rfl
theorem field_wr (v0 v1 : Value) (W : World) : (Instr.field 43 (.agg #[v0, v1]) 1).run Tryz.prog W = .ok v1 W := by kernel_rfl
end Go.Proofs.YtfblopmploohkaaGreatDoor
